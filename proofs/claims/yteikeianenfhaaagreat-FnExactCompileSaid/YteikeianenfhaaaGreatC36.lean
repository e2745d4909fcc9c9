/- Contracts, plain definitions and lemmas. Conditions: none; lemmas. -/
import Derived.Test.YteikeianenfhaaaGreatC34
import Derived.Test.YteikeianenfhaaaGreatVM8
set_option maxRecDepth 20000
set_option linter.unusedSimpArgs false
set_option linter.unusedVariables false
set_option maxHeartbeats 2000000
namespace Go.Proofs
set_option linter.defProp false
open Go Go.VL Tryz
variable {n:Int}
structure ud where
 gates:List (Int×Int)
 m:List Int
def mD (c:ac) (u:List Bool) (share:Bool) (i:Nat) (s:ud):ud:=
 if u.getD i false then
  if share then⟨(dO ⟨c.inputs,c.next,s.gates,[]⟩ (lmap s.m (c.gates.getD i (0,0)).1) (lmap s.m (c.gates.getD i (0,0)).2)).1.gates,s.m ++ [(dO ⟨c.inputs,c.next,s.gates,[]⟩ (lmap s.m (c.gates.getD i (0,0)).1) (lmap s.m (c.gates.getD i (0,0)).2)).2]⟩
  else⟨s.gates ++ [(lmap s.m (c.gates.getD i (0,0)).1,lmap s.m (c.gates.getD i (0,0)).2)],s.m ++ [2*((aj c:Int)+(s.gates.length:Int))]⟩
 else⟨s.gates,s.m ++ [0]⟩
def ak (c:ac) (u:List Bool) (share:Bool):Nat->ud
 | 0=>⟨[],(List.range (aj c)).map fun(v:Nat)=>2*(v:Int)⟩
 | i+1=>mD c u share i (ak c u share i)
def uj (c:ac) (share:Bool):ud:=ak c (aV c c.gates.length) share c.gates.length
def built (c:ac) (share:Bool):ac:=⟨c.inputs,c.next.map (lmap (uj c share).m),(uj c share).gates,c.outs.map (lmap (uj c share).m)⟩
structure zS (c:ac) (i:Nat) (s:ud):Prop where
 ml:s.m.length=aj c+i
 mb : ∀ x∈s.m,0<=x/\x<2*((aj c:Int)+(s.gates.length:Int))
 gl:s.gates.length<=i
def lI {m:List Int}(hm : ∀ x∈m,0<=x/\x<2*n) {l:Int}(h:0<=l/\l<2*m.length):0<=lmap m l/\lmap m l<2*n:=by
 have hx:=hm _ (aP (l:=m) (i:=(l/2).toNat) (z:=0) (by omega));unfold lmap;split
 ·exact sw hx
 ·exact hx
def n6 {c:ac}(hv:c.Valid) (u:List Bool) (share:Bool) : ∀ i,i<=c.gates.length->zS c i (ak c u share i)
 | 0,_=>⟨by simp[ak],fun x hx=>by
   simp only[ak,List.mem_map,List.mem_range] at hx;obtain⟨v,hv,rfl⟩:=hx;simp[ak];omega,by simp[ak]⟩
 | i+1,hi=>by
  obtain⟨h1,h2,h3⟩:=n6 hv u share i (by omega);have hg:=hv.g i (by omega);have hf:c.first=(aj c:Int):=by have:=hv.i0;unfold ac.first aj;omega
  have hfp:1<=aj c:=by unfold aj;omega
  unfold bj at hg;have hA:=lI (l:=(c.gates.getD i (0,0)).1) h2 (by omega);have hB:=lI (l:=(c.gates.getD i (0,0)).2) h2 (by omega);rw[ak];generalize ak c u share i=s at *
  unfold mD;split
  ·split
   ·have hk:Mk ⟨c.inputs,c.next,s.gates,[]⟩:=⟨by have:=hv.i0;have:=hv.i1;simp only;omega,by have:=hv.ln;simp only;omega⟩;have hr:=tp hk (x:=lmap s.m (c.gates.getD i (0,0)).1) (y:=lmap s.m (c.gates.getD i (0,0)).2) ⟨hA.1,by show _<2*((aj c+s.gates.length:Nat):Int);omega⟩ ⟨hB.1,by show _<2*((aj c+s.gates.length:Nat):Int);omega⟩;obtain⟨_,r2,r3,r4,r5⟩:=hr;unfold oc at r5;have r2':aj (dO ⟨c.inputs,c.next,s.gates,[]⟩ (lmap s.m (c.gates.getD i (0,0)).1) (lmap s.m (c.gates.getD i (0,0)).2)).1=aj c:=r2;rw[r2'] at r5;simp only at r3 r4;exact⟨by simp[h1];omega,fun x hx=>by
     rcases List.mem_append.1 hx with hx|hx
     ·have:=h2 x hx;simp only;omega
     ·rw[List.mem_singleton.1 hx];simp only;omega,by simp only;omega⟩
   ·exact⟨by simp[h1];omega,fun x hx=>by
     rcases List.mem_append.1 hx with hx|hx
     ·have:=h2 x hx;simp only[cr,mr];omega
     ·rw[List.mem_singleton.1 hx];simp only[cr,mr];omega,by simp;omega⟩
  ·exact⟨by simp[h1];omega,fun x hx=>by
    rcases List.mem_append.1 hx with hx|hx
    ·exact h2 x hx
    ·rw[List.mem_singleton.1 hx];omega,by simp only;omega⟩
def HB {nx:List Int}{gs:List (Int×Int)}:og [D.agg [dI n,ai nx,aO gs,.nil]] [dC ⟨n,nx,gs,[]⟩]:=by simp[go_sem]
def k9 {f:Int->Int}{l:List Int}{k:Nat}(h:k<l.length):((l.take k).map f++l.drop k).set k (f (l.getD k 0))=(l.take (k+1)).map f++l.drop (k+1):=by
 have e:l.getD k 0=l[k]:=by simp[List.getD,h]
 have hl:((l.take k).map f).length=k:=by simp;omega
 rw[show l.drop k=l[k]::l.drop (k+1) from qQ h,List.set_append_right _ _ (by omega),hl,Nat.sub_self,List.set_cons_zero,m6 h,iz,e,fS];rfl
set_option maxHeartbeats 4000000 in
def Tryz.no (c:ac) (hv:c.Valid):bk prog 152 [dC c,.bool true] (dC (built c true)):=by
 refine pu (E:=env 0) tok rfl 1000 func152 rfl rfl ntmps152 (by simp) fun ok=>?_
 simp only[go_sem,seval] at ok;have hfb:=hv.am;have hvb:=hv.aM;have hln:=hv.ln;have hlg:=hv.lg;have hlo:=hv.lo;have hi0:=hv.i0;have hi1:=hv.i1;simp only[go_sem,seval];refine aA (md c hv) ?_;rw[built,uj];have hul:=sU (c:=c) c.gates.length;generalize aV c c.gates.length=u at *
 have hf:c.first=(aj c:Int):=by unfold ac.first aj;omega
 have hl1:=ba c (by omega);rw[hf] at hl1;simp only[go_sem,seval];apply pQ
 ·intro key1;apply pQ
  ·intro key2;refine cg (n:=0) [5,8] (aw [0,3,4] (.three 1 (.two 2 (.two 5 (.fst 6 (.one 7 (.one 8 .done))) 7 (.one 5 (.fst 6 (.one 8 .done)))) 7 (.one 2 (.one 5 (.fst 6 (.one 8 .done))))) 2 (.three 1 (.two 5 (.fst 6 (.one 7 (.one 8 .done))) 7 (.one 5 (.fst 6 (.one 8 .done)))) 5 (.two 1 (.fst 6 (.one 7 (.one 8 .done))) 7 (.one 1 (.fst 6 (.one 8 .done)))) 7 (.two 1 (.one 5 (.fst 6 (.one 8 .done))) 5 (.one 1 (.fst 6 (.one 8 .done))))) 7 (.two 1 (.one 2 (.one 5 (.fst 6 (.one 8 .done)))) 2 (.two 1 (.one 5 (.fst 6 (.one 8 .done))) 5 (.one 1 (.fst 6 (.one 8 .done))))))) ?_;simp only[go_sem,seval]
   repeat' first|assumption|simp (disch:=first|assumption|omega|simp;try omega) only[ag];try simp only[go_sem,seval]|(with_reducible first|apply aa|intro)|exact ah|(try rw[ae]);omega
   all_goals first
    | (
      refine yG (E:=env 0) [(1,.d (.bool true)),(2,.ptr 0 0),(4,.ptr 1 0),(5,.d (eZ (u))),(6,.ptr 3 0),(7,.sl 4 0 1 0 0),(8,.d (dI 0))] [.box [.d (dI c.inputs),.d (ai c.next),.d (aO c.gates),.d (ai c.outs)],.box [.d (dI 0),.d .nil,.d .nil,.d .nil],.row 1 1 true (c.next.map (D.int .i64)),.box [.d (dI c.inputs),.sl 2 1 1 0 c.next.length,.d .nil,.d .nil],.row 0 1 true []] rfl ?_ ?_
      ·simp only[go_sem,seval];done
      ·exact key1.get)
    | (
      refine yG (E:=env 0) [(1,.d (.bool true)),(2,.ptr 0 0),(4,.ptr 1 0),(5,.d (eZ (u))),(6,.ptr 2 0),(7,.sl 4 0 1 0 0),(8,.d (dI 0))] [.box [.d (dI c.inputs),.d (ai c.next),.d (aO c.gates),.d (ai c.outs)],.box [.d (dI 0),.d .nil,.d .nil,.d .nil],.box [.d (dI c.inputs),.sl 3 1 1 0 c.next.length,.d .nil,.d .nil],.row 1 1 true (c.next.map (D.int .i64)),.row 0 1 true []] rfl ?_ ?_
      ·simp only[go_sem,seval];done
      ·exact key2.get)
  ·clear key1;refine ce (E:=env 0) tok (σ:=Nat) (fun v=>[(1,.d (.bool true)),(2,.ptr 0 0),(4,.ptr 1 0),(5,.d (eZ u)),(6,.ptr 2 0),(7,.sl 4 v 1 0 v),(8,.d (dI v))])
    (fun v=>[.box [.d (dI c.inputs),.d (ai c.next),.d (aO c.gates),.d (ai c.outs)],.box [.d (dI 0),.d .nil,.d .nil,.d .nil],.box [.d (dI c.inputs),.sl 3 1 1 0 c.next.length,.d .nil,.d .nil],.row 1 1 true (c.next.map (D.int .i64)),.row v 1 true (((List.range v).map fun(v:Nat)=>2*(v:Int)).map (D.int .i64))]) (fun v=>v<=aj c) (fun v=>aj c-v) [] 1000 1000 ?_ ?_ ?_
   ·simp only[go_sem,seval]
   ·simp only[go_sem,seval];exact⟨0,by omega,⟨rfl,rfl⟩,rfl,rfl⟩
   ·intro v hv2;by_cases hlt:v<aj c
    ·simp only[go_sem,seval]
     repeat' first|assumption|simp (disch:=first|assumption|omega|simp;try omega) only[ag];try simp only[go_sem,seval]|(with_reducible first|apply aa|intro)|(refine aA hl1 ?_;simp only[go_sem,seval])|exact ah|(try rw[ae]);omega
     ·rw[rB]
     ·exact⟨v+1,by omega,by omega,rfl,rfl,by rw[kK,iz];rfl⟩
    ·obtain rfl:v=aj c:=by omega
     simp only[go_sem,seval]
     repeat' first|assumption|simp (disch:=first|assumption|omega|simp;try omega) only[ag];try simp only[go_sem,seval]|(with_reducible first|apply aa|intro)|(refine aA hl1 ?_;simp only[go_sem,seval])|exact ah|(try rw[ae]);omega
     refine pn (E:=env 0) tok (σ:=Nat) (fun i=>[(1,.d (.bool true)),(2,.ptr 0 0),(4,.ptr 1 0),(5,.d (eZ u)),(6,.ptr 2 0),(7,.sl 4 (aj c+i) 1 0 (aj c+i)),(9,.d (dI i))])
      (fun i=>[.box [.d (dI c.inputs),.d (ai c.next),.d (aO c.gates),.d (ai c.outs)],.box [.d (dI 0),.d .nil,.d .nil,.d .nil],.box [.d (dI c.inputs),.sl 3 1 1 0 c.next.length,.d (aO (ak c u true i).gates),.d .nil],.row 1 1 true (c.next.map (D.int .i64)),.row (aj c+i) 1 true ((ak c u true i).m.map (D.int .i64))]) (fun i=>i<=c.gates.length) (fun i=>c.gates.length-i) [] [] 1000 1000 ?_ ?_ ?_ ?_
     ·simp only[go_sem,seval]
     ·simp only[go_sem,seval]
     ·simp only[go_sem,seval];refine⟨0,by omega,?_⟩;simp only[go_sem,seval];exact⟨rfl,rfl⟩
     ·intro i hi;have hb:=n6 hv u true i hi;have hbs:=n6 hv u true (i+1);have hml:=hb.ml;by_cases hlt:i<c.gates.length
      ·by_cases hu:u.getD i false=true
       ·have hg:=hv.g i hlt;unfold bj at hg;have hA:=lI (l:=(c.gates.getD i (0,0)).1) hb.mb (by omega);have hB:=lI (l:=(c.gates.getD i (0,0)).2) hb.mb (by omega);have q1:=bf (ak c u true i).m (c.gates.getD i (0,0)).1 (by omega) (fun x hx=>(hb.mb x hx).1);have q2:=bf (ak c u true i).m (c.gates.getD i (0,0)).2 (by omega) (fun x hx=>(hb.mb x hx).1);have gl:=hb.gl;have hfs:aj c<=3000:=by omega
        have q3:=me ⟨c.inputs,c.next,(ak c u true i).gates,[]⟩ 1 (lmap (ak c u true i).m (c.gates.getD i (0,0)).1) (lmap (ak c u true i).m (c.gates.getD i (0,0)).2) (by show 0<=c.inputs/\c.inputs<=1000;omega) (by show c.next.length<=1000;omega) (by show(ak c u true i).gates.length<=100000;omega) (by omega) (by omega)
        dsimp only at q3
        have hs:ak c u true (i+1)=⟨(dO ⟨c.inputs,c.next,(ak c u true i).gates,[]⟩ (lmap (ak c u true i).m (c.gates.getD i (0,0)).1) (lmap (ak c u true i).m (c.gates.getD i (0,0)).2)).1.gates,(ak c u true i).m ++ [(dO ⟨c.inputs,c.next,(ak c u true i).gates,[]⟩ (lmap (ak c u true i).m (c.gates.getD i (0,0)).1) (lmap (ak c u true i).m (c.gates.getD i (0,0)).2)).2]⟩:=by
         rw[ak,mD,if_pos hu];rfl
        simp only[go_sem,seval,hu]
        repeat' first|assumption|simp (disch:=first|assumption|omega|simp;try omega) only[ag];try simp only[go_sem,seval,hu]|(with_reducible first|apply aa|intro)|exact ah|(try rw[ae]);omega
        refine cg (n:=0) [17,22] (aw [1,2,4,9,10,12,0,3,5,6,7,11,13,14,15] (.two 8 (.two 16 (.two 17 (aw [18,19,20] (.one 21 (.one 22 (.fst 23 .done)))) 21 (.one 17 (aw [18,19,20] (.one 22 (.fst 23 .done))))) 21 (.one 16 (.one 17 (aw [18,19,20] (.one 22 (.fst 23 .done)))))) 21 (.one 8 (.one 16 (.one 17 (aw [18,19,20] (.one 22 (.fst 23 .done)))))))) ?_;simp only[go_sem,seval,hu]
        repeat' first|assumption|simp (disch:=first|assumption|omega|simp;try omega) only[ag];try simp only[go_sem,seval,hu]|(with_reducible first|apply aa|intro)|(refine aA q1 ?_;simp only[go_sem,seval,hu])|(refine aA q2 ?_;simp only[go_sem,seval,hu])|(refine iu q3 [3] ?_ ?_;(· simp only[go_sem,seval]);(rintro r0 H1 ⟨rfl,rfl⟩);simp only[go_sem,seval,hu])|exact ah|(try rw[ae]);omega
        all_goals (
         refine⟨i+1,by omega,by omega,?_⟩;rw[hs];exact⟨⟨rfl,rfl⟩,rfl,rfl,rfl⟩)
       ·have hu2:u.getD i false=false:=by simpa using hu
        have hs:ak c u true (i+1)=⟨(ak c u true i).gates,(ak c u true i).m ++ [0]⟩:=by rw[ak,mD,if_neg hu]
        simp only[go_sem,seval,hu2]
        repeat' first|assumption|simp (disch:=first|assumption|omega|simp;try omega) only[ag];try simp only[go_sem,seval,hu2]|(with_reducible first|apply aa|intro)|exact ah|(try rw[ae]);omega
        ·refine⟨i+1,by omega,by omega,?_⟩;rw[hs];exact⟨⟨rfl,rfl⟩,rfl,rfl,rfl⟩
      ·obtain rfl:i=c.gates.length:=by omega
       have hm0 : ∀ x∈(ak c u true c.gates.length).m,0<=x:=fun x hx=>(hb.mb x hx).1
       have hgl:=hb.gl;generalize (ak c u true c.gates.length).gates=gs at *
       generalize (ak c u true c.gates.length).m=m at *
       have hve:c.vars=c.first+c.gates.length:=rfl
       have qn : ∀ k,k<c.next.length->Pure prog 202 [ai m,dI (c.next.getD k 0)] (dI (lmap m (c.next.getD k 0))):=fun k hk=>by
        have:=hv.n _ (aP (l:=c.next) (z:=0) hk);unfold bj at this;exact bf m _ (by omega) hm0
       have qo : ∀ k,k<c.outs.length->Pure prog 202 [ai m,dI (c.outs.getD k 0)] (dI (lmap m (c.outs.getD k 0))):=fun k hk=>by
        have:=hv.o _ (aP (l:=c.outs) (z:=0) hk);unfold bj at this;exact bf m _ (by omega) hm0
       simp only[go_sem,seval]
       repeat' first|assumption|simp (disch:=first|assumption|omega|simp;try omega) only[ag];try simp only[go_sem,seval]|(with_reducible first|apply aa|intro)|exact ah|(try rw[ae]);omega
       refine pn (E:=env 0) tok (σ:=Nat) (fun k=>[(2,.ptr 0 0),(4,.ptr 1 0),(6,.ptr 2 0),(7,.d (ai m)),(13,.d (dI k))])
        (fun k=>[.box [.d (dI c.inputs),.d (ai c.next),.d (aO c.gates),.d (ai c.outs)],.box [.d (dI 0),.d .nil,.d .nil,.d .nil],.box [.d (dI c.inputs),.sl 3 1 1 0 c.next.length,.d (aO gs),.d .nil],.row 1 1 true (((c.next.take k).map (lmap m)++c.next.drop k).map (D.int .i64))]) (fun k=>k<=c.next.length) (fun k=>c.next.length-k) [] [] 1000 1000 ?_ ?_ ?_ ?_
       ·simp only[go_sem,seval]
       ·simp only[go_sem,seval]
       ·simp only[go_sem,seval];exact⟨0,by omega,⟨ag (by omega),rfl⟩,rfl⟩
       ·intro k hk;have hkl:((c.next.take k).map (lmap m)++c.next.drop k).length=c.next.length:=by simp;omega
        by_cases hlt2:k<c.next.length
        ·have q:=qn k hlt2;have hset:=k9 (f:=lmap m) hlt2;simp only[go_sem,seval]
         repeat' first|assumption|simp (disch:=first|assumption|omega|simp;try omega) only[ag];try simp only[go_sem,seval]|(with_reducible first|apply aa|intro)|exact ah|(try rw[ae]);omega
         refine cg (n:=0) [11] (aw [0,2,3,4,6,1,5,7,8] (.one 9 (.fst 10 (.one 11 .done)))) ?_;simp only[go_sem,seval]
         repeat' first|assumption|simp (disch:=first|assumption|omega|simp;try omega) only[ag];try simp only[go_sem,seval]|(with_reducible first|apply aa|intro)|(refine aA q ?_;simp only[go_sem,seval])|exact ah|(try rw[ae]);omega
         all_goals first
          | omega
          | (simp only[fW,tI];omega)
          | exact⟨k+1,by omega,by omega,rfl,hset⟩
        ·obtain rfl:k=c.next.length:=by omega
         simp only[go_sem,seval]
         repeat' first|assumption|simp (disch:=first|assumption|omega|simp;try omega) only[ag];try simp only[go_sem,seval]|(with_reducible first|apply aa|intro)|exact ah|(try rw[ae]);omega
         refine pn (E:=env 0) tok (σ:=Nat) (fun k=>[(2,.ptr 0 0),(4,.ptr 1 0),(6,.ptr 2 0),(7,.d (ai m)),(14,.d (dI k))])
          (fun k=>[.box [.d (dI c.inputs),.d (ai c.next),.d (aO c.gates),.d (ai c.outs)],.box [.d (dI 0),.d .nil,.d .nil,.d .nil],.box [.d (dI c.inputs),.sl 3 1 1 0 c.next.length,.d (aO gs),.sl 4 k 1 0 k],.row 1 1 true ((c.next.map (lmap m)).map (D.int .i64)),.row k 1 true (((c.outs.take k).map (lmap m)).map (D.int .i64))]) (fun k=>k<=c.outs.length) (fun k=>c.outs.length-k) [(2,3,1,true)] [] 1000 1000 ?_ ?_ ?_ ?_
         ·simp only[go_sem,seval]
         ·simp only[go_sem,seval]
         ·simp only[go_sem,seval];exact⟨0,by omega,rfl,by simp⟩
         ·intro k hk;by_cases hlt3:k<c.outs.length
          ·have q:=qo k hlt3;have hts:=vr (lmap m) 0 hlt3;simp only[go_sem,seval]
           repeat' first|assumption|simp (disch:=first|assumption|omega|simp;try omega) only[ag];try simp only[go_sem,seval]|(with_reducible first|apply aa|intro)|exact ah|(try rw[ae]);omega
           refine cg (n:=0) [10,12] (aw [0,2,3,5,1,4,6,7] (.one 8 (.one 9 (.one 10 (.fst 11 (.one 12 .done)))))) ?_;simp only[go_sem,seval]
           repeat' first|assumption|simp (disch:=first|assumption|omega|simp;try omega) only[ag];try simp only[go_sem,seval]|(with_reducible first|apply aa|intro)|(refine aA q ?_;simp only[go_sem,seval])|exact ah|(try rw[ae]);omega
           all_goals first
            | omega
            | (simp only[fW];omega)
            | exact⟨k+1,by omega,by omega,rfl,rfl,rfl,hts.symm⟩
          ·obtain rfl:k=c.outs.length:=by omega
           simp only[go_sem,seval]
           repeat' first|assumption|simp (disch:=first|assumption|omega|simp;try omega) only[ag];try simp only[go_sem,seval]|(with_reducible first|apply aa|intro)|exact ah|(try rw[ae]);omega
 ·refine ce (E:=env 0) tok (σ:=Nat) (fun v=>[(1,.d (.bool true)),(2,.ptr 0 0),(4,.ptr 1 0),(5,.d (eZ u)),(6,.ptr 3 0),(7,.sl 4 v 1 0 v),(8,.d (dI v))])
   (fun v=>[.box [.d (dI c.inputs),.d (ai c.next),.d (aO c.gates),.d (ai c.outs)],.box [.d (dI 0),.d .nil,.d .nil,.d .nil],.row 1 1 true (c.next.map (D.int .i64)),.box [.d (dI c.inputs),.sl 2 1 1 0 c.next.length,.d .nil,.d .nil],.row v 1 true (((List.range v).map fun(v:Nat)=>2*(v:Int)).map (D.int .i64))]) (fun v=>v<=aj c) (fun v=>aj c-v) [] 1000 1000 ?_ ?_ ?_
  ·simp only[go_sem,seval]
  ·simp only[go_sem,seval];exact⟨0,by omega,⟨rfl,rfl⟩,rfl,rfl⟩
  ·intro v hv2;by_cases hlt:v<aj c
   ·simp only[go_sem,seval]
    repeat' first|assumption|simp (disch:=first|assumption|omega|simp;try omega) only[ag];try simp only[go_sem,seval]|(with_reducible first|apply aa|intro)|(refine aA hl1 ?_;simp only[go_sem,seval])|exact ah|(try rw[ae]);omega
    ·rw[rB]
    ·exact⟨v+1,by omega,by omega,rfl,rfl,by rw[kK,iz];rfl⟩
   ·obtain rfl:v=aj c:=by omega
    simp only[go_sem,seval]
    repeat' first|assumption|simp (disch:=first|assumption|omega|simp;try omega) only[ag];try simp only[go_sem,seval]|(with_reducible first|apply aa|intro)|(refine aA hl1 ?_;simp only[go_sem,seval])|exact ah|(try rw[ae]);omega
    refine pn (E:=env 0) tok (σ:=Nat) (fun i=>[(1,.d (.bool true)),(2,.ptr 0 0),(4,.ptr 1 0),(5,.d (eZ u)),(6,.ptr 3 0),(7,.sl 4 (aj c+i) 1 0 (aj c+i)),(9,.d (dI i))])
     (fun i=>[.box [.d (dI c.inputs),.d (ai c.next),.d (aO c.gates),.d (ai c.outs)],.box [.d (dI 0),.d .nil,.d .nil,.d .nil],.row 1 1 true (c.next.map (D.int .i64)),.box [.d (dI c.inputs),.sl 2 1 1 0 c.next.length,.d (aO (ak c u true i).gates),.d .nil],.row (aj c+i) 1 true ((ak c u true i).m.map (D.int .i64))]) (fun i=>i<=c.gates.length) (fun i=>c.gates.length-i) [] [] 1000 1000 ?_ ?_ ?_ ?_
    ·simp only[go_sem,seval]
    ·simp only[go_sem,seval]
    ·simp only[go_sem,seval];refine⟨0,by omega,?_⟩;simp only[go_sem,seval];exact⟨rfl,rfl⟩
    ·intro i hi;have hb:=n6 hv u true i hi;have hbs:=n6 hv u true (i+1);have hml:=hb.ml;by_cases hlt:i<c.gates.length
     ·by_cases hu:u.getD i false=true
      ·have hg:=hv.g i hlt;unfold bj at hg;have hA:=lI (l:=(c.gates.getD i (0,0)).1) hb.mb (by omega);have hB:=lI (l:=(c.gates.getD i (0,0)).2) hb.mb (by omega);have q1:=bf (ak c u true i).m (c.gates.getD i (0,0)).1 (by omega) (fun x hx=>(hb.mb x hx).1);have q2:=bf (ak c u true i).m (c.gates.getD i (0,0)).2 (by omega) (fun x hx=>(hb.mb x hx).1);have gl:=hb.gl;have hfs:aj c<=3000:=by omega
       have q3:=me ⟨c.inputs,c.next,(ak c u true i).gates,[]⟩ 1 (lmap (ak c u true i).m (c.gates.getD i (0,0)).1) (lmap (ak c u true i).m (c.gates.getD i (0,0)).2) (by show 0<=c.inputs/\c.inputs<=1000;omega) (by show c.next.length<=1000;omega) (by show(ak c u true i).gates.length<=100000;omega) (by omega) (by omega)
       dsimp only at q3
       have hs:ak c u true (i+1)=⟨(dO ⟨c.inputs,c.next,(ak c u true i).gates,[]⟩ (lmap (ak c u true i).m (c.gates.getD i (0,0)).1) (lmap (ak c u true i).m (c.gates.getD i (0,0)).2)).1.gates,(ak c u true i).m ++ [(dO ⟨c.inputs,c.next,(ak c u true i).gates,[]⟩ (lmap (ak c u true i).m (c.gates.getD i (0,0)).1) (lmap (ak c u true i).m (c.gates.getD i (0,0)).2)).2]⟩:=by
        rw[ak,mD,if_pos hu];rfl
       simp only[go_sem,seval,hu]
       repeat' first|assumption|simp (disch:=first|assumption|omega|simp;try omega) only[ag];try simp only[go_sem,seval,hu]|(with_reducible first|apply aa|intro)|exact ah|(try rw[ae]);omega
       refine cg (n:=0) [17,22] (aw [1,2,4,9,10,12,0,3,5,6,7,11,13,14,15] (.two 8 (.two 16 (.two 17 (aw [18,19,20] (.one 21 (.one 22 (.fst 23 .done)))) 21 (.one 17 (aw [18,19,20] (.one 22 (.fst 23 .done))))) 21 (.one 16 (.one 17 (aw [18,19,20] (.one 22 (.fst 23 .done)))))) 21 (.one 8 (.one 16 (.one 17 (aw [18,19,20] (.one 22 (.fst 23 .done)))))))) ?_;simp only[go_sem,seval,hu]
       repeat' first|assumption|simp (disch:=first|assumption|omega|simp;try omega) only[ag];try simp only[go_sem,seval,hu]|(with_reducible first|apply aa|intro)|(refine aA q1 ?_;simp only[go_sem,seval,hu])|(refine aA q2 ?_;simp only[go_sem,seval,hu])|(refine iu q3 [2] ?_ ?_;(· simp only[go_sem,seval]);(rintro r0 H1 ⟨rfl,rfl⟩);simp only[go_sem,seval,hu])|exact ah|(try rw[ae]);omega
       all_goals (
        refine⟨i+1,by omega,by omega,?_⟩;rw[hs];exact⟨⟨rfl,rfl⟩,rfl,rfl,rfl⟩)
      ·have hu2:u.getD i false=false:=by simpa using hu
       have hs:ak c u true (i+1)=⟨(ak c u true i).gates,(ak c u true i).m ++ [0]⟩:=by rw[ak,mD,if_neg hu]
       simp only[go_sem,seval,hu2]
       repeat' first|assumption|simp (disch:=first|assumption|omega|simp;try omega) only[ag];try simp only[go_sem,seval,hu2]|(with_reducible first|apply aa|intro)|exact ah|(try rw[ae]);omega
       ·refine⟨i+1,by omega,by omega,?_⟩;rw[hs];exact⟨⟨rfl,rfl⟩,rfl,rfl,rfl⟩
     ·obtain rfl:i=c.gates.length:=by omega
      have hm0 : ∀ x∈(ak c u true c.gates.length).m,0<=x:=fun x hx=>(hb.mb x hx).1
      have hgl:=hb.gl;generalize (ak c u true c.gates.length).gates=gs at *
      generalize (ak c u true c.gates.length).m=m at *
      have hve:c.vars=c.first+c.gates.length:=rfl
      have qn : ∀ k,k<c.next.length->Pure prog 202 [ai m,dI (c.next.getD k 0)] (dI (lmap m (c.next.getD k 0))):=fun k hk=>by
       have:=hv.n _ (aP (l:=c.next) (z:=0) hk);unfold bj at this;exact bf m _ (by omega) hm0
      have qo : ∀ k,k<c.outs.length->Pure prog 202 [ai m,dI (c.outs.getD k 0)] (dI (lmap m (c.outs.getD k 0))):=fun k hk=>by
       have:=hv.o _ (aP (l:=c.outs) (z:=0) hk);unfold bj at this;exact bf m _ (by omega) hm0
      simp only[go_sem,seval]
      repeat' first|assumption|simp (disch:=first|assumption|omega|simp;try omega) only[ag];try simp only[go_sem,seval]|(with_reducible first|apply aa|intro)|exact ah|(try rw[ae]);omega
      refine pn (E:=env 0) tok (σ:=Nat) (fun k=>[(2,.ptr 0 0),(4,.ptr 1 0),(6,.ptr 3 0),(7,.d (ai m)),(13,.d (dI k))])
       (fun k=>[.box [.d (dI c.inputs),.d (ai c.next),.d (aO c.gates),.d (ai c.outs)],.box [.d (dI 0),.d .nil,.d .nil,.d .nil],.row 1 1 true (((c.next.take k).map (lmap m)++c.next.drop k).map (D.int .i64)),.box [.d (dI c.inputs),.sl 2 1 1 0 c.next.length,.d (aO gs),.d .nil]]) (fun k=>k<=c.next.length) (fun k=>c.next.length-k) [] [] 1000 1000 ?_ ?_ ?_ ?_
      ·simp only[go_sem,seval]
      ·simp only[go_sem,seval]
      ·simp only[go_sem,seval];exact⟨0,by omega,⟨ag (by omega),rfl⟩,rfl⟩
      ·intro k hk;have hkl:((c.next.take k).map (lmap m)++c.next.drop k).length=c.next.length:=by simp;omega
       by_cases hlt2:k<c.next.length
       ·have q:=qn k hlt2;have hset:=k9 (f:=lmap m) hlt2;simp only[go_sem,seval]
        repeat' first|assumption|simp (disch:=first|assumption|omega|simp;try omega) only[ag];try simp only[go_sem,seval]|(with_reducible first|apply aa|intro)|exact ah|(try rw[ae]);omega
        refine cg (n:=0) [11] (aw [0,2,3,4,6,1,5,7,8] (.one 9 (.fst 10 (.one 11 .done)))) ?_;simp only[go_sem,seval]
        repeat' first|assumption|simp (disch:=first|assumption|omega|simp;try omega) only[ag];try simp only[go_sem,seval]|(with_reducible first|apply aa|intro)|(refine aA q ?_;simp only[go_sem,seval])|exact ah|(try rw[ae]);omega
        all_goals first
         | omega
         | (simp only[fW,tI];omega)
         | exact⟨k+1,by omega,by omega,rfl,hset⟩
       ·obtain rfl:k=c.next.length:=by omega
        simp only[go_sem,seval]
        repeat' first|assumption|simp (disch:=first|assumption|omega|simp;try omega) only[ag];try simp only[go_sem,seval]|(with_reducible first|apply aa|intro)|exact ah|(try rw[ae]);omega
        refine pn (E:=env 0) tok (σ:=Nat) (fun k=>[(2,.ptr 0 0),(4,.ptr 1 0),(6,.ptr 3 0),(7,.d (ai m)),(14,.d (dI k))])
         (fun k=>[.box [.d (dI c.inputs),.d (ai c.next),.d (aO c.gates),.d (ai c.outs)],.box [.d (dI 0),.d .nil,.d .nil,.d .nil],.row 1 1 true ((c.next.map (lmap m)).map (D.int .i64)),.box [.d (dI c.inputs),.sl 2 1 1 0 c.next.length,.d (aO gs),.sl 4 k 1 0 k],.row k 1 true (((c.outs.take k).map (lmap m)).map (D.int .i64))]) (fun k=>k<=c.outs.length) (fun k=>c.outs.length-k) [(3,3,1,true)] [] 1000 1000 ?_ ?_ ?_ ?_
        ·simp only[go_sem,seval]
        ·simp only[go_sem,seval]
        ·simp only[go_sem,seval];exact⟨0,by omega,rfl,by simp⟩
        ·intro k hk;by_cases hlt3:k<c.outs.length
         ·have q:=qo k hlt3;have hts:=vr (lmap m) 0 hlt3;simp only[go_sem,seval]
          repeat' first|assumption|simp (disch:=first|assumption|omega|simp;try omega) only[ag];try simp only[go_sem,seval]|(with_reducible first|apply aa|intro)|exact ah|(try rw[ae]);omega
          refine cg (n:=0) [10,12] (aw [0,2,3,5,1,4,6,7] (.one 8 (.one 9 (.one 10 (.fst 11 (.one 12 .done)))))) ?_;simp only[go_sem,seval]
          repeat' first|assumption|simp (disch:=first|assumption|omega|simp;try omega) only[ag];try simp only[go_sem,seval]|(with_reducible first|apply aa|intro)|(refine aA q ?_;simp only[go_sem,seval])|exact ah|(try rw[ae]);omega
          all_goals first
           | omega
           | (simp only[fW];omega)
           | exact⟨k+1,by omega,by omega,rfl,rfl,rfl,hts.symm⟩
         ·obtain rfl:k=c.outs.length:=by omega
          simp only[go_sem,seval]
          repeat' first|assumption|simp (disch:=first|assumption|omega|simp;try omega) only[ag];try simp only[go_sem,seval]|(with_reducible first|apply aa|intro)|exact ah|(try rw[ae]);omega
set_option maxHeartbeats 4000000 in
def Tryz.m5 (c:ac) (hv:c.Valid):bk prog 152 [dC c,.bool false] (dC (built c false)):=by
 refine pu (E:=env 0) tok rfl 1000 func152 rfl rfl ntmps152 (by simp) fun ok=>?_
 simp only[go_sem,seval] at ok;have hfb:=hv.am;have hvb:=hv.aM;have hln:=hv.ln;have hlg:=hv.lg;have hlo:=hv.lo;have hi0:=hv.i0;have hi1:=hv.i1;simp only[go_sem,seval];refine aA (md c hv) ?_;rw[built,uj];have hul:=sU (c:=c) c.gates.length;generalize aV c c.gates.length=u at *
 have hf:c.first=(aj c:Int):=by unfold ac.first aj;omega
 have hl1:=ba c (by omega);rw[hf] at hl1;simp only[go_sem,seval];apply pQ
 ·intro key1;apply pQ
  ·intro key2;refine cg (n:=0) [5,8] (aw [0,3,4] (.three 1 (.two 2 (.two 5 (.fst 6 (.one 7 (.one 8 .done))) 7 (.one 5 (.fst 6 (.one 8 .done)))) 7 (.one 2 (.one 5 (.fst 6 (.one 8 .done))))) 2 (.three 1 (.two 5 (.fst 6 (.one 7 (.one 8 .done))) 7 (.one 5 (.fst 6 (.one 8 .done)))) 5 (.two 1 (.fst 6 (.one 7 (.one 8 .done))) 7 (.one 1 (.fst 6 (.one 8 .done)))) 7 (.two 1 (.one 5 (.fst 6 (.one 8 .done))) 5 (.one 1 (.fst 6 (.one 8 .done))))) 7 (.two 1 (.one 2 (.one 5 (.fst 6 (.one 8 .done)))) 2 (.two 1 (.one 5 (.fst 6 (.one 8 .done))) 5 (.one 1 (.fst 6 (.one 8 .done))))))) ?_;simp only[go_sem,seval]
   repeat' first|assumption|simp (disch:=first|assumption|omega|simp;try omega) only[ag];try simp only[go_sem,seval]|(with_reducible first|apply aa|intro)|exact ah|(try rw[ae]);omega
   all_goals first
    | (
      refine yG (E:=env 0) [(1,.d (.bool false)),(2,.ptr 0 0),(4,.ptr 1 0),(5,.d (eZ (u))),(6,.ptr 3 0),(7,.sl 4 0 1 0 0),(8,.d (dI 0))] [.box [.d (dI c.inputs),.d (ai c.next),.d (aO c.gates),.d (ai c.outs)],.box [.d (dI 0),.d .nil,.d .nil,.d .nil],.row 1 1 true (c.next.map (D.int .i64)),.box [.d (dI c.inputs),.sl 2 1 1 0 c.next.length,.d .nil,.d .nil],.row 0 1 true []] rfl ?_ ?_
      ·simp only[go_sem,seval];done
      ·exact key1.get)
    | (
      refine yG (E:=env 0) [(1,.d (.bool false)),(2,.ptr 0 0),(4,.ptr 1 0),(5,.d (eZ (u))),(6,.ptr 2 0),(7,.sl 4 0 1 0 0),(8,.d (dI 0))] [.box [.d (dI c.inputs),.d (ai c.next),.d (aO c.gates),.d (ai c.outs)],.box [.d (dI 0),.d .nil,.d .nil,.d .nil],.box [.d (dI c.inputs),.sl 3 1 1 0 c.next.length,.d .nil,.d .nil],.row 1 1 true (c.next.map (D.int .i64)),.row 0 1 true []] rfl ?_ ?_
      ·simp only[go_sem,seval];done
      ·exact key2.get)
  ·clear key1;refine ce (E:=env 0) tok (σ:=Nat) (fun v=>[(1,.d (.bool false)),(2,.ptr 0 0),(4,.ptr 1 0),(5,.d (eZ u)),(6,.ptr 2 0),(7,.sl 4 v 1 0 v),(8,.d (dI v))])
    (fun v=>[.box [.d (dI c.inputs),.d (ai c.next),.d (aO c.gates),.d (ai c.outs)],.box [.d (dI 0),.d .nil,.d .nil,.d .nil],.box [.d (dI c.inputs),.sl 3 1 1 0 c.next.length,.d .nil,.d .nil],.row 1 1 true (c.next.map (D.int .i64)),.row v 1 true (((List.range v).map fun(v:Nat)=>2*(v:Int)).map (D.int .i64))]) (fun v=>v<=aj c) (fun v=>aj c-v) [] 1000 1000 ?_ ?_ ?_
   ·simp only[go_sem,seval]
   ·simp only[go_sem,seval];exact⟨0,by omega,⟨rfl,rfl⟩,rfl,rfl⟩
   ·intro v hv2;by_cases hlt:v<aj c
    ·simp only[go_sem,seval]
     repeat' first|assumption|simp (disch:=first|assumption|omega|simp;try omega) only[ag];try simp only[go_sem,seval]|(with_reducible first|apply aa|intro)|(refine aA hl1 ?_;simp only[go_sem,seval])|exact ah|(try rw[ae]);omega
     ·rw[rB]
     ·exact⟨v+1,by omega,by omega,rfl,rfl,by rw[kK,iz];rfl⟩
    ·obtain rfl:v=aj c:=by omega
     simp only[go_sem,seval]
     repeat' first|assumption|simp (disch:=first|assumption|omega|simp;try omega) only[ag];try simp only[go_sem,seval]|(with_reducible first|apply aa|intro)|(refine aA hl1 ?_;simp only[go_sem,seval])|exact ah|(try rw[ae]);omega
     refine pn (E:=env 0) tok (σ:=Nat) (fun i=>[(1,.d (.bool false)),(2,.ptr 0 0),(4,.ptr 1 0),(5,.d (eZ u)),(6,.ptr 2 0),(7,.sl 4 (aj c+i) 1 0 (aj c+i)),(9,.d (dI i))])
      (fun i=>[.box [.d (dI c.inputs),.d (ai c.next),.d (aO c.gates),.d (ai c.outs)],.box [.d (dI 0),.d .nil,.d .nil,.d .nil],.box [.d (dI c.inputs),.sl 3 1 1 0 c.next.length,.sl 5 (ak c u false i).gates.length 2 0 (ak c u false i).gates.length,.d .nil],.row 1 1 true (c.next.map (D.int .i64)),.row (aj c+i) 1 true ((ak c u false i).m.map (D.int .i64)),.row (ak c u false i).gates.length 2 true ((ak c u false i).gates.map dP)]) (fun i=>i<=c.gates.length) (fun i=>c.gates.length-i) [(2,2,2,true)] [] 1000 1000 ?_ ?_ ?_ ?_
     ·simp only[go_sem,seval]
     ·simp only[go_sem,seval]
     ·simp only[go_sem,seval];refine⟨0,by omega,?_⟩;simp only[go_sem,seval];exact⟨rfl,rfl,rfl,rfl⟩
     ·intro i hi;have hb:=n6 hv u false i hi;have hbs:=n6 hv u false (i+1);have hml:=hb.ml;by_cases hlt:i<c.gates.length
      ·by_cases hu:u.getD i false=true
       ·have hg:=hv.g i hlt;unfold bj at hg;have hA:=lI (l:=(c.gates.getD i (0,0)).1) hb.mb (by omega);have hB:=lI (l:=(c.gates.getD i (0,0)).2) hb.mb (by omega);have q1:=bf (ak c u false i).m (c.gates.getD i (0,0)).1 (by omega) (fun x hx=>(hb.mb x hx).1);have q2:=bf (ak c u false i).m (c.gates.getD i (0,0)).2 (by omega) (fun x hx=>(hb.mb x hx).1);have gl:=hb.gl;have hfs:aj c<=3000:=by omega
        have q3:=(ba ⟨c.inputs,c.next,(ak c u false i).gates ++ [(lmap (ak c u false i).m (c.gates.getD i (0,0)).1,lmap (ak c u false i).m (c.gates.getD i (0,0)).2)],[]⟩ (by show -1000<=c.inputs/\c.inputs<=1000;omega)).wk (ds':=[.agg [dI c.inputs,ai c.next,aO ((ak c u false i).gates ++ [(lmap (ak c u false i).m (c.gates.getD i (0,0)).1,lmap (ak c u false i).m (c.gates.getD i (0,0)).2)]),.nil]]) HB;have hq3:ac.first ⟨c.inputs,c.next,(ak c u false i).gates ++ [(lmap (ak c u false i).m (c.gates.getD i (0,0)).1,lmap (ak c u false i).m (c.gates.getD i (0,0)).2)],[]⟩=(aj c:Int):=hf
        rw[hq3] at q3;have hsc:dR (dI (aj c:Int)):=by show cp .i64 _;rw[ae];omega
        have hs:ak c u false (i+1)=⟨(ak c u false i).gates ++ [(lmap (ak c u false i).m (c.gates.getD i (0,0)).1,lmap (ak c u false i).m (c.gates.getD i (0,0)).2)],(ak c u false i).m ++ [2*((aj c:Int)+((ak c u false i).gates.length:Int))]⟩:=by
         rw[ak,mD,if_pos hu];rfl
        simp only[go_sem,seval,hu]
        repeat' first|assumption|simp (disch:=first|assumption|omega|simp;try omega) only[ag];try simp only[go_sem,seval,hu]|(with_reducible first|apply aa|intro)|exact ah|(try rw[ae]);omega
        refine cg (n:=0) [20,22] (aw [0,2,3,5,10,11,13,1,4,6,7,8,12,14,15,16] (.one 9 (.one 17 (.fst 18 (.one 19 (.one 20 (.fst 21 (.one 22 .done)))))))) ?_;simp only[go_sem,seval,hu]
        repeat' first|assumption|simp (disch:=first|assumption|omega|simp;try omega) only[ag];try simp only[go_sem,seval,hu]|(with_reducible first|apply aa|intro)|(refine aA q1 ?_;simp only[go_sem,seval,hu])|(refine aA q2 ?_;simp only[go_sem,seval,hu])|(refine nP (fun _=>⟨q3,hsc⟩) ?_;simp only[go_sem,seval,hu])|exact ah|(try rw[ae]);omega
        all_goals
         refine⟨i+1,by omega,by omega,?_⟩;rw[hs];refine⟨⟨by omega,rfl⟩,by simp,⟨by omega,?_⟩,by simp,rfl⟩;rw[show 2*((aj c:Int)+(((ak c u false i).gates.length+1:Nat):Int)-1)=2*((aj c:Int)+((ak c u false i).gates.length:Int)) by omega]
       ·have hu2:u.getD i false=false:=by simpa using hu
        have hs:ak c u false (i+1)=⟨(ak c u false i).gates,(ak c u false i).m ++ [0]⟩:=by rw[ak,mD,if_neg hu]
        simp only[go_sem,seval,hu2]
        repeat' first|assumption|simp (disch:=first|assumption|omega|simp;try omega) only[ag];try simp only[go_sem,seval,hu2]|(with_reducible first|apply aa|intro)|exact ah|(try rw[ae]);omega
        ·refine⟨i+1,by omega,by omega,?_⟩;rw[hs];exact⟨⟨rfl,rfl⟩,rfl,⟨rfl,rfl⟩,rfl,rfl⟩
      ·obtain rfl:i=c.gates.length:=by omega
       have hm0 : ∀ x∈(ak c u false c.gates.length).m,0<=x:=fun x hx=>(hb.mb x hx).1
       have hgl:=hb.gl;generalize (ak c u false c.gates.length).gates=gs at *
       generalize (ak c u false c.gates.length).m=m at *
       have hve:c.vars=c.first+c.gates.length:=rfl
       have qn : ∀ k,k<c.next.length->Pure prog 202 [ai m,dI (c.next.getD k 0)] (dI (lmap m (c.next.getD k 0))):=fun k hk=>by
        have:=hv.n _ (aP (l:=c.next) (z:=0) hk);unfold bj at this;exact bf m _ (by omega) hm0
       have qo : ∀ k,k<c.outs.length->Pure prog 202 [ai m,dI (c.outs.getD k 0)] (dI (lmap m (c.outs.getD k 0))):=fun k hk=>by
        have:=hv.o _ (aP (l:=c.outs) (z:=0) hk);unfold bj at this;exact bf m _ (by omega) hm0
       simp only[go_sem,seval]
       repeat' first|assumption|simp (disch:=first|assumption|omega|simp;try omega) only[ag];try simp only[go_sem,seval]|(with_reducible first|apply aa|intro)|exact ah|(try rw[ae]);omega
       refine pn (E:=env 0) tok (σ:=Nat) (fun k=>[(2,.ptr 0 0),(4,.ptr 1 0),(6,.ptr 2 0),(7,.d (ai m)),(13,.d (dI k))])
        (fun k=>[.box [.d (dI c.inputs),.d (ai c.next),.d (aO c.gates),.d (ai c.outs)],.box [.d (dI 0),.d .nil,.d .nil,.d .nil],.box [.d (dI c.inputs),.sl 3 1 1 0 c.next.length,.d (aO gs),.d .nil],.row 1 1 true (((c.next.take k).map (lmap m)++c.next.drop k).map (D.int .i64))]) (fun k=>k<=c.next.length) (fun k=>c.next.length-k) [] [] 1000 1000 ?_ ?_ ?_ ?_
       ·simp only[go_sem,seval]
       ·simp only[go_sem,seval]
       ·simp only[go_sem,seval];exact⟨0,by omega,⟨ag (by omega),rfl⟩,rfl⟩
       ·intro k hk;have hkl:((c.next.take k).map (lmap m)++c.next.drop k).length=c.next.length:=by simp;omega
        by_cases hlt2:k<c.next.length
        ·have q:=qn k hlt2;have hset:=k9 (f:=lmap m) hlt2;simp only[go_sem,seval]
         repeat' first|assumption|simp (disch:=first|assumption|omega|simp;try omega) only[ag];try simp only[go_sem,seval]|(with_reducible first|apply aa|intro)|exact ah|(try rw[ae]);omega
         refine cg (n:=0) [11] (aw [0,2,3,4,6,1,5,7,8] (.one 9 (.fst 10 (.one 11 .done)))) ?_;simp only[go_sem,seval]
         repeat' first|assumption|simp (disch:=first|assumption|omega|simp;try omega) only[ag];try simp only[go_sem,seval]|(with_reducible first|apply aa|intro)|(refine aA q ?_;simp only[go_sem,seval])|exact ah|(try rw[ae]);omega
         all_goals first
          | omega
          | (simp only[fW,tI];omega)
          | exact⟨k+1,by omega,by omega,rfl,hset⟩
        ·obtain rfl:k=c.next.length:=by omega
         simp only[go_sem,seval]
         repeat' first|assumption|simp (disch:=first|assumption|omega|simp;try omega) only[ag];try simp only[go_sem,seval]|(with_reducible first|apply aa|intro)|exact ah|(try rw[ae]);omega
         refine pn (E:=env 0) tok (σ:=Nat) (fun k=>[(2,.ptr 0 0),(4,.ptr 1 0),(6,.ptr 2 0),(7,.d (ai m)),(14,.d (dI k))])
          (fun k=>[.box [.d (dI c.inputs),.d (ai c.next),.d (aO c.gates),.d (ai c.outs)],.box [.d (dI 0),.d .nil,.d .nil,.d .nil],.box [.d (dI c.inputs),.sl 3 1 1 0 c.next.length,.d (aO gs),.sl 4 k 1 0 k],.row 1 1 true ((c.next.map (lmap m)).map (D.int .i64)),.row k 1 true (((c.outs.take k).map (lmap m)).map (D.int .i64))]) (fun k=>k<=c.outs.length) (fun k=>c.outs.length-k) [(2,3,1,true)] [] 1000 1000 ?_ ?_ ?_ ?_
         ·simp only[go_sem,seval]
         ·simp only[go_sem,seval]
         ·simp only[go_sem,seval];exact⟨0,by omega,rfl,by simp⟩
         ·intro k hk;by_cases hlt3:k<c.outs.length
          ·have q:=qo k hlt3;have hts:=vr (lmap m) 0 hlt3;simp only[go_sem,seval]
           repeat' first|assumption|simp (disch:=first|assumption|omega|simp;try omega) only[ag];try simp only[go_sem,seval]|(with_reducible first|apply aa|intro)|exact ah|(try rw[ae]);omega
           refine cg (n:=0) [10,12] (aw [0,2,3,5,1,4,6,7] (.one 8 (.one 9 (.one 10 (.fst 11 (.one 12 .done)))))) ?_;simp only[go_sem,seval]
           repeat' first|assumption|simp (disch:=first|assumption|omega|simp;try omega) only[ag];try simp only[go_sem,seval]|(with_reducible first|apply aa|intro)|(refine aA q ?_;simp only[go_sem,seval])|exact ah|(try rw[ae]);omega
           all_goals first
            | omega
            | (simp only[fW];omega)
            | exact⟨k+1,by omega,by omega,rfl,rfl,rfl,hts.symm⟩
          ·obtain rfl:k=c.outs.length:=by omega
           simp only[go_sem,seval]
           repeat' first|assumption|simp (disch:=first|assumption|omega|simp;try omega) only[ag];try simp only[go_sem,seval]|(with_reducible first|apply aa|intro)|exact ah|(try rw[ae]);omega
           all_goals
            refine⟨i+1,by omega,by omega,?_⟩;rw[hs];refine⟨⟨by omega,rfl⟩,by simp,⟨by omega,?_⟩,by simp,rfl⟩;rw[show 2*((aj c:Int)+(((ak c u false i).gates.length+1:Nat):Int)-1)=2*((aj c:Int)+((ak c u false i).gates.length:Int)) by omega]
 ·refine ce (E:=env 0) tok (σ:=Nat) (fun v=>[(1,.d (.bool false)),(2,.ptr 0 0),(4,.ptr 1 0),(5,.d (eZ u)),(6,.ptr 3 0),(7,.sl 4 v 1 0 v),(8,.d (dI v))])
   (fun v=>[.box [.d (dI c.inputs),.d (ai c.next),.d (aO c.gates),.d (ai c.outs)],.box [.d (dI 0),.d .nil,.d .nil,.d .nil],.row 1 1 true (c.next.map (D.int .i64)),.box [.d (dI c.inputs),.sl 2 1 1 0 c.next.length,.d .nil,.d .nil],.row v 1 true (((List.range v).map fun(v:Nat)=>2*(v:Int)).map (D.int .i64))]) (fun v=>v<=aj c) (fun v=>aj c-v) [] 1000 1000 ?_ ?_ ?_
  ·simp only[go_sem,seval]
  ·simp only[go_sem,seval];exact⟨0,by omega,⟨rfl,rfl⟩,rfl,rfl⟩
  ·intro v hv2;by_cases hlt:v<aj c
   ·simp only[go_sem,seval]
    repeat' first|assumption|simp (disch:=first|assumption|omega|simp;try omega) only[ag];try simp only[go_sem,seval]|(with_reducible first|apply aa|intro)|(refine aA hl1 ?_;simp only[go_sem,seval])|exact ah|(try rw[ae]);omega
    ·rw[rB]
    ·exact⟨v+1,by omega,by omega,rfl,rfl,by rw[kK,iz];rfl⟩
   ·obtain rfl:v=aj c:=by omega
    simp only[go_sem,seval]
    repeat' first|assumption|simp (disch:=first|assumption|omega|simp;try omega) only[ag];try simp only[go_sem,seval]|(with_reducible first|apply aa|intro)|(refine aA hl1 ?_;simp only[go_sem,seval])|exact ah|(try rw[ae]);omega
    refine pn (E:=env 0) tok (σ:=Nat) (fun i=>[(1,.d (.bool false)),(2,.ptr 0 0),(4,.ptr 1 0),(5,.d (eZ u)),(6,.ptr 3 0),(7,.sl 4 (aj c+i) 1 0 (aj c+i)),(9,.d (dI i))])
     (fun i=>[.box [.d (dI c.inputs),.d (ai c.next),.d (aO c.gates),.d (ai c.outs)],.box [.d (dI 0),.d .nil,.d .nil,.d .nil],.row 1 1 true (c.next.map (D.int .i64)),.box [.d (dI c.inputs),.sl 2 1 1 0 c.next.length,.sl 5 (ak c u false i).gates.length 2 0 (ak c u false i).gates.length,.d .nil],.row (aj c+i) 1 true ((ak c u false i).m.map (D.int .i64)),.row (ak c u false i).gates.length 2 true ((ak c u false i).gates.map dP)]) (fun i=>i<=c.gates.length) (fun i=>c.gates.length-i) [(3,2,2,true)] [] 1000 1000 ?_ ?_ ?_ ?_
    ·simp only[go_sem,seval]
    ·simp only[go_sem,seval]
    ·simp only[go_sem,seval];refine⟨0,by omega,?_⟩;simp only[go_sem,seval];exact⟨rfl,rfl,rfl,rfl⟩
    ·intro i hi;have hb:=n6 hv u false i hi;have hbs:=n6 hv u false (i+1);have hml:=hb.ml;by_cases hlt:i<c.gates.length
     ·by_cases hu:u.getD i false=true
      ·have hg:=hv.g i hlt;unfold bj at hg;have hA:=lI (l:=(c.gates.getD i (0,0)).1) hb.mb (by omega);have hB:=lI (l:=(c.gates.getD i (0,0)).2) hb.mb (by omega);have q1:=bf (ak c u false i).m (c.gates.getD i (0,0)).1 (by omega) (fun x hx=>(hb.mb x hx).1);have q2:=bf (ak c u false i).m (c.gates.getD i (0,0)).2 (by omega) (fun x hx=>(hb.mb x hx).1);have gl:=hb.gl;have hfs:aj c<=3000:=by omega
       have q3:=(ba ⟨c.inputs,c.next,(ak c u false i).gates ++ [(lmap (ak c u false i).m (c.gates.getD i (0,0)).1,lmap (ak c u false i).m (c.gates.getD i (0,0)).2)],[]⟩ (by show -1000<=c.inputs/\c.inputs<=1000;omega)).wk (ds':=[.agg [dI c.inputs,ai c.next,aO ((ak c u false i).gates ++ [(lmap (ak c u false i).m (c.gates.getD i (0,0)).1,lmap (ak c u false i).m (c.gates.getD i (0,0)).2)]),.nil]]) HB;have hq3:ac.first ⟨c.inputs,c.next,(ak c u false i).gates ++ [(lmap (ak c u false i).m (c.gates.getD i (0,0)).1,lmap (ak c u false i).m (c.gates.getD i (0,0)).2)],[]⟩=(aj c:Int):=hf
       rw[hq3] at q3;have hsc:dR (dI (aj c:Int)):=by show cp .i64 _;rw[ae];omega
       have hs:ak c u false (i+1)=⟨(ak c u false i).gates ++ [(lmap (ak c u false i).m (c.gates.getD i (0,0)).1,lmap (ak c u false i).m (c.gates.getD i (0,0)).2)],(ak c u false i).m ++ [2*((aj c:Int)+((ak c u false i).gates.length:Int))]⟩:=by
        rw[ak,mD,if_pos hu];rfl
       simp only[go_sem,seval,hu]
       repeat' first|assumption|simp (disch:=first|assumption|omega|simp;try omega) only[ag];try simp only[go_sem,seval,hu]|(with_reducible first|apply aa|intro)|exact ah|(try rw[ae]);omega
       refine cg (n:=0) [20,22] (aw [0,2,3,5,10,11,13,1,4,6,7,8,12,14,15,16] (.one 9 (.one 17 (.fst 18 (.one 19 (.one 20 (.fst 21 (.one 22 .done)))))))) ?_;simp only[go_sem,seval,hu]
       repeat' first|assumption|simp (disch:=first|assumption|omega|simp;try omega) only[ag];try simp only[go_sem,seval,hu]|(with_reducible first|apply aa|intro)|(refine aA q1 ?_;simp only[go_sem,seval,hu])|(refine aA q2 ?_;simp only[go_sem,seval,hu])|(refine nP (fun _=>⟨q3,hsc⟩) ?_;simp only[go_sem,seval,hu])|exact ah|(try rw[ae]);omega
       all_goals
        refine⟨i+1,by omega,by omega,?_⟩;rw[hs];refine⟨⟨by omega,rfl⟩,by simp,⟨by omega,?_⟩,by simp,rfl⟩;rw[show 2*((aj c:Int)+(((ak c u false i).gates.length+1:Nat):Int)-1)=2*((aj c:Int)+((ak c u false i).gates.length:Int)) by omega]
      ·have hu2:u.getD i false=false:=by simpa using hu
       have hs:ak c u false (i+1)=⟨(ak c u false i).gates,(ak c u false i).m ++ [0]⟩:=by rw[ak,mD,if_neg hu]
       simp only[go_sem,seval,hu2]
       repeat' first|assumption|simp (disch:=first|assumption|omega|simp;try omega) only[ag];try simp only[go_sem,seval,hu2]|(with_reducible first|apply aa|intro)|exact ah|(try rw[ae]);omega
       ·refine⟨i+1,by omega,by omega,?_⟩;rw[hs];exact⟨⟨rfl,rfl⟩,rfl,⟨rfl,rfl⟩,rfl,rfl⟩
     ·obtain rfl:i=c.gates.length:=by omega
      have hm0 : ∀ x∈(ak c u false c.gates.length).m,0<=x:=fun x hx=>(hb.mb x hx).1
      have hgl:=hb.gl;generalize (ak c u false c.gates.length).gates=gs at *
      generalize (ak c u false c.gates.length).m=m at *
      have hve:c.vars=c.first+c.gates.length:=rfl
      have qn : ∀ k,k<c.next.length->Pure prog 202 [ai m,dI (c.next.getD k 0)] (dI (lmap m (c.next.getD k 0))):=fun k hk=>by
       have:=hv.n _ (aP (l:=c.next) (z:=0) hk);unfold bj at this;exact bf m _ (by omega) hm0
      have qo : ∀ k,k<c.outs.length->Pure prog 202 [ai m,dI (c.outs.getD k 0)] (dI (lmap m (c.outs.getD k 0))):=fun k hk=>by
       have:=hv.o _ (aP (l:=c.outs) (z:=0) hk);unfold bj at this;exact bf m _ (by omega) hm0
      simp only[go_sem,seval]
      repeat' first|assumption|simp (disch:=first|assumption|omega|simp;try omega) only[ag];try simp only[go_sem,seval]|(with_reducible first|apply aa|intro)|exact ah|(try rw[ae]);omega
      refine pn (E:=env 0) tok (σ:=Nat) (fun k=>[(2,.ptr 0 0),(4,.ptr 1 0),(6,.ptr 3 0),(7,.d (ai m)),(13,.d (dI k))])
       (fun k=>[.box [.d (dI c.inputs),.d (ai c.next),.d (aO c.gates),.d (ai c.outs)],.box [.d (dI 0),.d .nil,.d .nil,.d .nil],.row 1 1 true (((c.next.take k).map (lmap m)++c.next.drop k).map (D.int .i64)),.box [.d (dI c.inputs),.sl 2 1 1 0 c.next.length,.d (aO gs),.d .nil]]) (fun k=>k<=c.next.length) (fun k=>c.next.length-k) [] [] 1000 1000 ?_ ?_ ?_ ?_
      ·simp only[go_sem,seval]
      ·simp only[go_sem,seval]
      ·simp only[go_sem,seval];exact⟨0,by omega,⟨ag (by omega),rfl⟩,rfl⟩
      ·intro k hk;have hkl:((c.next.take k).map (lmap m)++c.next.drop k).length=c.next.length:=by simp;omega
       by_cases hlt2:k<c.next.length
       ·have q:=qn k hlt2;have hset:=k9 (f:=lmap m) hlt2;simp only[go_sem,seval]
        repeat' first|assumption|simp (disch:=first|assumption|omega|simp;try omega) only[ag];try simp only[go_sem,seval]|(with_reducible first|apply aa|intro)|exact ah|(try rw[ae]);omega
        refine cg (n:=0) [11] (aw [0,2,3,4,6,1,5,7,8] (.one 9 (.fst 10 (.one 11 .done)))) ?_;simp only[go_sem,seval]
        repeat' first|assumption|simp (disch:=first|assumption|omega|simp;try omega) only[ag];try simp only[go_sem,seval]|(with_reducible first|apply aa|intro)|(refine aA q ?_;simp only[go_sem,seval])|exact ah|(try rw[ae]);omega
        all_goals first
         | omega
         | (simp only[fW,tI];omega)
         | exact⟨k+1,by omega,by omega,rfl,hset⟩
       ·obtain rfl:k=c.next.length:=by omega
        simp only[go_sem,seval]
        repeat' first|assumption|simp (disch:=first|assumption|omega|simp;try omega) only[ag];try simp only[go_sem,seval]|(with_reducible first|apply aa|intro)|exact ah|(try rw[ae]);omega
        refine pn (E:=env 0) tok (σ:=Nat) (fun k=>[(2,.ptr 0 0),(4,.ptr 1 0),(6,.ptr 3 0),(7,.d (ai m)),(14,.d (dI k))])
         (fun k=>[.box [.d (dI c.inputs),.d (ai c.next),.d (aO c.gates),.d (ai c.outs)],.box [.d (dI 0),.d .nil,.d .nil,.d .nil],.row 1 1 true ((c.next.map (lmap m)).map (D.int .i64)),.box [.d (dI c.inputs),.sl 2 1 1 0 c.next.length,.d (aO gs),.sl 4 k 1 0 k],.row k 1 true (((c.outs.take k).map (lmap m)).map (D.int .i64))]) (fun k=>k<=c.outs.length) (fun k=>c.outs.length-k) [(3,3,1,true)] [] 1000 1000 ?_ ?_ ?_ ?_
        ·simp only[go_sem,seval]
        ·simp only[go_sem,seval]
        ·simp only[go_sem,seval];exact⟨0,by omega,rfl,by simp⟩
        ·intro k hk;by_cases hlt3:k<c.outs.length
         ·have q:=qo k hlt3;have hts:=vr (lmap m) 0 hlt3;simp only[go_sem,seval]
          repeat' first|assumption|simp (disch:=first|assumption|omega|simp;try omega) only[ag];try simp only[go_sem,seval]|(with_reducible first|apply aa|intro)|exact ah|(try rw[ae]);omega
          refine cg (n:=0) [10,12] (aw [0,2,3,5,1,4,6,7] (.one 8 (.one 9 (.one 10 (.fst 11 (.one 12 .done)))))) ?_;simp only[go_sem,seval]
          repeat' first|assumption|simp (disch:=first|assumption|omega|simp;try omega) only[ag];try simp only[go_sem,seval]|(with_reducible first|apply aa|intro)|(refine aA q ?_;simp only[go_sem,seval])|exact ah|(try rw[ae]);omega
          all_goals first
           | omega
           | (simp only[fW];omega)
           | exact⟨k+1,by omega,by omega,rfl,rfl,rfl,hts.symm⟩
         ·obtain rfl:k=c.outs.length:=by omega
          simp only[go_sem,seval]
          repeat' first|assumption|simp (disch:=first|assumption|omega|simp;try omega) only[ag];try simp only[go_sem,seval]|(with_reducible first|apply aa|intro)|exact ah|(try rw[ae]);omega
          all_goals
           refine⟨i+1,by omega,by omega,?_⟩;rw[hs];refine⟨⟨by omega,rfl⟩,by simp,⟨by omega,?_⟩,by simp,rfl⟩;rw[show 2*((aj c:Int)+(((ak c u false i).gates.length+1:Nat):Int)-1)=2*((aj c:Int)+((ak c u false i).gates.length:Int)) by omega]

def cB (c:ac):ac:=built (built c true) false
def Tryz.lD (c:ac) (hv:c.Valid) (hv2:(built c true).Valid):bk prog 85 [dC c] (dC (cB c)):=by
 refine pu (E:=env 0) tok rfl 1000 func85 rfl rfl ntmps85 (by simp) fun ok=>?_
 simp only[go_sem,seval] at ok⊢;refine aA (cR c) ?_;rw[decide_eq_true hv];simp only[go_sem,seval]
 repeat' first|assumption|simp (disch:=first|assumption|omega|simp;try omega) only[];try simp only[go_sem,seval]|(with_reducible first|apply aa|intro)|(refine kA (no c hv) ?_;simp only[go_sem,seval])|(refine kA (m5 _ hv2) ?_;simp only[go_sem,seval])|(try rw[ae]);omega
 all_goals rfl
end Go.Proofs
