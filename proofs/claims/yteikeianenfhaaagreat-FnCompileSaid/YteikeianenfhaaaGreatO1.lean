/- Contracts, plain definitions and lemmas. Conditions: none; lemmas. -/
import Derived.Test.YteikeianenfhaaaGreatR1
import Derived.Test.YteikeianenfhaaaGreatVM8
import Derived.Test.YteikeianenfhaaaGreatC12
set_option maxRecDepth 20000
set_option linter.unusedSimpArgs false
set_option linter.unusedVariables false
set_option maxHeartbeats 2000000
set_option linter.defProp false
namespace Go.Proofs
open Go Go.VL Tryz
variable {n t:Int}{l:List (Int×Bool)}{i j first:Nat}{z:D}{α:Type}{u v:ZB}{c:ac}{g:List (Int×Int)}
structure v3 where
 gates:List (Int×Int)
 m:ZA
def qx (c:ac) (u:ZB) (share:Bool) (i:Nat) (s:v3):v3:=
 if u.getD i false then
  if share then⟨(fw ⟨c.inputs,c.next,s.gates,[]⟩ (lmap s.m (c.gates.getD i (0,0)).1) (lmap s.m (c.gates.getD i (0,0)).2)).1.gates,s.m ++ [(fw ⟨c.inputs,c.next,s.gates,[]⟩ (lmap s.m (c.gates.getD i (0,0)).1) (lmap s.m (c.gates.getD i (0,0)).2)).2]⟩
  else⟨s.gates ++ [(lmap s.m (c.gates.getD i (0,0)).1,lmap s.m (c.gates.getD i (0,0)).2)],s.m ++ [2*((ai c:Int)+(s.gates.length:Int))]⟩
 else⟨s.gates,s.m ++ [0]⟩
def aB (c:ac) (u:ZB) (share:Bool):Nat->v3
 | 0=>⟨[],(List.range (ai c)).map fun(v:Nat)=>2*(v:Int)⟩
 | i+1=>qx c u share i (aB c u share i)
def g0 (c:ac) (share:Bool):v3:=aB c (aL c c.gates.length) share c.gates.length
def built (c:ac) (share:Bool):ac:=⟨c.inputs,c.next.map (lmap (g0 c share).m),(g0 c share).gates,c.outs.map (lmap (g0 c share).m)⟩
structure Bc (c:ac) (i:Nat) (s:v3):Prop where
 ml:s.m.length=ai c+i
 mb : ∀ x∈s.m,0<=x/\x<2*((ai c:Int)+(s.gates.length:Int))
 gl:s.gates.length<=i
def pY {m:ZA}(hm : ∀ x∈m,0<=x/\x<2*n) {l:Int}(h:0<=l/\l<2*m.length):0<=lmap m l/\lmap m l<2*n:=by
 have hx:=hm _ (aO (l:=m) (i:=(l/2).toNat) (z:=0) (by omega));unfold lmap;split
 ·exact uN hx
 ·exact hx
def sN {c:ac}(hv:c.Valid) (u:ZB) (share:Bool) : ∀ i,i<=c.gates.length->Bc c i (aB c u share i)
 | 0,_=>⟨by simp[aB],fun x hx=>by
   simp only[aB,List.mem_map,List.mem_range] at hx;obtain⟨v,hv,rfl⟩:=hx;simp[aB];omega,by simp[aB]⟩
 | i+1,hi=>by
  obtain⟨h1,h2,h3⟩:=sN hv u share i (by omega);have hg:=hv.g i (by omega);have hf:c.first=(ai c:Int):=by have:=hv.i0;unfold ac.first ai;omega
  have hfp:1<=ai c:=by unfold ai;omega
  unfold bm at hg;have hA:=pY (l:=(c.gates.getD i (0,0)).1) h2 (by omega);have hB:=pY (l:=(c.gates.getD i (0,0)).2) h2 (by omega);rw[aB];generalize aB c u share i=s at *
  unfold qx;split
  ·split
   ·have hk:Mk ⟨c.inputs,c.next,s.gates,[]⟩:=⟨by have:=hv.i0;have:=hv.i1;simp only;omega,by have:=hv.ln;simp only;omega⟩;have hr:=u6 hk (x:=lmap s.m (c.gates.getD i (0,0)).1) (y:=lmap s.m (c.gates.getD i (0,0)).2) ⟨hA.1,by show _<2*((ai c+s.gates.length:Nat):Int);omega⟩ ⟨hB.1,by show _<2*((ai c+s.gates.length:Nat):Int);omega⟩;obtain⟨_,r2,r3,r4,r5⟩:=hr;unfold p6 at r5;have r2':ai (fw ⟨c.inputs,c.next,s.gates,[]⟩ (lmap s.m (c.gates.getD i (0,0)).1) (lmap s.m (c.gates.getD i (0,0)).2)).1=ai c:=r2;rw[r2'] at r5;simp only at r3 r4;exact⟨by simp[h1];omega,fun x hx=>by
     rcases List.mem_append.1 hx with hx|hx
     ·have:=h2 x hx;simp only;omega
     ·rw[List.mem_singleton.1 hx];simp only;omega,by simp only;omega⟩
   ·exact⟨by simp[h1];omega,fun x hx=>by
     rcases List.mem_append.1 hx with hx|hx
     ·have:=h2 x hx;simp only[b8,nn];omega
     ·rw[List.mem_singleton.1 hx];simp only[b8,nn];omega,by simp;omega⟩
  ·exact⟨by simp[h1];omega,fun x hx=>by
    rcases List.mem_append.1 hx with hx|hx
    ·exact h2 x hx
    ·rw[List.mem_singleton.1 hx];omega,by simp only;omega⟩
def tc {nx:ZA}{gs:List (Int×Int)}:pi [D.agg [dI n,aj nx,aY gs,.nil]] [dC ⟨n,nx,gs,[]⟩]:=by simp[go_sem]
def yO {f:Int->Int}{l:ZA}{k:Nat}(h:k<l.length):((l.take k).map f++l.drop k).set k (f (l.getD k 0))=(l.take (k+1)).map f++l.drop (k+1):=by
 have e:l.getD k 0=l[k]:=by simp[List.getD,h]
 have hl:((l.take k).map f).length=k:=by simp;omega
 rw[show l.drop k=l[k]::l.drop (k+1) from qk h,List.set_append_right _ _ (by omega),hl,Nat.sub_self,List.set_cons_zero,la h,gw,e,fA];rfl
set_option maxHeartbeats 4000000 in
def Tryz.kv (c:ac) (hv:c.Valid) (share:Bool):bk prog 152 [dC c,.bool share] (dC (built c share)):=by
 refine wD rfl 1000 func152 rfl rfl ntmps152 (by simp) fun ok=>?_
 simp only[go_sem,seval] at ok;have hfb:=hv.al;have hvb:=hv.aN;have hln:=hv.ln;have hlg:=hv.lg;have hlo:=hv.lo;have hi0:=hv.i0;have hi1:=hv.i1;simp only[go_sem,seval];refine az (qW c hv) ?_;rw[built,g0];have hul:=wj (c:=c) c.gates.length;generalize aL c c.gates.length=u at *
 have hf:c.first=(ai c:Int):=by unfold ac.first ai;omega
 have hl1:=br c (by omega);rw[hf] at hl1;simp only[go_sem,seval];apply yr
 ·intro key2;refine co (n:=0) [5,8] (ax [0,3,4] (.three 1 (.two 2 (.two 5 (.fst 6 (.one 7 (.one 8 .done))) 7 (.one 5 (.fst 6 (.one 8 .done)))) 7 (.one 2 (.one 5 (.fst 6 (.one 8 .done))))) 2 (.three 1 (.two 5 (.fst 6 (.one 7 (.one 8 .done))) 7 (.one 5 (.fst 6 (.one 8 .done)))) 5 (.two 1 (.fst 6 (.one 7 (.one 8 .done))) 7 (.one 1 (.fst 6 (.one 8 .done)))) 7 (.two 1 (.one 5 (.fst 6 (.one 8 .done))) 5 (.one 1 (.fst 6 (.one 8 .done))))) 7 (.two 1 (.one 2 (.one 5 (.fst 6 (.one 8 .done)))) 2 (.two 1 (.one 5 (.fst 6 (.one 8 .done))) 5 (.one 1 (.fst 6 (.one 8 .done))))))) ?_;simp only[go_sem,seval]
  repeat' first|simp (disch:=first|assumption|omega|simp;try omega) only[ag];try simp only[go_sem,seval]|(with_reducible first|apply aa|intro)|exact ah|(try rw[ae]);omega
  all_goals first
   | (
     refine GW (E:=env 0) [(1,.d (.bool share)),(2,.ptr 0 0),(4,.ptr 1 0),(5,.d (cf (u))),(6,.ptr 2 0),(7,.sl 4 0 1 0 0),(8,.d (dI 0))] [.box [.d (dI c.inputs),.d (aj c.next),.d (aY c.gates),.d (aj c.outs)],.box [.d (dI 0),.d .nil,.d .nil,.d .nil],.box [.d (dI c.inputs),.sl 3 1 1 0 c.next.length,.d .nil,.d .nil],.row 1 1 true (c.next.map (D.int .i64)),.row 0 1 true []] rfl ?_ ?_
     ·simp only[go_sem,seval];done
     ·exact key2.get)
   | (
     refine GW (E:=env 0) [(1,.d (.bool share)),(2,.ptr 0 0),(4,.ptr 1 0),(5,.d (cf (u))),(6,.ptr 3 0),(7,.sl 4 0 1 0 0),(8,.d (dI 0))] [.box [.d (dI c.inputs),.d (aj c.next),.d (aY c.gates),.d (aj c.outs)],.box [.d (dI 0),.d .nil,.d .nil,.d .nil],.row 1 1 true (c.next.map (D.int .i64)),.box [.d (dI c.inputs),.sl 2 1 1 0 c.next.length,.d .nil,.d .nil],.row 0 1 true []] rfl ?_ ?_
     ·simp only[go_sem,seval];done
     ·exact uO (m0:=[(1,.d (.bool share)),(2,.ptr 0 0),(4,.ptr 1 0),(5,.d (cf (u))),(6,.ptr 2 0),(7,.sl 4 0 1 0 0),(8,.d (dI 0))]) (H0:=[.box [.d (dI c.inputs),.d (aj c.next),.d (aY c.gates),.d (aj c.outs)],.box [.d (dI 0),.d .nil,.d .nil,.d .nil],.box [.d (dI c.inputs),.sl 3 1 1 0 c.next.length,.d .nil,.d .nil],.row 1 1 true (c.next.map (D.int .i64)),.row 0 1 true []]) [0,1,3,2,4] key2.get (by decide) rfl (by simp) rfl (by simp only[go_sem,seval]) (by simp only[go_sem,seval]))
 ·refine cQ (σ:=Nat) (fun v=>[(1,.d (.bool share)),(2,.ptr 0 0),(4,.ptr 1 0),(5,.d (cf u)),(6,.ptr 2 0),(7,.sl 4 v 1 0 v),(8,.d (dI v))])
   (fun v=>[.box [.d (dI c.inputs),.d (aj c.next),.d (aY c.gates),.d (aj c.outs)],.box [.d (dI 0),.d .nil,.d .nil,.d .nil],.box [.d (dI c.inputs),.sl 3 1 1 0 c.next.length,.d .nil,.d .nil],.row 1 1 true (c.next.map (D.int .i64)),.row v 1 true (((List.range v).map fun(v:Nat)=>2*(v:Int)).map (D.int .i64))]) (fun v=>v<=ai c) (fun v=>ai c-v) [] 1000 1000 ?_ ?_ ?_
  ·simp only[go_sem,seval]
  ·simp only[go_sem,seval];exact⟨0,by omega,⟨rfl,rfl⟩,rfl,rfl⟩
  ·intro v hv2;by_cases hlt:v<ai c
   ·simp only[go_sem,seval]
    repeat' first|simp (disch:=first|assumption|omega|simp;try omega) only[ag];try simp only[go_sem,seval]|(with_reducible first|apply aa|intro)|(refine az hl1 ?_;simp only[go_sem,seval])|exact ah|(try rw[ae]);omega
    ·rw[v7]
    ·exact⟨v+1,by omega,by omega,rfl,rfl,by rw[kO,gw];rfl⟩
   ·obtain rfl:v=ai c:=by omega
    simp only[go_sem,seval]
    repeat' first|simp (disch:=first|assumption|omega|simp;try omega) only[ag];try simp only[go_sem,seval]|(with_reducible first|apply aa|intro)|(refine az hl1 ?_;simp only[go_sem,seval])|exact ah|(try rw[ae]);omega
    apply yr
    ·intro key3;cases share with
     | true=>
      refine BJ (σ:=Nat) (fun i=>[(1,.d (.bool true)),(2,.ptr 0 0),(4,.ptr 1 0),(5,.d (cf u)),(6,.ptr 2 0),(7,.sl 4 (ai c+i) 1 0 (ai c+i)),(9,.d (dI i))])
       (fun i=>[.box [.d (dI c.inputs),.d (aj c.next),.d (aY c.gates),.d (aj c.outs)],.box [.d (dI 0),.d .nil,.d .nil,.d .nil],.box [.d (dI c.inputs),.sl 3 1 1 0 c.next.length,.d (aY (aB c u true i).gates),.d .nil],.row 1 1 true (c.next.map (D.int .i64)),.row (ai c+i) 1 true ((aB c u true i).m.map (D.int .i64))]) (fun i=>i<=c.gates.length) (fun i=>c.gates.length-i) [] [] 1000 1000 ?_ ?_ ?_ ?_
      ·simp only[go_sem,seval]
      ·simp only[go_sem,seval]
      ·simp only[go_sem,seval];refine⟨0,by omega,?_⟩;simp only[go_sem,seval];exact⟨rfl,rfl⟩
      ·intro i hi;have hb:=sN hv u true i hi;have hbs:=sN hv u true (i+1);have hml:=hb.ml;by_cases hlt:i<c.gates.length
       ·by_cases hu:u.getD i false=true
        ·have hg:=hv.g i hlt;unfold bm at hg;have hA:=pY (l:=(c.gates.getD i (0,0)).1) hb.mb (by omega);have hB:=pY (l:=(c.gates.getD i (0,0)).2) hb.mb (by omega);have q1:=ew (aB c u true i).m (c.gates.getD i (0,0)).1 (by omega) (fun x hx=>(hb.mb x hx).1);have q2:=ew (aB c u true i).m (c.gates.getD i (0,0)).2 (by omega) (fun x hx=>(hb.mb x hx).1);have gl:=hb.gl;have hfs:ai c<=3000:=by omega
         have q3:=r9 ⟨c.inputs,c.next,(aB c u true i).gates,[]⟩ 1 (lmap (aB c u true i).m (c.gates.getD i (0,0)).1) (lmap (aB c u true i).m (c.gates.getD i (0,0)).2) (by show 0<=c.inputs/\c.inputs<=1000;omega) (by show c.next.length<=1000;omega) (by show(aB c u true i).gates.length<=100000;omega) (by omega) (by omega)
         dsimp only at q3
         have hs:aB c u true (i+1)=⟨(fw ⟨c.inputs,c.next,(aB c u true i).gates,[]⟩ (lmap (aB c u true i).m (c.gates.getD i (0,0)).1) (lmap (aB c u true i).m (c.gates.getD i (0,0)).2)).1.gates,(aB c u true i).m ++ [(fw ⟨c.inputs,c.next,(aB c u true i).gates,[]⟩ (lmap (aB c u true i).m (c.gates.getD i (0,0)).1) (lmap (aB c u true i).m (c.gates.getD i (0,0)).2)).2]⟩:=by
          rw[aB,qx,if_pos hu];rfl
         simp only[go_sem,seval,hu]
         repeat' first|simp (disch:=first|assumption|omega|simp;try omega) only[ag];try simp only[go_sem,seval,hu]|(with_reducible first|apply aa|intro)|exact ah|(try rw[ae]);omega
         refine co (n:=0) [17,22] (ax [1,2,4,9,10,12,0,3,5,6,7,11,13,14,15] (.two 8 (.two 16 (.two 17 (ax [18,19,20] (.one 21 (.one 22 (.fst 23 .done)))) 21 (.one 17 (ax [18,19,20] (.one 22 (.fst 23 .done))))) 21 (.one 16 (.one 17 (ax [18,19,20] (.one 22 (.fst 23 .done)))))) 21 (.one 8 (.one 16 (.one 17 (ax [18,19,20] (.one 22 (.fst 23 .done)))))))) ?_;simp only[go_sem,seval,hu]
         repeat' first|simp (disch:=first|assumption|omega|simp;try omega) only[ag];try simp only[go_sem,seval,hu]|(with_reducible first|apply aa|intro)|(refine az q1 ?_;simp only[go_sem,seval,hu])|(refine az q2 ?_;simp only[go_sem,seval,hu])|(refine c7 q3 [3] ?_ ?_;(· simp only[go_sem,seval]);(rintro r0 H1 ⟨rfl,rfl⟩);simp only[go_sem,seval,hu])|exact ah|(try rw[ae]);omega
         all_goals (
          refine⟨i+1,by omega,by omega,?_⟩;rw[hs];exact⟨⟨rfl,rfl⟩,rfl,rfl,rfl⟩)
        ·have hu2:u.getD i false=false:=by simpa using hu
         have hs:aB c u true (i+1)=⟨(aB c u true i).gates,(aB c u true i).m ++ [0]⟩:=by rw[aB,qx,if_neg hu]
         simp only[go_sem,seval,hu2]
         repeat' first|simp (disch:=first|assumption|omega|simp;try omega) only[ag];try simp only[go_sem,seval,hu2]|(with_reducible first|apply aa|intro)|exact ah|(try rw[ae]);omega
         ·refine⟨i+1,by omega,by omega,?_⟩;rw[hs];exact⟨⟨rfl,rfl⟩,rfl,rfl,rfl⟩
       ·obtain rfl:i=c.gates.length:=by omega
        have hm0 : ∀ x∈(aB c u true c.gates.length).m,0<=x:=fun x hx=>(hb.mb x hx).1
        have hgl:=hb.gl;generalize (aB c u true c.gates.length).gates=gs at *
        generalize (aB c u true c.gates.length).m=m at *
        simp only[go_sem,seval]
        repeat' first|simp (disch:=first|assumption|omega|simp;try omega) only[ag];try simp only[go_sem,seval]|(with_reducible first|apply aa|intro)|exact ah|(try rw[ae]);omega
        refine BJ (σ:=Nat) (fun k=>[(2,.ptr 0 0),(4,.ptr 1 0),(6,.ptr 2 0),(7,.d (aj m)),(13,.d (dI k))])
         (fun k=>[.box [.d (dI c.inputs),.d (aj c.next),.d (aY c.gates),.d (aj c.outs)],.box [.d (dI 0),.d .nil,.d .nil,.d .nil],.box [.d (dI c.inputs),.sl 3 1 1 0 c.next.length,.d (aY gs),.d .nil],.row 1 1 true (((c.next.take k).map (lmap m)++c.next.drop k).map (D.int .i64))]) (fun k=>k<=c.next.length) (fun k=>c.next.length-k) [] [] 1000 1000 ?_ ?_ ?_ ?_
        ·simp only[go_sem,seval]
        ·simp only[go_sem,seval]
        ·simp only[go_sem,seval];exact⟨0,by omega,⟨ag (by omega),rfl⟩,rfl⟩
        ·revert gs m
         exact key3.get
     | false=>
      refine BJ (σ:=Nat) (fun i=>[(1,.d (.bool false)),(2,.ptr 0 0),(4,.ptr 1 0),(5,.d (cf u)),(6,.ptr 2 0),(7,.sl 4 (ai c+i) 1 0 (ai c+i)),(9,.d (dI i))])
       (fun i=>[.box [.d (dI c.inputs),.d (aj c.next),.d (aY c.gates),.d (aj c.outs)],.box [.d (dI 0),.d .nil,.d .nil,.d .nil],.box [.d (dI c.inputs),.sl 3 1 1 0 c.next.length,.sl 5 (aB c u false i).gates.length 2 0 (aB c u false i).gates.length,.d .nil],.row 1 1 true (c.next.map (D.int .i64)),.row (ai c+i) 1 true ((aB c u false i).m.map (D.int .i64)),.row (aB c u false i).gates.length 2 true ((aB c u false i).gates.map dP)]) (fun i=>i<=c.gates.length) (fun i=>c.gates.length-i) [(2,2,2,true)] [] 1000 1000 ?_ ?_ ?_ ?_
      ·simp only[go_sem,seval]
      ·simp only[go_sem,seval]
      ·simp only[go_sem,seval];refine⟨0,by omega,?_⟩;simp only[go_sem,seval];exact⟨rfl,rfl,rfl,rfl⟩
      ·intro i hi;have hb:=sN hv u false i hi;have hbs:=sN hv u false (i+1);have hml:=hb.ml;by_cases hlt:i<c.gates.length
       ·by_cases hu:u.getD i false=true
        ·have hg:=hv.g i hlt;unfold bm at hg;have hA:=pY (l:=(c.gates.getD i (0,0)).1) hb.mb (by omega);have hB:=pY (l:=(c.gates.getD i (0,0)).2) hb.mb (by omega);have q1:=ew (aB c u false i).m (c.gates.getD i (0,0)).1 (by omega) (fun x hx=>(hb.mb x hx).1);have q2:=ew (aB c u false i).m (c.gates.getD i (0,0)).2 (by omega) (fun x hx=>(hb.mb x hx).1);have gl:=hb.gl;have hfs:ai c<=3000:=by omega
         have q3:=(br ⟨c.inputs,c.next,(aB c u false i).gates ++ [(lmap (aB c u false i).m (c.gates.getD i (0,0)).1,lmap (aB c u false i).m (c.gates.getD i (0,0)).2)],[]⟩ (by show -1000<=c.inputs/\c.inputs<=1000;omega)).wk (ds':=[.agg [dI c.inputs,aj c.next,aY ((aB c u false i).gates ++ [(lmap (aB c u false i).m (c.gates.getD i (0,0)).1,lmap (aB c u false i).m (c.gates.getD i (0,0)).2)]),.nil]]) tc;have hq3:ac.first ⟨c.inputs,c.next,(aB c u false i).gates ++ [(lmap (aB c u false i).m (c.gates.getD i (0,0)).1,lmap (aB c u false i).m (c.gates.getD i (0,0)).2)],[]⟩=(ai c:Int):=hf
         rw[hq3] at q3;have hsc:eW (dI (ai c:Int)):=by show cp .i64 _;rw[ae];omega
         have hs:aB c u false (i+1)=⟨(aB c u false i).gates ++ [(lmap (aB c u false i).m (c.gates.getD i (0,0)).1,lmap (aB c u false i).m (c.gates.getD i (0,0)).2)],(aB c u false i).m ++ [2*((ai c:Int)+((aB c u false i).gates.length:Int))]⟩:=by
          rw[aB,qx,if_pos hu];rfl
         simp only[go_sem,seval,hu]
         repeat' first|simp (disch:=first|assumption|omega|simp;try omega) only[ag];try simp only[go_sem,seval,hu]|(with_reducible first|apply aa|intro)|exact ah|(try rw[ae]);omega
         refine co (n:=0) [20,22] (ax [0,2,3,5,10,11,13,1,4,6,7,8,12,14,15,16] (.one 9 (.one 17 (.fst 18 (.one 19 (.one 20 (.fst 21 (.one 22 .done)))))))) ?_;simp only[go_sem,seval,hu]
         repeat' first|simp (disch:=first|assumption|omega|simp;try omega) only[ag];try simp only[go_sem,seval,hu]|(with_reducible first|apply aa|intro)|(refine az q1 ?_;simp only[go_sem,seval,hu])|(refine az q2 ?_;simp only[go_sem,seval,hu])|(refine qD (fun _=>⟨q3,hsc⟩) ?_;simp only[go_sem,seval,hu])|exact ah|(try rw[ae]);omega
         all_goals
          refine⟨i+1,by omega,by omega,?_⟩;rw[hs];refine⟨⟨by omega,rfl⟩,by simp,⟨by omega,?_⟩,by simp,rfl⟩;rw[show 2*((ai c:Int)+(((aB c u false i).gates.length+1:Nat):Int)-1)=2*((ai c:Int)+((aB c u false i).gates.length:Int)) by omega]
        ·have hu2:u.getD i false=false:=by simpa using hu
         have hs:aB c u false (i+1)=⟨(aB c u false i).gates,(aB c u false i).m ++ [0]⟩:=by rw[aB,qx,if_neg hu]
         simp only[go_sem,seval,hu2]
         repeat' first|simp (disch:=first|assumption|omega|simp;try omega) only[ag];try simp only[go_sem,seval,hu2]|(with_reducible first|apply aa|intro)|exact ah|(try rw[ae]);omega
         ·refine⟨i+1,by omega,by omega,?_⟩;rw[hs];exact⟨⟨rfl,rfl⟩,rfl,⟨rfl,rfl⟩,rfl,rfl⟩
       ·obtain rfl:i=c.gates.length:=by omega
        have hm0 : ∀ x∈(aB c u false c.gates.length).m,0<=x:=fun x hx=>(hb.mb x hx).1
        have hgl:=hb.gl;generalize (aB c u false c.gates.length).gates=gs at *
        generalize (aB c u false c.gates.length).m=m at *
        simp only[go_sem,seval]
        repeat' first|simp (disch:=first|assumption|omega|simp;try omega) only[ag];try simp only[go_sem,seval]|(with_reducible first|apply aa|intro)|exact ah|(try rw[ae]);omega
        refine BJ (σ:=Nat) (fun k=>[(2,.ptr 0 0),(4,.ptr 1 0),(6,.ptr 2 0),(7,.d (aj m)),(13,.d (dI k))])
         (fun k=>[.box [.d (dI c.inputs),.d (aj c.next),.d (aY c.gates),.d (aj c.outs)],.box [.d (dI 0),.d .nil,.d .nil,.d .nil],.box [.d (dI c.inputs),.sl 3 1 1 0 c.next.length,.d (aY gs),.d .nil],.row 1 1 true (((c.next.take k).map (lmap m)++c.next.drop k).map (D.int .i64))]) (fun k=>k<=c.next.length) (fun k=>c.next.length-k) [] [] 1000 1000 ?_ ?_ ?_ ?_
        ·simp only[go_sem,seval]
        ·simp only[go_sem,seval]
        ·simp only[go_sem,seval];exact⟨0,by omega,⟨ag (by omega),rfl⟩,rfl⟩
        ·revert gs m
         exact key3.get
    ·intro gs hgl m hml hm0;have hve:c.vars=c.first+c.gates.length:=rfl
     have qn : ∀ k,k<c.next.length->Pure prog 202 [aj m,dI (c.next.getD k 0)] (dI (lmap m (c.next.getD k 0))):=fun k hk=>by
      have:=hv.n _ (aO (l:=c.next) (z:=0) hk);unfold bm at this;exact ew m _ (by omega) hm0
     have qo : ∀ k,k<c.outs.length->Pure prog 202 [aj m,dI (c.outs.getD k 0)] (dI (lmap m (c.outs.getD k 0))):=fun k hk=>by
      have:=hv.o _ (aO (l:=c.outs) (z:=0) hk);unfold bm at this;exact ew m _ (by omega) hm0
     intro k hk;have hkl:((c.next.take k).map (lmap m)++c.next.drop k).length=c.next.length:=by simp;omega
     by_cases hlt2:k<c.next.length
     ·have q:=qn k hlt2;have hset:=yO (f:=lmap m) hlt2;simp only[go_sem,seval]
      repeat' first|simp (disch:=first|assumption|omega|simp;try omega) only[ag];try simp only[go_sem,seval]|(with_reducible first|apply aa|intro)|exact ah|(try rw[ae]);omega
      refine co (n:=0) [11] (ax [0,2,3,4,6,1,5,7,8] (.one 9 (.fst 10 (.one 11 .done)))) ?_;simp only[go_sem,seval]
      repeat' first|simp (disch:=first|assumption|omega|simp;try omega) only[ag];try simp only[go_sem,seval]|(with_reducible first|apply aa|intro)|(refine az q ?_;simp only[go_sem,seval])|exact ah|(try rw[ae]);omega
      all_goals first
       | omega
       | (simp only[iy,wl];omega)
       | exact⟨k+1,by omega,by omega,rfl,hset⟩
     ·obtain rfl:k=c.next.length:=by omega
      simp only[go_sem,seval]
      repeat' first|simp (disch:=first|assumption|omega|simp;try omega) only[ag];try simp only[go_sem,seval]|(with_reducible first|apply aa|intro)|exact ah|(try rw[ae]);omega
      refine BJ (σ:=Nat) (fun k=>[(2,.ptr 0 0),(4,.ptr 1 0),(6,.ptr 2 0),(7,.d (aj m)),(14,.d (dI k))])
       (fun k=>[.box [.d (dI c.inputs),.d (aj c.next),.d (aY c.gates),.d (aj c.outs)],.box [.d (dI 0),.d .nil,.d .nil,.d .nil],.box [.d (dI c.inputs),.sl 3 1 1 0 c.next.length,.d (aY gs),.sl 4 k 1 0 k],.row 1 1 true ((c.next.map (lmap m)).map (D.int .i64)),.row k 1 true (((c.outs.take k).map (lmap m)).map (D.int .i64))]) (fun k=>k<=c.outs.length) (fun k=>c.outs.length-k) [(2,3,1,true)] [] 1000 1000 ?_ ?_ ?_ ?_
      ·simp only[go_sem,seval]
      ·simp only[go_sem,seval]
      ·simp only[go_sem,seval];exact⟨0,by omega,rfl,by simp⟩
      ·intro k hk;by_cases hlt3:k<c.outs.length
       ·have q:=qo k hlt3;have hts:=Dh (lmap m) 0 hlt3;simp only[go_sem,seval]
        repeat' first|simp (disch:=first|assumption|omega|simp;try omega) only[ag];try simp only[go_sem,seval]|(with_reducible first|apply aa|intro)|exact ah|(try rw[ae]);omega
        refine co (n:=0) [10,12] (ax [0,2,3,5,1,4,6,7] (.one 8 (.one 9 (.one 10 (.fst 11 (.one 12 .done)))))) ?_;simp only[go_sem,seval]
        repeat' first|simp (disch:=first|assumption|omega|simp;try omega) only[ag];try simp only[go_sem,seval]|(with_reducible first|apply aa|intro)|(refine az q ?_;simp only[go_sem,seval])|exact ah|(try rw[ae]);omega
        all_goals first
         | omega
         | (simp only[iy];omega)
         | exact⟨k+1,by omega,by omega,rfl,rfl,rfl,hts.symm⟩
       ·obtain rfl:k=c.outs.length:=by omega
        simp only[go_sem,seval]
        repeat' first|simp (disch:=first|assumption|omega|simp;try omega) only[ag];try simp only[go_sem,seval]|(with_reducible first|apply aa|intro)|exact ah|(try rw[ae]);omega

def bL (c:ac):ac:=built (built c true) false
def Tryz.mK (c:ac) (hv:c.Valid) (hv2:(built c true).Valid):bk prog 85 [dC c] (dC (bL c)):=by
 refine wD rfl 1000 func85 rfl rfl ntmps85 (by simp) fun ok=>?_
 simp only[go_sem,seval] at ok⊢;refine az (cX c) ?_;rw[decide_eq_true hv];simp only[go_sem,seval]
 repeat' first|simp (disch:=omega) only[];try simp only[go_sem,seval]|(with_reducible first|apply aa|intro)|(refine kN (kv c hv true) ?_;simp only[go_sem,seval])|(refine kN (kv _ hv2 false) ?_;simp only[go_sem,seval])|(try rw[ae]);omega
 all_goals rfl
def Ry {a b:ac}(h:a.inputs=b.inputs/\a.next=b.next/\a.gates=b.gates/\a.outs=b.outs):a=b:=by
 obtain⟨h1,h2,h3,h4⟩:=h;cases a;cases b;simp only at h1 h2 h3 h4;simp[h1,h2,h3,h4]

structure ar where
 table:Int
 select:ZA
 gj:Bool
 drive:ZA
noncomputable instance:DecidableEq ar:=fun _ _=>Classical.propDecidable _
variable {x:ar}
abbrev fO (t:ar):D:=.agg [dI t.table,aj t.select,dB t.gj,aj t.drive]
abbrev PI (n:Int) (t:ar):D:=.agg [dI n,dI t.table,aj t.select,dB t.gj,aj t.drive]
def ji (n:Int):Bool:=(decide (0<=n)&&decide (n<=7)) || decide (n=15)
def gV (t:Int):Int:=if 5<=t then t-5 else -1
def oS (t:Int):Int:=if 0<t%5 then t-1 else -1
def oF (t:Int):Int:=if t%5<4 then t+1 else -1
def oP (t:Int):Int:=if t<20 then t+5 else -1
def nb (t d:Int):Int:=if d=2 then gV t else if d=3 then oS t else if d=4 then oF t else if d=5 then oP t else -1
def fB (t d:Int):Bool:=decide (d=0∨d=1∨(2<=d/\d<=5/\0<=nb t d)∨(d=6/\t%5=0/\t/5<4))
def ar.ok (t:Int) (x:ar):Bool:=(decide (0<=x.table)&&decide (x.table<256))&&decide (x.select.length=3)&&decide (x.drive.length=8)&&x.select.all ji&&x.drive.all (fB t)
def Tryz.lc (n:Int):Pure prog 184 [dI n] (.bool (ji n)):=by
 refine bz func184 rfl ntmps184 fun ok=>?_
 simp only[go_sem,seval] at ok⊢;simp only[ji];rw[Bool.eq_iff_iff];simp;omega
def Tryz.ll (n:Int):Pure prog 182 [dI n] (.bool (ji n)):=by
 refine bz func182 rfl ntmps182 fun ok=>?_
 simp only[go_sem,seval] at ok⊢;refine az (iL _ _ _) ?_;simp only[go_sem,seval];simp[ji]
def Tryz.cC (t:Int) (ht:0<=t/\t<=24):Pure prog 185 [dI t] (.agg [dI (gV t),dI (oS t),dI (oF t),dI (oP t)]):=by
 refine bz func185 rfl ntmps185 fun ok=>?_
 simp only[go_sem,seval] at ok⊢
 repeat' first|simp (disch:=omega) only[aC];try simp only[go_sem,seval]|(with_reducible first|apply aa|intro)|(try rw[ae]);omega
 all_goals (simp only[gV,oS,oF,oP];first|rw[if_pos (by assumption)]|rw[if_neg (by assumption)])
def Tryz.gt (t d:Int) (ht:0<=t/\t<=24):Pure prog 196 [dI t,dI d] (dI (nb t d)):=by
 refine bz func196 rfl ntmps196 fun ok=>?_
 simp only[go_sem,seval] at ok⊢
 repeat' first|simp (disch:=omega) only[aC];try simp only[go_sem,seval]|(with_reducible first|apply aa|intro)|(try rw[ae]);omega
 all_goals (simp only[nb,gV,oS,oF,oP];(repeat' split) <;> omega)
def ar.b6:x.ok t=true↔(0<=x.table/\x.table<256)/\x.select.length=3/\x.drive.length=8/\(∀ j,j<x.select.length->ji (x.select.getD j 0)=true)/\∀ j,j<x.drive.length->fB t (x.drive.getD j 0)=true:=by
 simp only[ar.ok,gO,decide_eq_true_eq,GX _ _ (0:Int),and_assoc]
def ar.lj (h:x.ok t=true->False):false=x.ok t:=by
 cases e:x.ok t with
 | false=>rfl
 | true=>exact absurd e h
def Tryz.mY (x:ar) (t:Int) (ht:0<=t/\t<=24):Pure prog 124 [fO x,dI t] (.bool (x.ok t)):=by
 refine bz func124 rfl ntmps124 fun ok=>?_
 simp only[go_sem,seval] at ok⊢;refine⟨fun h=>ar.lj fun h2=>by rw[ar.b6] at h2;omega,fun h=>?_⟩;refine cQ (σ:=Nat) (fun i=>[(1,.d (dI t)),(2,.ptr 0 0),(31,.d (aj x.select)),(32,.d (dI x.select.length)),(33,.d (dI i))]) (fun i=>[.box [.d (dI x.table),.d (aj x.select),.d (dB x.gj),.d (aj x.drive)]])
  (fun i=>i<=x.select.length/\∀ j,j<i->ji (x.select.getD j 0)=true) (fun i=>x.select.length-i) [] 1000 1000 ?_ ?_ ?_
 ·simp only[go_sem,seval]
 ·simp only[go_sem,seval];exact⟨0,⟨by omega,fun j hj=>absurd hj (by omega)⟩,rfl⟩
 ·rintro i ⟨hi,hinv⟩;simp only[go_sem,seval]
  repeat' first|simp (disch:=omega) only[aC];try simp only[go_sem,seval]|(with_reducible first|apply aa|intro)|(refine az (lc _) ?_;simp only[go_sem,seval])|(refine az (cC t ht) ?_;simp only[go_sem,seval])|(try rw[ae]);omega
  ·rename_i h1 h2;refine ar.lj fun h3=>?_
   have:=(ar.b6.1 h3).2.2.2.1 i h1;rw[h2] at this;exact absurd this (by simp)
  ·rename_i h1 h2;refine⟨i+1,⟨by omega,fun j hj=>?_⟩,by omega,rfl⟩;by_cases hji:j=i
   ·subst hji;exact h2
   ·exact hinv j (by omega)
  ·rename_i h1;have hs : ∀ j,j<x.select.length->ji (x.select.getD j 0)=true:=fun j hj=>hinv j (by omega)
   clear hinv hi h1;refine cQ (σ:=Nat) (fun i=>[(1,.d (dI t)),(2,.ptr 0 0),(7,.ptr 1 0),(44,.d (aj x.drive)),(45,.d (dI x.drive.length)),(46,.d (dI i))]) (fun i=>[.box [.d (dI x.table),.d (aj x.select),.d (dB x.gj),.d (aj x.drive)],.box [.d (dI (gV t)),.d (dI (oS t)),.d (dI (oF t)),.d (dI (oP t))]])
    (fun i=>i<=x.drive.length/\∀ j,j<i->fB t (x.drive.getD j 0)=true) (fun i=>x.drive.length-i) [] 1000 1000 ?_ ?_ ?_
   ·simp only[go_sem,seval]
   ·simp only[go_sem,seval];exact⟨0,⟨by omega,fun j hj=>absurd hj (by omega)⟩,rfl⟩
   ·rintro i ⟨hi,hinv⟩;have step:i<x.drive.length->fB t (x.drive.getD i 0)=true->∃ s',(s'<=x.drive.length/\∀ j,j<s'->fB t (x.drive.getD j 0)=true)/\x.drive.length-s'<x.drive.length-i/\i+1=s':=by
     intro h1 h2;refine⟨i+1,⟨by omega,fun j hj=>?_⟩,by omega,rfl⟩;by_cases hji:j=i
     ·subst hji;exact h2
     ·exact hinv j (by omega)
    have stop:i<x.drive.length->fB t (x.drive.getD i 0)=false->false=x.ok t:=by
     intro h1 h2;refine ar.lj fun h3=>?_
     have:=(ar.b6.1 h3).2.2.2.2 i h1;rw[h2] at this;exact absurd this (by simp)
    have fin : ¬ i<x.drive.length->true=x.ok t:=fun hge=>(ar.b6.2 ⟨by omega,by omega,by omega,hs,fun j hj=>hinv j (by omega)⟩).symm
    have hd:x.drive.getD i 0=0∨x.drive.getD i 0=1∨x.drive.getD i 0=2∨x.drive.getD i 0=3∨x.drive.getD i 0=4∨x.drive.getD i 0=5∨x.drive.getD i 0=6∨(x.drive.getD i 0<0∨6<x.drive.getD i 0):=by omega
    rcases hd with hd|hd|hd|hd|hd|hd|hd|hd
    ·simp only[go_sem,seval,hd];rw[hd] at step stop
     repeat' first|simp (disch:=omega) only[aC];try simp only[go_sem,seval]|(with_reducible first|apply aa|intro)|(try rw[ae]);omega
     all_goals first
      | exact fin (by assumption)
      | exact stop (by assumption) (by simp[fB,nb];omega)
      | exact step (by assumption) (by simp[fB,nb] <;> omega)
    ·simp only[go_sem,seval,hd];rw[hd] at step stop
     repeat' first|simp (disch:=omega) only[aC];try simp only[go_sem,seval]|(with_reducible first|apply aa|intro)|(try rw[ae]);omega
     all_goals first
      | exact fin (by assumption)
      | exact stop (by assumption) (by simp[fB,nb];omega)
      | exact step (by assumption) (by simp[fB,nb] <;> omega)
    ·simp only[go_sem,seval,hd];rw[hd] at step stop
     repeat' first|simp (disch:=omega) only[aC];try simp only[go_sem,seval]|(with_reducible first|apply aa|intro)|(try rw[ae]);omega
     all_goals first
      | exact fin (by assumption)
      | exact stop (by assumption) (by simp[fB,nb];omega)
      | exact step (by assumption) (by simp[fB,nb] <;> omega)
    ·simp only[go_sem,seval,hd];rw[hd] at step stop
     repeat' first|simp (disch:=omega) only[aC];try simp only[go_sem,seval]|(with_reducible first|apply aa|intro)|(try rw[ae]);omega
     all_goals first
      | exact fin (by assumption)
      | exact stop (by assumption) (by simp[fB,nb];omega)
      | exact step (by assumption) (by simp[fB,nb] <;> omega)
    ·simp only[go_sem,seval,hd];rw[hd] at step stop
     repeat' first|simp (disch:=omega) only[aC];try simp only[go_sem,seval]|(with_reducible first|apply aa|intro)|(try rw[ae]);omega
     all_goals first
      | exact fin (by assumption)
      | exact stop (by assumption) (by simp[fB,nb];omega)
      | exact step (by assumption) (by simp[fB,nb] <;> omega)
    ·simp only[go_sem,seval,hd];rw[hd] at step stop
     repeat' first|simp (disch:=omega) only[aC];try simp only[go_sem,seval]|(with_reducible first|apply aa|intro)|(try rw[ae]);omega
     all_goals first
      | exact fin (by assumption)
      | exact stop (by assumption) (by simp[fB,nb];omega)
      | exact step (by assumption) (by simp[fB,nb] <;> omega)
    ·simp only[go_sem,seval,hd];rw[hd] at step stop
     repeat' first|simp (disch:=omega) only[aC];try simp only[go_sem,seval]|(with_reducible first|apply aa|intro)|(try rw[ae]);omega
     all_goals first
      | exact fin (by assumption)
      | exact stop (by assumption) (by simp[fB,nb];omega)
      | exact step (by assumption) (by simp[fB,nb] <;> omega)
    ·simp only[go_sem,seval]
     repeat' first|simp (disch:=omega) only[aC];try simp only[go_sem,seval]|(with_reducible first|apply aa|intro)|(try rw[ae]);omega
     all_goals first
      | exact fin (by assumption)
      | exact stop (by assumption) (by simp only[fB,decide_eq_false_iff_not];omega)
      | exact step (by assumption) (by simp only[fB,decide_eq_true_eq];omega)
def Tryz.r6 (x:ar) (t:Int) (ht:0<=t/\t<=24):Pure prog 180 [fO x,dI t] (.bool (x.ok t)):=by
 refine bz func180 rfl ntmps180 fun ok=>?_
 simp only[go_sem,seval] at ok⊢;refine az (iL _ _ _) ?_;simp only[go_sem,seval];refine⟨fun h=>ar.lj fun h2=>by rw[ar.b6] at h2;omega,fun h=>?_⟩;refine cQ (σ:=Nat) (fun i=>[(1,.d (dI t)),(2,.ptr 0 0),(5,.d (dI i))]) (fun i=>[.box [.d (dI x.table),.d (aj x.select),.d (dB x.gj),.d (aj x.drive)]])
  (fun i=>i<=3/\∀ j,j<i->ji (x.select.getD j 0)=true) (fun i=>3-i) [] 1000 1000 ?_ ?_ ?_
 ·simp only[go_sem,seval]
 ·simp only[go_sem,seval];exact⟨0,⟨by omega,fun j hj=>absurd hj (by omega)⟩,rfl⟩
 ·rintro i ⟨hi,hinv⟩;simp only[go_sem,seval]
  repeat' first|simp (disch:=omega) only[aC];try simp only[go_sem,seval]|(with_reducible first|apply aa|intro)|(refine az (ll _) ?_;simp only[go_sem,seval])|(try rw[ae]);omega
  ·rename_i h1 h2;refine ar.lj fun h3=>?_
   have:=(ar.b6.1 h3).2.2.2.1 i (by omega);rw[h2] at this;exact absurd this (by simp)
  ·rename_i h1 h2;refine⟨i+1,⟨by omega,fun j hj=>?_⟩,by omega,rfl⟩;by_cases hji:j=i
   ·subst hji;exact h2
   ·exact hinv j (by omega)
  ·rename_i h1;have hs : ∀ j,j<x.select.length->ji (x.select.getD j 0)=true:=fun j hj=>hinv j (by omega)
   clear hinv hi h1;refine cQ (σ:=Nat) (fun i=>[(1,.d (dI t)),(2,.ptr 0 0),(6,.d (dI i))]) (fun i=>[.box [.d (dI x.table),.d (aj x.select),.d (dB x.gj),.d (aj x.drive)]])
    (fun i=>i<=8/\∀ j,j<i->fB t (x.drive.getD j 0)=true) (fun i=>8-i) [] 1000 1000 ?_ ?_ ?_
   ·simp only[go_sem,seval]
   ·simp only[go_sem,seval];exact⟨0,⟨by omega,fun j hj=>absurd hj (by omega)⟩,rfl⟩
   ·rintro i ⟨hi,hinv⟩;simp only[go_sem,seval]
    repeat' first|simp (disch:=omega) only[aC];try simp only[go_sem,seval]|(with_reducible first|apply aa|intro)|(refine az (iL _ _ _) ?_;simp only[go_sem,seval])|(refine iu (fun hg=>iL _ _ _) ?_;simp only[go_sem,seval])|(refine iu (fun hg=>gt _ _ (by omega)) ?_;simp only[go_sem,seval])|(try rw[ae]);omega
    ·rename_i h1 h2;refine ar.lj fun h3=>?_
     have:=(ar.b6.1 h3).2.2.2.2 i (by omega);simp only[fB,decide_eq_true_eq] at this;omega
    ·rename_i h1 h2;exact B6 (by omega) (by simp only[fB,decide_eq_true_eq];omega) hinv
    ·exact(ar.b6.2 ⟨by omega,by omega,by omega,hs,fun j hj=>hinv j (by omega)⟩).symm

abbrev dQ (p:Int×Bool):D:=.agg [dI p.1,dB p.2]
abbrev dm (l:List ar):D:=.lst 4 (l.map fun x=>fO x)
abbrev jV (l:List (Int×Bool)):D:=.lst 2 (l.map fun x=>dQ x)
structure aG where
 tiles:List ar
 pads:List (Int×Bool)
noncomputable instance:DecidableEq aG:=fun _ _=>Classical.propDecidable _
abbrev dK (k:aG):D:=.agg [dm k.tiles,jV k.pads]
def ba:ar:=⟨0,[],false,[]⟩
abbrev JG (p:Int×ar):D:=PI p.1 p.2
def cE {l:List ar}(h:i<l.length):(l.map fun x=>fO x).getD i z=fO (l.getD i ba):=cn _ _ _ _ _ h
def bw (h:i<l.length):(l.map fun x=>dQ x).getD i z=dQ (l.getD i (0,false)):=cn _ _ _ _ _ h
def Cd {l:List (Int×ar)}(h:i<l.length):(l.map fun x=>JG x).getD i z=JG (l.getD i (0,ba)):=cn _ _ _ _ _ h
@[go_sem] def zrt:ao (l.map fun x=>dQ x)=true:=by induction l with|nil=>rfl|cons x r ih=>simp[ao,D.cells,D.scalar,ih]

def eO {l:List α}{x z : α}(h:i<l.length):(l.set i x).getD i z=x:=by simp[List.getD,h]
def po {l:List α}{x z : α}(h:i≠j):(l.set i x).getD j z=l.getD j z:=by simp[List.getD,List.getElem?_set,h]

inductive Used (c:ac):Nat->Prop where
 | root {j:Nat}{l:Int}:l∈c.outs++c.next->l/2=c.first+(j:Int)->Used c j
 | op {i j:Nat}{l:Int}:i<c.gates.length->Used c i->(l=(c.gates.getD i (0,0)).1∨l=(c.gates.getD i (0,0)).2)->l/2=c.first+(j:Int)->Used c j
def FQ {first r:Int}(hj:j<u.length):(k8 first u r).getD j false=true↔u.getD j false=true∨r/2=first+(j:Int):=by
 unfold k8;split
 ·by_cases e:(r/2-first).toNat=j
  ·rw[e,eO hj];simp only[true_iff];right;omega
  ·rw[po e];constructor
   ·exact .inl
   ·rintro(h|h)
    ·exact h
    ·omega
 ·constructor
  ·exact .inl
  ·rintro(h|h)
   ·exact h
   ·omega
def FS {first:Int}{l:ZA}{u:ZB}{j:Nat}(hj:j<u.length) : ∀ k,(jU first l u k).getD j false=true↔u.getD j false=true∨∃ i,i<k/\(l.getD i 0)/2=first+(j:Int)
 | 0=>by
  constructor
  ·exact .inl
  ·rintro(h|⟨i,hi,-⟩)
   ·exact h
   ·omega
 | k+1=>by
  rw[jU,FQ (by rw[CF];exact hj),FS hj k];constructor
  ·rintro((h|⟨i,hi,h⟩)|h)
   ·exact .inl h
   ·exact .inr ⟨i,by omega,h⟩
   ·exact .inr ⟨k,by omega,h⟩
  ·rintro(h|⟨i,hi,h⟩)
   ·exact .inl (.inl h)
   ·by_cases e:i=k
    ·subst e;exact .inr h
    ·exact .inl (.inr ⟨i,by omega,h⟩)
def Bp (hj:j<u.length):(jc c u i 2).getD j false=true↔u.getD j false=true∨u.getD i false=true/\((c.gates.getD i (0,0)).1/2=c.first+(j:Int)∨(c.gates.getD i (0,0)).2/2=c.first+(j:Int)):=by
 have e:jc c u i 2=if u.getD i false then k8 c.first (k8 c.first u (c.gates.getD i (0,0)).1) (c.gates.getD i (0,0)).2 else u:=rfl
 rw[e];split
 ·rename_i h;rw[FQ (by rw[Cv];exact hj),FQ hj,h];simp only[true_and,or_assoc]
 ·rename_i h;constructor
  ·exact .inl
  ·rintro(h2|⟨h2,-⟩)
   ·exact h2
   ·exact absurd h2 h
def DJ {c:ac}{j:Nat}(hj:j<c.gates.length) {k:Nat} : ∀ d,(aL c k).getD j false=true->(aL c (k+d)).getD j false=true
 | 0,h=>h
 | d+1,h=>by
  have ih:=DJ hj d h;rw[<-ja,aL,Bp (by rw[wj];exact hj)];exact .inl ih
def MT {c:ac}(hv:c.Valid) {i:Nat}(hi:i<c.gates.length) : ∀ d,c.gates.length-1-i+d<=c.gates.length->((aL c (c.gates.length-1-i+d)).getD i false=true↔(aL c (c.gates.length-1-i)).getD i false=true)
 | 0,_=>Iff.rfl
 | d+1,h=>by
  rw[<-ja,aL,Bp (by rw[wj];exact hi),MT hv hi d (by omega)];have hg:=hv.g (c.gates.length-1-(c.gates.length-1-i+d)) (by omega);unfold bm at hg;constructor
  ·rintro(h2|⟨-,h2|h2⟩)
   ·exact h2
   ·omega
   ·omega
  ·exact .inl
def vW (hv:c.Valid) (hj:j<c.gates.length):(aL c c.gates.length).getD j false=true↔Used c j:=by
 have base : ∀ {j:Nat},j<c.gates.length->((aL c 0).getD j false=true↔∃ l∈c.outs++c.next,l/2=c.first+(j:Int)):=by
  intro j hj;rw[aL,FS (by simpa using hj)];have e:(List.replicate c.gates.length false).getD j false=false:=by
   rw[List.getD_eq_getElem?_getD,List.getElem?_replicate];split <;> rfl
  rw[e];constructor
  ·rintro(h|⟨i,hi,h⟩)
   ·cases h
   ·exact⟨_,aO hi,h⟩
  ·rintro⟨l,hl,h⟩;obtain⟨i,hi,rfl⟩:=gm (0:Int) hl;exact .inr ⟨i,hi,h⟩
 constructor
 ·have key : ∀ k,k<=c.gates.length->∀ j,j<c.gates.length->(aL c k).getD j false=true->Used c j:=by
   intro k;induction k with
   | zero=>
    intro _ j hj h;obtain⟨l,hl,e⟩:=(base hj).1 h;exact .root hl e
   | succ k ih=>
    intro hk j hj h;rw[aL,Bp (by rw[wj];exact hj)] at h;rcases h with h|⟨h1,h2|h2⟩
    ·exact ih (by omega) j hj h
    ·exact .op (i:=c.gates.length-1-k) (by omega) (ih (by omega) _ (by omega) h1) (.inl rfl) h2
    ·exact .op (i:=c.gates.length-1-k) (by omega) (ih (by omega) _ (by omega) h1) (.inr rfl) h2
  exact key _ (aD _) j hj
 ·intro h;induction h with
  | root hl e=>
   have:=DJ hj c.gates.length ((base hj).2 ⟨_,hl,e⟩)
   rwa [lN] at this
  | @op i j l hi hu hl e ih=>
   have h1:=ih hi;have h2:=(MT hv hi (i+1) (by omega)).1 (by rw[show c.gates.length-1-i+(i+1)=c.gates.length by omega];exact h1);have h3:(aL c (c.gates.length-1-i+1)).getD j false=true:=by
    rw[aL,Bp (by rw[wj];exact hj),show c.gates.length-1-(c.gates.length-1-i)=i by omega];refine .inr ⟨h2,?_⟩;rcases hl with rfl|rfl
    ·exact .inl e
    ·exact .inr e
   have:=DJ hj i h3
   rwa [show c.gates.length-1-i+1+i=c.gates.length by omega] at this
def bq (v:ZB) (g:List (Int×Int)):ZB:=g.foldl (fun v p=>v ++ [aW v p.1&&aW v p.2]) v
def zi (v:ZB) (g:List (Int×Int)) (p:Int×Int):bq v (g ++ [p])=bq v g ++ [aW (bq v g) p.1&&aW (bq v g) p.2]:=by simp[bq]
def Dj (v:ZB) : ∀ (h g:List (Int×Int)),∃ r,bq v (g++h)=bq v g++r
 | [],g=>⟨[],by simp⟩
 | p::h,g=>by
  obtain⟨r,e⟩:=Dj v h (g ++ [p]);refine⟨(aW (bq v g) p.1&&aW (bq v g) p.2)::r,?_⟩;rw[fA] at e;rw[show g++p::h=g++([p]++h) from rfl,e,zi,fA];rfl
def wO : ∀ (g:List (Int×Int)) (v:ZB),(bq v g).length=v.length+g.length
 | [],v=>rfl
 | p::g,v=>by
  show(bq (v ++ [_]) g).length=_
  rw[wO g];simp;omega
def Hg (c:ac) (st ins:ZB) : ∀ i,i<=c.gates.length->iR c st ins i=bq (false::(ins++st)) (c.gates.take i)
 | 0,_=>rfl
 | i+1,h=>by
  have e:c.gates.take (i+1)=c.gates.take i ++ [c.gates.getD i (0,0)]:=by
   rw[la (by omega)];simp[List.getD,show i<c.gates.length by omega]
  rw[e,zi,iR,Hg c st ins i (by omega)]
def KS (c:ac) (st ins:ZB):values c st ins=bq (false::(ins++st)) c.gates:=by
 rw[values,Hg c st ins _ (aD _),ig]
def DZ {h:List (Int×Int)}{l:Int}(h0:0<=l) (hl:l<2*((v.length+g.length:Nat):Int)):aW (bq v (g++h)) l=aW (bq v g) l:=by
 obtain⟨r,e⟩:=Dj v h g;rw[e];exact Ga h0 (by rw[wO];exact hl)
def FW {x:Int}(h:0<=x):aW v (flip x) = !aW v x:=by
 unfold flip aW;split
 ·rename_i h2;rw[show(x+1)/2=x/2 by omega,decide_eq_true (by omega),decide_eq_false (by omega)];cases v.getD (x/2).toNat false <;> rfl
 ·rename_i h2;rw[show(x-1)/2=x/2 by omega,decide_eq_false (by omega),decide_eq_true (by omega)];cases v.getD (x/2).toNat false <;> rfl
structure GN (first:Nat) (g:List (Int×Int)):Prop where
 nf : ∀ i,i<g.length->2<=(g.getD i (0,0)).1/\(g.getD i (0,0)).1/2<(g.getD i (0,0)).2/2/\(g.getD i (0,0)).2<2*((first:Int)+(i:Int))
 nd : ∀ i j,i<g.length->j<g.length->g.getD i (0,0)=g.getD j (0,0)->i=j
def GN.nil:GN first []:=⟨fun i h=>by simp at h,fun i j h=>by simp at h⟩
def qA {l:List α}{x z : α}:(l ++ [x]).getD l.length z=x:=by simp[List.getD]
def GN.push (h:GN first g) {p:Int×Int}(h1:2<=p.1) (h2:p.1/2<p.2/2) (h3:p.2<2*((first:Int)+(g.length:Int))) (h4:p∉g):GN first (g ++ [p]):=by
 refine⟨fun i hi=>?_,fun i j hi hj e=>?_⟩
 ·rw[b8,nn] at hi;by_cases e:i=g.length
  ·subst e;rw[qA];exact⟨h1,h2,h3⟩
  ·rw[cW (by omega)];exact h.nf i (by omega)
 ·rw[b8,nn] at hi hj;by_cases ei:i=g.length
  ·by_cases ej:j=g.length
   ·omega
   ·subst ei;rw[qA,cW (by omega)] at e;exact absurd (by rw[e];exact aO (by omega)) h4
  ·by_cases ej:j=g.length
   ·subst ej;rw[qA,cW (by omega)] at e;exact absurd (by rw[<-e];exact aO (by omega)) h4
   ·rw[cW (by omega),cW (by omega)] at e;exact h.nd i j (by omega) (by omega) e
def uk (hl:v.length=first) (hi:i<g.length) (h:0<=(g.getD i (0,0)).1/\(g.getD i (0,0)).1<2*((first:Int)+(i:Int))/\0<=(g.getD i (0,0)).2/\(g.getD i (0,0)).2<2*((first:Int)+(i:Int))) :
  (bq v g).getD (first+i) false=(aW (bq v g) (g.getD i (0,0)).1&&aW (bq v g) (g.getD i (0,0)).2):=by
 have e:g=g.take i++([g.getD i (0,0)]++g.drop (i+1)):=by
  have h1:g.getD i (0,0)=g[i]:=by simp[List.getD,hi]
  rw[h1,List.singleton_append,<-qk hi,xS]
 have htl:(g.take i).length=i:=by simp;omega
 generalize hp:g.getD i (0,0)=p at *
 rw[e];rw[DZ (g:=g.take i) h.1 (by rw[hl,htl];omega),DZ (g:=g.take i) h.2.2.1 (by rw[hl,htl];omega),<-fA];obtain⟨r,e2⟩:=Dj v (g.drop (i+1)) (g.take i ++ [p]);rw[e2,zi,fA,List.getD_eq_getElem?_getD,List.getElem?_append_right (by rw[wO,hl,htl];exact aD _),wO,hl,htl,Nat.sub_self];rfl
def QE (hl:v.length=first) (hf:1<=first) (h0:v.getD 0 false=false) (hg:GN first g) {x y:Int}(hx:0<=x/\x<2*((first:Int)+(g.length:Int))) (hy:0<=y/\y<2*((first:Int)+(g.length:Int))) :
  GN first (gf first g x y).1/\aW (bq v (gf first g x y).1) (gf first g x y).2=(aW (bq v g) x&&aW (bq v g) y)/\
  ∃ t,(gf first g x y).1=g++t:=by
 have hlo:ce x y=x/\bJ x y=y∨ce x y=y/\bJ x y=x:=by unfold ce bJ;split <;> simp
 have hle:ce x y<=bJ x y:=by unfold ce bJ;split <;> omega
 have hsw:(aW (bq v g) x&&aW (bq v g) y)=(aW (bq v g) (ce x y)&&aW (bq v g) (bJ x y)):=by
  rcases hlo with⟨e1,e2⟩|⟨e1,e2⟩ <;> rw[e1,e2]
  rw[Bool.and_comm]
 rw[hsw];have ha:0<=ce x y/\ce x y<2*((first:Int)+(g.length:Int)):=by rcases hlo with⟨e1,e2⟩|⟨e1,e2⟩ <;> rw[e1] <;> assumption
 have hb:0<=bJ x y/\bJ x y<2*((first:Int)+(g.length:Int)):=by rcases hlo with⟨e1,e2⟩|⟨e1,e2⟩ <;> rw[e2] <;> assumption
 unfold gf;generalize ce x y=a at *
 generalize bJ x y=b at *
 have hz:aW (bq v g) 0=false:=by
  have:(bq v g).getD 0 false=false:=by
   obtain⟨r,e⟩:=Dj v g [];rw[List.nil_append] at e;rw[e,show bq v []=v from rfl,cW (by omega),h0]
  unfold aW;rw[show((0:Int)/2).toNat=0 by rfl,this];rfl
 have hone:aW (bq v g) 1=true:=by
  have:=FW (v:=bq v g) (x:=0) (by omega);rw[hz] at this;exact this
 by_cases h1:a=0∨a=flip b
 ·rw[if_pos h1];refine⟨hg,?_,[],by simp⟩;simp only;rw[hz];rcases h1 with rfl|rfl
  ·rw[hz];rfl
  ·rw[FW hb.1];cases aW (bq v g) b <;> rfl
 ·rw[if_neg h1];by_cases h2:a=1∨a=b
  ·rw[if_pos h2];refine⟨hg,?_,[],by simp⟩;simp only;rcases h2 with rfl|rfl
   ·rw[hone,rR]
   ·rw[Bool.and_self]
  ·rw[if_neg h2];by_cases h3:(a,b)∈g
   ·rw[if_pos h3];refine⟨hg,?_,[],by simp⟩;simp only;have hi:=A7 h3;have hp:g.getD (jg g (a,b)) (0,0)=(a,b):=by
     have:=List.findIdx_getElem (xs:=g) (p:=fun q=>decide (q=(a,b))) (w:=hi);simp only[decide_eq_true_eq] at this;simp[List.getD,hi];exact this
    generalize jg g (a,b)=k at *
    have hn:=hg.nf k hi;have:=uk (g:=g) hl hi (by omega);rw[hp] at this;unfold aW at this ⊢;rw[show(2*((first:Int)+(k:Int))/2).toNat=first+k by omega,this,show decide (2*((first:Int)+(k:Int))%2=1)=false from decide_eq_false (by omega)];cases(_&&_) <;> rfl
   ·rw[if_neg h3];have hfl:a<b/\a/2<b/2:=by
     unfold flip at h1;split at h1 <;> omega
    refine⟨hg.push (p:=(a,b)) (by simp only;omega) hfl.2 hb.2 h3,?_,[(a,b)],rfl⟩;simp only;rw[zi];have hrl:(bq v g).length=first+g.length:=by rw[wO,hl]
    unfold aW;rw[show(2*((first:Int)+(g.length:Int))/2).toNat=(bq v g).length by omega,qA,show decide (2*((first:Int)+(g.length:Int))%2=1)=false from decide_eq_false (by omega)];cases(_&&_) <;> rfl
end Go.Proofs
