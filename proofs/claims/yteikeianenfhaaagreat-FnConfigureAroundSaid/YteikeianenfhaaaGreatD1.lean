/- Contracts, plain definitions and lemmas. Conditions: none; lemmas. -/
import Derived.Test.YteikeianenfhaaaGreatC97
import Derived.Test.YteikeianenfhaaaGreatC71
import Derived.Test.YteikeianenfhaaaGreatC72
set_option maxRecDepth 20000
set_option linter.unusedSimpArgs false
set_option linter.unusedVariables false
set_option maxHeartbeats 2000000
namespace Go.Proofs
set_option linter.defProp false
open Go Go.VL Tryz
variable {m l:List Lut}{i:Nat}
structure RevTo (l m:List Lut) (i:Nat):Prop where
 len:m.length=l.length
 get : ∀ p,p<l.length->m.getD p lu0=if p<i∨l.length<=p+i then l.getD (l.length-1-p) lu0 else l.getD p lu0
def RevTo.start (l:List Lut):RevTo l l 0:=⟨rfl,fun p hp=>by rw[if_neg (by omega)]⟩
def qlY {a p:Nat}{x:Lut}(h:a<m.length):(m.set a x).getD p lu0=if p=a then x else m.getD p lu0:=by
 by_cases e:p=a
 ·subst e;simp[List.getD,h]
 ·simp[List.getD,List.getElem?_set,show ¬ a=p by omega,e]
def RevTo.step (h:RevTo l m i) (hi:i+i+1<l.length):RevTo l ((m.set i (m.getD (l.length-1-i) lu0)).set (l.length-1-i) (m.getD i lu0)) (i+1):=by
 have hl:=h.len;refine⟨by simp[hl],fun p hp=>?_⟩;rw[qlY (by simp;omega),qlY (by omega)];have g1:=h.get p hp;have g2:=h.get i (by omega);have g3:=h.get (l.length-1-i) (by omega);rw[if_neg (by omega)] at g2 g3;rw[g1,g2,g3];by_cases e1:p=l.length-1-i
 ·subst e1;rw[if_pos rfl,if_pos (by omega),show l.length-1-(l.length-1-i)=i by omega]
 ·rw[if_neg e1];by_cases e2:p=i
  ·subst e2;rw[if_pos rfl,if_pos (by omega)]
  ·rw[if_neg e2];by_cases e3:p<i∨l.length<=p+i
   ·rw[if_pos e3,if_pos (by omega)]
   ·rw[if_neg e3,if_neg (by omega)]
def RevTo.done (h:RevTo l m i) (hi:l.length<=i+i+1):m=l.reverse:=by
 refine qda lu0 (by simp[h.len]) fun p hp=>?_
 have hl:=h.len;have e:l.reverse.getD p lu0=l.getD (l.length-1-p) lu0:=by simp[List.getD,show p<l.length by omega,show l.length-1-p<l.length by omega]
 rw[e,h.get p (by omega)];split
 ·rfl
 ·rw[show l.length-1-p=p by omega]
def Tryz.c_ReverseL (g:Nat) (l:List Lut) (hl:l.length<=1000000):ICall prog 175 [.sl 0 g 3 0 l.length] [.row g 3 false (l.map fun x=>dLu x)] (fun _ H'=>H'=[.row g 3 false (l.reverse.map fun x=>dLu x)]):=by
 refine qaz (E:=env 1) tok rfl 1000 func175 rfl rfl ntmps175 (by simp) ?_
 repeat' first|assumption|(simp (disch:=first|assumption|omega|(simp;done)|(simp;omega)) only[go_sem,seval,qaF])|(with_reducible first|apply And.intro|intro _)|((try rw[qaa]);omega)
 refine qaw (E:=env 1) tok (σ:=Nat×List Lut) (fun s=>[(3,.d (dI ((l.length:Int)-1-(s.1:Int)))),(2,.d (dI s.1)),(0,.sl 0 g 3 0 l.length)]) (fun s=>[.row g 3 false (s.2.map fun x=>dLu x)])
  (fun s=>s.1<=l.length/\RevTo l s.2 s.1) (fun s=>l.length-s.1) [] 1000 1000 ?_ ?_ ?_
 ·simp only[go_sem,seval]
 ·simp only[go_sem,seval];exact⟨(0,l),⟨yaZ _,RevTo.start l⟩,⟨by simp,rfl⟩,rfl⟩
 ·rintro⟨i,m⟩ ⟨hi,hm⟩;simp only at hi hm;have hml:=hm.len;by_cases hlt:i+i+1<l.length
  ·have ej:((l.length:Int)-1-(i:Int)).toNat=l.length-1-i:=by omega
   repeat' first|assumption|(simp (disch:=first|assumption|omega|(simp;done)|(simp;omega)) only[go_sem,seval,ej,qaF])|(with_reducible first|apply And.intro|intro _)|((try rw[qaa]);omega)
   refine qaL (n:=1) [13,15] (fsts [0,1,2,3,4,5,6,8,9,10,7,11,12] (.one 13 (.fst 14 (.one 15 .done)))) ?_
   repeat' first|assumption|(simp (disch:=first|assumption|omega|(simp;done)|(simp;omega)) only[go_sem,seval,ej,qaF])|(with_reducible first|apply And.intro|intro _)|((try rw[qaa]);omega)
   refine⟨(i+1,_),⟨by simp only;omega,hm.step hlt⟩,by simp only;omega,⟨by simp only;omega,rfl⟩,?_⟩;rw[List.map_set,List.map_set]
  ·repeat' first|assumption|(simp (disch:=first|assumption|omega|(simp;done)|(simp;omega)) only[go_sem,seval,qaF])|(with_reducible first|apply And.intro|intro _)|((try rw[qaa]);omega)
   exact qbS (by rw[hm.done (by omega)])
def Tryz.c_CloneJ (l:List Int) (hl:l.length<=1048576):Pure prog 173 [dIs l] (dIs l):=by
 refine qfx (T:=tyT) tok func173 rfl rfl (by simp[ntmps173]) ?_;rw[ntmps173];refine qdv (E:=env 0) (ks:=[]) (qdF (qjH tok rfl rfl trivial (qiF (qdv (qdv (qdF (qjH tok rfl rfl ?_ (qkw tok rfl rfl ?_ rfl fun b hb=>qkx tok 1000 ?_))))))))
 ·simp only[go_sem,seval]
 ·simp only[go_sem,seval]
 ·simp only[go_sem,seval];exact⟨hb,fun h=>by omega⟩
def qmQ {c:Circ}(hb : ∀ z∈qbl c,0<=z):qbk (List.replicate c.vars.toNat false) (c.roots.map (· / 2))=qfk c:=by
 have hm : ∀ z:Int,z∈c.roots.map (· / 2)↔z∈qbl c:=fun z=>by simp[Circ.roots,qbl,or_and_right,exists_or,or_comm]
 refine qda false (by rw[qfk,qck,qck]) fun j hj=>?_
 rw[qfk,qer _ _ _ (fun v hv=>hb v ((hm v).1 hv)),qer _ _ _ hb];simp only[hm]

def Tryz.c_MapLuts (c:Circ) (hc:c.Valid):PureF prog 101 [dC c] (dLus (qdw c)):=by
 have hf:=hc.first_bd;have hi0:=hc.i0;have hi1:=hc.i1;have hlo:=hc.lo;have hln:=hc.ln;have hlg:=hc.lg;have hfst:=c_firstGate c (by omega);have hvs:=c_vars c (by omega);have hcv:=c_CircuitValid c;have hbe:=c_bestCuts c hc;have hro:=c_roots c (by omega);have hvv:c.vars=c.first+(c.gates.length:Int):=rfl
 have hrv:=qf8 hc;have hn0:=qmQ (c:=c) (fun z hz=>(hrv z hz).1);have hr2 : ∀ z∈c.roots,0<=z/2/\z/2<c.vars:=fun z hz=>hrv _ (by
  simp only[qbl,List.mem_map,yax];exact⟨z,by simpa [Circ.roots,or_comm] using hz,rfl⟩)
 have hrl:c.roots.length<=2000000:=by unfold Circ.roots;simp;omega
 refine qcE (E:=env 0) tok rfl 1000 func101 rfl rfl ntmps101 (by simp) fun ok=>?_
 simp only[go_sem,seval] at ok⊢
 repeat' first|assumption|(simp (disch:=first|assumption|omega|(simp;done)|(simp;omega)) only[yaa];try simp only[go_sem,seval])|(with_reducible first|apply And.intro|intro _)|(refine qac hfst ?_;simp only[go_sem,seval])|(refine qac hcv ?_;simp only[go_sem,seval])|(refine qac hvs ?_;simp only[go_sem,seval])|(refine qac hro ?_;simp only[go_sem,seval])|((try rw[qaa]);omega)
 ·rename_i h9;exact absurd hc h9
 refine qan hbe [0] (by simp only[go_sem,seval]) ?_;rintro r0 H1 ⟨rfl,rfl⟩;simp only[go_sem,seval]
 repeat' first|assumption|(simp (disch:=first|assumption|omega|(simp;done)|(simp;omega)) only[yaa];try simp only[go_sem,seval])|(with_reducible first|apply And.intro|intro _)|(refine qac hvs ?_;simp only[go_sem,seval])|(refine qac hro ?_;simp only[go_sem,seval])|((try rw[qaa]);omega)
 have hrd:(c.roots.map (· / 2)).length=c.roots.length:=by simp
 generalize hroots:c.roots=roots at *
 refine qaf (E:=env 0) tok (σ:=Nat) (fun i=>[(23,.d (dI i)),(22,.d (dI roots.length)),(21,.d (dIs roots)),(5,.sl 1 0 1 0 c.vars.toNat),(3,.d (.lst 1 (qdh c (qbm c)))),(1,.ptr 0 0)])
  (fun i=>[.box [.d (dI c.inputs),.d (dIs c.next),.d (dPs c.gates),.d (dIs c.outs)],.row 0 1 true ((qbk (List.replicate c.vars.toNat false) ((roots.map (· / 2)).take i)).map D.bool)])
  (fun i=>i<=roots.length) (fun i=>roots.length-i) [] [] 1000 1000 ?_ ?_
 ·simp only[go_sem,seval];refine⟨0,by omega,?_⟩;simp[qbk]
 ·intro i hi;have hsl:=qck ((roots.map (· / 2)).take i) (List.replicate c.vars.toNat false);rw[yaK] at hsl;by_cases hlt:i<roots.length
  ·have hrg:(roots.map (· / 2)).getD i 0=roots.getD i 0/2:=by simp[List.getD,hlt]
   have hbd:=hr2 _ (qad hlt:roots.getD i 0∈roots);have hst:qbk (List.replicate c.vars.toNat false) ((roots.map (· / 2)).take (i+1))=(qbk (List.replicate c.vars.toNat false) ((roots.map (· / 2)).take i)).set (roots.getD i 0/2).toNat true:=by
    rw[<-hrg];exact qaA (f:=fun(n:List Bool) (v:Int)=>n.set v.toNat true) (b:=List.replicate c.vars.toNat false) (0:Int) (by rw[hrd];exact hlt)
   simp only[go_sem,seval]
   repeat' first|assumption|(simp (disch:=first|assumption|omega|(simp;done)|(simp;omega)) only[yaa];try simp only[go_sem,seval])|(with_reducible first|apply And.intro|intro _)|((try rw[qaa]);omega)
   exact⟨i+1,by omega,by omega,rfl,by rw[hst]⟩
  ·have hst:qbk (List.replicate c.vars.toNat false) ((roots.map (· / 2)).take i)=qfk c:=by rw[<-hn0,yaa (by rw[hrd];omega)]
   rw[hst];simp only[go_sem,seval]
   repeat' first|assumption|(simp (disch:=first|assumption|omega|(simp;done)|(simp;omega)) only[yaa];try simp only[go_sem,seval])|(with_reducible first|apply And.intro|intro _)|(refine qac hvs ?_;simp only[go_sem,seval])|((try rw[qaa]);omega)
   have hne0:=qiT c;have hlu:qdw c=mapD c c.gates.length (qfk c) []:=rfl;refine qaf (E:=env 0) tok (σ:=Nat×List Bool×List Lut) (fun s=>[(9,.d (dI (c.first+(s.1:Int)-1))),(8,.sl 2 s.2.2.length 3 0 s.2.2.length),(5,.sl 1 0 1 0 c.vars.toNat),(3,.d (.lst 1 (qdh c (qbm c)))),(1,.ptr 0 0)])
    (fun s=>[.box [.d (dI c.inputs),.d (dIs c.next),.d (dPs c.gates),.d (dIs c.outs)],.row 0 1 true (s.2.1.map D.bool),.row s.2.2.length 3 false (s.2.2.reverse.map fun x=>dLu x)])
    (fun s=>s.1<=c.gates.length/\s.2.1.length=c.vars.toNat/\s.2.2.length+s.1<=c.gates.length/\mapD c s.1 s.2.1 s.2.2=qdw c) (fun s=>s.1) [] [(8,3,false)] 1000 1000 ?_ ?_
   ·simp only[go_sem,seval];refine⟨(c.gates.length,qfk c,[]),⟨by simp,hne0,by simp,hlu.symm⟩,?_⟩;simp;omega
   ·rintro⟨j,need,out⟩ ⟨hj,hnl,hol,hinv⟩;simp only at hj hnl hol hinv;cases j with
    | zero=>
     simp only[go_sem,seval]
     repeat' first|assumption|(simp (disch:=first|assumption|omega|(simp;done)|(simp;omega)) only[yaa];try simp only[go_sem,seval])|(with_reducible first|apply And.intro|intro _)|(refine qac hfst ?_;simp only[go_sem,seval])|((try rw[qaa]);omega)
     have hrl9:out.length=out.reverse.length:=by simp
     rw[hrl9];refine qan (c_ReverseL out.reverse.length out.reverse (by simp;omega)) [2] (by simp only[go_sem,seval]) ?_
     ·rintro r0 H1 rfl;rw[List.reverse_reverse];have hmd:mapD c 0 need out=out:=rfl;rw[<-hinv,hmd];simp only[go_sem,seval]
      repeat' first|assumption|(simp (disch:=first|assumption|omega|(simp;done)|(simp;omega)) only[yaa];try simp only[go_sem,seval])|(with_reducible first|apply And.intro|intro _)|((try rw[qaa]);omega)
    | succ m=>
     have hbo:=qcI hc (i:=m) (by omega);have hbl:=qlz c;have ev:(c.first+((m+1:Nat):Int)-1)=c.first+(m:Int):=by omega
     have ev2:(c.first+(m:Int)).toNat=c.first.toNat+m:=by omega
     have hbg : ∀ z,(qdh c (qbm c)).getD (c.first.toNat+m) z=dIs ((qbm c).getD (c.first.toNat+m) []):=fun z=>qlB (by omega) (by omega)
     have hstep:mapD c (m+1) need out=if need.getD (c.first.toNat+m) false=true then
       mapD c m (qbk need ((qbm c).getD (c.first.toNat+m) [])) (⟨c.first+(m:Int),(qbm c).getD (c.first.toNat+m) [],qgx c (c.first+(m:Int)) ((qbm c).getD (c.first.toNat+m) [])⟩::out)
      else mapD c m need out:=rfl
     have htb:=c_coneTable c hc (c.first+(m:Int)) (by omega) (by omega) ((qbm c).getD (c.first.toNat+m) []) hbo.2.1 hbo.1 (fun z hz=>by have:=hbo.2.2 z hz;omega);have hcl:=c_CloneJ ((qbm c).getD (c.first.toNat+m) []) (by have:=hbo.2.1;omega);have hbD:(qdh c (qbm c)).length=c.first.toNat+c.gates.length:=by rw[qdi (by omega)];exact hbl
     rw[ev];generalize hL:(qbm c).getD (c.first.toNat+m) []=L at *
     by_cases hnd:need.getD (c.first.toNat+m) false=true
     ·rw[if_pos hnd] at hstep;simp only[go_sem,seval,ev2,hnd,hbg]
      repeat' first|assumption|(simp (disch:=first|assumption|omega|(simp;done)|(simp;omega)) only[yaa];try simp only[go_sem,seval,ev2,hnd,hbg])|(with_reducible first|apply And.intro|intro _)|(refine qac hfst ?_;simp only[go_sem,seval,ev2,hnd,hbg])|((try rw[qaa]);omega)
      refine qaf (E:=env 0) tok (σ:=Nat) (fun k=>[(49,.d (dI k)),(48,.d (dI L.length)),(47,.d (dIs L)),(9,.d (dI (c.first+(m:Int)))),(8,.sl 2 out.length 3 0 out.length),(5,.sl 1 0 1 0 c.vars.toNat),(3,.d (.lst 1 (qdh c (qbm c)))),(1,.ptr 0 0)])
       (fun k=>[.box [.d (dI c.inputs),.d (dIs c.next),.d (dPs c.gates),.d (dIs c.outs)],.row 0 1 true ((qbk need (L.take k)).map D.bool),.row out.length 3 false (out.reverse.map fun x=>dLu x)])
       (fun k=>k<=L.length) (fun k=>L.length-k) [] [] 1000 1000 ?_ ?_
      ·simp only[go_sem,seval];exact⟨0,by omega,rfl,rfl⟩
      ·intro k hk;have hsl:=qck (L.take k) need;by_cases hkt:k<L.length
       ·have hst:qbk need (L.take (k+1))=(qbk need (L.take k)).set (L.getD k 0).toNat true:=qaA (f:=fun(n:List Bool) (v:Int)=>n.set v.toNat true) (b:=need) (0:Int) hkt;have hz:=hbo.2.2 _ (qad hkt:L.getD k 0∈L);simp only[go_sem,seval,ev2,hbg]
        repeat' first|assumption|(simp (disch:=first|assumption|omega|(simp;done)|(simp;omega)) only[yaa];try simp only[go_sem,seval,ev2,hbg])|(with_reducible first|apply And.intro|intro _)|((try rw[qaa]);omega)
        exact⟨k+1,by omega,by omega,rfl,hst.symm⟩
       ·have hst:qbk need (L.take k)=qbk need L:=by rw[yaa (by omega)]
        rw[hst];rw[hst] at hsl;simp only[go_sem,seval,ev2,hbg]
        repeat' first|assumption|(simp (disch:=first|assumption|omega|(simp;done)|(simp;omega)) only[yaa];try simp only[go_sem,seval,ev2,hbg])|(with_reducible first|apply And.intro|intro _)|((try rw[qaa]);omega)
        refine qaL (n:=0) [15] (fsts [0,1,2,3,4,7,8,9,10,5,11] (.one 6 (.one 12 (.fst 13 (.one 14 (.one 15 (.fst 16 .done))))))) ?_;simp only[go_sem,seval,ev2,hbg]
        repeat' first|assumption|(simp (disch:=first|assumption|omega|(simp;done)|(simp;omega)) only[yaa];try simp only[go_sem,seval,ev2,hbg])|(with_reducible first|apply And.intro|intro _)|(refine qac htb ?_;simp only[go_sem,seval,ev2,hbg])|(refine qac hcl ?_;simp only[go_sem,seval,ev2,hbg])|((try rw[qaa]);omega)
        ·simp
        ·exact⟨(m,qbk need L,⟨c.first+(m:Int),L,qgx c (c.first+(m:Int)) L⟩::out),⟨by simp only;omega,hsl.trans hnl,by simp only[yaf];omega,by rw[<-hinv,hstep]⟩,by simp only;omega,⟨rfl,by simp⟩,rfl,by simp,by simp⟩
     ·rw[if_neg hnd] at hstep;rw[Bool.not_eq_true] at hnd;simp only[go_sem,seval,ev2,hnd,hbg]
      repeat' first|assumption|(simp (disch:=first|assumption|omega|(simp;done)|(simp;omega)) only[yaa];try simp only[go_sem,seval,ev2,hnd,hbg])|(with_reducible first|apply And.intro|intro _)|(refine qac hfst ?_;simp only[go_sem,seval,ev2,hnd,hbg])|((try rw[qaa]);omega)
      exact⟨(m,need,out),⟨by simp only;omega,hnl,by simp only;omega,by rw[<-hinv,hstep]⟩,by simp only;omega,⟨rfl,rfl⟩,rfl,rfl,rfl⟩

def Tryz.c_Cells (c:Circ) (hc:c.Valid):PureF prog 40 [dC c] (dCes (qae c)):=by
 have hmp:=c_MapLuts c hc;have hcv:=c_CircuitValid c;have hln:=hc.ln;have hll:=qiU hc;have hlg:=hc.lg;have hlk:=qdb hc;have hi0:=hc.i0;have hi1:=hc.i1;refine PureF.res ?_ (qnt c);refine qcE (E:=env 0) tok rfl 1000 func40 rfl rfl ntmps40 (by simp) fun ok=>?_
 simp only[go_sem,seval] at ok
 repeat' first|assumption|(simp (disch:=first|assumption|omega|(simp;done)|(simp;omega)) only[go_sem,seval,yaa,qaF])|(with_reducible first|apply And.intro|intro _)|(refine qac hcv ?_)|((try rw[qaa]);omega)
 ·rename_i h9;exact absurd hc h9
 refine qaf (E:=env 0) tok (σ:=Nat) (fun i=>[(0,.d (dC c)),(1,.ptr 0 0),(3,.sl 1 i 4 0 i),(13,.d (dIs c.next)),(14,.d (dI c.next.length)),(15,.d (dI i))]) (fun i=>[.box [.d (dI c.inputs),.d (dIs c.next),.d (dPs c.gates),.d (dIs c.outs)],.row i 4 true ((List.range i).map (dLat c))]) (fun i=>i<=c.next.length) (fun i=>c.next.length-i) [] [(3,4,true)] 1000 1000 ?_ ?_
 ·simp only[go_sem,seval];exact⟨0,by omega,by simp⟩
 ·intro i hi;have hrl:((List.range i).map (dLat c)).length=i:=by simp
  have hrs:(List.range (i+1)).map (dLat c)=(List.range i).map (dLat c) ++ [dLat c i]:=by rw[yaH,yaz];rfl
  by_cases hlt:i<c.next.length
  ·have hno:=hc.n _ (qad hlt:c.next.getD i 0∈c.next);unfold qaY at hno;have hld:dLat c i=if(c.next.getD i 0)/2 > 0 then dCe (qaM c i) else .agg [dI (c.inputs+1+(i:Int)),.nil,dI ((c.next.getD i 0)%2),dB true]:=rfl;have hlc:qaM c i=if(c.next.getD i 0)/2 > 0 then⟨c.inputs+1+i,[(c.next.getD i 0)/2],2-(c.next.getD i 0)%2,true⟩ else⟨c.inputs+1+i,[],(c.next.getD i 0)%2,true⟩:=rfl;generalize (List.range i).map (dLat c)=q at *
   generalize hl9:c.next.getD i 0=l at *
   have hr:=qab (y:=2) hno.1;have e2:((l.toNat &&& 1:Nat):Int)=l%2:=by rw[Nat.and_one_is_mod];omega
   have e3:1+c.inputs+(i:Int)=c.inputs+1+(i:Int):=by omega
   simp only[go_sem,seval,hl9,e2]
   repeat' first|assumption|(simp (disch:=first|assumption|omega|(simp;done)|(simp;omega)) only[go_sem,seval,hr,hrl,hl9,e2,yaa,qaF])|(with_reducible first|apply And.intro|intro _)|((try rw[qaa]);omega)
   ·rename_i h9;refine⟨i+1,by omega,by omega,rfl,rfl,?_⟩;rw[hrs,hld,if_pos (by omega),hlc,if_pos (by omega),e3];rfl
   ·rename_i h9;refine⟨i+1,by omega,by omega,rfl,rfl,?_⟩;rw[hrs,hld,if_neg (by omega),e3]
  ·obtain rfl:i=c.next.length:=by omega
   repeat' first|assumption|(simp (disch:=first|assumption|omega|(simp;done)|(simp;omega)) only[go_sem,seval,yaa,qaF])|(with_reducible first|apply And.intro|intro _)|(refine qbJ hmp ?_)|((try rw[qaa]);omega)
   generalize (List.range c.next.length).map (dLat c)=q at *
   have hlv : ∀ l∈qdw c,l.leaves.length<=3:=fun l hl=>by
    obtain⟨m,hm,rfl⟩:=hlk.each l hl;exact(qcI hc hm).2.1
   generalize qdw c=luts at *
   refine qrR 1 rfl rfl ?_;simp only[go_sem,seval];refine qaf (E:=env 0) tok (σ:=Nat) (fun i=>[(3,.sl 1 (c.next.length+i) 4 0 (c.next.length+i)),(44,.d (dLus luts)),(45,.d (dI luts.length)),(46,.d (dI i))]) (fun i=>[.dead 0,.row (c.next.length+i) 4 false (q++(luts.take i).map fun l=>dCe (qa6 l))]) (fun i=>i<=luts.length) (fun i=>luts.length-i) [] [] 1000 1000 ?_ ?_
   ·simp only[go_sem,seval];exact⟨0,by omega,by simp⟩
   ·intro i hi;by_cases hlt:i<luts.length
    ·have hlv2:=hlv _ (qad hlt:luts.getD i lu0∈luts);have hts:(luts.take (i+1)).map (fun l=>dCe (qa6 l))=(luts.take i).map (fun l=>dCe (qa6 l)) ++ [dCe (qa6 (luts.getD i lu0))]:=qaT lu0 hlt;have hql:(q++(luts.take i).map fun l=>dCe (qa6 l)).length=c.next.length+i:=by simp[hrl];omega
     have hqa:q++(luts.take (i+1)).map (fun l=>dCe (qa6 l))=(q++(luts.take i).map fun l=>dCe (qa6 l)) ++ [dCe (qa6 (luts.getD i lu0))]:=by rw[hts,yar]
     generalize hd9:luts.getD i lu0=x at *
     generalize (q++(luts.take i).map fun l=>dCe (qa6 l))=q2 at *
     repeat' first|assumption|(simp (disch:=first|assumption|omega|(simp;done)|(simp;omega)) only[go_sem,seval,hd9,hql,yaa,qaF])|(with_reducible first|apply And.intro|intro _)|((try rw[qaa]);omega)
     refine⟨i+1,by omega,by omega,⟨by omega,rfl⟩,by omega,?_⟩;rw[hqa];rfl
    ·repeat' first|assumption|(simp (disch:=first|assumption|omega|(simp;done)|(simp;omega)) only[go_sem,seval,yaa,qaF])|(with_reducible first|apply And.intro|intro _)|((try rw[qaa]);omega)
def Tryz.c_IndexJ (l:List Int) (x:Int) (hl:l.length<=1000):PureE prog 223 [dIs l,dI x] (fun y=>∃ n:Int,y=dI n/\(0<=n↔x∈l)):=by
 refine qgq (E:=env 0) tok rfl 1000 func223 rfl rfl ntmps223 (by simp) fun ok=>?_
 simp only[go_sem,seval] at ok
 repeat' first|assumption|(simp (disch:=first|assumption|omega|(simp;done)|(simp;omega)) only[go_sem,seval,yaa,qaF])|(with_reducible first|apply And.intro|intro _)|((try rw[qaa]);omega)
 refine qaw (E:=env 0) tok (σ:=Nat) (fun i=>[(8,.d (dI i)),(7,.d (dI l.length)),(6,.d (dIs l)),(0,.d (dIs l)),(1,.d (dI x))]) (fun _=>[])
  (fun i=>i<=l.length/\x∉l.take i) (fun i=>l.length-i) [] 1000 1000 ?_ ?_ ?_
 ·simp only[go_sem,seval]
 ·simp only[go_sem,seval];exact⟨0,⟨by omega,by simp⟩,rfl⟩
 ·rintro i ⟨hi,hinv⟩;by_cases hlt:i<l.length
  ·have hts:l.take (i+1)=l.take i ++ [l.getD i 0]:=by simpa using qaT (f:=fun x:Int=>x) 0 hlt
   have hmm:=qad hlt (z:=(0:Int));generalize hz9:l.getD i 0=z at *
   repeat' first|assumption|(simp (disch:=first|assumption|omega|(simp;done)|(simp;omega)) only[go_sem,seval,hz9,yaa,qaF])|(with_reducible first|apply And.intro|intro _)|((try rw[qaa]);omega)
   ·rename_i h1;exact⟨_,rfl,_,rfl,by rw[h1];exact⟨fun _=>hmm,fun _=>by omega⟩⟩
   ·rename_i h1;refine⟨i+1,⟨by omega,?_⟩,by omega,rfl⟩;rw[hts,yax,yaF];rintro(h2|h2)
    ·exact hinv h2
    ·exact h1 h2
  ·obtain rfl:i=l.length:=by omega
   rw[yaA] at hinv
   repeat' first|assumption|(simp (disch:=first|assumption|omega|(simp;done)|(simp;omega)) only[go_sem,seval,yaa,qaF])|(with_reducible first|apply And.intro|intro _)|((try rw[qaa]);omega)
   exact⟨_,rfl,_,rfl,⟨fun h=>absurd h (by decide),fun h=>absurd h hinv⟩⟩
def Tryz.c_ContainsJ (l:List Int) (x:Int) (hl:l.length<=1000):Pure prog 210 [dIs l,dI x] (.bool (decide (x∈l))):=by
 refine qax func210 rfl ntmps210 fun ok=>?_
 simp only[go_sem,seval] at ok⊢;refine qgn (c_IndexJ l x hl) ?_;rintro y ⟨n,rfl,hn⟩
 repeat' first|assumption|(simp (disch:=first|assumption|omega|(simp;done)|(simp;omega)) only[go_sem,seval,yaa,qaF])|(with_reducible first|apply And.intro|intro _)|((try rw[qaa]);omega)
 exact decide_eq_decide.2 hn
end Go.Proofs
