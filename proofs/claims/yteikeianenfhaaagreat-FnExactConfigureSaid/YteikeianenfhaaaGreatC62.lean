/- Contracts, plain definitions and lemmas. Conditions: none; lemmas. -/
import Derived.Test.YteikeianenfhaaaGreatC97
import Derived.Test.YteikeianenfhaaaGreatC71
import Derived.Test.YteikeianenfhaaaGreatC61
set_option maxRecDepth 20000
set_option linter.unusedVariables false
set_option linter.unusedSimpArgs false
set_option maxHeartbeats 2000000
namespace Go.Proofs
open Go Go.VL Tryz
structure RevTo (l m:List Lut) (i:Nat):Prop where
 len:m.length=l.length
 get : ∀ p,p<l.length->m.getD p lu0=if p<i∨l.length<=p+i then l.getD (l.length-1-p) lu0 else l.getD p lu0
theorem RevTo.start (l:List Lut):RevTo l l 0:=⟨rfl,fun p hp=>by rw[if_neg (by omega)]⟩
theorem qk8 {m:List Lut}{a p:Nat}{x:Lut}(h:a<m.length):(m.set a x).getD p lu0=if p=a then x else m.getD p lu0:=by
 by_cases e:p=a
 ·subst e;simp[List.getD,h]
 ·simp[List.getD,List.getElem?_set,show ¬ a=p by omega,e]
theorem RevTo.step {l m:List Lut}{i:Nat}(h:RevTo l m i) (hi:i+i+1<l.length):RevTo l ((m.set i (m.getD (l.length-1-i) lu0)).set (l.length-1-i) (m.getD i lu0)) (i+1):=by
 have hl:=h.len;refine⟨by simp[hl],fun p hp=>?_⟩;rw[qk8 (by simp;omega),qk8 (by omega)];have g1:=h.get p hp;have g2:=h.get i (by omega);have g3:=h.get (l.length-1-i) (by omega);rw[if_neg (by omega)] at g2 g3;rw[g1,g2,g3];by_cases e1:p=l.length-1-i
 ·subst e1;rw[if_pos rfl,if_pos (by omega),show l.length-1-(l.length-1-i)=i by omega]
 ·rw[if_neg e1];by_cases e2:p=i
  ·subst e2;rw[if_pos rfl,if_pos (by omega)]
  ·rw[if_neg e2];by_cases e3:p<i∨l.length<=p+i
   ·rw[if_pos e3,if_pos (by omega)]
   ·rw[if_neg e3,if_neg (by omega)]
theorem RevTo.done {l m:List Lut}{i:Nat}(h:RevTo l m i) (hi:l.length<=i+i+1):m=l.reverse:=by
 refine qbD lu0 (by simp[h.len]) fun p hp=>?_
 have hl:=h.len;have e:l.reverse.getD p lu0=l.getD (l.length-1-p) lu0:=by simp[List.getD,show p<l.length by omega,show l.length-1-p<l.length by omega]
 rw[e,h.get p (by omega)];split
 ·rfl
 ·rw[show l.length-1-p=p by omega]
theorem Tryz.c_ReverseL (g:Nat) (l:List Lut) (hl:l.length<=1000000):ICall prog 175 [.sl 0 g 3 0 l.length] [.row g 3 false (l.map fun x=>dLu x)] (fun _ H'=>H'=[.row g 3 false (l.reverse.map fun x=>dLu x)]):=by
 refine qaJ (E:=env 1) tok rfl 1000 func175 rfl rfl ntmps175 (by simp) ?_
 repeat' first|assumption|(simp (disch:=first|assumption|omega|(simp;done)|(simp;omega)) only[go_sem,seval,qaD])|(with_reducible first|apply And.intro|intro _)|((try rw[qaa]);omega)
 refine qaF (E:=env 1) tok (σ:=Nat×List Lut) (fun s=>[(3,.d (dI ((l.length:Int)-1-(s.1:Int)))),(2,.d (dI s.1)),(0,.sl 0 g 3 0 l.length)]) (fun s=>[.row g 3 false (s.2.map fun x=>dLu x)])
  (fun s=>s.1<=l.length/\RevTo l s.2 s.1) (fun s=>l.length-s.1) [] 1000 1000 ?_ ?_ ?_
 ·simp only[go_sem,seval]
 ·simp only[go_sem,seval];exact⟨(0,l),⟨yaU _,RevTo.start l⟩,⟨by simp,rfl⟩,rfl⟩
 ·rintro⟨i,m⟩ ⟨hi,hm⟩;simp only at hi hm;have hml:=hm.len;by_cases hlt:i+i+1<l.length
  ·have ej:((l.length:Int)-1-(i:Int)).toNat=l.length-1-i:=by omega
   repeat' first|assumption|(simp (disch:=first|assumption|omega|(simp;done)|(simp;omega)) only[go_sem,seval,ej,qaD])|(with_reducible first|apply And.intro|intro _)|((try rw[qaa]);omega)
   refine qbt (n:=1) [13,15] (fsts [0,1,2,3,4,5,6,8,9,10,7,11,12] (.one 13 (.fst 14 (.one 15 .done)))) ?_
   repeat' first|assumption|(simp (disch:=first|assumption|omega|(simp;done)|(simp;omega)) only[go_sem,seval,ej,qaD])|(with_reducible first|apply And.intro|intro _)|((try rw[qaa]);omega)
   refine⟨(i+1,_),⟨by simp only;omega,hm.step hlt⟩,by simp only;omega,⟨by simp only;omega,rfl⟩,?_⟩;rw[ybl,ybl]
  ·repeat' first|assumption|(simp (disch:=first|assumption|omega|(simp;done)|(simp;omega)) only[go_sem,seval,qaD])|(with_reducible first|apply And.intro|intro _)|((try rw[qaa]);omega)
   exact qci (by rw[hm.done (by omega)])
theorem Tryz.c_CloneJ (l:List Int) (hl:l.length<=1048576):Pure prog 173 [dIs l] (dIs l):=by
 refine qi6 (T:=tyT) tok func173 rfl rfl (by simp[ntmps173]) ?_;rw[ntmps173];refine qj3 (E:=env 0) (ks:=[]) (qjg (qsa tok rfl rfl trivial (qoU (qj3 (qj3 (qjg (qsa tok rfl rfl ?_ (qqW tok rfl rfl ?_ rfl fun b hb=>qqX tok 1000 ?_))))))))
 ·simp only[go_sem,seval]
 ·simp only[go_sem,seval]
 ·simp only[go_sem,seval];exact⟨hb,fun h=>by omega⟩
theorem qmg {c:Circ}(hb : ∀ z∈qbh c,0<=z):qbg (List.replicate c.vars.toNat false) (c.roots.map (· / 2))=qe2 c:=by
 have hm : ∀ z:Int,z∈c.roots.map (· / 2)↔z∈qbh c:=fun z=>by simp[Circ.roots,qbh,or_and_right,exists_or,or_comm]
 refine qbD false (by rw[qe2,qcf,qcf]) fun j hj=>?_
 rw[qe2,qea _ _ _ (fun v hv=>hb v ((hm v).1 hv)),qea _ _ _ hb];simp only[hm]
end Go.Proofs

set_option maxRecDepth 20000
set_option linter.unusedVariables false
set_option linter.unusedSimpArgs false
namespace Go.Proofs
open Go Go.VL
theorem Tryz.c_MapLuts (c:Circ) (hc:c.Valid):PureF prog 101 [dC c] (dLus (qdk c)):=by
 have hf:=hc.first_bd;have hi0:=hc.i0;have hi1:=hc.i1;have hlo:=hc.lo;have hln:=hc.ln;have hlg:=hc.lg;have hfst:=c_firstGate c (by omega);have hvs:=c_vars c (by omega);have hcv:=c_CircuitValid c;have hbe:=c_bestCuts c hc;have hro:=c_roots c (by omega);have hvv:c.vars=c.first+(c.gates.length:Int):=rfl
 have hrv:=qfM hc;have hn0:=qmg (c:=c) (fun z hz=>(hrv z hz).1);have hr2 : ∀ z∈c.roots,0<=z/2/\z/2<c.vars:=fun z hz=>hrv _ (by
  simp only[qbh,List.mem_map,yaq];exact⟨z,by simpa [Circ.roots,or_comm] using hz,rfl⟩)
 have hrl:c.roots.length<=2000000:=by unfold Circ.roots;simp;omega
 refine qcA (E:=env 0) tok rfl 1000 func101 rfl rfl ntmps101 (by simp) fun ok=>?_
 simp only[go_sem,seval] at ok⊢
 repeat' first|assumption|(simp (disch:=first|assumption|omega|(simp;done)|(simp;omega)) only[yaa];try simp only[go_sem,seval])|(with_reducible first|apply And.intro|intro _)|(refine qad hfst ?_;simp only[go_sem,seval])|(refine qad hcv ?_;simp only[go_sem,seval])|(refine qad hvs ?_;simp only[go_sem,seval])|(refine qad hro ?_;simp only[go_sem,seval])|((try rw[qaa]);omega)
 ·rename_i h9;exact absurd hc h9
 refine qaA hbe [0] (by simp only[go_sem,seval]) ?_;rintro r0 H1 ⟨rfl,rfl⟩;simp only[go_sem,seval]
 repeat' first|assumption|(simp (disch:=first|assumption|omega|(simp;done)|(simp;omega)) only[yaa];try simp only[go_sem,seval])|(with_reducible first|apply And.intro|intro _)|(refine qad hvs ?_;simp only[go_sem,seval])|(refine qad hro ?_;simp only[go_sem,seval])|((try rw[qaa]);omega)
 have hrd:(c.roots.map (· / 2)).length=c.roots.length:=by simp
 generalize hroots:c.roots=roots at *
 refine qai (E:=env 0) tok (σ:=Nat) (fun i=>[(23,.d (dI i)),(22,.d (dI roots.length)),(21,.d (dIs roots)),(5,.sl 1 0 1 0 c.vars.toNat),(3,.d (.lst 1 (qda c (qbi c)))),(1,.ptr 0 0)])
  (fun i=>[.box [.d (dI c.inputs),.d (dIs c.next),.d (dPs c.gates),.d (dIs c.outs)],.row 0 1 true ((qbg (List.replicate c.vars.toNat false) ((roots.map (· / 2)).take i)).map D.bool)])
  (fun i=>i<=roots.length) (fun i=>roots.length-i) [] [] 1000 1000 ?_ ?_
 ·simp only[go_sem,seval];refine⟨0,by omega,?_⟩;simp[qbg]
 ·intro i hi;have hsl:=qcf ((roots.map (· / 2)).take i) (List.replicate c.vars.toNat false);rw[yaE] at hsl;by_cases hlt:i<roots.length
  ·have hrg:(roots.map (· / 2)).getD i 0=roots.getD i 0/2:=by simp[List.getD,hlt]
   have hbd:=hr2 _ (qae hlt:roots.getD i 0∈roots);have hst:qbg (List.replicate c.vars.toNat false) ((roots.map (· / 2)).take (i+1))=(qbg (List.replicate c.vars.toNat false) ((roots.map (· / 2)).take i)).set (roots.getD i 0/2).toNat true:=by
    rw[<-hrg];exact qax (f:=fun(n:List Bool) (v:Int)=>n.set v.toNat true) (b:=List.replicate c.vars.toNat false) (0:Int) (by rw[hrd];exact hlt)
   simp only[go_sem,seval]
   repeat' first|assumption|(simp (disch:=first|assumption|omega|(simp;done)|(simp;omega)) only[yaa];try simp only[go_sem,seval])|(with_reducible first|apply And.intro|intro _)|((try rw[qaa]);omega)
   exact⟨i+1,by omega,by omega,rfl,by rw[hst]⟩
  ·have hst:qbg (List.replicate c.vars.toNat false) ((roots.map (· / 2)).take i)=qe2 c:=by rw[<-hn0,yaa (by rw[hrd];omega)]
   rw[hst];simp only[go_sem,seval]
   repeat' first|assumption|(simp (disch:=first|assumption|omega|(simp;done)|(simp;omega)) only[yaa];try simp only[go_sem,seval])|(with_reducible first|apply And.intro|intro _)|(refine qad hvs ?_;simp only[go_sem,seval])|((try rw[qaa]);omega)
   have hne0:=qis c;have hlu:qdk c=mapD c c.gates.length (qe2 c) []:=rfl;refine qai (E:=env 0) tok (σ:=Nat×List Bool×List Lut) (fun s=>[(9,.d (dI (c.first+(s.1:Int)-1))),(8,.sl 2 s.2.2.length 3 0 s.2.2.length),(5,.sl 1 0 1 0 c.vars.toNat),(3,.d (.lst 1 (qda c (qbi c)))),(1,.ptr 0 0)])
    (fun s=>[.box [.d (dI c.inputs),.d (dIs c.next),.d (dPs c.gates),.d (dIs c.outs)],.row 0 1 true (s.2.1.map D.bool),.row s.2.2.length 3 false (s.2.2.reverse.map fun x=>dLu x)])
    (fun s=>s.1<=c.gates.length/\s.2.1.length=c.vars.toNat/\s.2.2.length+s.1<=c.gates.length/\mapD c s.1 s.2.1 s.2.2=qdk c) (fun s=>s.1) [] [(8,3,false)] 1000 1000 ?_ ?_
   ·simp only[go_sem,seval];refine⟨(c.gates.length,qe2 c,[]),⟨by simp,hne0,by simp,hlu.symm⟩,?_⟩;simp;omega
   ·rintro⟨j,need,out⟩ ⟨hj,hnl,hol,hinv⟩;simp only at hj hnl hol hinv;cases j with
    | zero=>
     simp only[go_sem,seval]
     repeat' first|assumption|(simp (disch:=first|assumption|omega|(simp;done)|(simp;omega)) only[yaa];try simp only[go_sem,seval])|(with_reducible first|apply And.intro|intro _)|(refine qad hfst ?_;simp only[go_sem,seval])|((try rw[qaa]);omega)
     have hrl9:out.length=out.reverse.length:=by simp
     rw[hrl9];refine qaA (c_ReverseL out.reverse.length out.reverse (by simp;omega)) [2] (by simp only[go_sem,seval]) ?_
     ·rintro r0 H1 rfl;rw[List.reverse_reverse];have hmd:mapD c 0 need out=out:=rfl;rw[<-hinv,hmd];simp only[go_sem,seval]
      repeat' first|assumption|(simp (disch:=first|assumption|omega|(simp;done)|(simp;omega)) only[yaa];try simp only[go_sem,seval])|(with_reducible first|apply And.intro|intro _)|((try rw[qaa]);omega)
    | succ m=>
     have hbo:=qcC hc (i:=m) (by omega);have hbl:=qk2 c;have ev:(c.first+((m+1:Nat):Int)-1)=c.first+(m:Int):=by omega
     have ev2:(c.first+(m:Int)).toNat=c.first.toNat+m:=by omega
     have hbg : ∀ z,(qda c (qbi c)).getD (c.first.toNat+m) z=dIs ((qbi c).getD (c.first.toNat+m) []):=fun z=>qk4 (by omega) (by omega)
     have hstep:mapD c (m+1) need out=if need.getD (c.first.toNat+m) false=true then
       mapD c m (qbg need ((qbi c).getD (c.first.toNat+m) [])) (⟨c.first+(m:Int),(qbi c).getD (c.first.toNat+m) [],qf9 c (c.first+(m:Int)) ((qbi c).getD (c.first.toNat+m) [])⟩::out)
      else mapD c m need out:=rfl
     have htb:=c_coneTable c hc (c.first+(m:Int)) (by omega) (by omega) ((qbi c).getD (c.first.toNat+m) []) hbo.2.1 hbo.1 (fun z hz=>by have:=hbo.2.2 z hz;omega);have hcl:=c_CloneJ ((qbi c).getD (c.first.toNat+m) []) (by have:=hbo.2.1;omega);have hbD:(qda c (qbi c)).length=c.first.toNat+c.gates.length:=by rw[qc7 (by omega)];exact hbl
     rw[ev];generalize hL:(qbi c).getD (c.first.toNat+m) []=L at *
     by_cases hnd:need.getD (c.first.toNat+m) false=true
     ·rw[if_pos hnd] at hstep;simp only[go_sem,seval,ev2,hnd,hbg]
      repeat' first|assumption|(simp (disch:=first|assumption|omega|(simp;done)|(simp;omega)) only[yaa];try simp only[go_sem,seval,ev2,hnd,hbg])|(with_reducible first|apply And.intro|intro _)|(refine qad hfst ?_;simp only[go_sem,seval,ev2,hnd,hbg])|((try rw[qaa]);omega)
      refine qai (E:=env 0) tok (σ:=Nat) (fun k=>[(49,.d (dI k)),(48,.d (dI L.length)),(47,.d (dIs L)),(9,.d (dI (c.first+(m:Int)))),(8,.sl 2 out.length 3 0 out.length),(5,.sl 1 0 1 0 c.vars.toNat),(3,.d (.lst 1 (qda c (qbi c)))),(1,.ptr 0 0)])
       (fun k=>[.box [.d (dI c.inputs),.d (dIs c.next),.d (dPs c.gates),.d (dIs c.outs)],.row 0 1 true ((qbg need (L.take k)).map D.bool),.row out.length 3 false (out.reverse.map fun x=>dLu x)])
       (fun k=>k<=L.length) (fun k=>L.length-k) [] [] 1000 1000 ?_ ?_
      ·simp only[go_sem,seval];exact⟨0,by omega,rfl,rfl⟩
      ·intro k hk;have hsl:=qcf (L.take k) need;by_cases hkt:k<L.length
       ·have hst:qbg need (L.take (k+1))=(qbg need (L.take k)).set (L.getD k 0).toNat true:=qax (f:=fun(n:List Bool) (v:Int)=>n.set v.toNat true) (b:=need) (0:Int) hkt;have hz:=hbo.2.2 _ (qae hkt:L.getD k 0∈L);simp only[go_sem,seval,ev2,hbg]
        repeat' first|assumption|(simp (disch:=first|assumption|omega|(simp;done)|(simp;omega)) only[yaa];try simp only[go_sem,seval,ev2,hbg])|(with_reducible first|apply And.intro|intro _)|((try rw[qaa]);omega)
        exact⟨k+1,by omega,by omega,rfl,hst.symm⟩
       ·have hst:qbg need (L.take k)=qbg need L:=by rw[yaa (by omega)]
        rw[hst];rw[hst] at hsl;simp only[go_sem,seval,ev2,hbg]
        repeat' first|assumption|(simp (disch:=first|assumption|omega|(simp;done)|(simp;omega)) only[yaa];try simp only[go_sem,seval,ev2,hbg])|(with_reducible first|apply And.intro|intro _)|((try rw[qaa]);omega)
        refine qdB (E:=env 0) tok Tryz.follows 1000 1000 [] (.fst 0 (.fst 1 (.fst 2 (.fst 3 (.fst 4 (.fst 7 (.fst 8 (.fst 9 (.fst 10 (.fst 5 (.fst 11 (.one 6 (.one 12 (.fst 13 (.one 14 (.one 15 (.fst 16 (.done)))))))))))))))))) (by kernel_rfl) ?_;simp only[go_sem,seval,ev2,hbg]
        repeat' first|assumption|(simp (disch:=first|assumption|omega|(simp;done)|(simp;omega)) only[yaa];try simp only[go_sem,seval,ev2,hbg])|(with_reducible first|apply And.intro|intro _)|(refine qad htb ?_;simp only[go_sem,seval,ev2,hbg])|(refine qad hcl ?_;simp only[go_sem,seval,ev2,hbg])|((try rw[qaa]);omega)
        ·simp
        ·exact⟨(m,qbg need L,⟨c.first+(m:Int),L,qf9 c (c.first+(m:Int)) L⟩::out),⟨by simp only;omega,hsl.trans hnl,by simp only[yaf];omega,by rw[<-hinv,hstep]⟩,by simp only;omega,⟨rfl,by simp⟩,rfl,by simp,by simp⟩
     ·rw[if_neg hnd] at hstep;rw[Bool.not_eq_true] at hnd;simp only[go_sem,seval,ev2,hnd,hbg]
      repeat' first|assumption|(simp (disch:=first|assumption|omega|(simp;done)|(simp;omega)) only[yaa];try simp only[go_sem,seval,ev2,hnd,hbg])|(with_reducible first|apply And.intro|intro _)|(refine qad hfst ?_;simp only[go_sem,seval,ev2,hnd,hbg])|((try rw[qaa]);omega)
      exact⟨(m,need,out),⟨by simp only;omega,hnl,by simp only;omega,by rw[<-hinv,hstep]⟩,by simp only;omega,⟨rfl,rfl⟩,rfl,rfl,rfl⟩
end Go.Proofs

set_option linter.unusedVariables false
set_option linter.unusedSimpArgs false
namespace Go.VL
theorem qaR {β : Type}{f : β->Nat->β}{b : β}{i:Nat}:(List.range (i+1)).foldl f b=f ((List.range i).foldl f b) i:=by
 rw[yaT,yaN];rfl
def boxF (s:Int×Int×Int×Int) (t:Int):Int×Int×Int×Int:=(min s.1 (t/5),max s.2.1 (t/5),min s.2.2.1 (t%5),max s.2.2.2 (t%5))
def boxC (tiles:List Int):Int×Int×Int×Int:=tiles.foldl boxF (5,0,5,0)
def qeA (tiles:List Int):Int:=if tiles=[] then 0 else(boxC tiles).2.1-(boxC tiles).1+(boxC tiles).2.2.2-(boxC tiles).2.2.1
theorem qmh {tiles:List Int}(h : ∀ t∈tiles,0<=t/\t<=24):(0<=(boxC tiles).1/\(boxC tiles).1<=5)/\(0<=(boxC tiles).2.1/\(boxC tiles).2.1<=5)/\(0<=(boxC tiles).2.2.1/\(boxC tiles).2.2.1<=5)/\0<=(boxC tiles).2.2.2/\(boxC tiles).2.2.2<=5:=by
 have : ∀ (tiles:List Int) (s:Int×Int×Int×Int),(∀ t∈tiles,0<=t/\t<=24)->((0<=s.1/\s.1<=5)/\(0<=s.2.1/\s.2.1<=5)/\(0<=s.2.2.1/\s.2.2.1<=5)/\0<=s.2.2.2/\s.2.2.2<=5)->
   ((0<=(tiles.foldl boxF s).1/\(tiles.foldl boxF s).1<=5)/\(0<=(tiles.foldl boxF s).2.1/\(tiles.foldl boxF s).2.1<=5)/\(0<=(tiles.foldl boxF s).2.2.1/\(tiles.foldl boxF s).2.2.1<=5)/\0<=(tiles.foldl boxF s).2.2.2/\(tiles.foldl boxF s).2.2.2<=5):=by
  intro tiles;induction tiles with
  | nil=>exact fun s _ h=>h
  | cons t r ih=>
   intro s h hs;have ht:=h t (by simp);exact ih (boxF s t) (fun z hz=>h z (by simp[hz])) (by simp only[boxF];omega)
 exact this tiles (5,0,5,0) h (by simp)
theorem qkc {tiles:List Int}(h : ∀ t∈tiles,0<=t/\t<=24) : -10<=qeA tiles/\qeA tiles<=10:=by
 have:=qmh h;unfold qeA;split <;> omega
def qaV (c:Circ) (net:Int):Nat->List Int
 | 0=>[]
 | o+1=>qaV c net o++(if c.outs.getD o 0/2=net then [(o:Int)*5+4] else [])
def qbB (place:List Int) (i:Int):Int:=place.getD i.toNat 0
def qaw (c:Circ) (cells:List Cel) (place:List Int) (net:Int):List Int:=(qdd cells net).map (qbB place)++qaV c net c.outs.length
def qgR (c:Circ) (net:Int):List Int:=if 1<=net/\net<=c.inputs then [(net-1)*5] else []
def qa9 (cells:List Cel) (place:List Int) (net:Int):Nat->List Int
 | 0=>[]
 | i+1=>qa9 cells place net i++(if(cells.getD i ce0).net=net then [place.getD i 0] else [])
def addU (out:List Int) (s:Int):List Int:=if s∈out then out else out ++ [s]
def qdl (c:Circ) (cells:List Cel) (place:List Int) (net:Int):List Int:=
 if qaw c cells place net=[] then [] else(qaw c cells place net).foldl addU (qgR c net++qa9 cells place net cells.length)
def qgS (c:Circ) (cells:List Cel) (place:List Int):Nat->Int
 | 0=>0
 | k+1=>qgS c cells place k+qeA (qdl c cells place ((k:Int)+1))
def qdm (c:Circ) (cells:List Cel) (place:List Int):Int:=qgS c cells place (c.vars.toNat-1)
structure PlaceOk (n:Nat) (place:List Int):Prop where
 len:place.length=n
 rng : ∀ t∈place,0<=t/\t<=24
 nd:place.Nodup
theorem PlaceOk.get {n:Nat}{place:List Int}(h:PlaceOk n place) {i:Nat}(hi:i<n):0<=place.getD i 0/\place.getD i 0<=24:=h.rng _ (qae (by rw[h.len];exact hi))
theorem qgT {c:Circ}{net t:Int} : ∀ {n:Nat},t∈qaV c net n↔∃ o:Nat,o<n/\c.outs.getD o 0/2=net/\t=(o:Int)*5+4
 | 0=>by simp[qaV]
 | n+1=>by
  rw[qaV,yaq,qgT];constructor
  ·rintro(⟨o,h1,h2,h3⟩|h)
   ·exact⟨o,by omega,h2,h3⟩
   ·split at h
    ·rename_i h2;exact⟨n,by omega,h2,by simpa using h⟩
    ·simp at h
  ·rintro⟨o,h1,h2,h3⟩;by_cases ho:o<n
   ·exact .inl ⟨o,ho,h2,h3⟩
   ·obtain rfl:o=n:=by omega
    rw[if_pos h2];exact .inr (by simp[h3])
theorem qhi {cells:List Cel}{place:List Int}{net t:Int} : ∀ {n:Nat},t∈qa9 cells place net n↔∃ i:Nat,i<n/\(cells.getD i ce0).net=net/\t=place.getD i 0
 | 0=>by simp[qa9]
 | n+1=>by
  rw[qa9,yaq,qhi];constructor
  ·rintro(⟨o,h1,h2,h3⟩|h)
   ·exact⟨o,by omega,h2,h3⟩
   ·split at h
    ·rename_i h2;exact⟨n,by omega,h2,by simpa using h⟩
    ·simp at h
  ·rintro⟨o,h1,h2,h3⟩;by_cases ho:o<n
   ·exact .inl ⟨o,ho,h2,h3⟩
   ·obtain rfl:o=n:=by omega
    rw[if_pos h2];exact .inr (by simp[h3])
theorem qcD {c:Circ}{cells:List Cel}{place:List Int}{net t:Int}:t∈qaw c cells place net↔(∃ i:Nat,i<cells.length/\net∈(cells.getD i ce0).inputs/\t=place.getD i 0)∨∃ o:Nat,o<c.outs.length/\c.outs.getD o 0/2=net/\t=(o:Int)*5+4:=by
 rw[qaw,yaq,qgT,List.mem_map];constructor
 ·rintro(⟨i,h1,rfl⟩|h)
  ·obtain⟨j,h2,h3,rfl⟩:=qeb.1 h1;exact .inl ⟨j,h2,h3,rfl⟩
  ·exact .inr h
 ·rintro(⟨i,h1,h2,rfl⟩|h)
  ·exact .inl ⟨(i:Int),qeb.2 ⟨i,h1,h2,rfl⟩,rfl⟩
  ·exact .inr h
theorem qm0 {out:List Int}{s z:Int}:z∈addU out s↔z∈out∨z=s:=by
 unfold addU;split
 ·rename_i h;constructor
  ·exact .inl
  ·rintro(h1|rfl)
   ·exact h1
   ·exact h
 ·simp
theorem qgc {z:Int} : ∀ {l out:List Int},z∈l.foldl addU out↔z∈out∨z∈l
 | [],out=>by simp
 | s::l,out=>by
  rw[yaj,qgc,qm0,yax,or_assoc]
theorem qee : ∀ {l out:List Int},∃ r,l.foldl addU out=out++r
 | [],out=>⟨[],by simp⟩
 | s::l,out=>by
  obtain⟨r,hr⟩:=qee (l:=l) (out:=addU out s);rw[yaj,hr];unfold addU;split
  ·exact⟨r,rfl⟩
  ·exact⟨s::r,by simp⟩
theorem qgd {c:Circ}{cells:List Cel}{place:List Int}(hc:c.Valid) (hp:PlaceOk cells.length place) {net:Int} : ∀ t∈qdl c cells place net,0<=t/\t<=24:=by
 intro t ht;have hlo:=hc.lo;have hi1:=hc.i1;unfold qdl at ht;split at ht
 ·simp at ht
 ·rw[qgc,yaq] at ht;rcases ht with(h|h)|h
  ·unfold qgR at h;split at h
   ·obtain rfl:t=(net-1)*5:=by simpa using h
    omega
   ·simp at h
  ·obtain⟨i,h1,h2,rfl⟩:=qhi.1 h;exact hp.get h1
  ·rcases qcD.1 h with⟨i,h1,h2,rfl⟩|⟨o,h1,h2,rfl⟩
   ·exact hp.get h1
   ·omega
theorem qm1 {c:Circ}{cells:List Cel}{place:List Int}(hc:c.Valid) (hp:PlaceOk cells.length place) : ∀ (k:Nat),-10*(k:Int)<=qgS c cells place k/\qgS c cells place k<=10*k
 | 0=>by simp[qgS]
 | k+1=>by
  have:=qm1 hc hp k;have:=qkc (qgd hc hp (net:=(k:Int)+1));rw[qgS];omega
def tryP (place:List Int) (i:Nat) (tile:Int):List Int:=(place.map fun x=>if x=tile then place.getD i 0 else x).set i tile
theorem qge {place:List Int}{i:Nat}{tile:Int}:(tryP place i tile).length=place.length:=by simp[tryP]
theorem qgf {place:List Int}{i j:Nat}{tile:Int}(hj:j<place.length):(tryP place i tile).getD j 0=if j=i then tile else if place.getD j 0=tile then place.getD i 0 else place.getD j 0:=by
 unfold tryP;by_cases h:j=i
 ·subst h;simp[List.getD,hj]
 ·simp[List.getD,List.getElem?_set,Ne.symm h,hj,h]
theorem qef {l:List Int}:l.Nodup↔∀ i j,i<l.length->j<l.length->l.getD i 0=l.getD j 0->i=j:=by
 rw[List.nodup_iff_pairwise_ne,ybh];constructor
 ·intro h i j hi hj e;have e2:l[i]=l[j]:=by simpa [List.getD,hi,hj] using e
  rcases Nat.lt_trichotomy i j with h1|h1|h1
  ·exact absurd e2 (h i j hi hj h1)
  ·exact h1
  ·exact absurd e2.symm (h j i hj hi h1)
 ·intro h i j hi hj hij e;have:=h i j hi hj (by simpa [List.getD,hi,hj] using e);omega
theorem PlaceOk.try_ {n:Nat}{place:List Int}(h:PlaceOk n place) {i:Nat}(hi:i<n) {tile:Int}(ht:0<=tile/\tile<=24):PlaceOk n (tryP place i tile):=by
 have hl:=h.len;refine⟨by rw[qge,hl],fun t hm=>?_,?_⟩
 ·obtain⟨j,hj,rfl⟩:=qaU 0 hm;rw[qge,hl] at hj;rw[qgf (by omega)];have:=h.get hi;have:=h.get hj;split
  ·exact ht
  ·split <;> omega
 ·have hnd:=qef.1 h.nd;refine qef.2 fun a b ha hb e=>?_
  rw[qge,hl] at ha hb;rw[qgf (by omega),qgf (by omega)] at e;by_cases h1:a=i
  ·by_cases h2:b=i
   ·omega
   ·rw[if_pos h1,if_neg h2] at e;split at e
    ·rename_i h3;have:=hnd b i (by omega) (by omega) (by rw[h3,e]);omega
    ·rename_i h3;exact absurd e.symm h3
  ·by_cases h2:b=i
   ·rw[if_neg h1,if_pos h2] at e;split at e
    ·rename_i h3;have:=hnd a i (by omega) (by omega) (by rw[h3,<-e]);omega
    ·rename_i h3;exact absurd e h3
   ·rw[if_neg h1,if_neg h2] at e;split at e
    ·rename_i h3;split at e
     ·rename_i h4;exact hnd a b (by omega) (by omega) (by rw[h3,h4])
     ·have:=hnd i b (by omega) (by omega) e;omega
    ·split at e
     ·have:=hnd a i (by omega) (by omega) e;omega
     ·exact hnd a b (by omega) (by omega) e
def qeg (c:Circ) (cells:List Cel) (i:Nat) (st:List Int×Int) (t:Nat):List Int×Int:=
 if qdm c cells (tryP st.1 i (t:Int))<st.2 then(tryP st.1 i (t:Int),qdm c cells (tryP st.1 i (t:Int))) else st
def rowP (c:Circ) (cells:List Cel) (st:List Int×Int) (i:Nat):List Int×Int:=(List.range 25).foldl (qeg c cells i) st
def qcJ (c:Circ) (cells:List Cel) (st:List Int×Int) (s:Nat):List Int×Int:=(List.range cells.length).foldl (rowP c cells) st
def qcE (n:Nat):List Int:=(List.range n).map fun(i:Nat)=>(i:Int)
def qb8 (c:Circ) (cells:List Cel):List Int:=((List.range 3).foldl (qcJ c cells) (qcE cells.length,qdm c cells (qcE cells.length))).1
theorem qq9 {c:Circ}{cells:List Cel}{i:Nat}(hi:i<cells.length) {st:List Int×Int}(h:PlaceOk cells.length st.1) {t:Nat}(ht:t<25):PlaceOk cells.length (qeg c cells i st t).1:=by
 unfold qeg;split
 ·exact h.try_ hi (by omega)
 ·exact h
theorem qkd {c:Circ}{cells:List Cel}{i:Nat}(hi:i<cells.length) {st:List Int×Int}(h:PlaceOk cells.length st.1) : ∀ t,t<=25->PlaceOk cells.length ((List.range t).foldl (qeg c cells i) st).1
 | 0,_=>h
 | t+1,ht=>by
  rw[qaR];exact qq9 hi (qkd hi h t (by omega)) (by omega)
theorem qgg {c:Circ}{cells:List Cel}{st:List Int×Int}(h:PlaceOk cells.length st.1) : ∀ n,n<=cells.length->PlaceOk cells.length ((List.range n).foldl (rowP c cells) st).1
 | 0,_=>h
 | n+1,hn=>by
  rw[qaR];exact qkd (by omega) (qgg h n (by omega)) 25 (by omega)
theorem qke {n:Nat}(h:n<=25):PlaceOk n (qcE n):=by
 refine⟨by simp[qcE],fun t ht=>?_,?_⟩
 ·obtain⟨i,hi,rfl⟩:=List.mem_map.1 ht;have:=List.mem_range.1 hi;omega
 ·unfold qcE;rw[List.nodup_iff_pairwise_ne,List.pairwise_map];exact List.Pairwise.imp (fun {a b} h e=>h (by omega)) List.nodup_range
theorem qgh {c:Circ}{cells:List Cel}(hn:cells.length<=25) : ∀ s,PlaceOk cells.length ((List.range s).foldl (qcJ c cells) (qcE cells.length,qdm c cells (qcE cells.length))).1
 | 0=>qke hn
 | s+1=>by
  rw[qaR];exact qgg (qgh hn s) _ (yad _)
theorem qiu {c:Circ}{cells:List Cel}(hn:cells.length<=25):PlaceOk cells.length (qb8 c cells):=qgh hn 3
end Go.VL
