/- Contracts: simulation, the specification's. Conditions: none; lemmas. -/
import Derived.Test.YteikeianenfhaaaGreatC8
set_option maxRecDepth 20000
set_option linter.unusedVariables false
set_option linter.unusedSimpArgs false
set_option maxHeartbeats 2000000
namespace Go.Proofs
open Go Go.VL Tryz
theorem qj7 {P:Nat->Prop}{n i:Nat}(h1:i<n) (h2:P i) (hinv : ∀ j,j<i->P j) : ∃ s',(s'<=n/\∀ j,j<s'->P j)/\n-s'<n-i/\i+1=s':=
 ⟨i+1,⟨by omega,fun j hj=>by
  by_cases h:j=i
  ·subst h;exact h2
  ·exact hinv j (by omega)⟩,by omega,rfl⟩
theorem no_at {α : Type}{l:List α}{P : α->Prop}{d:Decidable (∀ x∈l,P x)}{i:Nat}(z : α) (h1:i<l.length) (h : ¬ P (l.getD i z)):false=decide (∀ x∈l,P x):=by
 rw[eq_comm,decide_eq_false_iff_not];exact fun h2=>h (h2 _ (qab h1))
theorem yes_at {α : Type}{l:List α}{P : α->Prop}{d:Decidable (∀ x∈l,P x)}(z : α) (h : ∀ j,j<l.length->P (l.getD j z)):true=decide (∀ x∈l,P x):=by
 rw[eq_comm,decide_eq_true_eq];exact(qlz z).2 h
theorem Tryz.c_l1First (c:Circ) (h : -1000<=c.inputs/\c.inputs<=1000):Pure prog 135 [dC c] (dI c.first):=by
 refine qaA func135 rfl ntmps135 fun ok=>?_
 simp only[go_sem,seval] at ok
 repeat' first|assumption|(simp (disch:=first|assumption|omega|(simp;done)|(simp;omega)) only[go_sem,seval])|(with_reducible first|apply And.intro|intro _)|((try rw[qaa]);omega)
 unfold Circ.first
 omega
theorem Tryz.c_l1Lits (l:List Int) (n:Int) (hn:0<=n/\n<=1000):Pure prog 136 [dIs l,dI n] (.bool (decide (∀ x∈l,qa6 x n))):=by
 refine qaA func136 rfl ntmps136 fun ok=>?_
 simp only[go_sem,seval] at ok⊢;refine qaI (E:=env 0) tok (σ:=Nat) (fun i=>[(0,.d (dIs l)),(1,.d (dI n)),(5,.d (dI i))]) (fun _=>[]) (fun i=>i<=l.length/\∀ j,j<i->qa6 (l.getD j 0) n) (fun i=>l.length-i) [] 1000 1000 ?_ ?_ ?_
 ·simp only[go_sem,seval]
 ·simp only[go_sem,seval];exact⟨0,⟨by omega,fun j hj=>absurd hj (by omega)⟩,rfl⟩
 ·rintro i ⟨hi,hinv⟩
  repeat' first|assumption|(simp (disch:=first|assumption|omega|(simp;done)|(simp;omega)) only[go_sem,seval])|(with_reducible first|apply And.intro|intro _)|(refine qad (c_l1In _ _ _) ?_)|((try rw[qaa]);omega)
  ·rename_i h1 h2;exact no_at 0 h1 (by unfold qa6;omega)
  ·rename_i h1 h2;exact qj7 h1 (by unfold qa6;omega) hinv
  ·exact yes_at 0 fun j hj=>hinv j (by omega)
theorem Tryz.c_sCircuitValid (c:Circ):Pure prog 72 [dC c] (.bool (decide c.Valid)):=by
 refine qaA func72 rfl ntmps72 fun ok=>?_
 simp only[go_sem,seval] at ok⊢;refine qad (c_l1In _ _ _) ?_;simp only[go_sem,seval];refine⟨fun h=>Circ.notValid fun hv=>?_,fun h=>?_⟩
 ·have:=hv.i0;have:=hv.i1;have:=hv.ln;have:=hv.lg;have:=hv.lo;omega
 refine qad (c_l1First c (by omega)) ?_;have hb:1<=c.first/\c.first<=8:=by unfold Circ.first;omega
 simp only[go_sem,seval];refine qaI (E:=env 0) tok (σ:=Nat) (fun i=>[(1,.ptr 0 0),(3,.d (dI c.first)),(4,.d (dI i))]) (fun i=>[.box [.d (dI c.inputs),.d (dIs c.next),.d (dPs c.gates),.d (dIs c.outs)]])
  (fun i=>i<=c.gates.length/\∀ j,j<i->qa6 (c.gates.getD j (0,0)).1 (c.first+(j:Int))/\qa6 (c.gates.getD j (0,0)).2 (c.first+(j:Int))) (fun i=>c.gates.length-i) [] 1000 1000 ?_ ?_ ?_
 ·simp only[go_sem,seval]
 ·simp only[go_sem,seval];exact⟨0,⟨by omega,fun j hj=>absurd hj (by omega)⟩,rfl⟩
 ·rintro i ⟨hi,hinv⟩;simp only[go_sem,seval];have hv0:c.vars=c.first+c.gates.length:=rfl
  refine⟨fun hlt=>?_,fun hge=>?_⟩
  ·refine qbN (n:=0) [] (fsts [0,2,6,8,13,14,15,1,3,4,5,7,9,10,11] (.one 12 (.one 16 (.fst 17 .done)))) ?_
   repeat' first|assumption|(simp (disch:=first|assumption|omega|(simp;done)|(simp;omega)) only[go_sem,seval])|(with_reducible first|apply And.intro|intro _)|(refine qad (c_l1Lits [_,_] _ (by omega)) ?_)|((try rw[qaa]);omega)
   ·rename_i h2;exact Circ.notValid fun hv=>h2 (hv.g i hlt)
   ·rename_i h2;exact qj7 hlt h2 hinv
  ·repeat' first|assumption|(simp (disch:=first|assumption|omega|(simp;done)|(simp;omega)) only[go_sem,seval])|(with_reducible first|apply And.intro|intro _)|(refine qad (c_l1Lits _ _ (by omega)) ?_)|(refine qaO (fun hg=>c_l1Lits _ _ (by omega)) ?_)|((try rw[qaa]);omega)
   rw[Bool.eq_iff_iff];simp only[yaj,decide_eq_true_eq];refine⟨fun⟨q1,q2⟩=>⟨by omega,by omega,by omega,by omega,by omega,fun j hj=>hinv j (by omega),q1,q2⟩,fun hv=>⟨hv.n,hv.o⟩⟩
end Go.Proofs
