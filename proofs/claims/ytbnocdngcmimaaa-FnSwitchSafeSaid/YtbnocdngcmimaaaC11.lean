/- Contracts: simulation, the specification's. Conditions: none; lemmas. -/
import Derived.Test.YtbnocdngcmimaaaC8
set_option maxRecDepth 20000
set_option linter.unusedVariables false
set_option linter.unusedSimpArgs false
namespace Go.Proofs
open Go Go.VL
theorem qdN {P:Nat→Prop}{n i:Nat}(h1:i<n) (h2:P i) (hinv : ∀ j,j<i→P j) : ∃ s',(s'≤n∧∀ j,j<s'→P j)∧n-s'<n-i∧i+1=s':=
 ⟨i+1,⟨by omega,fun j hj=>by
  by_cases h:j=i
  ·subst h;exact h2
  ·exact hinv j (by omega)⟩,by omega,rfl⟩
theorem no_at {α : Type}{l:List α}{P : α→Prop}{d:Decidable (∀ x∈l,P x)}{i:Nat}(z : α) (h1:i<l.length) (h : ¬ P (l.getD i z)):false=decide (∀ x∈l,P x):=by
 rw[eq_comm,decide_eq_false_iff_not]
 exact fun h2=>h (h2 _ (qao h1))
theorem yes_at {α : Type}{l:List α}{P : α→Prop}{d:Decidable (∀ x∈l,P x)}(z : α) (h : ∀ j,j<l.length→P (l.getD j z)):true=decide (∀ x∈l,P x):=by
 rw[eq_comm,decide_eq_true_eq]
 exact(qfK z).2 h
theorem Try.c_l1First (c:Circ) (h : -1000≤c.inputs∧c.inputs≤1000):Pure Try.prog 124 [dC c] (dI c.first):=by
 refine qap (E:=Try.env 0) Try.tok rfl 1000 Try.func124 rfl rfl Try.ntmps124 (by simp) fun ok=>?_
 simp only[go_sem,seval] at ok
 simp only[go_sem,seval,Try.results124]
 repeat' first|assumption|(simp (disch:=first|assumption|omega|(simp;done)|(simp;omega)) only[qab,qad,List.take_of_length_le,qac];try simp only[go_sem,seval,Try.results124])|(with_reducible refine And.intro ?_ ?_)|(with_reducible intro _)|(refine @Exists.intro I _ (I.d D.nil) ?_;simp only[go_sem,seval,Try.results124])|((with_reducible (show Region.lexB _ _=true));kernel_rfl)|((try rw[qae]);omega)
 unfold Circ.first
 omega
theorem Try.c_l1Lits (l:List Int) (n:Int) (hn:0≤n∧n≤1000):Pure Try.prog 125 [dIs l,dI n] (.bool (decide (∀ x∈l,qbp x n))):=by
 refine qap (E:=Try.env 0) Try.tok rfl 1000 Try.func125 rfl rfl Try.ntmps125 (by simp) fun ok=>?_
 simp only[go_sem,seval] at ok
 simp only[go_sem,seval,Try.results125]
 refine qaB (E:=Try.env 0) Try.tok (σ:=Nat) (fun i=>[(0,.d (dIs l)),(1,.d (dI n)),(5,.d (dI i))]) (fun _=>[]) (fun i=>i≤l.length∧∀ j,j<i→qbp (l.getD j 0) n) (fun i=>l.length-i) [] 1000 1000 ?_ ?_ ?_
 ·simp only[go_sem,seval]
 ·simp only[go_sem,seval]
  exact⟨0,⟨by omega,fun j hj=>absurd hj (by omega)⟩,rfl⟩
 ·rintro i ⟨hi,hinv⟩
  simp only[go_sem,seval,Try.results125]
  repeat' first|assumption|(simp (disch:=first|assumption|omega|(simp;done)|(simp;omega)) only[qab,qad,List.take_of_length_le,qac];try simp only[go_sem,seval,Try.results125])|(with_reducible refine And.intro ?_ ?_)|(with_reducible intro _)|(refine qaj (Try.c_l1In _ _ _) ?_;simp only[go_sem,seval,Try.results125])|(refine @Exists.intro I _ (I.d D.nil) ?_;simp only[go_sem,seval,Try.results125])|((with_reducible (show Region.lexB _ _=true));kernel_rfl)|((try rw[qae]);omega)
  ·rename_i h1 h2
   exact no_at 0 h1 (by unfold qbp;omega)
  ·rename_i h1 h2
   exact qdN h1 (by unfold qbp;omega) hinv
  ·exact yes_at 0 fun j hj=>hinv j (by omega)
theorem Try.c_sCircuitValid (c:Circ):Pure Try.prog 118 [dC c] (.bool (decide c.Valid)):=by
 refine qap (E:=Try.env 0) Try.tok rfl 1000 Try.func118 rfl rfl Try.ntmps118 (by simp) fun ok=>?_
 simp only[go_sem,seval] at ok
 simp only[go_sem,seval,Try.results118]
 refine qaj (Try.c_l1In _ _ _) ?_
 simp only[go_sem,seval,Try.results118]
 refine⟨fun h=>Circ.notValid fun hv=>?_,fun h=>?_⟩
 ·have:=hv.i0;have:=hv.i1;have:=hv.ln;have:=hv.lg;have:=hv.lo
  omega
 refine qaj (Try.c_l1First c (by omega)) ?_
 have hb:1≤c.first∧c.first≤8:=by unfold Circ.first;omega
 simp only[go_sem,seval,Try.results118]
 refine qaB (E:=Try.env 0) Try.tok (σ:=Nat) (fun i=>[(1,.ptr 0 0),(3,.d (dI c.first)),(4,.d (dI i))]) (fun i=>[.box [.d (dI c.inputs),.d (dIs c.next),.d (dPs c.gates),.d (dIs c.outs)]])
  (fun i=>i≤c.gates.length∧∀ j,j<i→qbp (c.gates.getD j (0,0)).1 (c.first+(j:Int))∧qbp (c.gates.getD j (0,0)).2 (c.first+(j:Int))) (fun i=>c.gates.length-i) [] 1000 1000 ?_ ?_ ?_
 ·simp only[go_sem,seval]
 ·simp only[go_sem,seval]
  exact⟨0,⟨by omega,fun j hj=>absurd hj (by omega)⟩,rfl⟩
 ·rintro i ⟨hi,hinv⟩
  simp only[go_sem,seval,Try.results118]
  have hv0:c.vars=c.first+c.gates.length:=rfl
  refine⟨fun hlt=>?_,fun hge=>?_⟩
  ·refine qaz (E:=Try.env 0) Try.tok Try.follows 1000 1000 [] (.fst 0 (.fst 2 (.fst 6 (.fst 8 (.fst 13 (.fst 14 (.fst 15 (.fst 1 (.fst 3 (.fst 4 (.fst 5 (.fst 7 (.fst 9 (.fst 10 (.fst 11 (.one 12 (.one 16 (.fst 17 (.done))))))))))))))))))) (by kernel_rfl) ?_
   simp only[go_sem,seval,Try.results118]
   repeat' first|assumption|(simp (disch:=first|assumption|omega|(simp;done)|(simp;omega)) only[qab,qad,List.take_of_length_le,qac];try simp only[go_sem,seval,Try.results118])|(with_reducible refine And.intro ?_ ?_)|(with_reducible intro _)|(refine qaj (Try.c_l1Lits [_,_] _ (by omega)) ?_;simp only[go_sem,seval,Try.results118])|(refine @Exists.intro I _ (I.d D.nil) ?_;simp only[go_sem,seval,Try.results118])|((with_reducible (show Region.lexB _ _=true));kernel_rfl)|((try rw[qae]);omega)
   ·rename_i h2
    exact Circ.notValid fun hv=>h2 (hv.g i hlt)
   ·rename_i h2
    exact qdN hlt h2 hinv
  ·repeat' first|assumption|(simp (disch:=first|assumption|omega|(simp;done)|(simp;omega)) only[qab,qad,List.take_of_length_le,qac];try simp only[go_sem,seval,Try.results118])|(with_reducible refine And.intro ?_ ?_)|(with_reducible intro _)|(refine qaj (Try.c_l1Lits _ _ (by omega)) ?_;simp only[go_sem,seval,Try.results118])|(refine qaC (fun hg=>Try.c_l1Lits _ _ (by omega)) ?_;simp only[go_sem,seval,Try.results118])|(refine @Exists.intro I _ (I.d D.nil) ?_;simp only[go_sem,seval,Try.results118])|((with_reducible (show Region.lexB _ _=true));kernel_rfl)|((try rw[qae]);omega)
   rw[Bool.eq_iff_iff]
   simp only[Bool.and_eq_true,decide_eq_true_eq]
   refine⟨fun⟨q1,q2⟩=>⟨by omega,by omega,by omega,by omega,by omega,fun j hj=>hinv j (by omega),q1,q2⟩,fun hv=>⟨hv.n,hv.o⟩⟩
end Go.Proofs
