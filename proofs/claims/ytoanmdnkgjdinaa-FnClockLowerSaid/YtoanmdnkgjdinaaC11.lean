/- Contracts, plain definitions and lemmas. Conditions: none; lemmas. -/
import Derived.Test.YtoanmdnkgjdinaaC92
set_option maxRecDepth 20000
set_option linter.unusedVariables false
set_option linter.unusedSimpArgs false
namespace Go.Proofs
open Go Go.VL
noncomputable instance:DecidableEq Circ:=fun _ _=>Classical.propDecidable _
theorem Try.c_eqGate (p q:Int×Int):Pure Try.prog 84 [dP p,dP q] (.bool (decide (p=q))):=by
 refine qan (E:=Try.env 0) Try.tok rfl 1000 Try.func84 rfl rfl Try.ntmps84 (by simp) fun ok=>?_
 simp only[go_sem,seval] at ok
 simp only[go_sem,seval,Try.results84]
 obtain⟨a,b⟩:=p
 obtain⟨c,d⟩:=q
 simp only[Prod.mk.injEq,false_eq_decide_iff,true_eq_decide_iff]
 exact⟨fun h=>by simp[h],fun h=>⟨fun h2=>by simp[h2],fun h2=>⟨h,h2⟩⟩⟩
theorem Try.c_eqGateS (a b:List (Int×Int)):Pure Try.prog 59 [dPs a,dPs b] (.bool (decide (a=b))):=by
 refine qan (E:=Try.env 0) Try.tok rfl 1000 Try.func59 rfl rfl Try.ntmps59 (by simp) fun ok=>?_
 simp only[go_sem,seval] at ok
 simp only[go_sem,seval,Try.results59]
 refine⟨fun h=>?_,fun hlen=>?_⟩
 ·simp only[false_eq_decide_iff]
  rintro rfl
  exact h rfl
 refine qaH (E:=Try.env 0) Try.tok (σ:=Nat) (fun i=>[(0,.d (dPs a)),(1,.d (dPs b)),(5,.d (dI i))]) (fun _=>[]) (fun i=>i≤a.length∧∀ j,j<i→a.getD j (0,0)=b.getD j (0,0)) (fun i=>a.length-i) [] 1000 1000 ?_ ?_ ?_
 ·simp only[go_sem,seval]
 ·simp only[go_sem,seval]
  exact⟨0,⟨by omega,by omega⟩,rfl⟩
 ·intro i hi
  simp only[go_sem,seval,Try.results59]
  refine⟨fun h1=>⟨by kernel_rfl,h1,by omega,qa1 (fun _=>⟨Try.c_eqGate _ _,trivial⟩) ?_⟩,fun h1=>?_⟩
  ·simp only[go_sem,seval,Try.results59]
   refine⟨fun h2=>?_,fun h2=>⟨by rw[qad];omega,i+1,⟨by omega,fun j hj=>?_⟩,by omega,rfl⟩⟩
   ·simp only[false_eq_decide_iff]
    rintro rfl
    exact h2 rfl
   ·by_cases hji:j=i
    ·subst hji;exact h2
    ·exact hi.2 j (by omega)
  ·simp only[true_eq_decide_iff]
   exact qei (0,0) hlen fun j hj=>hi.2 j (by omega)
theorem Circ.ext' {c d:Circ}(h1:c.inputs=d.inputs) (h2:c.next=d.next) (h3:c.gates=d.gates) (h4:c.outs=d.outs):c=d:=by cases c;cases d;simp_all
theorem Try.c_eqCircuit (c d:Circ):Pure Try.prog 28 [dC c,dC d] (.bool (decide (c=d))):=by
 refine qan (E:=Try.env 0) Try.tok rfl 1000 Try.func28 rfl rfl Try.ntmps28 (by simp) fun ok=>?_
 simp only[go_sem,seval] at ok
 simp only[go_sem,seval,Try.results28]
 repeat' first|assumption|(simp (disch:=first|assumption|omega|(simp;done)|(simp;omega)) only[qaa,qac,List.take_of_length_le,qab];try simp only[go_sem,seval,Try.results28])|(with_reducible refine And.intro ?_ ?_)|(with_reducible intro _)|(refine qai (Try.c_eqIntS _ _) ?_;simp only[go_sem,seval,Try.results28])|(refine qai (Try.c_eqGateS _ _) ?_;simp only[go_sem,seval,Try.results28])|((try rw[qad]);omega)
 ·simp only[false_eq_decide_iff];rintro rfl;simp_all
 ·simp only[false_eq_decide_iff];rintro rfl;simp_all
 ·simp only[false_eq_decide_iff];rintro rfl;simp_all
 ·simp only[false_eq_decide_iff];rintro rfl;simp_all
 ·simp only[true_eq_decide_iff]
  exact Circ.ext' (by assumption) (by assumption) (by assumption) (by assumption)
end Go.Proofs

set_option maxRecDepth 20000
set_option linter.unusedVariables false
set_option linter.unusedSimpArgs false
namespace Go.Proofs
open Go Go.VL
theorem qky {P:Nat→Prop}{n i:Nat}(h1:i<n) (h2:P i) (hinv : ∀ j,j<i→P j) : ∃ s',(s'≤n∧∀ j,j<s'→P j)∧n-s'<n-i∧i+1=s':=
 ⟨i+1,⟨by omega,fun j hj=>by
  by_cases h:j=i
  ·subst h;exact h2
  ·exact hinv j (by omega)⟩,by omega,rfl⟩
theorem no_at {α : Type}{l:List α}{P : α→Prop}{d:Decidable (∀ x∈l,P x)}{i:Nat}(z : α) (h1:i<l.length) (h : ¬ P (l.getD i z)):false=decide (∀ x∈l,P x):=by
 rw[eq_comm,decide_eq_false_iff_not]
 exact fun h2=>h (h2 _ (qal h1))
theorem yes_at {α : Type}{l:List α}{P : α→Prop}{d:Decidable (∀ x∈l,P x)}(z : α) (h : ∀ j,j<l.length→P (l.getD j z)):true=decide (∀ x∈l,P x):=by
 rw[eq_comm,decide_eq_true_eq]
 exact(qlY z).2 h
theorem Try.c_l1First (c:Circ) (h : -1000≤c.inputs∧c.inputs≤1000):Pure Try.prog 69 [dC c] (dI c.first):=by
 refine qan (E:=Try.env 0) Try.tok rfl 1000 Try.func69 rfl rfl Try.ntmps69 (by simp) fun ok=>?_
 simp only[go_sem,seval] at ok
 simp only[go_sem,seval,Try.results69]
 repeat' first|assumption|(simp (disch:=first|assumption|omega|(simp;done)|(simp;omega)) only[qaa,qac,List.take_of_length_le,qab];try simp only[go_sem,seval,Try.results69])|(with_reducible refine And.intro ?_ ?_)|(with_reducible intro _)|((try rw[qad]);omega)
 unfold Circ.first
 omega
theorem Try.c_l1Lits (l:List Int) (n:Int) (hn:0≤n∧n≤1000):Pure Try.prog 86 [dIs l,dI n] (.bool (decide (∀ x∈l,qbc x n))):=by
 refine qan (E:=Try.env 0) Try.tok rfl 1000 Try.func86 rfl rfl Try.ntmps86 (by simp) fun ok=>?_
 simp only[go_sem,seval] at ok
 simp only[go_sem,seval,Try.results86]
 refine qaH (E:=Try.env 0) Try.tok (σ:=Nat) (fun i=>[(0,.d (dIs l)),(1,.d (dI n)),(5,.d (dI i))]) (fun _=>[]) (fun i=>i≤l.length∧∀ j,j<i→qbc (l.getD j 0) n) (fun i=>l.length-i) [] 1000 1000 ?_ ?_ ?_
 ·simp only[go_sem,seval]
 ·simp only[go_sem,seval]
  exact⟨0,⟨by omega,fun j hj=>absurd hj (by omega)⟩,rfl⟩
 ·rintro i ⟨hi,hinv⟩
  simp only[go_sem,seval,Try.results86]
  repeat' first|assumption|(simp (disch:=first|assumption|omega|(simp;done)|(simp;omega)) only[qaa,qac,List.take_of_length_le,qab];try simp only[go_sem,seval,Try.results86])|(with_reducible refine And.intro ?_ ?_)|(with_reducible intro _)|(refine qai (Try.c_l1In _ _ _) ?_;simp only[go_sem,seval,Try.results86])|((try rw[qad]);omega)
  ·rename_i h1 h2
   exact no_at 0 h1 (by unfold qbc;omega)
  ·rename_i h1 h2
   exact qky h1 (by unfold qbc;omega) hinv
  ·exact yes_at 0 fun j hj=>hinv j (by omega)
theorem Try.c_sCircuitValid (c:Circ):Pure Try.prog 66 [dC c] (.bool (decide c.Valid)):=by
 refine qan (E:=Try.env 0) Try.tok rfl 1000 Try.func66 rfl rfl Try.ntmps66 (by simp) fun ok=>?_
 simp only[go_sem,seval] at ok
 simp only[go_sem,seval,Try.results66]
 refine qai (Try.c_l1In _ _ _) ?_
 simp only[go_sem,seval,Try.results66]
 refine⟨fun h=>Circ.notValid fun hv=>?_,fun h=>?_⟩
 ·have:=hv.i0;have:=hv.i1;have:=hv.ln;have:=hv.lg;have:=hv.lo
  omega
 refine qai (Try.c_l1First c (by omega)) ?_
 have hb:1≤c.first∧c.first≤8:=by unfold Circ.first;omega
 simp only[go_sem,seval,Try.results66]
 refine qaH (E:=Try.env 0) Try.tok (σ:=Nat) (fun i=>[(1,.ptr 0 0),(3,.d (dI c.first)),(4,.d (dI i))]) (fun i=>[.box [.d (dI c.inputs),.d (dIs c.next),.d (dPs c.gates),.d (dIs c.outs)]])
  (fun i=>i≤c.gates.length∧∀ j,j<i→qbc (c.gates.getD j (0,0)).1 (c.first+(j:Int))∧qbc (c.gates.getD j (0,0)).2 (c.first+(j:Int))) (fun i=>c.gates.length-i) [] 1000 1000 ?_ ?_ ?_
 ·simp only[go_sem,seval]
 ·simp only[go_sem,seval]
  exact⟨0,⟨by omega,fun j hj=>absurd hj (by omega)⟩,rfl⟩
 ·rintro i ⟨hi,hinv⟩
  simp only[go_sem,seval,Try.results66]
  have hv0:c.vars=c.first+c.gates.length:=rfl
  refine⟨fun hlt=>?_,fun hge=>?_⟩
  ·refine qaQ (E:=Try.env 0) Try.tok Try.follows 1000 1000 [] (.fst 0 (.fst 2 (.fst 6 (.fst 8 (.fst 13 (.fst 14 (.fst 15 (.fst 1 (.fst 3 (.fst 4 (.fst 5 (.fst 7 (.fst 9 (.fst 10 (.fst 11 (.one 12 (.one 16 (.fst 17 (.done))))))))))))))))))) (by kernel_rfl) ?_
   simp only[go_sem,seval,Try.results66]
   repeat' first|assumption|(simp (disch:=first|assumption|omega|(simp;done)|(simp;omega)) only[qaa,qac,List.take_of_length_le,qab];try simp only[go_sem,seval,Try.results66])|(with_reducible refine And.intro ?_ ?_)|(with_reducible intro _)|(refine qai (Try.c_l1Lits [_,_] _ (by omega)) ?_;simp only[go_sem,seval,Try.results66])|((try rw[qad]);omega)
   ·rename_i h2
    exact Circ.notValid fun hv=>h2 (hv.g i hlt)
   ·rename_i h2
    exact qky hlt h2 hinv
  ·repeat' first|assumption|(simp (disch:=first|assumption|omega|(simp;done)|(simp;omega)) only[qaa,qac,List.take_of_length_le,qab];try simp only[go_sem,seval,Try.results66])|(with_reducible refine And.intro ?_ ?_)|(with_reducible intro _)|(refine qai (Try.c_l1Lits _ _ (by omega)) ?_;simp only[go_sem,seval,Try.results66])|(refine qbl (fun hg=>Try.c_l1Lits _ _ (by omega)) ?_;simp only[go_sem,seval,Try.results66])|((try rw[qad]);omega)
   rw[Bool.eq_iff_iff]
   simp only[Bool.and_eq_true,decide_eq_true_eq]
   refine⟨fun⟨q1,q2⟩=>⟨by omega,by omega,by omega,by omega,by omega,fun j hj=>hinv j (by omega),q1,q2⟩,fun hv=>⟨hv.n,hv.o⟩⟩
theorem Try.c_toIntS (l:List Int) (hl:l.length≤1048576):Pure Try.prog 27 [dIs l] (dIs l):=by
 refine qan (E:=Try.env 0) Try.tok rfl 1000 Try.func27 rfl rfl Try.ntmps27 (by simp) fun ok=>?_
 simp only[go_sem,seval] at ok
 simp only[go_sem,seval,Try.results27]
 refine⟨by omega,?_⟩
 refine qaH (E:=Try.env 0) Try.tok (σ:=Nat×List Int) (fun s=>[(0,.d (dIs l)),(3,.sl 0 0 1 0 l.length),(4,.d (dI s.1))]) (fun s=>[.row 0 1 true (s.2.map (D.int .i64))]) (fun s=>s.1≤l.length∧s.2.length=l.length∧∀ j,j<s.1→s.2.getD j 0=l.getD j 0) (fun s=>l.length-s.1) [] 1000 1000 ?_ ?_ ?_
 ·simp only[go_sem,seval]
 ·simp only[go_sem,seval]
  exact⟨(0,List.replicate l.length 0),⟨by omega,by simp,fun j hj=>absurd hj (by simp)⟩,by simp⟩
 ·rintro⟨i,b⟩ ⟨hi,hb,hinv⟩
  simp only at hi hb hinv
  simp only[go_sem,seval,Try.results27]
  repeat' first|assumption|(simp (disch:=first|assumption|omega|(simp;done)|(simp;omega)) only[qaa,qac,List.take_of_length_le,qab];try simp only[go_sem,seval,Try.results27])|(with_reducible refine And.intro ?_ ?_)|(with_reducible intro _)|((try rw[qad]);omega)
  ·refine⟨(i+1,b.set i (l.getD i 0)),⟨by omega,by simpa using hb,fun j hj=>?_⟩,by omega,rfl,rfl⟩
   simp only at hj ⊢
   by_cases hji:j=i
   ·subst hji;rw[qhM _ (by omega)]
   ·rw[qhN _ (by omega)];exact hinv j (by omega)
  ·exact qei 0 hb fun j hj=>hinv j (by omega)
theorem Try.c_szIntS (l:List Int) (k:Int) (hk:0≤k∧k≤1048576):Pure Try.prog 56 [dIs l,dI k] (dI (if k<l.length then -1 else k-(l.length:Int))):=by
 refine qan (E:=Try.env 0) Try.tok rfl 1000 Try.func56 rfl rfl Try.ntmps56 (by simp) fun ok=>?_
 simp only[go_sem,seval] at ok
 simp only[go_sem,seval,Try.results56]
 refine⟨by rw[qad];omega,fun h=>?_,fun h=>?_⟩
 ·rw[if_pos (by omega)]
 ·rw[if_neg (by omega)]
theorem Try.c_toGate (p:Int×Int):Pure Try.prog 83 [dP p] (dP p):=by
 refine qan (E:=Try.env 0) Try.tok rfl 1000 Try.func83 rfl rfl Try.ntmps83 (by simp) fun ok=>?_
 simp only[go_sem,seval] at ok
 simp only[go_sem,seval,Try.results83]
 repeat' first|assumption|(simp (disch:=first|assumption|omega|(simp;done)|(simp;omega)) only[qaa,qac,List.take_of_length_le,qab];try simp only[go_sem,seval,Try.results83])|(with_reducible refine And.intro ?_ ?_)|(with_reducible intro _)|((try rw[qad]);omega)
theorem Try.c_toGateS (l:List (Int×Int)) (hl:l.length≤1048576):Pure Try.prog 58 [dPs l] (dPs l):=by
 refine qan (E:=Try.env 0) Try.tok rfl 1000 Try.func58 rfl rfl Try.ntmps58 (by simp) fun ok=>?_
 simp only[go_sem,seval] at ok
 simp only[go_sem,seval,Try.results58]
 refine⟨by omega,?_⟩
 refine qaH (E:=Try.env 0) Try.tok (σ:=Nat×List (Int×Int)) (fun s=>[(0,.d (dPs l)),(3,.sl 0 0 2 0 l.length),(4,.d (dI s.1))]) (fun s=>[.row 0 2 true (s.2.map dP)]) (fun s=>s.1≤l.length∧s.2.length=l.length∧∀ j,j<s.1→s.2.getD j (0,0)=l.getD j (0,0)) (fun s=>l.length-s.1) [] 1000 1000 ?_ ?_ ?_
 ·simp only[go_sem,seval]
 ·simp only[go_sem,seval]
  exact⟨(0,List.replicate l.length (0,0)),⟨by omega,by simp,fun j hj=>absurd hj (by simp)⟩,by simp⟩
 ·rintro⟨i,b⟩ ⟨hi,hb,hinv⟩
  simp only at hi hb hinv
  simp only[go_sem,seval,Try.results58]
  repeat' first|assumption|(simp (disch:=first|assumption|omega|(simp;done)|(simp;omega)) only[qaa,qac,List.take_of_length_le,qab];try simp only[go_sem,seval,Try.results58])|(with_reducible refine And.intro ?_ ?_)|(with_reducible intro _)|(refine qai (Try.c_toGate _) ?_;simp only[go_sem,seval,Try.results58])|((try rw[qad]);omega)
  ·refine⟨(i+1,b.set i (l.getD i (0,0))),⟨by omega,by simpa using hb,fun j hj=>?_⟩,by omega,rfl,rfl⟩
   simp only at hj ⊢
   by_cases hji:j=i
   ·subst hji;rw[qhM _ (by omega)]
   ·rw[qhN _ (by omega)];exact hinv j (by omega)
  ·exact qei (0,0) hb fun j hj=>hinv j (by omega)
theorem Try.c_toCircuit (c:Circ) (h1:c.next.length≤1048576) (h2:c.gates.length≤1048576) (h3:c.outs.length≤1048576):Pure Try.prog 26 [dC c] (dC c):=by
 refine qan (E:=Try.env 0) Try.tok rfl 1000 Try.func26 rfl rfl Try.ntmps26 (by simp) fun ok=>?_
 simp only[go_sem,seval] at ok
 simp only[go_sem,seval,Try.results26]
 repeat' first|assumption|(simp (disch:=first|assumption|omega|(simp;done)|(simp;omega)) only[qaa,qac,List.take_of_length_le,qab];try simp only[go_sem,seval,Try.results26])|(with_reducible refine And.intro ?_ ?_)|(with_reducible intro _)|(refine qdo (Try.c_toIntS _ (by omega)) ?_;simp only[go_sem,seval,Try.results26])|(refine qdo (Try.c_toGateS _ (by omega)) ?_;simp only[go_sem,seval,Try.results26])|((try rw[qad]);omega)
theorem Try.c_szGateS (l:List (Int×Int)) (k:Int) (hk:0≤k∧k≤1048576):Pure Try.prog 57 [dPs l,dI k] (dI (if k<l.length then -1 else k-(l.length:Int))):=by
 refine qan (E:=Try.env 0) Try.tok rfl 1000 Try.func57 rfl rfl Try.ntmps57 (by simp) fun ok=>?_
 simp only[go_sem,seval] at ok
 simp only[go_sem,seval,Try.results57]
 refine⟨by rw[qad];omega,fun h=>?_,fun h=>?_⟩
 ·rw[if_pos (by omega)]
 ·rw[if_neg (by omega)]
end Go.Proofs
