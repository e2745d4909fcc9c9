/- Contracts: simulation, the specification's. Conditions: none; lemmas. -/
import Derived.Test.YteikeianenfhaaaGreatC8
set_option maxRecDepth 20000
set_option linter.unusedVariables false
set_option linter.unusedSimpArgs false
namespace Go.Proofs
open Go Go.VL
theorem qgg {P:Nat->Prop}{n i:Nat}(h1:i<n) (h2:P i) (hinv : ∀ j,j<i->P j) : ∃ s',(s'<=n/\∀ j,j<s'->P j)/\n-s'<n-i/\i+1=s':=
 ⟨i+1,⟨by omega,fun j hj=>by
  by_cases h:j=i
  ·subst h;exact h2
  ·exact hinv j (by omega)⟩,by omega,rfl⟩
theorem no_at {α : Type}{l:List α}{P : α->Prop}{d:Decidable (∀ x∈l,P x)}{i:Nat}(z : α) (h1:i<l.length) (h : ¬ P (l.getD i z)):false=decide (∀ x∈l,P x):=by
 rw[eq_comm,decide_eq_false_iff_not];exact fun h2=>h (h2 _ (qal h1))
theorem yes_at {α : Type}{l:List α}{P : α->Prop}{d:Decidable (∀ x∈l,P x)}(z : α) (h : ∀ j,j<l.length->P (l.getD j z)):true=decide (∀ x∈l,P x):=by
 rw[eq_comm,decide_eq_true_eq];exact(qmO z).2 h
theorem Tryz.c_l1First (c:Circ) (h : -1000<=c.inputs/\c.inputs<=1000):Pure Tryz.prog 135 [dC c] (dI c.first):=by
 refine qas (E:=Tryz.env 0) Tryz.tok rfl 1000 Tryz.func135 rfl rfl Tryz.ntmps135 (by simp) fun ok=>?_
 simp only[go_sem,seval] at ok;simp only[go_sem,seval]
 repeat' first|assumption|(simp (disch:=first|assumption|omega|(simp;done)|(simp;omega)) only[qaa,qac,yaa,qab];try simp only[go_sem,seval])|(with_reducible first|refine And.intro ?_ ?_|intro _)|((try rw[qad]);omega)
 unfold Circ.first
 omega
theorem Tryz.c_l1Lits (l:List Int) (n:Int) (hn:0<=n/\n<=1000):Pure Tryz.prog 136 [dIs l,dI n] (.bool (decide (∀ x∈l,qa4 x n))):=by
 refine qas (E:=Tryz.env 0) Tryz.tok rfl 1000 Tryz.func136 rfl rfl Tryz.ntmps136 (by simp) fun ok=>?_
 simp only[go_sem,seval] at ok;simp only[go_sem,seval];refine qaF (E:=Tryz.env 0) Tryz.tok (σ:=Nat) (fun i=>[(0,.d (dIs l)),(1,.d (dI n)),(5,.d (dI i))]) (fun _=>[]) (fun i=>i<=l.length/\∀ j,j<i->qa4 (l.getD j 0) n) (fun i=>l.length-i) [] 1000 1000 ?_ ?_ ?_
 ·simp only[go_sem,seval]
 ·simp only[go_sem,seval];exact⟨0,⟨by omega,fun j hj=>absurd hj (by omega)⟩,rfl⟩
 ·rintro i ⟨hi,hinv⟩;simp only[go_sem,seval]
  repeat' first|assumption|(simp (disch:=first|assumption|omega|(simp;done)|(simp;omega)) only[qaa,qac,yaa,qab];try simp only[go_sem,seval])|(with_reducible first|refine And.intro ?_ ?_|intro _)|(refine qaj (Tryz.c_l1In _ _ _) ?_;simp only[go_sem,seval])|((try rw[qad]);omega)
  ·rename_i h1 h2;exact no_at 0 h1 (by unfold qa4;omega)
  ·rename_i h1 h2;exact qgg h1 (by unfold qa4;omega) hinv
  ·exact yes_at 0 fun j hj=>hinv j (by omega)
theorem Tryz.c_sCircuitValid (c:Circ):Pure Tryz.prog 72 [dC c] (.bool (decide c.Valid)):=by
 refine qas (E:=Tryz.env 0) Tryz.tok rfl 1000 Tryz.func72 rfl rfl Tryz.ntmps72 (by simp) fun ok=>?_
 simp only[go_sem,seval] at ok;simp only[go_sem,seval];refine qaj (Tryz.c_l1In _ _ _) ?_;simp only[go_sem,seval];refine⟨fun h=>Circ.notValid fun hv=>?_,fun h=>?_⟩
 ·have:=hv.i0;have:=hv.i1;have:=hv.ln;have:=hv.lg;have:=hv.lo;omega
 refine qaj (Tryz.c_l1First c (by omega)) ?_;have hb:1<=c.first/\c.first<=8:=by unfold Circ.first;omega
 simp only[go_sem,seval];refine qaF (E:=Tryz.env 0) Tryz.tok (σ:=Nat) (fun i=>[(1,.ptr 0 0),(3,.d (dI c.first)),(4,.d (dI i))]) (fun i=>[.box [.d (dI c.inputs),.d (dIs c.next),.d (dPs c.gates),.d (dIs c.outs)]])
  (fun i=>i<=c.gates.length/\∀ j,j<i->qa4 (c.gates.getD j (0,0)).1 (c.first+(j:Int))/\qa4 (c.gates.getD j (0,0)).2 (c.first+(j:Int))) (fun i=>c.gates.length-i) [] 1000 1000 ?_ ?_ ?_
 ·simp only[go_sem,seval]
 ·simp only[go_sem,seval];exact⟨0,⟨by omega,fun j hj=>absurd hj (by omega)⟩,rfl⟩
 ·rintro i ⟨hi,hinv⟩;simp only[go_sem,seval];have hv0:c.vars=c.first+c.gates.length:=rfl
  refine⟨fun hlt=>?_,fun hge=>?_⟩
  ·refine qaL (E:=Tryz.env 0) Tryz.tok Tryz.follows 1000 1000 [] (.fst 0 (.fst 2 (.fst 6 (.fst 8 (.fst 13 (.fst 14 (.fst 15 (.fst 1 (.fst 3 (.fst 4 (.fst 5 (.fst 7 (.fst 9 (.fst 10 (.fst 11 (.one 12 (.one 16 (.fst 17 (.done))))))))))))))))))) (by kernel_rfl) ?_;simp only[go_sem,seval]
   repeat' first|assumption|(simp (disch:=first|assumption|omega|(simp;done)|(simp;omega)) only[qaa,qac,yaa,qab];try simp only[go_sem,seval])|(with_reducible first|refine And.intro ?_ ?_|intro _)|(refine qaj (Tryz.c_l1Lits [_,_] _ (by omega)) ?_;simp only[go_sem,seval])|((try rw[qad]);omega)
   ·rename_i h2;exact Circ.notValid fun hv=>h2 (hv.g i hlt)
   ·rename_i h2;exact qgg hlt h2 hinv
  ·repeat' first|assumption|(simp (disch:=first|assumption|omega|(simp;done)|(simp;omega)) only[qaa,qac,yaa,qab];try simp only[go_sem,seval])|(with_reducible first|refine And.intro ?_ ?_|intro _)|(refine qaj (Tryz.c_l1Lits _ _ (by omega)) ?_;simp only[go_sem,seval])|(refine qaZ (fun hg=>Tryz.c_l1Lits _ _ (by omega)) ?_;simp only[go_sem,seval])|((try rw[qad]);omega)
   rw[Bool.eq_iff_iff];simp only[yao,decide_eq_true_eq];refine⟨fun⟨q1,q2⟩=>⟨by omega,by omega,by omega,by omega,by omega,fun j hj=>hinv j (by omega),q1,q2⟩,fun hv=>⟨hv.n,hv.o⟩⟩
theorem Tryz.c_toIntS (l:List Int) (hl:l.length<=1048576):Pure Tryz.prog 87 [dIs l] (dIs l):=by
 refine qas (E:=Tryz.env 0) Tryz.tok rfl 1000 Tryz.func87 rfl rfl Tryz.ntmps87 (by simp) fun ok=>?_
 simp only[go_sem,seval] at ok;simp only[go_sem,seval];refine⟨by omega,?_⟩;refine qaF (E:=Tryz.env 0) Tryz.tok (σ:=Nat×List Int) (fun s=>[(0,.d (dIs l)),(3,.sl 0 0 1 0 l.length),(4,.d (dI s.1))]) (fun s=>[.row 0 1 true (s.2.map (D.int .i64))]) (fun s=>s.1<=l.length/\s.2.length=l.length/\∀ j,j<s.1->s.2.getD j 0=l.getD j 0) (fun s=>l.length-s.1) [] 1000 1000 ?_ ?_ ?_
 ·simp only[go_sem,seval]
 ·simp only[go_sem,seval];exact⟨(0,List.replicate l.length 0),⟨by omega,by simp,fun j hj=>absurd hj (by simp)⟩,by simp⟩
 ·rintro⟨i,b⟩ ⟨hi,hb,hinv⟩;simp only at hi hb hinv;simp only[go_sem,seval]
  repeat' first|assumption|(simp (disch:=first|assumption|omega|(simp;done)|(simp;omega)) only[qaa,qac,yaa,qab];try simp only[go_sem,seval])|(with_reducible first|refine And.intro ?_ ?_|intro _)|((try rw[qad]);omega)
  ·refine⟨(i+1,b.set i (l.getD i 0)),⟨by omega,by simpa using hb,fun j hj=>?_⟩,by omega,rfl,rfl⟩;simp only at hj ⊢;by_cases hji:j=i
   ·subst hji;rw[qcU _ (by omega)]
   ·rw[qdG _ (by omega)];exact hinv j (by omega)
  ·exact qbz 0 hb fun j hj=>hinv j (by omega)
theorem Tryz.c_szIntS (l:List Int) (k:Int) (hk:0<=k/\k<=1048576):Pure Tryz.prog 83 [dIs l,dI k] (dI (if k<l.length then -1 else k-(l.length:Int))):=by
 refine qas (E:=Tryz.env 0) Tryz.tok rfl 1000 Tryz.func83 rfl rfl Tryz.ntmps83 (by simp) fun ok=>?_
 simp only[go_sem,seval] at ok;simp only[go_sem,seval];refine⟨by rw[qad];omega,fun h=>?_,fun h=>?_⟩
 ·rw[if_pos (by omega)]
 ·rw[if_neg (by omega)]
theorem Tryz.c_toGate (p:Int×Int):Pure Tryz.prog 155 [dP p] (dP p):=by
 refine qas (E:=Tryz.env 0) Tryz.tok rfl 1000 Tryz.func155 rfl rfl Tryz.ntmps155 (by simp) fun ok=>?_
 simp only[go_sem,seval] at ok;simp only[go_sem,seval]
 repeat' first|assumption|(simp (disch:=first|assumption|omega|(simp;done)|(simp;omega)) only[qaa,qac,yaa,qab];try simp only[go_sem,seval])|(with_reducible first|refine And.intro ?_ ?_|intro _)|((try rw[qad]);omega)
theorem Tryz.c_toGateS (l:List (Int×Int)) (hl:l.length<=1048576):Pure Tryz.prog 88 [dPs l] (dPs l):=by
 refine qas (E:=Tryz.env 0) Tryz.tok rfl 1000 Tryz.func88 rfl rfl Tryz.ntmps88 (by simp) fun ok=>?_
 simp only[go_sem,seval] at ok;simp only[go_sem,seval];refine⟨by omega,?_⟩;refine qaF (E:=Tryz.env 0) Tryz.tok (σ:=Nat×List (Int×Int)) (fun s=>[(0,.d (dPs l)),(3,.sl 0 0 2 0 l.length),(4,.d (dI s.1))]) (fun s=>[.row 0 2 true (s.2.map dP)]) (fun s=>s.1<=l.length/\s.2.length=l.length/\∀ j,j<s.1->s.2.getD j (0,0)=l.getD j (0,0)) (fun s=>l.length-s.1) [] 1000 1000 ?_ ?_ ?_
 ·simp only[go_sem,seval]
 ·simp only[go_sem,seval];exact⟨(0,List.replicate l.length (0,0)),⟨by omega,by simp,fun j hj=>absurd hj (by simp)⟩,by simp⟩
 ·rintro⟨i,b⟩ ⟨hi,hb,hinv⟩;simp only at hi hb hinv;simp only[go_sem,seval]
  repeat' first|assumption|(simp (disch:=first|assumption|omega|(simp;done)|(simp;omega)) only[qaa,qac,yaa,qab];try simp only[go_sem,seval])|(with_reducible first|refine And.intro ?_ ?_|intro _)|(refine qaj (Tryz.c_toGate _) ?_;simp only[go_sem,seval])|((try rw[qad]);omega)
  ·refine⟨(i+1,b.set i (l.getD i (0,0))),⟨by omega,by simpa using hb,fun j hj=>?_⟩,by omega,rfl,rfl⟩;simp only at hj ⊢;by_cases hji:j=i
   ·subst hji;rw[qcU _ (by omega)]
   ·rw[qdG _ (by omega)];exact hinv j (by omega)
  ·exact qbz (0,0) hb fun j hj=>hinv j (by omega)
theorem Tryz.c_toCircuit (c:Circ) (h1:c.next.length<=1048576) (h2:c.gates.length<=1048576) (h3:c.outs.length<=1048576):Pure Tryz.prog 25 [dC c] (dC c):=by
 refine qas (E:=Tryz.env 0) Tryz.tok rfl 1000 Tryz.func25 rfl rfl Tryz.ntmps25 (by simp) fun ok=>?_
 simp only[go_sem,seval] at ok;simp only[go_sem,seval]
 repeat' first|assumption|(simp (disch:=first|assumption|omega|(simp;done)|(simp;omega)) only[qaa,qac,yaa,qab];try simp only[go_sem,seval])|(with_reducible first|refine And.intro ?_ ?_|intro _)|(refine qb8 (Tryz.c_toIntS _ (by omega)) ?_;simp only[go_sem,seval])|(refine qb8 (Tryz.c_toGateS _ (by omega)) ?_;simp only[go_sem,seval])|((try rw[qad]);omega)
theorem Tryz.c_szGateS (l:List (Int×Int)) (k:Int) (hk:0<=k/\k<=1048576):Pure Tryz.prog 84 [dPs l,dI k] (dI (if k<l.length then -1 else k-(l.length:Int))):=by
 refine qas (E:=Tryz.env 0) Tryz.tok rfl 1000 Tryz.func84 rfl rfl Tryz.ntmps84 (by simp) fun ok=>?_
 simp only[go_sem,seval] at ok;simp only[go_sem,seval];refine⟨by rw[qad];omega,fun h=>?_,fun h=>?_⟩
 ·rw[if_pos (by omega)]
 ·rw[if_neg (by omega)]
end Go.Proofs
