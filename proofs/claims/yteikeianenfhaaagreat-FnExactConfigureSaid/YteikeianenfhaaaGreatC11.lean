/- Contracts, plain definitions and lemmas. Conditions: none; lemmas. -/
import Derived.Test.YteikeianenfhaaaGreatC92
set_option maxRecDepth 20000
set_option linter.unusedSimpArgs false
set_option linter.unusedVariables false
set_option maxHeartbeats 2000000
namespace Go.Proofs
open Go Go.VL Tryz
noncomputable instance:DecidableEq Circ:=fun _ _=>Classical.propDecidable _
theorem Tryz.c_eqGate (p q:Int×Int):Pure prog 158 [dP p,dP q] (.bool (decide (p=q))):=by
 refine qav func158 rfl ntmps158 fun ok=>?_
 simp only[go_sem,seval] at ok⊢;obtain⟨a,b⟩:=p;obtain⟨c,d⟩:=q;simp only[yac,false_eq_decide_iff,true_eq_decide_iff];exact⟨fun h=>by simp[h],fun h=>⟨fun h2=>by simp[h2],fun h2=>⟨h,h2⟩⟩⟩
theorem Tryz.c_eqGateS (a b:List (Int×Int)):Pure prog 91 [dPs a,dPs b] (.bool (decide (a=b))):=by
 refine qav func91 rfl ntmps91 fun ok=>?_
 simp only[go_sem,seval] at ok⊢;refine⟨fun h=>?_,fun hlen=>?_⟩
 ·simp only[false_eq_decide_iff];rintro rfl;exact h rfl
 refine qaF (E:=env 0) tok (σ:=Nat) (fun i=>[(0,.d (dPs a)),(1,.d (dPs b)),(5,.d (dI i))]) (fun _=>[]) (fun i=>i<=a.length/\∀ j,j<i->a.getD j (0,0)=b.getD j (0,0)) (fun i=>a.length-i) [] 1000 1000 ?_ ?_ ?_
 ·simp only[go_sem,seval]
 ·simp only[go_sem,seval];exact⟨0,⟨by omega,by omega⟩,rfl⟩
 ·intro i hi;simp only[go_sem,seval];refine⟨fun h1=>⟨by kernel_rfl,h1,by omega,qb7 (fun _=>⟨c_eqGate _ _,trivial⟩) ?_⟩,fun h1=>?_⟩
  ·simp only[go_sem,seval];refine⟨fun h2=>?_,fun h2=>⟨by rw[qaa];omega,i+1,⟨by omega,fun j hj=>?_⟩,by omega,rfl⟩⟩
   ·simp only[false_eq_decide_iff];rintro rfl;exact h2 rfl
   ·by_cases hji:j=i
    ·subst hji;exact h2
    ·exact hi.2 j (by omega)
  ·simp only[true_eq_decide_iff];exact qbD (0,0) hlen fun j hj=>hi.2 j (by omega)
theorem Circ.ext' {c d:Circ}(h1:c.inputs=d.inputs) (h2:c.next=d.next) (h3:c.gates=d.gates) (h4:c.outs=d.outs):c=d:=by cases c;cases d;simp_all
theorem Tryz.c_eqCircuit (c d:Circ):Pure prog 28 [dC c,dC d] (.bool (decide (c=d))):=by
 refine qav func28 rfl ntmps28 fun ok=>?_
 simp only[go_sem,seval] at ok
 repeat' first|assumption|(simp (disch:=first|assumption|omega|(simp;done)|(simp;omega)) only[go_sem,seval])|(with_reducible first|apply And.intro|intro _)|(refine qad (c_eqIntS _ _) ?_)|(refine qad (c_eqGateS _ _) ?_)|((try rw[qaa]);omega)
 ·simp only[false_eq_decide_iff];rintro rfl;simp_all
 ·simp only[false_eq_decide_iff];rintro rfl;simp_all
 ·simp only[false_eq_decide_iff];rintro rfl;simp_all
 ·simp only[false_eq_decide_iff];rintro rfl;simp_all
 ·simp only[true_eq_decide_iff];exact Circ.ext' (by assumption) (by assumption) (by assumption) (by assumption)
def qj9 (k:Int) (n:Nat):List (Int×Int):=(List.range n).map fun(j:Nat)=>(k+2*(j:Int),k+2*(j:Int)+1)
theorem Tryz.c_markGateS (g:Nat) (a:List (Int×Int)) (k:Int) (hk:0<=k/\k+2*a.length<=9000000000000000000) (ha:a.length<=281474976710656) :
  Proc prog 93 [.sl 0 g 2 0 a.length,.d (dI k)] [.row g 2 true (a.map dP)] (.d (dI (k+2*(a.length:Int)))) [.row g 2 true ((qj9 k a.length).map dP)]:=by
 refine ql5 (E:=env 1) tok rfl 1000 func93 rfl rfl ntmps93 (by simp) ?_;simp only[go_sem,seval];refine qaF (E:=env 1) tok (σ:=Nat×List (Int×Int)) (fun s=>[(0,.sl 0 g 2 0 a.length),(1,.d (dI (k+2*(s.1:Int)))),(5,.d (dI s.1))]) (fun s=>[.row g 2 true (s.2.map dP)]) (fun s=>s.1<=a.length/\s.2.length=a.length/\∀ (j:Nat),j<s.1->s.2.getD j (0,0)=(k+2*(j:Int),k+2*(j:Int)+1)) (fun s=>a.length-s.1) [] 1000 1000 ?_ ?_ ?_
 ·simp only[go_sem,seval]
 ·simp only[go_sem,seval];exact⟨(0,a),⟨by omega,rfl,fun j hj=>by simp at hj⟩,by simp⟩
 ·rintro⟨i,b⟩ ⟨hi,hb,hinv⟩;simp only at hi hb hinv
  repeat' first|assumption|(simp (disch:=first|assumption|omega|(simp;done)|(simp;omega)) only[go_sem,seval])|(with_reducible first|apply And.intro|intro _)|((try rw[qaa]);omega)
  ·refine⟨(i+1,b.set i (k+2*(i:Int),k+2*(i:Int)+1)),⟨by omega,by simpa using hb,fun j hj=>?_⟩,by omega,⟨by simp only;omega,rfl⟩,?_⟩
   ·simp only at hj ⊢;by_cases hji:j=i
    ·subst hji;rw[qdA _ (by omega)]
    ·rw[qex _ (by omega)];exact hinv j (by omega)
   ·rw[List.set_set,qdA _ (by omega)]
  ·refine qbD (0,0) (by simpa [qj9] using hb) fun j hj=>?_
   rw[hinv j (by omega)];simp[qj9,List.getD,show j<a.length by omega]
theorem Tryz.c_markCircuit (g1 g2 g3:Nat) (c:Circ) (k:Int) (hk:0<=k/\k<=1000000) (h1:c.next.length<=2000000) (h2:c.gates.length<=2000000) (h3:c.outs.length<=2000000) :
  Proc prog 29 [.agg [.d (dI c.inputs),.sl 0 g1 1 0 c.next.length,.sl 1 g2 2 0 c.gates.length,.sl 2 g3 1 0 c.outs.length],.d (dI k)]
   [.row g1 1 true (c.next.map (D.int .i64)),.row g2 2 true (c.gates.map dP),.row g3 1 true (c.outs.map (D.int .i64))] (.d (dI (k+c.next.length+2*c.gates.length+c.outs.length)))
   [.row g1 1 true (((List.range c.next.length).map fun(j:Nat)=>k+(j:Int)).map (D.int .i64)),.row g2 2 true ((qj9 (k+c.next.length) c.gates.length).map dP),
    .row g3 1 true (((List.range c.outs.length).map fun(j:Nat)=>k+c.next.length+2*c.gates.length+(j:Int)).map (D.int .i64))]:=by
 refine ql5 (E:=env 3) tok rfl 1000 func29 rfl rfl ntmps29 (by simp) ?_;simp only[go_sem,seval];refine qd4 (c_markIntS g1 c.next k (by omega) (by omega)) [0] (by simp only[go_sem,seval]) ?_;simp only[go_sem,seval];refine qd4 (c_markGateS g2 c.gates (k+c.next.length) (by omega) (by omega)) [1] (by simp only[go_sem,seval]) ?_;simp only[go_sem,seval];refine qd4 (c_markIntS g3 c.outs (k+c.next.length+2*c.gates.length) (by omega) (by omega)) [2] (by simp only[go_sem,seval]) ?_;simp only[go_sem,seval]

def rowsOk (c:Circ) (rows:List (List Bool)):Prop:=c.Valid/\rows.length<=40/\∀ r∈rows,(r.length:Int)=c.inputs
noncomputable instance (c:Circ) (rows:List (List Bool)):Decidable (rowsOk c rows):=Classical.propDecidable _
def qgN (c:Circ) (rows:List (List Bool)):Nat->List Bool
 | 0=>List.replicate c.next.length false
 | i+1=>qiV (values c (qgN c rows i) (rows.getD i [])) c.next

theorem qga {P:Nat->Prop}{n i:Nat}(h1:i<n) (h2:P i) (hinv : ∀ j,j<i->P j) : ∃ s',(s'<=n/\∀ j,j<s'->P j)/\n-s'<n-i/\i+1=s':=
 ⟨i+1,⟨by omega,fun j hj=>by
  by_cases h:j=i
  ·subst h;exact h2
  ·exact hinv j (by omega)⟩,by omega,rfl⟩
theorem no_at {α : Type}{l:List α}{P : α->Prop}{d:Decidable (∀ x∈l,P x)}{i:Nat}(z : α) (h1:i<l.length) (h : ¬ P (l.getD i z)):false=decide (∀ x∈l,P x):=by
 rw[eq_comm,decide_eq_false_iff_not];exact fun h2=>h (h2 _ (qae h1))
theorem yes_at {α : Type}{l:List α}{P : α->Prop}{d:Decidable (∀ x∈l,P x)}(z : α) (h : ∀ j,j<l.length->P (l.getD j z)):true=decide (∀ x∈l,P x):=by
 rw[eq_comm,decide_eq_true_eq];exact(qmM z).2 h
theorem Tryz.c_l1First (c:Circ) (h : -1000<=c.inputs/\c.inputs<=1000):Pure prog 135 [dC c] (dI c.first):=by
 refine qav func135 rfl ntmps135 fun ok=>?_
 simp only[go_sem,seval] at ok
 repeat' first|assumption|(simp (disch:=first|assumption|omega|(simp;done)|(simp;omega)) only[go_sem,seval])|(with_reducible first|apply And.intro|intro _)|((try rw[qaa]);omega)
 unfold Circ.first
 omega
theorem Tryz.c_l1Lits (l:List Int) (n:Int) (hn:0<=n/\n<=1000):Pure prog 136 [dIs l,dI n] (.bool (decide (∀ x∈l,qaX x n))):=by
 refine qav func136 rfl ntmps136 fun ok=>?_
 simp only[go_sem,seval] at ok⊢;refine qaF (E:=env 0) tok (σ:=Nat) (fun i=>[(0,.d (dIs l)),(1,.d (dI n)),(5,.d (dI i))]) (fun _=>[]) (fun i=>i<=l.length/\∀ j,j<i->qaX (l.getD j 0) n) (fun i=>l.length-i) [] 1000 1000 ?_ ?_ ?_
 ·simp only[go_sem,seval]
 ·simp only[go_sem,seval];exact⟨0,⟨by omega,fun j hj=>absurd hj (by omega)⟩,rfl⟩
 ·rintro i ⟨hi,hinv⟩
  repeat' first|assumption|(simp (disch:=first|assumption|omega|(simp;done)|(simp;omega)) only[go_sem,seval])|(with_reducible first|apply And.intro|intro _)|(refine qad (c_l1In _ _ _) ?_)|((try rw[qaa]);omega)
  ·rename_i h1 h2;exact no_at 0 h1 (by unfold qaX;omega)
  ·rename_i h1 h2;exact qga h1 (by unfold qaX;omega) hinv
  ·exact yes_at 0 fun j hj=>hinv j (by omega)
theorem Tryz.c_sCircuitValid (c:Circ):Pure prog 72 [dC c] (.bool (decide c.Valid)):=by
 refine qav func72 rfl ntmps72 fun ok=>?_
 simp only[go_sem,seval] at ok⊢;refine qad (c_l1In _ _ _) ?_;simp only[go_sem,seval];refine⟨fun h=>Circ.notValid fun hv=>?_,fun h=>?_⟩
 ·have:=hv.i0;have:=hv.i1;have:=hv.ln;have:=hv.lg;have:=hv.lo;omega
 refine qad (c_l1First c (by omega)) ?_;have hb:1<=c.first/\c.first<=8:=by unfold Circ.first;omega
 simp only[go_sem,seval];refine qaF (E:=env 0) tok (σ:=Nat) (fun i=>[(1,.ptr 0 0),(3,.d (dI c.first)),(4,.d (dI i))]) (fun i=>[.box [.d (dI c.inputs),.d (dIs c.next),.d (dPs c.gates),.d (dIs c.outs)]])
  (fun i=>i<=c.gates.length/\∀ j,j<i->qaX (c.gates.getD j (0,0)).1 (c.first+(j:Int))/\qaX (c.gates.getD j (0,0)).2 (c.first+(j:Int))) (fun i=>c.gates.length-i) [] 1000 1000 ?_ ?_ ?_
 ·simp only[go_sem,seval]
 ·simp only[go_sem,seval];exact⟨0,⟨by omega,fun j hj=>absurd hj (by omega)⟩,rfl⟩
 ·rintro i ⟨hi,hinv⟩;simp only[go_sem,seval];have hv0:c.vars=c.first+c.gates.length:=rfl
  refine⟨fun hlt=>?_,fun hge=>?_⟩
  ·refine qbt (n:=0) [] (fsts [0,2,6,8,13,14,15,1,3,4,5,7,9,10,11] (.one 12 (.one 16 (.fst 17 .done)))) ?_
   repeat' first|assumption|(simp (disch:=first|assumption|omega|(simp;done)|(simp;omega)) only[go_sem,seval])|(with_reducible first|apply And.intro|intro _)|(refine qad (c_l1Lits [_,_] _ (by omega)) ?_)|((try rw[qaa]);omega)
   ·rename_i h2;exact Circ.notValid fun hv=>h2 (hv.g i hlt)
   ·rename_i h2;exact qga hlt h2 hinv
  ·repeat' first|assumption|(simp (disch:=first|assumption|omega|(simp;done)|(simp;omega)) only[go_sem,seval])|(with_reducible first|apply And.intro|intro _)|(refine qad (c_l1Lits _ _ (by omega)) ?_)|(refine qbk (fun hg=>c_l1Lits _ _ (by omega)) ?_)|((try rw[qaa]);omega)
   rw[Bool.eq_iff_iff];simp only[yal,decide_eq_true_eq];refine⟨fun⟨q1,q2⟩=>⟨by omega,by omega,by omega,by omega,by omega,fun j hj=>hinv j (by omega),q1,q2⟩,fun hv=>⟨hv.n,hv.o⟩⟩
theorem Tryz.c_toIntS (l:List Int) (hl:l.length<=1048576):Pure prog 87 [dIs l] (dIs l):=by
 refine qav func87 rfl ntmps87 fun ok=>?_
 simp only[go_sem,seval] at ok⊢;refine⟨by omega,?_⟩;refine qaF (E:=env 0) tok (σ:=Nat×List Int) (fun s=>[(0,.d (dIs l)),(3,.sl 0 0 1 0 l.length),(4,.d (dI s.1))]) (fun s=>[.row 0 1 true (s.2.map (D.int .i64))]) (fun s=>s.1<=l.length/\s.2.length=l.length/\∀ j,j<s.1->s.2.getD j 0=l.getD j 0) (fun s=>l.length-s.1) [] 1000 1000 ?_ ?_ ?_
 ·simp only[go_sem,seval]
 ·simp only[go_sem,seval];exact⟨(0,List.replicate l.length 0),⟨by omega,by simp,fun j hj=>absurd hj (by simp)⟩,by simp⟩
 ·rintro⟨i,b⟩ ⟨hi,hb,hinv⟩;simp only at hi hb hinv
  repeat' first|assumption|(simp (disch:=first|assumption|omega|(simp;done)|(simp;omega)) only[go_sem,seval])|(with_reducible first|apply And.intro|intro _)|((try rw[qaa]);omega)
  ·refine⟨(i+1,b.set i (l.getD i 0)),⟨by omega,by simpa using hb,fun j hj=>?_⟩,by omega,rfl,rfl⟩;simp only at hj ⊢;by_cases hji:j=i
   ·subst hji;rw[qdA _ (by omega)]
   ·rw[qex _ (by omega)];exact hinv j (by omega)
  ·exact qbD 0 hb fun j hj=>hinv j (by omega)
theorem Tryz.c_szIntS (l:List Int) (k:Int) (hk:0<=k/\k<=1048576):Pure prog 83 [dIs l,dI k] (dI (if k<l.length then -1 else k-(l.length:Int))):=by
 refine qav func83 rfl ntmps83 fun ok=>?_
 simp only[go_sem,seval] at ok⊢;refine⟨by rw[qaa];omega,fun h=>?_,fun h=>?_⟩
 ·rw[if_pos (by omega)]
 ·rw[if_neg (by omega)]
theorem Tryz.c_toGate (p:Int×Int):Pure prog 155 [dP p] (dP p):=by
 refine qav func155 rfl ntmps155 fun ok=>?_
 simp only[go_sem,seval] at ok
 repeat' first|assumption|(simp (disch:=first|assumption|omega|(simp;done)|(simp;omega)) only[go_sem,seval])|(with_reducible first|apply And.intro|intro _)|((try rw[qaa]);omega)
theorem Tryz.c_toGateS (l:List (Int×Int)) (hl:l.length<=1048576):Pure prog 88 [dPs l] (dPs l):=by
 refine qav func88 rfl ntmps88 fun ok=>?_
 simp only[go_sem,seval] at ok⊢;refine⟨by omega,?_⟩;refine qaF (E:=env 0) tok (σ:=Nat×List (Int×Int)) (fun s=>[(0,.d (dPs l)),(3,.sl 0 0 2 0 l.length),(4,.d (dI s.1))]) (fun s=>[.row 0 2 true (s.2.map dP)]) (fun s=>s.1<=l.length/\s.2.length=l.length/\∀ j,j<s.1->s.2.getD j (0,0)=l.getD j (0,0)) (fun s=>l.length-s.1) [] 1000 1000 ?_ ?_ ?_
 ·simp only[go_sem,seval]
 ·simp only[go_sem,seval];exact⟨(0,List.replicate l.length (0,0)),⟨by omega,by simp,fun j hj=>absurd hj (by simp)⟩,by simp⟩
 ·rintro⟨i,b⟩ ⟨hi,hb,hinv⟩;simp only at hi hb hinv
  repeat' first|assumption|(simp (disch:=first|assumption|omega|(simp;done)|(simp;omega)) only[go_sem,seval])|(with_reducible first|apply And.intro|intro _)|(refine qad (c_toGate _) ?_)|((try rw[qaa]);omega)
  ·refine⟨(i+1,b.set i (l.getD i (0,0))),⟨by omega,by simpa using hb,fun j hj=>?_⟩,by omega,rfl,rfl⟩;simp only at hj ⊢;by_cases hji:j=i
   ·subst hji;rw[qdA _ (by omega)]
   ·rw[qex _ (by omega)];exact hinv j (by omega)
  ·exact qbD (0,0) hb fun j hj=>hinv j (by omega)
theorem Tryz.c_toCircuit (c:Circ) (h1:c.next.length<=1048576) (h2:c.gates.length<=1048576) (h3:c.outs.length<=1048576):Pure prog 25 [dC c] (dC c):=by
 refine qav func25 rfl ntmps25 fun ok=>?_
 simp only[go_sem,seval] at ok
 repeat' first|assumption|(simp (disch:=first|assumption|omega|(simp;done)|(simp;omega)) only[go_sem,seval])|(with_reducible first|apply And.intro|intro _)|(refine qbX (c_toIntS _ (by omega)) ?_)|(refine qbX (c_toGateS _ (by omega)) ?_)|((try rw[qaa]);omega)
theorem Tryz.c_szGateS (l:List (Int×Int)) (k:Int) (hk:0<=k/\k<=1048576):Pure prog 84 [dPs l,dI k] (dI (if k<l.length then -1 else k-(l.length:Int))):=by
 refine qav func84 rfl ntmps84 fun ok=>?_
 simp only[go_sem,seval] at ok⊢;refine⟨by rw[qaa];omega,fun h=>?_,fun h=>?_⟩
 ·rw[if_pos (by omega)]
 ·rw[if_neg (by omega)]
end Go.Proofs
