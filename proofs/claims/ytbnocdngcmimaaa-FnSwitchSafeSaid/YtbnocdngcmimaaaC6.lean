/- Contracts: circuits. Conditions: none; lemmas. -/
import Derived.Test.YtbnocdngcmimaaaC5
set_option maxRecDepth 20000
set_option linter.unusedVariables false
set_option linter.unusedSimpArgs false
namespace Go.Proofs
open Go Go.VL
theorem Try.c_sameInts (a b:List Int):Pure Try.prog 98 [dIs a,dIs b] (.bool (decide (a=b))):=by
 refine qap (E:=Try.env 0) Try.tok rfl 1000 Try.func98 rfl rfl Try.ntmps98 (by simp) fun ok=>?_
 simp only[go_sem,seval] at ok
 simp only[go_sem,seval,Try.results98]
 refine⟨fun h=>?_,fun hlen=>?_⟩
 ·simp only[false_eq_decide_iff]
  rintro rfl
  exact h rfl
 refine qaB (E:=Try.env 0) Try.tok (σ:=Nat) (fun i=>[(0,.d (dIs a)),(1,.d (dIs b)),(5,.d (dI i))]) (fun _=>[]) (fun i=>i≤a.length∧∀ j,j<i→a.getD j 0=b.getD j 0) (fun i=>a.length-i) [] 1000 1000 ?_ ?_ ?_
 ·simp only[go_sem,seval]
 ·simp only[go_sem,seval]
  exact⟨0,⟨by omega,by omega⟩,rfl⟩
 ·intro i hi
  simp only[go_sem,seval,Try.results98]
  refine⟨fun h1=>?_,fun h1=>?_⟩
  ·refine⟨by kernel_rfl,h1,by omega,fun h2=>?_,fun h2=>⟨by rw[qae];omega,i+1,⟨by omega,fun j hj=>?_⟩,by omega,rfl⟩⟩
   ·simp only[false_eq_decide_iff]
    rintro rfl
    exact h2 rfl
   ·by_cases hji:j=i
    ·subst hji;exact h2
    ·exact hi.2 j (by omega)
  ·simp only[true_eq_decide_iff]
   exact qd2 0 hlen fun j hj=>hi.2 j (by omega)
theorem Try.c_isLit (l n:Int) (hn:0≤n∧n≤4000000000000000000):Pure Try.prog 111 [dI l,dI n] (.bool (decide (0≤l)&&decide (l<2*n))):=by
 refine qap (E:=Try.env 0) Try.tok rfl 1000 Try.func111 rfl rfl Try.ntmps111 (by simp) fun ok=>?_
 simp only[go_sem,seval] at ok
 simp only[go_sem,seval,Try.results111]
 rw[qae]
 omega
theorem Try.c_firstGate (c:Circ) (h : -1000≤c.inputs∧c.inputs≤1000):Pure Try.prog 123 [pC c] (dI c.first):=by
 refine qap (E:=Try.env 0) Try.tok rfl 1000 Try.func123 rfl rfl Try.ntmps123 (by simp) fun ok=>?_
 simp only[go_sem,seval] at ok
 simp only[go_sem,seval,Try.results123]
 refine⟨by kernel_rfl,?_,?_,rfl⟩ <;> (rw[qae];omega)
theorem Try.c_vars (c:Circ) (h : -1000≤c.inputs∧c.inputs≤1000):Pure Try.prog 113 [pC c] (dI c.vars):=by
 refine qap (E:=Try.env 0) Try.tok rfl 1000 Try.func113 rfl rfl Try.ntmps113 (by simp) fun ok=>?_
 simp only[go_sem,seval] at ok
 simp only[go_sem,seval,Try.results113]
 refine⟨by kernel_rfl,qa7 (fun _=>⟨Try.c_firstGate c h,by simp only[scal,qae,Circ.first];omega⟩) ?_⟩
 simp only[go_sem,seval,Try.results113]
 simp only[qae,Circ.first,Circ.vars,and_true]
 omega
theorem Try.c_roots (c:Circ) (h1:c.next.length≤1000000∧c.outs.length≤1000000):Pure Try.prog 112 [pC c] (dIs c.roots):=by
 refine qap (E:=Try.env 0) Try.tok rfl 1000 Try.func112 rfl rfl Try.ntmps112 (by simp) fun ok=>?_
 simp only[go_sem,seval] at ok
 simp only[go_sem,seval,Try.results112]
 refine qaz (E:=Try.env 0) Try.tok Try.follows 1000 1000 [4,9] (.fst 0 (.fst 1 (.fst 2 (.fst 5 (.fst 6 (.fst 7 (.fst 3 (.two 4 (.one 8 (.one 9 (.fst 10 (.done)))) 8 (.one 4 (.one 9 (.fst 10 (.done)))))))))))) (by kernel_rfl) ?_
 simp only[go_sem,seval,Try.results112]
 simp only[Circ.roots,and_true]
 refine⟨by omega,by omega⟩
theorem Circ.notValid {c:Circ}(h : ¬ c.Valid):false=decide c.Valid:=by simp[h]
theorem Try.c_CircuitValid (c:Circ):Pure Try.prog 93 [dC c] (.bool (decide c.Valid)):=by
 refine qap (E:=Try.env 0) Try.tok rfl 1000 Try.func93 rfl rfl Try.ntmps93 (by simp) fun ok=>?_
 simp only[go_sem,seval] at ok
 simp only[go_sem,seval,Try.results93]
 refine⟨fun h=>Circ.notValid fun hv=>?_,fun h=>?_⟩
 ·have:=hv.i0;have:=hv.i1;have:=hv.ln;have:=hv.lg;have:=hv.lo
  omega
 refine⟨by rw[qae];omega,by rw[qae];omega,?_⟩
 have hf:1+c.inputs+(c.next.length:Int)=c.first:=rfl
 have hb:1≤c.first∧c.first≤8:=by omega
 rw[hf]
 refine qaB (E:=Try.env 0) Try.tok (σ:=Nat) (fun i=>[(1,.ptr 0 0),(3,.d (dI c.first)),(42,.d (dPs c.gates)),(43,.d (dI c.gates.length)),(44,.d (dI i))]) (fun i=>[.box [.d (dI c.inputs),.d (dIs c.next),.d (dPs c.gates),.d (dIs c.outs)]])
  (fun i=>i≤c.gates.length∧∀ j,j<i→qbp (c.gates.getD j (0,0)).1 (c.first+(j:Int))∧qbp (c.gates.getD j (0,0)).2 (c.first+(j:Int))) (fun i=>c.gates.length-i) [] 1000 1000 ?_ ?_ ?_
 ·simp only[go_sem,seval]
 ·simp only[go_sem,seval]
  exact⟨0,⟨by omega,fun j hj=>absurd hj (by omega)⟩,rfl⟩
 ·rintro i ⟨hi,hinv⟩
  simp only[go_sem,seval,Try.results93]
  repeat' first|assumption|(simp (disch:=first|assumption|omega|(simp;done)|(simp;omega)) only[qab,qad,List.take_of_length_le,qac];try simp only[go_sem,seval,Try.results93])|(with_reducible refine And.intro ?_ ?_)|(with_reducible intro _)|(refine qaj (Try.c_isLit _ _ (by omega)) ?_;simp only[go_sem,seval,Try.results93])|(refine qaC (fun hg=>Try.c_isLit _ _ (by omega)) ?_;simp only[go_sem,seval,Try.results93])|(refine qaj (Try.c_roots c (by omega)) ?_;simp only[go_sem,seval,Try.results93])|(refine @Exists.intro I _ (I.d D.nil) ?_;simp only[go_sem,seval,Try.results93])|((with_reducible (show Region.lexB _ _=true));kernel_rfl)|((try rw[qae]);omega)
  ·exact Circ.notValid fun hv=>by have:=hv.g i (by omega);unfold qbp at this;omega
  ·rename_i h1 h2
   refine⟨i+1,⟨by omega,fun j hj=>?_⟩,by omega,rfl⟩
   by_cases hji:j=i
   ·subst hji;exact h2
   ·exact hinv j (by omega)
  ·have hg : ∀ j,j<c.gates.length→qbp (c.gates.getD j (0,0)).1 (c.first+(j:Int))∧qbp (c.gates.getD j (0,0)).2 (c.first+(j:Int)):=fun j hj=>hinv j (by omega)
   clear hinv hi
   have hv0:c.first≤c.vars∧c.vars≤22:=by unfold Circ.vars;omega
   have hrl:c.roots.length≤6:=by simp[Circ.roots];omega
   refine qaB (E:=Try.env 0) Try.tok (σ:=Nat) (fun i=>[(1,.ptr 0 0),(66,.d (dIs c.roots)),(67,.d (dI c.roots.length)),(68,.d (dI i))]) (fun i=>[.box [.d (dI c.inputs),.d (dIs c.next),.d (dPs c.gates),.d (dIs c.outs)]])
    (fun i=>i≤c.roots.length∧∀ j,j<i→qbp (c.roots.getD j 0) c.vars) (fun i=>c.roots.length-i) [] 1000 1000 ?_ ?_ ?_
   ·simp only[go_sem,seval]
   ·simp only[go_sem,seval]
    exact⟨0,⟨by omega,fun j hj=>absurd hj (by omega)⟩,rfl⟩
   ·rintro i ⟨hi,hinv⟩
    simp only[go_sem,seval,Try.results93]
    repeat' first|assumption|(simp (disch:=first|assumption|omega|(simp;done)|(simp;omega)) only[qab,qad,List.take_of_length_le,qac];try simp only[go_sem,seval,Try.results93])|(with_reducible refine And.intro ?_ ?_)|(with_reducible intro _)|(refine qaj (Try.c_vars _ (by omega)) ?_;simp only[go_sem,seval,Try.results93])|(refine qaj (Try.c_isLit _ _ (by omega)) ?_;simp only[go_sem,seval,Try.results93])|(refine qaC (fun hg=>Try.c_isLit _ _ (by omega)) ?_;simp only[go_sem,seval,Try.results93])|(refine @Exists.intro I _ (I.d D.nil) ?_;simp only[go_sem,seval,Try.results93])|((with_reducible (show Region.lexB _ _=true));kernel_rfl)|((try rw[qae]);omega)
    ·exact Circ.notValid fun hv=>by have:=hv.roots _ (qao (z:=0) (show i<c.roots.length by assumption));unfold qbp at this;omega
    ·rename_i h1 h2
     refine⟨i+1,⟨by omega,fun j hj=>?_⟩,by omega,rfl⟩
     by_cases hji:j=i
     ·subst hji;exact h2
     ·exact hinv j (by omega)
    ·have hr : ∀ x∈c.roots,qbp x c.vars:=(qfK 0).2 fun j hj=>hinv j (by omega)
     have hv:c.Valid:=⟨by omega,by omega,by omega,by omega,by omega,hg,fun x hx=>hr x (List.mem_append.2 (.inl hx)),fun x hx=>hr x (List.mem_append.2 (.inr hx))⟩
     simp[hv]
theorem Try.c_alive:Pure Try.prog 49 [] (.bool true):=by
 refine qap (E:=Try.env 0) Try.tok rfl 1000 Try.func49 rfl rfl Try.ntmps49 (by simp) fun ok=>?_
 simp only[go_sem,seval,Try.results49]
 refine qaj ((Try.c_CircuitValid Circ.zero).wk (by simp[go_sem,Circ.zero])) ?_
 simp only[go_sem,seval,Try.results49]
 simp[Circ.zero_valid]
end Go.Proofs
