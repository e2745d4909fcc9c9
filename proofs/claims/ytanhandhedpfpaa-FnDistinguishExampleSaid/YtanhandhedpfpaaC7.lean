/- Contracts, plain definitions and lemmas. Conditions: none; lemmas. -/
import Derived.Test.YtanhandhedpfpaaTy
import Derived.Test.YtanhandhedpfpaaVM8
import Derived.Test.YtanhandhedpfpaaProg
set_option maxRecDepth 20000
set_option linter.unusedVariables false
set_option linter.unusedSimpArgs false
namespace Go.Proofs
open Go Go.VL
def Try.Bytes (b:List Int):Prop:=∀ x∈b,0≤x∧x≤255
theorem Try.shp_Bytes {f:Nat}(y:D) (h:shp Try.tyT (f+2) 22 y) : ∃ l:List Int,y=dUs l:=
 shp_slice Try.ty22 Try.ty5 (g:=D.int .u8) (fun y h=>shp_int Try.ty5 h) h
end Go.Proofs

set_option maxRecDepth 20000
set_option linter.unusedVariables false
set_option linter.unusedSimpArgs false
namespace Go.Proofs
open Go Go.VL
theorem Try.c_isLit (l n:Int) (hn:0≤n∧n≤4000000000000000000):Pure Try.prog 23 [dI l,dI n] (.bool (decide (0≤l)&&decide (l<2*n))):=by
 refine qau (E:=Try.env 0) Try.tok rfl 1000 Try.func23 rfl rfl Try.ntmps23 (by simp) fun ok=>?_
 simp only[go_sem,seval] at ok
 simp only[go_sem,seval,Try.results23]
 rw[qaa]
 omega
theorem Try.c_firstGate (c:Circ) (h : -1000≤c.inputs∧c.inputs≤1000):Pure Try.prog 20 [pC c] (dI c.first):=by
 refine qau (E:=Try.env 0) Try.tok rfl 1000 Try.func20 rfl rfl Try.ntmps20 (by simp) fun ok=>?_
 simp only[go_sem,seval] at ok
 simp only[go_sem,seval,Try.results20]
 refine⟨by kernel_rfl,?_,?_,rfl⟩ <;> (rw[qaa];omega)
theorem Try.c_vars (c:Circ) (h : -1000≤c.inputs∧c.inputs≤1000):Pure Try.prog 18 [pC c] (dI c.vars):=by
 refine qau (E:=Try.env 0) Try.tok rfl 1000 Try.func18 rfl rfl Try.ntmps18 (by simp) fun ok=>?_
 simp only[go_sem,seval] at ok
 simp only[go_sem,seval,Try.results18]
 refine⟨by kernel_rfl,qlE (fun _=>⟨Try.c_firstGate c h,by simp only[scal,qaa,Circ.first];omega⟩) ?_⟩
 simp only[go_sem,seval,Try.results18]
 simp only[qaa,Circ.first,Circ.vars,and_true]
 omega
theorem Try.c_roots (c:Circ) (h1:c.next.length≤1000000∧c.outs.length≤1000000):Pure Try.prog 24 [pC c] (dIs c.roots):=by
 refine qau (E:=Try.env 0) Try.tok rfl 1000 Try.func24 rfl rfl Try.ntmps24 (by simp) fun ok=>?_
 simp only[go_sem,seval] at ok
 simp only[go_sem,seval,Try.results24]
 refine qax (E:=Try.env 0) Try.tok Try.follows 1000 1000 [4,9] (fsts [0,1,2,5,6,7,3] (.two 4 (.one 8 (.one 9 (.fst 10 .done))) 8 (.one 4 (.one 9 (.fst 10 .done))))) (by kernel_rfl) ?_
 simp only[go_sem,seval,Try.results24]
 simp only[Circ.roots,and_true]
 refine⟨by omega,by omega⟩
theorem Circ.notValid {c:Circ}(h : ¬ c.Valid):false=decide c.Valid:=by simp[h]
theorem Try.c_CircuitValid (c:Circ):Pure Try.prog 13 [dC c] (.bool (decide c.Valid)):=by
 refine qau (E:=Try.env 0) Try.tok rfl 1000 Try.func13 rfl rfl Try.ntmps13 (by simp) fun ok=>?_
 simp only[go_sem,seval] at ok
 simp only[go_sem,seval,Try.results13]
 refine⟨fun h=>Circ.notValid fun hv=>?_,fun h=>?_⟩
 ·have:=hv.i0;have:=hv.i1;have:=hv.ln;have:=hv.lg;have:=hv.lo
  omega
 refine⟨by rw[qaa];omega,by rw[qaa];omega,?_⟩
 have hf:1+c.inputs+(c.next.length:Int)=c.first:=rfl
 have hb:1≤c.first∧c.first≤8:=by omega
 rw[hf]
 refine qbb (E:=Try.env 0) Try.tok (σ:=Nat) (fun i=>[(1,.ptr 0 0),(3,.d (dI c.first)),(42,.d (dPs c.gates)),(43,.d (dI c.gates.length)),(44,.d (dI i))]) (fun i=>[.box [.d (dI c.inputs),.d (dIs c.next),.d (dPs c.gates),.d (dIs c.outs)]])
  (fun i=>i≤c.gates.length∧∀ j,j<i→qbc (c.gates.getD j (0,0)).1 (c.first+(j:Int))∧qbc (c.gates.getD j (0,0)).2 (c.first+(j:Int))) (fun i=>c.gates.length-i) [] 1000 1000 ?_ ?_ ?_
 ·simp only[go_sem,seval]
 ·simp only[go_sem,seval]
  exact⟨0,⟨by omega,fun j hj=>absurd hj (by omega)⟩,rfl⟩
 ·rintro i ⟨hi,hinv⟩
  simp only[go_sem,seval,Try.results13]
  repeat' first|assumption|(simp (disch:=first|assumption|omega|(simp;done)|(simp;omega)) only[];try simp only[go_sem,seval,Try.results13])|(with_reducible first|apply And.intro|intro _)|(refine qad (Try.c_isLit _ _ (by omega)) ?_;simp only[go_sem,seval,Try.results13])|(refine qbM (fun hg=>Try.c_isLit _ _ (by omega)) ?_;simp only[go_sem,seval,Try.results13])|(refine qad (Try.c_roots c (by omega)) ?_;simp only[go_sem,seval,Try.results13])|(refine qai ?_;simp only[go_sem,seval,Try.results13])|exact lexT|((try rw[qaa]);omega)
  ·exact Circ.notValid fun hv=>by have:=hv.g i (by omega);unfold qbc at this;omega
  ·rename_i h1 h2
   refine⟨i+1,⟨by omega,fun j hj=>?_⟩,by omega,rfl⟩
   by_cases hji:j=i
   ·subst hji;exact h2
   ·exact hinv j (by omega)
  ·have hg : ∀ j,j<c.gates.length→qbc (c.gates.getD j (0,0)).1 (c.first+(j:Int))∧qbc (c.gates.getD j (0,0)).2 (c.first+(j:Int)):=fun j hj=>hinv j (by omega)
   clear hinv hi
   have hv0:c.first≤c.vars∧c.vars≤22:=by unfold Circ.vars;omega
   have hrl:c.roots.length≤6:=by simp[Circ.roots];omega
   refine qbb (E:=Try.env 0) Try.tok (σ:=Nat) (fun i=>[(1,.ptr 0 0),(66,.d (dIs c.roots)),(67,.d (dI c.roots.length)),(68,.d (dI i))]) (fun i=>[.box [.d (dI c.inputs),.d (dIs c.next),.d (dPs c.gates),.d (dIs c.outs)]])
    (fun i=>i≤c.roots.length∧∀ j,j<i→qbc (c.roots.getD j 0) c.vars) (fun i=>c.roots.length-i) [] 1000 1000 ?_ ?_ ?_
   ·simp only[go_sem,seval]
   ·simp only[go_sem,seval]
    exact⟨0,⟨by omega,fun j hj=>absurd hj (by omega)⟩,rfl⟩
   ·rintro i ⟨hi,hinv⟩
    simp only[go_sem,seval,Try.results13]
    repeat' first|assumption|(simp (disch:=first|assumption|omega|(simp;done)|(simp;omega)) only[];try simp only[go_sem,seval,Try.results13])|(with_reducible first|apply And.intro|intro _)|(refine qad (Try.c_vars _ (by omega)) ?_;simp only[go_sem,seval,Try.results13])|(refine qad (Try.c_isLit _ _ (by omega)) ?_;simp only[go_sem,seval,Try.results13])|(refine qbM (fun hg=>Try.c_isLit _ _ (by omega)) ?_;simp only[go_sem,seval,Try.results13])|(refine qai ?_;simp only[go_sem,seval,Try.results13])|exact lexT|((try rw[qaa]);omega)
    ·exact Circ.notValid fun hv=>by have:=hv.roots _ (qat (z:=0) (show i<c.roots.length by assumption));unfold qbc at this;omega
    ·rename_i h1 h2
     refine⟨i+1,⟨by omega,fun j hj=>?_⟩,by omega,rfl⟩
     by_cases hji:j=i
     ·subst hji;exact h2
     ·exact hinv j (by omega)
    ·have hr : ∀ x∈c.roots,qbc x c.vars:=(ql6 0).2 fun j hj=>hinv j (by omega)
     have hv:c.Valid:=⟨by omega,by omega,by omega,by omega,by omega,hg,fun x hx=>hr x (List.mem_append.2 (.inl hx)),fun x hx=>hr x (List.mem_append.2 (.inr hx))⟩
     simp[hv]
def bitsOf (x:Int) (n:Nat):List Bool:=(List.range n).map fun i=>decide (x/2 ^ i%2=1)
end Go.Proofs

set_option maxRecDepth 20000
set_option linter.unusedVariables false
set_option linter.unusedSimpArgs false
namespace Go.Proofs
open Go Go.VL
noncomputable instance:DecidableEq Circ:=fun _ _=>Classical.propDecidable _
def qes (m:Nat):List Int:=(List.range m).map fun(i:Nat)=>2*(1+(i:Int))
theorem qhE (m:Nat):qes (m+1)=qes m ++ [2*(1+(m:Int))]:=by simp[qes,List.range_succ]
theorem qiN (m:Nat):(qes m).length=m:=by simp[qes]
def qbt (n:Int):Circ:=if 1≤n∧n≤3 then⟨1,qes n.toNat,[],[2*(1+n)]⟩ else Circ.zero
theorem Try.c_ShiftRegister (n:Int):Pure Try.prog 6 [dI n] (dC (qbt n)):=by
 refine qau (E:=Try.env 0) Try.tok rfl 1000 Try.func6 rfl rfl Try.ntmps6 (by simp) fun ok=>?_
 simp only[go_sem,seval] at ok
 simp only[go_sem,seval,Try.results6]
 refine⟨fun h=>?_,fun h=>?_⟩
 ·rw[qbt,if_neg (by omega)];simp[Circ.zero]
 refine qdd (E:=Try.env 0) Try.tok (σ:=Nat) (fun i=>[(0,.d (dI n)),(2,.ptr 0 0),(3,.ptr 1 0),(13,.d (dI n)),(14,.d (dI i))]) (fun i=>[.box [.d (dI 0),.d .nil,.d .nil,.d .nil],.box [.d (dI 1),.sl 2 i 1 0 i,.d .nil,.d .nil],.row i 1 true ((qes i).map (D.int .i64))]) (fun i=>i≤n.toNat) (fun i=>n.toNat-i) [(1,1,1,true)] [] 1000 1000 ?_ ?_ ?_ ?_
 ·simp only[go_sem,seval]
 ·simp only[go_sem,seval]
 ·simp only[go_sem,seval]
  exact⟨0,by simp[qes]⟩
 ·intro i hi
  simp only[go_sem,seval,Try.results6]
  have hl:=qiN i
  repeat' first|assumption|(simp (disch:=first|assumption|omega|(simp;done)|(simp;omega)) only[];try simp only[go_sem,seval,Try.results6])|(with_reducible first|apply And.intro|intro _)|(refine qai ?_;simp only[go_sem,seval,Try.results6])|exact lexT|((try rw[qaa]);omega)
  ·refine⟨i+1,by omega,by omega,rfl,rfl,rfl,?_⟩
   rw[qhE]
  all_goals rw[qbt,if_pos (by omega)]
  ·rw[show i=n.toNat by omega]
  ·rfl
  ·rfl
end Go.Proofs
