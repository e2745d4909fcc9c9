/- Contracts, plain definitions and lemmas. Conditions: none; lemmas. -/
import Derived.Test.YtagfdhingigaoaaTy
import Derived.Test.YtagfdhingigaoaaVM8
import Derived.Test.YtagfdhingigaoaaProg
set_option maxRecDepth 20000
set_option linter.unusedVariables false
set_option linter.unusedSimpArgs false
namespace Go.Proofs
open Go Go.VL
theorem Try.c_l1In (x lo hi:Int):Pure Try.prog 31 [dI x,dI lo,dI hi] (.bool (decide (lo≤x)&&decide (x≤hi))):=by
 refine qat (E:=Try.env 0) Try.tok rfl 1000 Try.func31 rfl rfl Try.ntmps31 (by simp) fun ok=>?_
 simp only[go_sem,seval,Try.results31]
end Go.Proofs

set_option maxRecDepth 20000
set_option linter.unusedVariables false
set_option linter.unusedSimpArgs false
namespace Go.Proofs
open Go Go.VL
theorem qmH {α : Type}(p : α→Bool) (l:List α) (z : α):l.all p=true↔∀ j,j<l.length→p (l.getD j z)=true:=by
 rw[List.all_eq_true]
 constructor
 ·intro h j hj
  exact h _ (by simp[List.getD,hj])
 ·intro h x hx
  obtain⟨j,hj,rfl⟩:=List.getElem_of_mem hx
  have:=h j hj
  simpa [List.getD,hj] using this
end Go.Proofs

set_option maxRecDepth 20000
set_option linter.unusedVariables false
set_option linter.unusedSimpArgs false
namespace Go.Proofs
open Go Go.VL
abbrev Try.rd (b:List Int) (p:Int):R:=.box [.d (dUs b),.d (dI p)]
def Try.Bytes (b:List Int):Prop:=∀ x∈b,0≤x∧x≤255
theorem Try.shp_Bytes {f:Nat}(y:D) (h:shp Try.tyT (f+2) 22 y) : ∃ l:List Int,y=dUs l:=
 shp_slice Try.ty22 Try.ty5 (g:=D.int .u8) (fun y h=>shp_int Try.ty5 h) h
theorem Try.c_l20Open (code:List Int):Proc Try.prog 10 [.d (dUs code)] [] (.ptr 0 0) [Try.rd (code.take 2000) 0]:=by
 refine proc_of (E:=Try.env 0) Try.tok rfl 1000 Try.func10 rfl rfl Try.ntmps10 (by simp) ?_
 simp only[go_sem,seval,Try.results10]
 refine⟨fun h=>by omega,fun h=>?_⟩
 rw[List.take_of_length_le (by omega)]
theorem Try.byte_get {b:List Int}(hb:Try.Bytes b) (k:Nat):0≤b.getD k 0∧b.getD k 0≤255:=by
 by_cases h:k<b.length
 ·have:=hb (b.getD k 0) (by simp[List.getD,h])
  exact this
 ·simp[List.getD,h]
theorem qic {x n:Int}(h0:0≤x) (hn:0<n):0≤x%n∧x%n<n:=⟨Int.emod_nonneg _ (by omega),Int.emod_lt_of_pos _ hn⟩
set_option maxRecDepth 100000 in
theorem Try.c_pick (b:List Int) (p n:Int) (hb:Try.Bytes b) (hp:0≤p∧p≤1000000000) :
  ICall Try.prog 12 [.ptr 0 0,.d (dI n)] [Try.rd b p] (fun r H'=>∃ x,(0≤x∧(x<n∨x=0))∧r=.d (dI x)∧H'=[Try.rd b (p+1)]):=by
 refine qco (E:=Try.env 1) Try.tok rfl 1000 Try.func12 rfl rfl Try.ntmps12 (by simp) ?_
 simp only[go_sem,seval,Try.results12]
 simp only[qaa]
 refine⟨by omega,fun h1=>?_,fun h1=>⟨by omega,fun h2=>?_,fun h2=>?_⟩⟩
 ·exact qd2 ⟨0,by omega,rfl,rfl⟩
 ·have hx:=Try.byte_get hb (p+1-1).toNat
  refine⟨by omega,by omega,by omega,qd2 ⟨_,?_,rfl,rfl⟩⟩
  rw[qab hx.1]
  have:=qic hx.1 (show 0<n by omega)
  omega
 ·simp only[Int.add_sub_cancel] at *
  simp only[qab (x:=p) (by omega),qab (x:=p*7+3) (by omega)]
  have m1:=qic (x:=p) (n:=(b.length:Int)) (by omega) (by omega)
  have m2:=qic (x:=p*7+3) (n:=(b.length:Int)) (by omega) (by omega)
  have d1:0≤p/(b.length:Int)∧p/(b.length:Int)≤p:=⟨Int.ediv_nonneg (by omega) (by omega),Int.ediv_le_self _ (by omega)⟩
  have b1:=Try.byte_get hb (p%(b.length:Int)).toNat
  have b2:=Try.byte_get hb ((p*7+3)%(b.length:Int)).toNat
  generalize b.getD (p%(b.length:Int)).toNat 0=x1 at *
  generalize b.getD ((p*7+3)%(b.length:Int)).toNat 0=x2 at *
  generalize p/(b.length:Int)=x3 at *
  refine⟨by kernel_rfl,by omega,by omega,by omega,by omega,by omega,by omega,by omega,by omega,by omega,by omega,by omega,by omega,by omega,by omega,by omega,by omega,by omega,by omega,by omega,qd2 ⟨_,?_,rfl,rfl⟩⟩
  rw[qab (by omega)]
  have:=qic (x:=(((x1*131+x2*1117+p*29+x3*53).toNat ^^^ ((x1*131+x2*1117+p*29+x3*53)/64).toNat:Nat):Int)) (n:=n) (by omega) (by omega)
  omega
end Go.Proofs

set_option maxRecDepth 20000
set_option linter.unusedVariables false
set_option linter.unusedSimpArgs false
namespace Go.Proofs
open Go Go.VL
theorem Try.bytes_of {code:List Int}(h : ∀ x∈code,InK .u8 x) (n:Nat):Try.Bytes (code.take n):=fun x hx=>by
 have:=h x (List.mem_of_mem_take hx)
 rwa [inK_u8] at this
theorem Try.pick_at {b:List Int}(hb:Try.Bytes b) {p n:Int}(hp:0≤p∧p≤1000000000) {T:List R}{K:I→List R→Prop}(hk : ∀ x,0≤x∧(x<n∨x=0)→K (.d (dI x)) (Try.rd b (p+1)::T)) :
  ICall Try.prog 12 [.ptr 0 0,.d (dI n)] (Try.rd b p::T) K:=by
 refine qaX (Try.c_pick b p n hb hp) [0] (by simp only[go_sem,seval]) ?_
 rintro r0 H1 ⟨x,hx,rfl,rfl⟩
 have:=hk x hx
 simp only[go_sem,seval]
 simpa using this
theorem Try.c_odd (b:List Int) (p n:Int) (hb:Try.Bytes b) (hp:0≤p∧p≤1000000000) (hn:0≤n∧n≤1000) :
  ICall Try.prog 26 [.ptr 0 0,.d (dI n)] [Try.rd b p] (fun r H'=>∃ x q,(p≤q∧q≤p+1)∧(n=0→x=false)∧r=.d (.bool x)∧H'=[Try.rd b q]):=by
 refine qco (E:=Try.env 1) Try.tok rfl 1000 Try.func26 rfl rfl Try.ntmps26 (by simp) ?_
 simp only[go_sem,seval,Try.results26]
 refine⟨fun h=>⟨.d (dI 0),?_⟩,fun h=>?_⟩
 ·simp only[go_sem,seval,Try.results26]
  simp only[h,decide_false,go_sem,Bool.false_eq_true,false_imp_iff,true_and,↓reduceIte,reduceCtorEq]
  exact qd2 ⟨false,p,by omega,by simp,by simp,rfl⟩
 ·refine⟨h,qaX (Try.c_pick b p n hb hp) [0] (by simp only[go_sem,seval]) ?_⟩
  rintro r0 H1 ⟨x,hx,rfl,rfl⟩
  simp only[go_sem,seval,Try.results26]
  simp only[h,qaa,decide_true,go_sem,true_imp_iff,↓reduceIte]
  refine⟨by omega,qd2 ⟨_,p+1,by omega,by omega,rfl,rfl⟩⟩
theorem Try.odd_at {b:List Int}(hb:Try.Bytes b) {p n:Int}(hp:0≤p∧p≤1000000000) (hn:0≤n∧n≤1000) {T:List R}{K:I→List R→Prop}(hk : ∀ x q,p≤q∧q≤p+1→(n=0→x=false)→K (.d (.bool x)) (Try.rd b q::T)) :
  ICall Try.prog 26 [.ptr 0 0,.d (dI n)] (Try.rd b p::T) K:=by
 refine qaX (Try.c_odd b p n hb hp hn) [0] (by simp only[go_sem,seval]) ?_
 rintro r0 H1 ⟨x,q,hq,hx,rfl,rfl⟩
 have:=hk x q hq hx
 simp only[go_sem,seval]
 simpa using this
end Go.Proofs

set_option maxRecDepth 20000
set_option linter.unusedVariables false
set_option linter.unusedSimpArgs false
namespace Go.Proofs
open Go Go.VL
theorem Try.c_isLit (l n:Int) (hn:0≤n∧n≤4000000000000000000):Pure Try.prog 33 [dI l,dI n] (.bool (decide (0≤l)&&decide (l<2*n))):=by
 refine qat (E:=Try.env 0) Try.tok rfl 1000 Try.func33 rfl rfl Try.ntmps33 (by simp) fun ok=>?_
 simp only[go_sem,seval] at ok
 simp only[go_sem,seval,Try.results33]
 rw[qaa]
 omega
theorem Try.c_firstGate (c:Circ) (h : -1000≤c.inputs∧c.inputs≤1000):Pure Try.prog 43 [pC c] (dI c.first):=by
 refine qat (E:=Try.env 0) Try.tok rfl 1000 Try.func43 rfl rfl Try.ntmps43 (by simp) fun ok=>?_
 simp only[go_sem,seval] at ok
 simp only[go_sem,seval,Try.results43]
 refine⟨by kernel_rfl,?_,?_,rfl⟩ <;> (rw[qaa];omega)
theorem Try.c_vars (c:Circ) (h : -1000≤c.inputs∧c.inputs≤1000):Pure Try.prog 35 [pC c] (dI c.vars):=by
 refine qat (E:=Try.env 0) Try.tok rfl 1000 Try.func35 rfl rfl Try.ntmps35 (by simp) fun ok=>?_
 simp only[go_sem,seval] at ok
 simp only[go_sem,seval,Try.results35]
 refine⟨by kernel_rfl,qbP (fun _=>⟨Try.c_firstGate c h,by simp only[scal,qaa,Circ.first];omega⟩) ?_⟩
 simp only[go_sem,seval,Try.results35]
 simp only[qaa,Circ.first,Circ.vars,and_true]
 omega
theorem Try.c_roots (c:Circ) (h1:c.next.length≤1000000∧c.outs.length≤1000000):Pure Try.prog 34 [pC c] (dIs c.roots):=by
 refine qat (E:=Try.env 0) Try.tok rfl 1000 Try.func34 rfl rfl Try.ntmps34 (by simp) fun ok=>?_
 simp only[go_sem,seval] at ok
 simp only[go_sem,seval,Try.results34]
 refine qau (E:=Try.env 0) Try.tok Try.follows 1000 1000 [4,9] (fsts [0,1,2,5,6,7,3] (.two 4 (.one 8 (.one 9 (.fst 10 .done))) 8 (.one 4 (.one 9 (.fst 10 .done))))) (by kernel_rfl) ?_
 simp only[go_sem,seval,Try.results34]
 simp only[Circ.roots,and_true]
 refine⟨by omega,by omega⟩
theorem Circ.notValid {c:Circ}(h : ¬ c.Valid):false=decide c.Valid:=by simp[h]
theorem Try.c_CircuitValid (c:Circ):Pure Try.prog 20 [dC c] (.bool (decide c.Valid)):=by
 refine qat (E:=Try.env 0) Try.tok rfl 1000 Try.func20 rfl rfl Try.ntmps20 (by simp) fun ok=>?_
 simp only[go_sem,seval] at ok
 simp only[go_sem,seval,Try.results20]
 refine⟨fun h=>Circ.notValid fun hv=>?_,fun h=>?_⟩
 ·have:=hv.i0;have:=hv.i1;have:=hv.ln;have:=hv.lg;have:=hv.lo
  omega
 refine⟨by rw[qaa];omega,by rw[qaa];omega,?_⟩
 have hf:1+c.inputs+(c.next.length:Int)=c.first:=rfl
 have hb:1≤c.first∧c.first≤8:=by omega
 rw[hf]
 refine qaH (E:=Try.env 0) Try.tok (σ:=Nat) (fun i=>[(1,.ptr 0 0),(3,.d (dI c.first)),(42,.d (dPs c.gates)),(43,.d (dI c.gates.length)),(44,.d (dI i))]) (fun i=>[.box [.d (dI c.inputs),.d (dIs c.next),.d (dPs c.gates),.d (dIs c.outs)]])
  (fun i=>i≤c.gates.length∧∀ j,j<i→qba (c.gates.getD j (0,0)).1 (c.first+(j:Int))∧qba (c.gates.getD j (0,0)).2 (c.first+(j:Int))) (fun i=>c.gates.length-i) [] 1000 1000 ?_ ?_ ?_
 ·simp only[go_sem,seval]
 ·simp only[go_sem,seval]
  exact⟨0,⟨by omega,fun j hj=>absurd hj (by omega)⟩,rfl⟩
 ·rintro i ⟨hi,hinv⟩
  simp only[go_sem,seval,Try.results20]
  repeat' first|assumption|(simp (disch:=first|assumption|omega|(simp;done)|(simp;omega)) only[];try simp only[go_sem,seval,Try.results20])|(with_reducible first|apply And.intro|intro _)|(refine qag (Try.c_isLit _ _ (by omega)) ?_;simp only[go_sem,seval,Try.results20])|(refine qb4 (fun hg=>Try.c_isLit _ _ (by omega)) ?_;simp only[go_sem,seval,Try.results20])|(refine qag (Try.c_roots c (by omega)) ?_;simp only[go_sem,seval,Try.results20])|(refine qac ?_;simp only[go_sem,seval,Try.results20])|exact lexT|((try rw[qaa]);omega)
  ·exact Circ.notValid fun hv=>by have:=hv.g i (by omega);unfold qba at this;omega
  ·rename_i h1 h2
   refine⟨i+1,⟨by omega,fun j hj=>?_⟩,by omega,rfl⟩
   by_cases hji:j=i
   ·subst hji;exact h2
   ·exact hinv j (by omega)
  ·have hg : ∀ j,j<c.gates.length→qba (c.gates.getD j (0,0)).1 (c.first+(j:Int))∧qba (c.gates.getD j (0,0)).2 (c.first+(j:Int)):=fun j hj=>hinv j (by omega)
   clear hinv hi
   have hv0:c.first≤c.vars∧c.vars≤22:=by unfold Circ.vars;omega
   have hrl:c.roots.length≤6:=by simp[Circ.roots];omega
   refine qaH (E:=Try.env 0) Try.tok (σ:=Nat) (fun i=>[(1,.ptr 0 0),(66,.d (dIs c.roots)),(67,.d (dI c.roots.length)),(68,.d (dI i))]) (fun i=>[.box [.d (dI c.inputs),.d (dIs c.next),.d (dPs c.gates),.d (dIs c.outs)]])
    (fun i=>i≤c.roots.length∧∀ j,j<i→qba (c.roots.getD j 0) c.vars) (fun i=>c.roots.length-i) [] 1000 1000 ?_ ?_ ?_
   ·simp only[go_sem,seval]
   ·simp only[go_sem,seval]
    exact⟨0,⟨by omega,fun j hj=>absurd hj (by omega)⟩,rfl⟩
   ·rintro i ⟨hi,hinv⟩
    simp only[go_sem,seval,Try.results20]
    repeat' first|assumption|(simp (disch:=first|assumption|omega|(simp;done)|(simp;omega)) only[];try simp only[go_sem,seval,Try.results20])|(with_reducible first|apply And.intro|intro _)|(refine qag (Try.c_vars _ (by omega)) ?_;simp only[go_sem,seval,Try.results20])|(refine qag (Try.c_isLit _ _ (by omega)) ?_;simp only[go_sem,seval,Try.results20])|(refine qb4 (fun hg=>Try.c_isLit _ _ (by omega)) ?_;simp only[go_sem,seval,Try.results20])|(refine qac ?_;simp only[go_sem,seval,Try.results20])|exact lexT|((try rw[qaa]);omega)
    ·exact Circ.notValid fun hv=>by have:=hv.roots _ (qan (z:=0) (show i<c.roots.length by assumption));unfold qba at this;omega
    ·rename_i h1 h2
     refine⟨i+1,⟨by omega,fun j hj=>?_⟩,by omega,rfl⟩
     by_cases hji:j=i
     ·subst hji;exact h2
     ·exact hinv j (by omega)
    ·have hr : ∀ x∈c.roots,qba x c.vars:=(qkp 0).2 fun j hj=>hinv j (by omega)
     have hv:c.Valid:=⟨by omega,by omega,by omega,by omega,by omega,hg,fun x hx=>hr x (List.mem_append.2 (.inl hx)),fun x hx=>hr x (List.mem_append.2 (.inr hx))⟩
     simp[hv]
theorem Try.c_alive:Pure Try.prog 8 [] (.bool true):=by
 refine qat (E:=Try.env 0) Try.tok rfl 1000 Try.func8 rfl rfl Try.ntmps8 (by simp) fun ok=>?_
 simp only[go_sem,seval,Try.results8]
 refine qag ((Try.c_CircuitValid Circ.zero).wk (by simp[go_sem,Circ.zero])) ?_
 simp only[go_sem,seval,Try.results8]
 simp[Circ.zero_valid]
end Go.Proofs

set_option maxRecDepth 20000
set_option linter.unusedVariables false
set_option linter.unusedSimpArgs false
namespace Go.Proofs
open Go Go.VL
noncomputable instance:DecidableEq Circ:=fun _ _=>Classical.propDecidable _
end Go.Proofs

set_option maxRecDepth 20000
set_option linter.unusedVariables false
set_option linter.unusedSimpArgs false
namespace Go.Proofs
open Go Go.VL
theorem qdi {P:Nat→Prop}{n i:Nat}(h1:i<n) (h2:P i) (hinv : ∀ j,j<i→P j) : ∃ s',(s'≤n∧∀ j,j<s'→P j)∧n-s'<n-i∧i+1=s':=
 ⟨i+1,⟨by omega,fun j hj=>by
  by_cases h:j=i
  ·subst h;exact h2
  ·exact hinv j (by omega)⟩,by omega,rfl⟩
theorem no_at {α : Type}{l:List α}{P : α→Prop}{d:Decidable (∀ x∈l,P x)}{i:Nat}(z : α) (h1:i<l.length) (h : ¬ P (l.getD i z)):false=decide (∀ x∈l,P x):=by
 rw[eq_comm,decide_eq_false_iff_not]
 exact fun h2=>h (h2 _ (qan h1))
theorem yes_at {α : Type}{l:List α}{P : α→Prop}{d:Decidable (∀ x∈l,P x)}(z : α) (h : ∀ j,j<l.length→P (l.getD j z)):true=decide (∀ x∈l,P x):=by
 rw[eq_comm,decide_eq_true_eq]
 exact(qkp z).2 h
theorem Try.c_l1First (c:Circ) (h : -1000≤c.inputs∧c.inputs≤1000):Pure Try.prog 44 [dC c] (dI c.first):=by
 refine qat (E:=Try.env 0) Try.tok rfl 1000 Try.func44 rfl rfl Try.ntmps44 (by simp) fun ok=>?_
 simp only[go_sem,seval] at ok
 simp only[go_sem,seval,Try.results44]
 repeat' first|assumption|(simp (disch:=first|assumption|omega|(simp;done)|(simp;omega)) only[];try simp only[go_sem,seval,Try.results44])|(with_reducible first|apply And.intro|intro _)|(refine qac ?_;simp only[go_sem,seval,Try.results44])|exact lexT|((try rw[qaa]);omega)
 unfold Circ.first
 omega
theorem Try.c_l1Lits (l:List Int) (n:Int) (hn:0≤n∧n≤1000):Pure Try.prog 45 [dIs l,dI n] (.bool (decide (∀ x∈l,qba x n))):=by
 refine qat (E:=Try.env 0) Try.tok rfl 1000 Try.func45 rfl rfl Try.ntmps45 (by simp) fun ok=>?_
 simp only[go_sem,seval] at ok
 simp only[go_sem,seval,Try.results45]
 refine qaH (E:=Try.env 0) Try.tok (σ:=Nat) (fun i=>[(0,.d (dIs l)),(1,.d (dI n)),(5,.d (dI i))]) (fun _=>[]) (fun i=>i≤l.length∧∀ j,j<i→qba (l.getD j 0) n) (fun i=>l.length-i) [] 1000 1000 ?_ ?_ ?_
 ·simp only[go_sem,seval]
 ·simp only[go_sem,seval]
  exact⟨0,⟨by omega,fun j hj=>absurd hj (by omega)⟩,rfl⟩
 ·rintro i ⟨hi,hinv⟩
  simp only[go_sem,seval,Try.results45]
  repeat' first|assumption|(simp (disch:=first|assumption|omega|(simp;done)|(simp;omega)) only[];try simp only[go_sem,seval,Try.results45])|(with_reducible first|apply And.intro|intro _)|(refine qag (Try.c_l1In _ _ _) ?_;simp only[go_sem,seval,Try.results45])|(refine qac ?_;simp only[go_sem,seval,Try.results45])|exact lexT|((try rw[qaa]);omega)
  ·rename_i h1 h2
   exact no_at 0 h1 (by unfold qba;omega)
  ·rename_i h1 h2
   exact qdi h1 (by unfold qba;omega) hinv
  ·exact yes_at 0 fun j hj=>hinv j (by omega)
theorem Try.c_sCircuitValid (c:Circ):Pure Try.prog 36 [dC c] (.bool (decide c.Valid)):=by
 refine qat (E:=Try.env 0) Try.tok rfl 1000 Try.func36 rfl rfl Try.ntmps36 (by simp) fun ok=>?_
 simp only[go_sem,seval] at ok
 simp only[go_sem,seval,Try.results36]
 refine qag (Try.c_l1In _ _ _) ?_
 simp only[go_sem,seval,Try.results36]
 refine⟨fun h=>Circ.notValid fun hv=>?_,fun h=>?_⟩
 ·have:=hv.i0;have:=hv.i1;have:=hv.ln;have:=hv.lg;have:=hv.lo
  omega
 refine qag (Try.c_l1First c (by omega)) ?_
 have hb:1≤c.first∧c.first≤8:=by unfold Circ.first;omega
 simp only[go_sem,seval,Try.results36]
 refine qaH (E:=Try.env 0) Try.tok (σ:=Nat) (fun i=>[(1,.ptr 0 0),(3,.d (dI c.first)),(4,.d (dI i))]) (fun i=>[.box [.d (dI c.inputs),.d (dIs c.next),.d (dPs c.gates),.d (dIs c.outs)]])
  (fun i=>i≤c.gates.length∧∀ j,j<i→qba (c.gates.getD j (0,0)).1 (c.first+(j:Int))∧qba (c.gates.getD j (0,0)).2 (c.first+(j:Int))) (fun i=>c.gates.length-i) [] 1000 1000 ?_ ?_ ?_
 ·simp only[go_sem,seval]
 ·simp only[go_sem,seval]
  exact⟨0,⟨by omega,fun j hj=>absurd hj (by omega)⟩,rfl⟩
 ·rintro i ⟨hi,hinv⟩
  simp only[go_sem,seval,Try.results36]
  have hv0:c.vars=c.first+c.gates.length:=rfl
  refine⟨fun hlt=>?_,fun hge=>?_⟩
  ·refine qau (E:=Try.env 0) Try.tok Try.follows 1000 1000 [] (fsts [0,2,6,8,13,14,15,1,3,4,5,7,9,10,11] (.one 12 (.one 16 (.fst 17 .done)))) (by kernel_rfl) ?_
   simp only[go_sem,seval,Try.results36]
   repeat' first|assumption|(simp (disch:=first|assumption|omega|(simp;done)|(simp;omega)) only[];try simp only[go_sem,seval,Try.results36])|(with_reducible first|apply And.intro|intro _)|(refine qag (Try.c_l1Lits [_,_] _ (by omega)) ?_;simp only[go_sem,seval,Try.results36])|(refine qac ?_;simp only[go_sem,seval,Try.results36])|exact lexT|((try rw[qaa]);omega)
   ·rename_i h2
    exact Circ.notValid fun hv=>h2 (hv.g i hlt)
   ·rename_i h2
    exact qdi hlt h2 hinv
  ·repeat' first|assumption|(simp (disch:=first|assumption|omega|(simp;done)|(simp;omega)) only[];try simp only[go_sem,seval,Try.results36])|(with_reducible first|apply And.intro|intro _)|(refine qag (Try.c_l1Lits _ _ (by omega)) ?_;simp only[go_sem,seval,Try.results36])|(refine qb4 (fun hg=>Try.c_l1Lits _ _ (by omega)) ?_;simp only[go_sem,seval,Try.results36])|(refine qac ?_;simp only[go_sem,seval,Try.results36])|exact lexT|((try rw[qaa]);omega)
   rw[Bool.eq_iff_iff]
   simp only[Bool.and_eq_true,decide_eq_true_eq]
   refine⟨fun⟨q1,q2⟩=>⟨by omega,by omega,by omega,by omega,by omega,fun j hj=>hinv j (by omega),q1,q2⟩,fun hv=>⟨hv.n,hv.o⟩⟩
end Go.Proofs
