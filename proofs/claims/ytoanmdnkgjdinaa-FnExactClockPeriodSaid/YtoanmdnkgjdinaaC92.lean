/- Contracts, plain definitions and lemmas. Conditions: none; lemmas. -/
import Derived.Test.YtoanmdnkgjdinaaTy
import Derived.Test.YtoanmdnkgjdinaaVM8
import Derived.Test.YtoanmdnkgjdinaaProg
import Derived.Test.YtoanmdnkgjdinaaC61
set_option maxRecDepth 20000
set_option linter.unusedVariables false
set_option linter.unusedSimpArgs false
namespace Go.Proofs
open Go Go.VL
theorem Try.c_eqIntS (a b:List Int):Pure Try.prog 29 [dIs a,dIs b] (.bool (decide (a=b))):=by
 refine qan (E:=Try.env 0) Try.tok rfl 1000 Try.func29 rfl rfl Try.ntmps29 (by simp) fun ok=>?_
 simp only[go_sem,seval] at ok
 simp only[go_sem,seval,Try.results29]
 refine⟨fun h=>?_,fun hlen=>?_⟩
 ·simp only[false_eq_decide_iff]
  rintro rfl
  exact h rfl
 refine qaH (E:=Try.env 0) Try.tok (σ:=Nat) (fun i=>[(0,.d (dIs a)),(1,.d (dIs b)),(5,.d (dI i))]) (fun _=>[]) (fun i=>i≤a.length∧∀ j,j<i→a.getD j 0=b.getD j 0) (fun i=>a.length-i) [] 1000 1000 ?_ ?_ ?_
 ·simp only[go_sem,seval]
 ·simp only[go_sem,seval]
  exact⟨0,⟨by omega,by omega⟩,rfl⟩
 ·intro i hi
  simp only[go_sem,seval,Try.results29]
  refine⟨fun h1=>⟨by kernel_rfl,h1,by omega,fun h2=>?_,fun h2=>⟨by rw[qad];omega,i+1,⟨by omega,?_⟩,by omega,rfl⟩⟩,fun h1=>?_⟩
  ·simp only[false_eq_decide_iff]
   rintro rfl
   exact h2 rfl
  ·intro j hj
   by_cases hji:j=i
   ·subst hji;exact h2
   ·exact hi.2 j (by omega)
  ·simp only[true_eq_decide_iff]
   refine List.ext_getElem hlen fun j h3 h4=>?_
   have:=hi.2 j (by omega)
   simpa [List.getD,h3,h4] using this
end Go.Proofs

set_option maxRecDepth 20000
set_option linter.unusedVariables false
set_option linter.unusedSimpArgs false
namespace Go.Proofs
open Go Go.VL
theorem Try.c_l1In (x lo hi:Int):Pure Try.prog 67 [dI x,dI lo,dI hi] (.bool (decide (lo≤x)&&decide (x≤hi))):=by
 refine qan (E:=Try.env 0) Try.tok rfl 1000 Try.func67 rfl rfl Try.ntmps67 (by simp) fun ok=>?_
 simp only[go_sem,seval,Try.results67]
end Go.Proofs

set_option maxRecDepth 20000
set_option linter.unusedVariables false
set_option linter.unusedSimpArgs false
namespace Go.Proofs
open Go Go.VL
def Try.defectOk (d:Int×Int):Bool:=(decide (0≤d.1)&&decide (d.1≤24))&&(decide (0≤d.2)&&decide (d.2≤7))
theorem Try.defectOk_iff {d:Int×Int}:Try.defectOk d=true↔(0≤d.1∧d.1≤24)∧0≤d.2∧d.2≤7:=by simp[Try.defectOk]
theorem Try.defectOk_no {d:Int×Int}(h : ¬ ((0≤d.1∧d.1≤24)∧0≤d.2∧d.2≤7)):Try.defectOk d=false:=by
 rw[Bool.eq_false_iff]
 exact fun e=>h (Try.defectOk_iff.1 e)
def Try.defectsValid (l:List (Int×Int)):Bool:=decide (l.length≤12)&&l.all Try.defectOk
theorem qkx {α : Type}(p : α→Bool) (l:List α) (z : α):l.all p=true↔∀ j,j<l.length→p (l.getD j z)=true:=by
 rw[List.all_eq_true]
 constructor
 ·intro h j hj
  exact h _ (by simp[List.getD,hj])
 ·intro h x hx
  obtain⟨j,hj,rfl⟩:=List.getElem_of_mem hx
  have:=h j hj
  simpa [List.getD,hj] using this
theorem qoi {α : Type}{p : α→Bool}{l:List α}{z : α}{j:Nat}(hj:j<l.length) (h:p (l.getD j z)=false):l.all p=false:=by
 rw[Bool.eq_false_iff]
 intro ha
 have:=(qkx p l z).1 ha j hj
 rw[h] at this
 exact absurd this (by simp)
theorem Try.c_DefectsValid (l:List (Int×Int)):Pure Try.prog 47 [dPs l] (.bool (Try.defectsValid l)):=by
 refine qan (E:=Try.env 0) Try.tok rfl 1000 Try.func47 rfl rfl Try.ntmps47 (by simp) fun ok=>?_
 simp only[go_sem,seval] at ok
 simp only[go_sem,seval,Try.results47]
 refine⟨fun h=>by simp[Try.defectsValid];omega,fun h=>?_⟩
 refine qaH (E:=Try.env 0) Try.tok (σ:=Nat) (fun i=>[(8,.d (dPs l)),(9,.d (dI l.length)),(10,.d (dI i))]) (fun i=>[]) (fun i=>i≤l.length∧∀ j,j<i→Try.defectOk (l.getD j (0,0))=true) (fun i=>l.length-i) [] 1000 1000 ?_ ?_ ?_
 ·simp only[go_sem,seval]
 ·simp only[go_sem,seval]
  exact⟨0,by simp⟩
 ·rintro i ⟨hi,hinv⟩
  simp only[go_sem,seval,Try.results47]
  refine⟨fun h1=>⟨h1,fun h2=>?_,fun h2=>⟨by rw[qad];omega,i+1,⟨by omega,fun j hj=>?_⟩,by omega,rfl⟩⟩,fun h1=>?_⟩
  ·have:Try.defectOk (l.getD i (0,0))=false:=Try.defectOk_no (by omega)
   simp[Try.defectsValid,qoi h1 this]
  ·by_cases hji:j=i
   ·subst hji;exact Try.defectOk_iff.2 (by omega)
   ·exact hinv j (by omega)
  ·have:l.all Try.defectOk=true:=(qkx _ _ (0,0)).2 fun j hj=>hinv j (by omega)
   simp[Try.defectsValid,this];omega
end Go.Proofs

set_option maxRecDepth 20000
set_option linter.unusedVariables false
set_option linter.unusedSimpArgs false
namespace Go.Proofs
open Go Go.VL
abbrev Try.rd (b:List Int) (p:Int):R:=.box [.d (dUs b),.d (dI p)]
def Try.Bytes (b:List Int):Prop:=∀ x∈b,0≤x∧x≤255
theorem Try.shp_Bytes {f:Nat}(y:D) (h:shp Try.tyT (f+2) 22 y) : ∃ l:List Int,y=dUs l:=
 shp_slice Try.ty22 Try.ty5 (g:=D.int .u8) (fun y h=>shp_int Try.ty5 h) h
theorem Try.c_l20Open (code:List Int):Proc Try.prog 42 [.d (dUs code)] [] (.ptr 0 0) [Try.rd (code.take 2000) 0]:=by
 refine proc_of (E:=Try.env 0) Try.tok rfl 1000 Try.func42 rfl rfl Try.ntmps42 (by simp) ?_
 simp only[go_sem,seval,Try.results42]
 refine⟨fun h=>by omega,fun h=>?_⟩
 rw[List.take_of_length_le (by omega)]
theorem Try.byte_get {b:List Int}(hb:Try.Bytes b) (k:Nat):0≤b.getD k 0∧b.getD k 0≤255:=by
 by_cases h:k<b.length
 ·have:=hb (b.getD k 0) (by simp[List.getD,h])
  exact this
 ·simp[List.getD,h]
theorem qjH {x n:Int}(h0:0≤x) (hn:0<n):0≤x%n∧x%n<n:=⟨Int.emod_nonneg _ (by omega),Int.emod_lt_of_pos _ hn⟩
set_option maxRecDepth 100000 in
theorem Try.c_pick (b:List Int) (p n:Int) (hb:Try.Bytes b) (hp:0≤p∧p≤1000000000) :
  ICall Try.prog 52 [.ptr 0 0,.d (dI n)] [Try.rd b p] (fun r H'=>∃ x,(0≤x∧(x<n∨x=0))∧r=.d (dI x)∧H'=[Try.rd b (p+1)]):=by
 refine qaF (E:=Try.env 1) Try.tok rfl 1000 Try.func52 rfl rfl Try.ntmps52 (by simp) ?_
 simp only[go_sem,seval,Try.results52]
 simp only[qad]
 refine⟨by omega,fun h1=>?_,fun h1=>⟨by omega,fun h2=>?_,fun h2=>?_⟩⟩
 ·exact qbB ⟨0,by omega,rfl,rfl⟩
 ·have hx:=Try.byte_get hb (p+1-1).toNat
  refine⟨by omega,by omega,by omega,qbB ⟨_,?_,rfl,rfl⟩⟩
  rw[qab hx.1]
  have:=qjH hx.1 (show 0<n by omega)
  omega
 ·simp only[Int.add_sub_cancel] at *
  simp only[qab (x:=p) (by omega),qab (x:=p*7+3) (by omega)]
  have m1:=qjH (x:=p) (n:=(b.length:Int)) (by omega) (by omega)
  have m2:=qjH (x:=p*7+3) (n:=(b.length:Int)) (by omega) (by omega)
  have d1:0≤p/(b.length:Int)∧p/(b.length:Int)≤p:=⟨Int.ediv_nonneg (by omega) (by omega),Int.ediv_le_self _ (by omega)⟩
  have b1:=Try.byte_get hb (p%(b.length:Int)).toNat
  have b2:=Try.byte_get hb ((p*7+3)%(b.length:Int)).toNat
  generalize b.getD (p%(b.length:Int)).toNat 0=x1 at *
  generalize b.getD ((p*7+3)%(b.length:Int)).toNat 0=x2 at *
  generalize p/(b.length:Int)=x3 at *
  refine⟨by kernel_rfl,by omega,by omega,by omega,by omega,by omega,by omega,by omega,by omega,by omega,by omega,by omega,by omega,by omega,by omega,by omega,by omega,by omega,by omega,by omega,qbB ⟨_,?_,rfl,rfl⟩⟩
  rw[qab (by omega)]
  have:=qjH (x:=(((x1*131+x2*1117+p*29+x3*53).toNat ^^^ ((x1*131+x2*1117+p*29+x3*53)/64).toNat:Nat):Int)) (n:=n) (by omega) (by omega)
  omega
end Go.Proofs

set_option maxRecDepth 20000
set_option linter.unusedVariables false
set_option linter.unusedSimpArgs false
namespace Go.Proofs
open Go Go.VL
theorem Try.bytes_of {code:List Int}(h : ∀ x∈code,InK .u8 x) (n:Nat):Try.Bytes (code.take n):=fun x hx=>by
 have:=h x (List.mem_of_mem_take hx)
 rwa [inK_u8] at this
theorem Try.pick_at {b:List Int}(hb:Try.Bytes b) {p n:Int}(hp:0≤p∧p≤1000000000) {T:List R}{K:I→List R→Prop}(hk : ∀ x,0≤x∧(x<n∨x=0)→K (.d (dI x)) (Try.rd b (p+1)::T)) :
  ICall Try.prog 52 [.ptr 0 0,.d (dI n)] (Try.rd b p::T) K:=by
 refine qar (Try.c_pick b p n hb hp) [0] (by simp only[go_sem,seval]) ?_
 rintro r0 H1 ⟨x,hx,rfl,rfl⟩
 have:=hk x hx
 simp only[go_sem,seval]
 simpa using this
theorem Try.c_odd (b:List Int) (p n:Int) (hb:Try.Bytes b) (hp:0≤p∧p≤1000000000) (hn:0≤n∧n≤1000) :
  ICall Try.prog 78 [.ptr 0 0,.d (dI n)] [Try.rd b p] (fun r H'=>∃ x q,(p≤q∧q≤p+1)∧(n=0→x=false)∧r=.d (.bool x)∧H'=[Try.rd b q]):=by
 refine qaF (E:=Try.env 1) Try.tok rfl 1000 Try.func78 rfl rfl Try.ntmps78 (by simp) ?_
 simp only[go_sem,seval,Try.results78]
 refine⟨fun h=>⟨.d (dI 0),?_⟩,fun h=>?_⟩
 ·simp only[go_sem,seval,Try.results78]
  simp only[h,decide_false,go_sem,Bool.false_eq_true,false_imp_iff,true_and,↓reduceIte,reduceCtorEq]
  exact qbB ⟨false,p,by omega,by simp,by simp,rfl⟩
 ·refine⟨h,qar (Try.c_pick b p n hb hp) [0] (by simp only[go_sem,seval]) ?_⟩
  rintro r0 H1 ⟨x,hx,rfl,rfl⟩
  simp only[go_sem,seval,Try.results78]
  simp only[h,qad,decide_true,go_sem,true_imp_iff,↓reduceIte]
  refine⟨by omega,qbB ⟨_,p+1,by omega,by omega,rfl,rfl⟩⟩
theorem Try.odd_at {b:List Int}(hb:Try.Bytes b) {p n:Int}(hp:0≤p∧p≤1000000000) (hn:0≤n∧n≤1000) {T:List R}{K:I→List R→Prop}(hk : ∀ x q,p≤q∧q≤p+1→(n=0→x=false)→K (.d (.bool x)) (Try.rd b q::T)) :
  ICall Try.prog 78 [.ptr 0 0,.d (dI n)] (Try.rd b p::T) K:=by
 refine qar (Try.c_odd b p n hb hp hn) [0] (by simp only[go_sem,seval]) ?_
 rintro r0 H1 ⟨x,q,hq,hx,rfl,rfl⟩
 have:=hk x q hq hx
 simp only[go_sem,seval]
 simpa using this
end Go.Proofs

set_option maxRecDepth 20000
set_option linter.unusedVariables false
set_option linter.unusedSimpArgs false
namespace Go.Proofs
open Go Go.VL
theorem Try.c_isLit (l n:Int) (hn:0≤n∧n≤4000000000000000000):Pure Try.prog 73 [dI l,dI n] (.bool (decide (0≤l)&&decide (l<2*n))):=by
 refine qan (E:=Try.env 0) Try.tok rfl 1000 Try.func73 rfl rfl Try.ntmps73 (by simp) fun ok=>?_
 simp only[go_sem,seval] at ok
 simp only[go_sem,seval,Try.results73]
 rw[qad]
 omega
theorem Try.c_firstGate (c:Circ) (h : -1000≤c.inputs∧c.inputs≤1000):Pure Try.prog 74 [pC c] (dI c.first):=by
 refine qan (E:=Try.env 0) Try.tok rfl 1000 Try.func74 rfl rfl Try.ntmps74 (by simp) fun ok=>?_
 simp only[go_sem,seval] at ok
 simp only[go_sem,seval,Try.results74]
 refine⟨by kernel_rfl,?_,?_,rfl⟩ <;> (rw[qad];omega)
theorem Try.c_vars (c:Circ) (h : -1000≤c.inputs∧c.inputs≤1000):Pure Try.prog 41 [pC c] (dI c.vars):=by
 refine qan (E:=Try.env 0) Try.tok rfl 1000 Try.func41 rfl rfl Try.ntmps41 (by simp) fun ok=>?_
 simp only[go_sem,seval] at ok
 simp only[go_sem,seval,Try.results41]
 refine⟨by kernel_rfl,qa1 (fun _=>⟨Try.c_firstGate c h,by simp only[scal,qad,Circ.first];omega⟩) ?_⟩
 simp only[go_sem,seval,Try.results41]
 simp only[qad,Circ.first,Circ.vars,and_true]
 omega
theorem Try.c_roots (c:Circ) (h1:c.next.length≤1000000∧c.outs.length≤1000000):Pure Try.prog 65 [pC c] (dIs c.roots):=by
 refine qan (E:=Try.env 0) Try.tok rfl 1000 Try.func65 rfl rfl Try.ntmps65 (by simp) fun ok=>?_
 simp only[go_sem,seval] at ok
 simp only[go_sem,seval,Try.results65]
 refine qaQ (E:=Try.env 0) Try.tok Try.follows 1000 1000 [4,9] (.fst 0 (.fst 1 (.fst 2 (.fst 5 (.fst 6 (.fst 7 (.fst 3 (.two 4 (.one 8 (.one 9 (.fst 10 (.done)))) 8 (.one 4 (.one 9 (.fst 10 (.done)))))))))))) (by kernel_rfl) ?_
 simp only[go_sem,seval,Try.results65]
 simp only[Circ.roots,and_true]
 refine⟨by omega,by omega⟩
theorem Circ.notValid {c:Circ}(h : ¬ c.Valid):false=decide c.Valid:=by simp[h]
theorem Try.c_CircuitValid (c:Circ):Pure Try.prog 39 [dC c] (.bool (decide c.Valid)):=by
 refine qan (E:=Try.env 0) Try.tok rfl 1000 Try.func39 rfl rfl Try.ntmps39 (by simp) fun ok=>?_
 simp only[go_sem,seval] at ok
 simp only[go_sem,seval,Try.results39]
 refine⟨fun h=>Circ.notValid fun hv=>?_,fun h=>?_⟩
 ·have:=hv.i0;have:=hv.i1;have:=hv.ln;have:=hv.lg;have:=hv.lo
  omega
 refine⟨by rw[qad];omega,by rw[qad];omega,?_⟩
 have hf:1+c.inputs+(c.next.length:Int)=c.first:=rfl
 have hb:1≤c.first∧c.first≤8:=by omega
 rw[hf]
 refine qaH (E:=Try.env 0) Try.tok (σ:=Nat) (fun i=>[(1,.ptr 0 0),(3,.d (dI c.first)),(42,.d (dPs c.gates)),(43,.d (dI c.gates.length)),(44,.d (dI i))]) (fun i=>[.box [.d (dI c.inputs),.d (dIs c.next),.d (dPs c.gates),.d (dIs c.outs)]])
  (fun i=>i≤c.gates.length∧∀ j,j<i→qbc (c.gates.getD j (0,0)).1 (c.first+(j:Int))∧qbc (c.gates.getD j (0,0)).2 (c.first+(j:Int))) (fun i=>c.gates.length-i) [] 1000 1000 ?_ ?_ ?_
 ·simp only[go_sem,seval]
 ·simp only[go_sem,seval]
  exact⟨0,⟨by omega,fun j hj=>absurd hj (by omega)⟩,rfl⟩
 ·rintro i ⟨hi,hinv⟩
  simp only[go_sem,seval,Try.results39]
  repeat' first|assumption|(simp (disch:=first|assumption|omega|(simp;done)|(simp;omega)) only[qaa,qac,List.take_of_length_le,qab];try simp only[go_sem,seval,Try.results39])|(with_reducible refine And.intro ?_ ?_)|(with_reducible intro _)|(refine qai (Try.c_isLit _ _ (by omega)) ?_;simp only[go_sem,seval,Try.results39])|(refine qbl (fun hg=>Try.c_isLit _ _ (by omega)) ?_;simp only[go_sem,seval,Try.results39])|(refine qai (Try.c_roots c (by omega)) ?_;simp only[go_sem,seval,Try.results39])|((try rw[qad]);omega)
  ·exact Circ.notValid fun hv=>by have:=hv.g i (by omega);unfold qbc at this;omega
  ·rename_i h1 h2
   refine⟨i+1,⟨by omega,fun j hj=>?_⟩,by omega,rfl⟩
   by_cases hji:j=i
   ·subst hji;exact h2
   ·exact hinv j (by omega)
  ·have hg : ∀ j,j<c.gates.length→qbc (c.gates.getD j (0,0)).1 (c.first+(j:Int))∧qbc (c.gates.getD j (0,0)).2 (c.first+(j:Int)):=fun j hj=>hinv j (by omega)
   clear hinv hi
   have hv0:c.first≤c.vars∧c.vars≤22:=by unfold Circ.vars;omega
   have hrl:c.roots.length≤6:=by simp[Circ.roots];omega
   refine qaH (E:=Try.env 0) Try.tok (σ:=Nat) (fun i=>[(1,.ptr 0 0),(66,.d (dIs c.roots)),(67,.d (dI c.roots.length)),(68,.d (dI i))]) (fun i=>[.box [.d (dI c.inputs),.d (dIs c.next),.d (dPs c.gates),.d (dIs c.outs)]])
    (fun i=>i≤c.roots.length∧∀ j,j<i→qbc (c.roots.getD j 0) c.vars) (fun i=>c.roots.length-i) [] 1000 1000 ?_ ?_ ?_
   ·simp only[go_sem,seval]
   ·simp only[go_sem,seval]
    exact⟨0,⟨by omega,fun j hj=>absurd hj (by omega)⟩,rfl⟩
   ·rintro i ⟨hi,hinv⟩
    simp only[go_sem,seval,Try.results39]
    repeat' first|assumption|(simp (disch:=first|assumption|omega|(simp;done)|(simp;omega)) only[qaa,qac,List.take_of_length_le,qab];try simp only[go_sem,seval,Try.results39])|(with_reducible refine And.intro ?_ ?_)|(with_reducible intro _)|(refine qai (Try.c_vars _ (by omega)) ?_;simp only[go_sem,seval,Try.results39])|(refine qai (Try.c_isLit _ _ (by omega)) ?_;simp only[go_sem,seval,Try.results39])|(refine qbl (fun hg=>Try.c_isLit _ _ (by omega)) ?_;simp only[go_sem,seval,Try.results39])|((try rw[qad]);omega)
    ·exact Circ.notValid fun hv=>by have:=hv.roots _ (qal (z:=0) (show i<c.roots.length by assumption));unfold qbc at this;omega
    ·rename_i h1 h2
     refine⟨i+1,⟨by omega,fun j hj=>?_⟩,by omega,rfl⟩
     by_cases hji:j=i
     ·subst hji;exact h2
     ·exact hinv j (by omega)
    ·have hr : ∀ x∈c.roots,qbc x c.vars:=(qlY 0).2 fun j hj=>hinv j (by omega)
     have hv:c.Valid:=⟨by omega,by omega,by omega,by omega,by omega,hg,fun x hx=>hr x (List.mem_append.2 (.inl hx)),fun x hx=>hr x (List.mem_append.2 (.inr hx))⟩
     simp[hv]
theorem Try.c_alive:Pure Try.prog 14 [] (.bool true):=by
 refine qan (E:=Try.env 0) Try.tok rfl 1000 Try.func14 rfl rfl Try.ntmps14 (by simp) fun ok=>?_
 simp only[go_sem,seval,Try.results14]
 refine qai ((Try.c_CircuitValid Circ.zero).wk (by simp[go_sem,Circ.zero])) ?_
 simp only[go_sem,seval,Try.results14]
 simp[Circ.zero_valid]
end Go.Proofs

set_option maxRecDepth 20000
set_option linter.unusedVariables false
set_option linter.unusedSimpArgs false
namespace Go.Proofs
open Go Go.VL
abbrev Kn:=List (Int×Bool)
def kn (m:Kn) (k:Int):Option Bool:=(m.find? fun e=>decide (e.1=k)).map fun e=>e.2
def knUp:Kn→Int→Bool→Kn
 | [],k,b=>[(k,b)]
 | e::r,k,b=>if e.1=k then(k,b)::r else e::knUp r k b
theorem qlp (k:Int) (b:Bool) (j:Int) : ∀ m,kn (knUp m k b) j=if j=k then some b else kn m j
 | []=>by by_cases h:j=k <;> simp[kn,knUp,h,eq_comm]
 | e::r=>by
  have ih:=qlp k b j r
  unfold knUp
  by_cases h:e.1=k
  ·rw[if_pos h]
   by_cases h2:j=k
   ·simp[kn,h2]
   ·have h3 : ¬ e.1=j:=fun h4=>h2 (by rw[←h4,h])
    have h4 : ¬ k=j:=fun h5=>h2 h5.symm
    simp[kn,h2,h3,h4]
  ·rw[if_neg h]
   by_cases h3:e.1=j
   ·have h2 : ¬ j=k:=fun h4=>h (by rw[h3,h4])
    simp[kn,h2,h3]
   ·unfold kn at ih ⊢
    simp only[List.find?_cons,decide_eq_false h3,ih]
def knE (m:Kn):List (D×D):=m.map fun e=>(dI e.1,D.bool e.2)
theorem qjI (k:Int) : ∀ m,qc9 (knE m) (dI k)=(kn m k).map D.bool
 | []=>rfl
 | e::r=>by
  have ih:=qjI k r
  show qc9 ((dI e.1,D.bool e.2)::knE r) _=_
  rw[qgs,qe4]
  by_cases h:e.1=k
  ·subst h;simp[kn]
  ·rw[decide_eq_false (fun h2=>h h2.symm)]
   simp only[Bool.false_eq_true,if_false,ih]
   simp[kn,h]
theorem qjJ (k:Int) (b:Bool) : ∀ m,updD (knE m) (dI k) (D.bool b)=knE (knUp m k b)
 | []=>rfl
 | e::r=>by
  have ih:=qjJ k b r
  show updD ((dI e.1,D.bool e.2)::knE r) _ _=_
  rw[updD,qe4]
  by_cases h:e.1=k
  ·subst h;simp[knUp,knE]
  ·rw[decide_eq_false (fun h2=>h h2.symm)]
   simp only[Bool.false_eq_true,if_false,ih]
   simp[knUp,knE,h]
theorem qha (m:Kn):qbt (.int .i64) (knE m):=by
 rw[qd9]
 intro e he
 obtain⟨x,_,rfl⟩:=List.mem_map.1 he
 exact rfl
structure KnOk (c:Circ) (leaves:List Int) (x:Nat) (m:Kn):Prop where
 val : ∀ k b,kn m k=some b→b=qct c leaves x k
 leaf : ∀ z∈leaves,kn m z≠none
theorem KnOk.up {c:Circ}{leaves:List Int}{x:Nat}{m:Kn}(h:KnOk c leaves x m) (k:Int):KnOk c leaves x (knUp m k (qct c leaves x k)):=by
 refine⟨fun j b hj=>?_,fun z hz=>?_⟩
 ·rw[qlp] at hj
  split at hj
  ·rename_i e;subst e;simpa using hj.symm
  ·exact h.val j b hj
 ·rw[qlp];split
  ·simp
  ·exact h.leaf z hz
theorem qrI {c:Circ}{leaves:List Int}{x:Nat}{v:Int}{m:Kn}{X:Bool}{T:List R}(hm:KnOk c leaves x m) (hX:X=qct c leaves x v) :
  endI 1 (fun r H'=>∃ m',KnOk c leaves x m'∧r=I.d (dB (qct c leaves x v))∧H'=[R.map (knE m')]) (I.d (D.bool X)) (.map (updD (knE m) (dI v) (D.bool X))::T):=by
 subst hX
 rw[qjJ]
 refine qa8 (r0:=.d (dB (qct c leaves x v))) (H1:=[.map (knE (knUp m v (qct c leaves x v)))]) ?_ ⟨_,hm.up v,rfl,rfl⟩
 simp only[go_sem,seval]
set_option maxHeartbeats 4000000 in
theorem Try.c_coneValue (c:Circ) (hc:c.Valid) (leaves:List Int) (x:Nat) : ∀ (n:Nat) (v:Int) (m:Kn),v.toNat<n→0≤v→v<c.vars→KnOk c leaves x m→
  ICall Try.prog 92 [.d (pC c),.d (dI v),.map 0] [.map (knE m)] (fun r H'=>∃ m',KnOk c leaves x m'∧r=.d (dB (qct c leaves x v))∧H'=[.map (knE m')]):=by
 have hf:=hc.first_bd
 have hi0:=hc.i0
 have hi1:=hc.i1
 have hvv:=hc.vars_bd
 have hfst:=Try.c_firstGate c (by omega)
 intro n
 induction n with
 | zero=>intro v m h;omega
 | succ n ih=>
  intro v m hvn hv0 hv hm
  have ek:=qjI v m
  have hks:=qha m
  have hnl:kn m v=none→v∉leaves:=fun h hv=>hm.leaf v hv h
  cases hkn:kn m v with
  | some b=>
   rw[hkn] at ek
   refine qaF (E:=Try.env 1) Try.tok rfl 1000 Try.func92 rfl rfl Try.ntmps92 (by simp) ?_
   simp only[go_sem,seval,Try.results92,ek,Option.map_some]
   repeat' first|assumption|(simp (disch:=first|assumption|omega|(simp;done)|(simp;omega)) only[qaa,qac,List.take_of_length_le,qab,qae,qaf];try simp only[go_sem,seval,Try.results92,ek,Option.map_some])|(with_reducible refine And.intro ?_ ?_)|(with_reducible intro _)|(refine qai hfst ?_;simp only[go_sem,seval,Try.results92,ek,Option.map_some])|(refine qbl (fun _=>hfst) ?_;simp only[go_sem,seval,Try.results92,ek,Option.map_some])|((try rw[qad]);omega)
   refine qa8 (r0:=.d (dB (qct c leaves x v))) (H1:=[.map (knE m)]) ?_ ⟨m,hm,rfl,rfl⟩
   rw[←hm.val v b hkn]
   simp only[go_sem,seval]
  | none=>
   rw[hkn] at ek
   have hvl:=hnl hkn
   by_cases hlow:v<c.first
   ·have hval:qct c leaves x v=false:=by rw[qf9 hv0 hlow,qeR,if_neg hvl]
    refine qaF (E:=Try.env 1) Try.tok rfl 1000 Try.func92 rfl rfl Try.ntmps92 (by simp) ?_
    simp only[go_sem,seval,Try.results92,ek,Option.map_none]
    repeat' first|assumption|(simp (disch:=first|assumption|omega|(simp;done)|(simp;omega)) only[qaa,qac,List.take_of_length_le,qab,qae,qaf];try simp only[go_sem,seval,Try.results92,ek,Option.map_none])|(with_reducible refine And.intro ?_ ?_)|(with_reducible intro _)|(refine qai hfst ?_;simp only[go_sem,seval,Try.results92,ek,Option.map_none])|(refine qbl (fun _=>hfst) ?_;simp only[go_sem,seval,Try.results92,ek,Option.map_none])|((try rw[qad]);omega)
    refine qa8 (r0:=.d (dB (qct c leaves x v))) (H1:=[.map (knE m)]) ?_ ⟨m,hm,rfl,rfl⟩
    rw[hval]
    simp only[go_sem,seval]
   ·obtain⟨i,rfl⟩ : ∃ i:Nat,v=c.first+(i:Int):=⟨(v-c.first).toNat,by omega⟩
    have hi:i<c.gates.length:=by unfold Circ.vars at hv;omega
    obtain⟨g1,g2⟩:=hc.g i hi
    have hval:=qgB hc (leaves:=leaves) (x:=x) hi
    rw[qeR,if_neg hvl] at hval
    have ei:(c.first+(i:Int)-c.first).toNat=i:=by omega
    have ea:qbI c i=(c.gates.getD i (0,0)).1:=rfl
    have eb:qbJ c i=(c.gates.getD i (0,0)).2:=rfl
    rw[ea,eb] at hval
    unfold qbc at g1 g2
    have iha:=fun m hm=>ih ((c.gates.getD i (0,0)).1/2) m (by omega) (by omega) (by unfold Circ.vars;omega) hm
    have ihb:=fun m hm=>ih ((c.gates.getD i (0,0)).2/2) m (by omega) (by omega) (by unfold Circ.vars;omega) hm
    have hg : ∀ z,(c.gates.map fun x=>dP x).getD i z=dP (c.gates.getD i (0,0)):=fun z=>getD_lt _ _ _ _ _ hi
    generalize c.gates.getD i (0,0)=gg at *
    obtain⟨ga,gb⟩:=gg
    simp only at hval g1 g2 iha ihb
    have ha2:((ga.toNat &&& 1:Nat):Int)=ga%2:=by rw[Nat.and_one_is_mod];omega
    have hb2:((gb.toNat &&& 1:Nat):Int)=gb%2:=by rw[Nat.and_one_is_mod];omega
    have cva : ∀ {m:Kn}{T:List R}{K:I→List R→Prop},KnOk c leaves x m→(∀ m',KnOk c leaves x m'→K (.d (dB (qct c leaves x (ga/2)))) (.map (knE m')::T))→
      ICall Try.prog 92 [.d (pC c),.d (dI (ga/2)),.map 0] (.map (knE m)::T) K:=fun {m T K} hm hk=>by
     refine qar (iha m hm) [0] (by simp only[go_sem,seval]) ?_
     rintro r0 H1 ⟨m',hm',rfl,rfl⟩
     have:=hk m' hm'
     simp only[go_sem,seval]
     simpa using this
    have cvb : ∀ {m:Kn}{T:List R}{K:I→List R→Prop},KnOk c leaves x m→(∀ m',KnOk c leaves x m'→K (.d (dB (qct c leaves x (gb/2)))) (.map (knE m')::T))→
      ICall Try.prog 92 [.d (pC c),.d (dI (gb/2)),.map 0] (.map (knE m)::T) K:=fun {m T K} hm hk=>by
     refine qar (ihb m hm) [0] (by simp only[go_sem,seval]) ?_
     rintro r0 H1 ⟨m',hm',rfl,rfl⟩
     have:=hk m' hm'
     simp only[go_sem,seval]
     simpa using this
    refine qaF (E:=Try.env 1) Try.tok rfl 1000 Try.func92 rfl rfl Try.ntmps92 (by simp) ?_
    simp only[go_sem,seval,Try.results92,ek,Option.map_none,ei,hg]
    repeat' first|assumption|(simp (disch:=first|assumption|omega|(simp;done)|(simp;omega)) only[qaa,qac,List.take_of_length_le,qab,qae,qaf];try simp only[go_sem,seval,Try.results92,ek,Option.map_none,ei,hg])|(with_reducible refine And.intro ?_ ?_)|(with_reducible intro _)|(refine qai hfst ?_;simp only[go_sem,seval,Try.results92,ek,Option.map_none,ei,hg])|(refine qbl (fun _=>hfst) ?_;simp only[go_sem,seval,Try.results92,ek,Option.map_none,ei,hg])|((try rw[qad]);omega)
    refine qaQ (E:=Try.env 1) Try.tok Try.follows 1000 1000 [11] (.fst 0 (.fst 1 (.fst 2 (.fst 4 (.fst 5 (.fst 3 (.two 6 (.fst 7 (.fst 8 (.two 9 (.one 10 (.one 11 (.done))) 10 (.one 9 (.one 11 (.done)))))) 10 (.one 6 (.fst 7 (.fst 8 (.one 9 (.one 11 (.done))))))))))))) (by kernel_rfl) ?_
    simp only[go_sem,seval,Try.results92,ek,Option.map_none,ei,hg]
    repeat' first|assumption|(simp (disch:=first|assumption|omega|(simp;done)|(simp;omega)) only[qaa,qac,List.take_of_length_le,qab,qae,qaf];try simp only[go_sem,seval,Try.results92,ek,Option.map_none,ei,hg])|(with_reducible refine And.intro ?_ ?_)|(with_reducible intro _)|(refine qai hfst ?_;simp only[go_sem,seval,Try.results92,ek,Option.map_none,ei,hg])|(refine qbl (fun _=>hfst) ?_;simp only[go_sem,seval,Try.results92,ek,Option.map_none,ei,hg])|((try rw[qad]);omega)
    all_goals (
     refine qaQ (E:=Try.env 1) Try.tok Try.follows 1000 1000 [5,17] (.fst 0 (.fst 1 (.fst 4 (.fst 6 (.fst 2 (.fst 3 (.two 5 (.one 7 (.fst 8 (.fst 9 (.fst 10 (.fst 11 (.fst 12 (.fst 13 (.fst 16 (.fst 18 (.two 14 (.fst 15 (.two 17 (.one 19 (.fst 20 (.fst 21 (.fst 22 (.fst 23 (.fst 24 (.done))))))) 19 (.fst 20 (.fst 21 (.one 17 (.fst 22 (.fst 23 (.fst 24 (.done))))))))) 19 (.fst 20 (.fst 21 (.one 14 (.fst 15 (.one 17 (.fst 22 (.fst 23 (.fst 24 (.done))))))))))))))))))) 7 (.fst 8 (.fst 9 (.one 5 (.fst 10 (.fst 11 (.fst 12 (.fst 13 (.fst 16 (.fst 18 (.two 14 (.fst 15 (.two 17 (.one 19 (.fst 20 (.fst 21 (.fst 22 (.fst 23 (.fst 24 (.done))))))) 19 (.fst 20 (.fst 21 (.one 17 (.fst 22 (.fst 23 (.fst 24 (.done))))))))) 19 (.fst 20 (.fst 21 (.one 14 (.fst 15 (.one 17 (.fst 22 (.fst 23 (.fst 24 (.done)))))))))))))))))))))))))) (by kernel_rfl) ?_
     simp only[go_sem,seval,Try.results92,ha2,hb2]
     repeat' first|assumption|(simp (disch:=first|assumption|omega|(simp;done)|(simp;omega)) only[qaa,qac,List.take_of_length_le,qab,qae,qaf];try simp only[go_sem,seval,Try.results92,ha2,hb2])|(with_reducible refine And.intro ?_ ?_)|(with_reducible intro _)|(refine cva (by assumption) ?_;simp only[go_sem,seval,Try.results92,ha2,hb2])|(refine cvb (by assumption) ?_;simp only[go_sem,seval,Try.results92,ha2,hb2])|(refine @Exists.intro I _ (I.d (D.bool false)) ?_;simp only[go_sem,seval,Try.results92,ha2,hb2])|((try rw[qad]);omega))
    all_goals first
     | exact qha _
     | exact qrI (by assumption) hval.symm
     | exact qrI (by assumption) (by rw[hval];simp_all)
end Go.Proofs
