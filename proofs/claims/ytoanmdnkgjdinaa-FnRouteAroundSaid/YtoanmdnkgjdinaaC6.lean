/- Contracts, plain definitions and lemmas. Conditions: none; lemmas. -/
import Derived.Test.YtoanmdnkgjdinaaTy
import Derived.Test.YtoanmdnkgjdinaaVM8
import Derived.Test.YtoanmdnkgjdinaaProg
set_option maxRecDepth 20000
set_option linter.unusedVariables false
set_option linter.unusedSimpArgs false
namespace Go.Proofs
open Go Go.VL
theorem Try.c_l1In (x lo hi:Int):Pure Try.prog 67 [dI x,dI lo,dI hi] (.bool (decide (lo≤x)&&decide (x≤hi))):=by
 refine qau (E:=Try.env 0) Try.tok rfl 1000 Try.func67 rfl rfl Try.ntmps67 (by simp) fun ok=>?_
 simp only[go_sem,seval,Try.results67]
end Go.Proofs

set_option maxRecDepth 20000
set_option linter.unusedVariables false
set_option linter.unusedSimpArgs false
namespace Go.Proofs
open Go Go.VL
def Try.defectOk (d:Int×Int):Bool:=(decide (0≤d.1)&&decide (d.1≤24))&&(decide (0≤d.2)&&decide (d.2≤7))
theorem Try.defectOk_iff {d:Int×Int}:Try.defectOk d=true↔(0≤d.1∧d.1≤24)∧0≤d.2∧d.2≤7:=by simp[Try.defectOk]
theorem Try.defectOk_no {d:Int×Int}(h : ¬ ((0≤d.1∧d.1≤24)∧0≤d.2∧d.2≤7)):Try.defectOk d=false:=by
 rw[Bool.eq_false_iff]
 exact fun e=>h (Try.defectOk_iff.1 e)
def Try.defectsValid (l:List (Int×Int)):Bool:=decide (l.length≤12)&&l.all Try.defectOk
theorem qhD {α : Type}(p : α→Bool) (l:List α) (z : α):l.all p=true↔∀ j,j<l.length→p (l.getD j z)=true:=by
 rw[List.all_eq_true]
 constructor
 ·intro h j hj
  exact h _ (by simp[List.getD,hj])
 ·intro h x hx
  obtain⟨j,hj,rfl⟩:=List.getElem_of_mem hx
  have:=h j hj
  simpa [List.getD,hj] using this
theorem qjW {α : Type}{p : α→Bool}{l:List α}{z : α}{j:Nat}(hj:j<l.length) (h:p (l.getD j z)=false):l.all p=false:=by
 rw[Bool.eq_false_iff]
 intro ha
 have:=(qhD p l z).1 ha j hj
 rw[h] at this
 exact absurd this (by simp)
theorem Try.c_DefectsValid (l:List (Int×Int)):Pure Try.prog 47 [dPs l] (.bool (Try.defectsValid l)):=by
 refine qau (E:=Try.env 0) Try.tok rfl 1000 Try.func47 rfl rfl Try.ntmps47 (by simp) fun ok=>?_
 simp only[go_sem,seval] at ok
 simp only[go_sem,seval,Try.results47]
 refine⟨fun h=>by simp[Try.defectsValid];omega,fun h=>?_⟩
 refine qaO (E:=Try.env 0) Try.tok (σ:=Nat) (fun i=>[(8,.d (dPs l)),(9,.d (dI l.length)),(10,.d (dI i))]) (fun i=>[]) (fun i=>i≤l.length∧∀ j,j<i→Try.defectOk (l.getD j (0,0))=true) (fun i=>l.length-i) [] 1000 1000 ?_ ?_ ?_
 ·simp only[go_sem,seval]
 ·simp only[go_sem,seval]
  exact⟨0,by simp⟩
 ·rintro i ⟨hi,hinv⟩
  simp only[go_sem,seval,Try.results47]
  refine⟨fun h1=>⟨h1,fun h2=>?_,fun h2=>⟨by rw[qad];omega,i+1,⟨by omega,fun j hj=>?_⟩,by omega,rfl⟩⟩,fun h1=>?_⟩
  ·have:Try.defectOk (l.getD i (0,0))=false:=Try.defectOk_no (by omega)
   simp[Try.defectsValid,qjW h1 this]
  ·by_cases hji:j=i
   ·subst hji;exact Try.defectOk_iff.2 (by omega)
   ·exact hinv j (by omega)
  ·have:l.all Try.defectOk=true:=(qhD _ _ (0,0)).2 fun j hj=>hinv j (by omega)
   simp[Try.defectsValid,this];omega
theorem Try.c_sDefectsValid (l:List (Int×Int)):Pure Try.prog 50 [dPs l] (.bool (Try.defectsValid l)):=by
 refine qau (E:=Try.env 0) Try.tok rfl 1000 Try.func50 rfl rfl Try.ntmps50 (by simp) fun ok=>?_
 simp only[go_sem,seval] at ok
 simp only[go_sem,seval,Try.results50]
 refine qaO (E:=Try.env 0) Try.tok (σ:=Nat) (fun i=>[(0,.d (dPs l)),(3,.d (dI i))]) (fun i=>[]) (fun i=>i≤l.length∧∀ j,j<i→Try.defectOk (l.getD j (0,0))=true) (fun i=>l.length-i) [] 1000 1000 ?_ ?_ ?_
 ·simp only[go_sem,seval]
 ·simp only[go_sem,seval]
  exact⟨0,by simp⟩
 ·rintro i ⟨hi,hinv⟩
  simp only[go_sem,seval,Try.results50]
  refine⟨fun h1=>⟨h1,qai (Try.c_l1In _ _ _) ?_⟩,fun h1=>?_⟩
  ·simp only[go_sem,seval,Try.results50]
   refine⟨fun h2=>⟨h2,h1⟩,qa7 (fun _=>Try.c_l1In _ _ _) ?_⟩
   simp only[go_sem,seval,Try.results50]
   refine⟨fun h2=>?_,fun h2=>⟨by rw[qad];omega,i+1,⟨by omega,fun j hj=>?_⟩,by omega,rfl⟩⟩
   ·have:Try.defectOk (l.getD i (0,0))=false:=Try.defectOk_no (by omega)
    simp[Try.defectsValid,qjW h1 this]
   ·by_cases hji:j=i
    ·subst hji;exact Try.defectOk_iff.2 (by omega)
    ·exact hinv j (by omega)
  ·have:l.all Try.defectOk=true:=(qhD _ _ (0,0)).2 fun j hj=>hinv j (by omega)
   simp[Try.defectsValid,this];omega
end Go.Proofs

set_option maxRecDepth 20000
set_option linter.unusedVariables false
set_option linter.unusedSimpArgs false
namespace Go.Proofs
open Go Go.VL
abbrev Try.rd (b:List Int) (p:Int):R:=.box [.d (dUs b),.d (dI p)]
def Try.Bytes (b:List Int):Prop:=∀ x∈b,0≤x∧x≤255
theorem Try.shp_Bytes {f:Nat}(y:D) (h:shp Try.tyT (f+2) 22 y) : ∃ l:List Int,y=dUs l:=
 shp_slice Try.ty22 Try.ty5 (g:=D.int .u8) (fun y h=>shp_int Try.ty5 h) h
theorem Try.c_l20Open (code:List Int):Proc Try.prog 42 [.d (dUs code)] [] (.ptr 0 0) [Try.rd (code.take 2000) 0]:=by
 refine proc_of (E:=Try.env 0) Try.tok rfl 1000 Try.func42 rfl rfl Try.ntmps42 (by simp) ?_
 simp only[go_sem,seval,Try.results42]
 refine⟨fun h=>by omega,fun h=>?_⟩
 rw[List.take_of_length_le (by omega)]
theorem Try.byte_get {b:List Int}(hb:Try.Bytes b) (k:Nat):0≤b.getD k 0∧b.getD k 0≤255:=by
 by_cases h:k<b.length
 ·have:=hb (b.getD k 0) (by simp[List.getD,h])
  exact this
 ·simp[List.getD,h]
theorem qjb {x n:Int}(h0:0≤x) (hn:0<n):0≤x%n∧x%n<n:=⟨Int.emod_nonneg _ (by omega),Int.emod_lt_of_pos _ hn⟩
set_option maxRecDepth 100000 in
theorem Try.c_pick (b:List Int) (p n:Int) (hb:Try.Bytes b) (hp:0≤p∧p≤1000000000) :
  ICall Try.prog 52 [.ptr 0 0,.d (dI n)] [Try.rd b p] (fun r H'=>∃ x,(0≤x∧(x<n∨x=0))∧r=.d (dI x)∧H'=[Try.rd b (p+1)]):=by
 refine qaJ (E:=Try.env 1) Try.tok rfl 1000 Try.func52 rfl rfl Try.ntmps52 (by simp) ?_
 simp only[go_sem,seval,Try.results52]
 simp only[qad]
 refine⟨by omega,fun h1=>?_,fun h1=>⟨by omega,fun h2=>?_,fun h2=>?_⟩⟩
 ·exact qbK ⟨0,by omega,rfl,rfl⟩
 ·have hx:=Try.byte_get hb (p+1-1).toNat
  refine⟨by omega,by omega,by omega,qbK ⟨_,?_,rfl,rfl⟩⟩
  rw[qab hx.1]
  have:=qjb hx.1 (show 0<n by omega)
  omega
 ·simp only[Int.add_sub_cancel] at *
  simp only[qab (x:=p) (by omega),qab (x:=p*7+3) (by omega)]
  have m1:=qjb (x:=p) (n:=(b.length:Int)) (by omega) (by omega)
  have m2:=qjb (x:=p*7+3) (n:=(b.length:Int)) (by omega) (by omega)
  have d1:0≤p/(b.length:Int)∧p/(b.length:Int)≤p:=⟨Int.ediv_nonneg (by omega) (by omega),Int.ediv_le_self _ (by omega)⟩
  have b1:=Try.byte_get hb (p%(b.length:Int)).toNat
  have b2:=Try.byte_get hb ((p*7+3)%(b.length:Int)).toNat
  generalize b.getD (p%(b.length:Int)).toNat 0=x1 at *
  generalize b.getD ((p*7+3)%(b.length:Int)).toNat 0=x2 at *
  generalize p/(b.length:Int)=x3 at *
  refine⟨by kernel_rfl,by omega,by omega,by omega,by omega,by omega,by omega,by omega,by omega,by omega,by omega,by omega,by omega,by omega,by omega,by omega,by omega,by omega,by omega,by omega,qbK ⟨_,?_,rfl,rfl⟩⟩
  rw[qab (by omega)]
  have:=qjb (x:=(((x1*131+x2*1117+p*29+x3*53).toNat ^^^ ((x1*131+x2*1117+p*29+x3*53)/64).toNat:Nat):Int)) (n:=n) (by omega) (by omega)
  omega
end Go.Proofs

set_option maxRecDepth 20000
set_option linter.unusedVariables false
set_option linter.unusedSimpArgs false
namespace Go.Proofs
open Go Go.VL
theorem Try.bytes_of {code:List Int}(h : ∀ x∈code,InK .u8 x) (n:Nat):Try.Bytes (code.take n):=fun x hx=>by
 have:=h x (List.mem_of_mem_take hx)
 rwa [inK_u8] at this
theorem Try.pick_at {b:List Int}(hb:Try.Bytes b) {p n:Int}(hp:0≤p∧p≤1000000000) {T:List R}{K:I→List R→Prop}(hk : ∀ x,0≤x∧(x<n∨x=0)→K (.d (dI x)) (Try.rd b (p+1)::T)) :
  ICall Try.prog 52 [.ptr 0 0,.d (dI n)] (Try.rd b p::T) K:=by
 refine qar (Try.c_pick b p n hb hp) [0] (by simp only[go_sem,seval]) ?_
 rintro r0 H1 ⟨x,hx,rfl,rfl⟩
 have:=hk x hx
 simp only[go_sem,seval]
 simpa using this
theorem Try.c_odd (b:List Int) (p n:Int) (hb:Try.Bytes b) (hp:0≤p∧p≤1000000000) (hn:0≤n∧n≤1000) :
  ICall Try.prog 78 [.ptr 0 0,.d (dI n)] [Try.rd b p] (fun r H'=>∃ x q,(p≤q∧q≤p+1)∧(n=0→x=false)∧r=.d (.bool x)∧H'=[Try.rd b q]):=by
 refine qaJ (E:=Try.env 1) Try.tok rfl 1000 Try.func78 rfl rfl Try.ntmps78 (by simp) ?_
 simp only[go_sem,seval,Try.results78]
 refine⟨fun h=>⟨.d (dI 0),?_⟩,fun h=>?_⟩
 ·simp only[go_sem,seval,Try.results78]
  simp only[h,decide_false,go_sem,Bool.false_eq_true,false_imp_iff,true_and,↓reduceIte,reduceCtorEq]
  exact qbK ⟨false,p,by omega,by simp,by simp,rfl⟩
 ·refine⟨h,qar (Try.c_pick b p n hb hp) [0] (by simp only[go_sem,seval]) ?_⟩
  rintro r0 H1 ⟨x,hx,rfl,rfl⟩
  simp only[go_sem,seval,Try.results78]
  simp only[h,qad,decide_true,go_sem,true_imp_iff,↓reduceIte]
  refine⟨by omega,qbK ⟨_,p+1,by omega,by omega,rfl,rfl⟩⟩
theorem Try.odd_at {b:List Int}(hb:Try.Bytes b) {p n:Int}(hp:0≤p∧p≤1000000000) (hn:0≤n∧n≤1000) {T:List R}{K:I→List R→Prop}(hk : ∀ x q,p≤q∧q≤p+1→(n=0→x=false)→K (.d (.bool x)) (Try.rd b q::T)) :
  ICall Try.prog 78 [.ptr 0 0,.d (dI n)] (Try.rd b p::T) K:=by
 refine qar (Try.c_odd b p n hb hp hn) [0] (by simp only[go_sem,seval]) ?_
 rintro r0 H1 ⟨x,q,hq,hx,rfl,rfl⟩
 have:=hk x q hq hx
 simp only[go_sem,seval]
 simpa using this
theorem Try.c_l20Defects (b:List Int) (p n:Int) (hb:Try.Bytes b) (hp:0≤p∧p≤1000000) (hn:0≤n∧n≤1000) :
  ICall Try.prog 45 [.ptr 0 0,.d (dI n)] [Try.rd b p] (fun r H'=>∃ (l:List (Int×Int)) (q:Int),(p≤q∧q≤p+40)∧l.length≤14∧r=.d (dPs l)∧H'=[Try.rd b q]):=by
 refine qaJ (E:=Try.env 1) Try.tok rfl 1000 Try.func45 rfl rfl Try.ntmps45 (by simp) ?_
 simp only[go_sem,seval,Try.results45]
 refine qar (Try.c_pick b p 13 hb (by omega)) [0] (by simp only[go_sem,seval]) ?_
 rintro r0 H1 ⟨x,hx,rfl,rfl⟩
 simp only[go_sem,seval,Try.results45]
 refine qaO (E:=Try.env 1) Try.tok (σ:=List (Int×Int)×Int×Int) (fun s=>[(0,.ptr 0 0),(1,.d (dI n)),(5,.sl 1 s.1.length 2 0 s.1.length),(6,.d (dI s.2.1))]) (fun s=>[Try.rd b s.2.2,.row s.1.length 2 true (s.1.map dP)]) (fun s=>0≤s.2.1∧s.1.length+s.2.1≤12∧p+1≤s.2.2∧s.2.2≤p+1+2*s.1.length) (fun s=>s.2.1.toNat) [] 1000 1000 ?_ ?_ ?_
 ·simp only[go_sem,seval]
 ·simp only[go_sem,seval]
  exact⟨([],x,p+1),by simp;omega,by simp⟩
 ·rintro⟨l,k,q⟩ hi
  simp only at hi
  simp only[go_sem,seval,Try.results45]
  refine⟨fun h1=>?_,fun h1=>?_⟩
  ·refine qar (Try.c_pick b q 25 hb (by omega)) [0] (by simp only[go_sem,seval]) ?_
   rintro r0 H1 ⟨x1,hx1,rfl,rfl⟩
   simp only[go_sem,seval,Try.results45]
   refine qar (Try.c_pick b (q+1) 8 hb (by omega)) [0] (by simp only[go_sem,seval]) ?_
   rintro r0 H1 ⟨x2,hx2,rfl,rfl⟩
   simp only[go_sem,seval,Try.results45]
   rw[qad]
   exact⟨by omega,by omega,(l ++ [(x1,x2)],k-1,q+1+1),by simp;omega,by simp;omega,by simp,by simp,by simp⟩
  ·refine qar (Try.c_odd b q n hb (by omega) hn) [0] (by simp only[go_sem,seval]) ?_
   rintro r0 H1 ⟨y,q1,hq1,hy,rfl,rfl⟩
   simp only[go_sem,seval,Try.results45]
   have fin : ∀ (l:List (Int×Int)) (q2:Int) (U:List R),p≤q2→q2≤p+40→l.length≤14→endI 1 (fun r H'=>∃ (l:List (Int×Int)) (q:Int),(p≤q∧q≤p+40)∧l.length≤14∧r=.d (dPs l)∧H'=[Try.rd b q]) (I.sl 1 l.length 2 0 l.length) (Try.rd b q2::.row l.length 2 true (l.map dP)::U):=by
    intro l q2 U h3 h4 h5
    refine qch (by simp) (by simp[go_sem]) ?_
    simp only[go_sem,seval]
    exact⟨l,q2,⟨h3,h4⟩,h5,rfl,rfl⟩
   refine⟨fun h2=>?_,fun h2=>fin l q1 [] (by omega) (by omega) (by omega)⟩
   refine qar (Try.c_pick b q1 3 hb (by omega)) [0] (by simp only[go_sem,seval]) ?_
   rintro r0 H1 ⟨x1,hx1,rfl,rfl⟩
   simp only[go_sem,seval,Try.results45]
   refine⟨fun h3=>?_,fun h3=>?_⟩
   ·refine qaO (E:=Try.env 1) Try.tok (σ:=List (Int×Int)) (fun s=>[(0,.ptr 0 0),(1,.d (dI n)),(5,.sl 1 s.length 2 0 s.length)]) (fun s=>[Try.rd b (q1+1),.row s.length 2 true (s.map dP)]) (fun s=>s.length≤13) (fun s=>13-s.length) [] 1000 1000 ?_ ?_ ?_
    ·simp only[go_sem,seval]
    ·simp only[go_sem,seval]
     exact⟨l,by omega,by simp⟩
    ·intro l2 hl2
     simp only[go_sem,seval,Try.results45]
     refine⟨fun h4=>⟨by omega,l2 ++ [(0,0)],by simp;omega,by simp;omega,by simp,by simp,by simp⟩,fun h4=>fin l2 (q1+1) [] (by omega) (by omega) (by omega)⟩
   ·refine qar (Try.c_pick b (q1+1) 4 hb (by omega)) [0] (by simp only[go_sem,seval]) ?_
    rintro r0 H1 ⟨x2,hx2,rfl,rfl⟩
    simp only[go_sem,seval,Try.results45]
    have e : ∀ m:Nat,([D.agg [dI (-1),dI 0],D.agg [dI 0,dI 8],D.agg [dI 25,dI 0],D.agg [dI 0,dI (-1)]]:List D).getD m (D.agg [dI 0,dI 0])=dP (([(-1,0),(0,8),(25,0),(0,-1)]:List (Int×Int)).getD m (0,0)):=fun m=>qdC dP [(-1,0),(0,8),(25,0),(0,-1)] m (0,0)
    simp only[e]
    generalize ([(-1,0),(0,8),(25,0),(0,-1)]:List (Int×Int)).getD x2.toNat (0,0)=d
    simp only[go_sem,seval,Try.results45]
    refine⟨by omega,by omega,by omega,?_⟩
    have:=fin (l ++ [d]) (q1+1+1)
    simp only[List.length_append,List.length_cons,List.length_nil,qoD] at this
    exact this _ (by omega) (by omega) (by omega)
end Go.Proofs

set_option maxRecDepth 20000
set_option linter.unusedVariables false
set_option linter.unusedSimpArgs false
namespace Go.Proofs
open Go Go.VL
theorem Try.c_isLit (l n:Int) (hn:0≤n∧n≤4000000000000000000):Pure Try.prog 73 [dI l,dI n] (.bool (decide (0≤l)&&decide (l<2*n))):=by
 refine qau (E:=Try.env 0) Try.tok rfl 1000 Try.func73 rfl rfl Try.ntmps73 (by simp) fun ok=>?_
 simp only[go_sem,seval] at ok
 simp only[go_sem,seval,Try.results73]
 rw[qad]
 omega
theorem Try.c_firstGate (c:Circ) (h : -1000≤c.inputs∧c.inputs≤1000):Pure Try.prog 74 [pC c] (dI c.first):=by
 refine qau (E:=Try.env 0) Try.tok rfl 1000 Try.func74 rfl rfl Try.ntmps74 (by simp) fun ok=>?_
 simp only[go_sem,seval] at ok
 simp only[go_sem,seval,Try.results74]
 refine⟨by kernel_rfl,?_,?_,rfl⟩ <;> (rw[qad];omega)
theorem Try.c_vars (c:Circ) (h : -1000≤c.inputs∧c.inputs≤1000):Pure Try.prog 41 [pC c] (dI c.vars):=by
 refine qau (E:=Try.env 0) Try.tok rfl 1000 Try.func41 rfl rfl Try.ntmps41 (by simp) fun ok=>?_
 simp only[go_sem,seval] at ok
 simp only[go_sem,seval,Try.results41]
 refine⟨by kernel_rfl,qbj (fun _=>⟨Try.c_firstGate c h,by simp only[scal,qad,Circ.first];omega⟩) ?_⟩
 simp only[go_sem,seval,Try.results41]
 simp only[qad,Circ.first,Circ.vars,and_true]
 omega
theorem Try.c_roots (c:Circ) (h1:c.next.length≤1000000∧c.outs.length≤1000000):Pure Try.prog 65 [pC c] (dIs c.roots):=by
 refine qau (E:=Try.env 0) Try.tok rfl 1000 Try.func65 rfl rfl Try.ntmps65 (by simp) fun ok=>?_
 simp only[go_sem,seval] at ok
 simp only[go_sem,seval,Try.results65]
 refine qaS (E:=Try.env 0) Try.tok Try.follows 1000 1000 [4,9] (.fst 0 (.fst 1 (.fst 2 (.fst 5 (.fst 6 (.fst 7 (.fst 3 (.two 4 (.one 8 (.one 9 (.fst 10 (.done)))) 8 (.one 4 (.one 9 (.fst 10 (.done)))))))))))) (by kernel_rfl) ?_
 simp only[go_sem,seval,Try.results65]
 simp only[Circ.roots,and_true]
 refine⟨by omega,by omega⟩
theorem Circ.notValid {c:Circ}(h : ¬ c.Valid):false=decide c.Valid:=by simp[h]
theorem Try.c_CircuitValid (c:Circ):Pure Try.prog 39 [dC c] (.bool (decide c.Valid)):=by
 refine qau (E:=Try.env 0) Try.tok rfl 1000 Try.func39 rfl rfl Try.ntmps39 (by simp) fun ok=>?_
 simp only[go_sem,seval] at ok
 simp only[go_sem,seval,Try.results39]
 refine⟨fun h=>Circ.notValid fun hv=>?_,fun h=>?_⟩
 ·have:=hv.i0;have:=hv.i1;have:=hv.ln;have:=hv.lg;have:=hv.lo
  omega
 refine⟨by rw[qad];omega,by rw[qad];omega,?_⟩
 have hf:1+c.inputs+(c.next.length:Int)=c.first:=rfl
 have hb:1≤c.first∧c.first≤8:=by omega
 rw[hf]
 refine qaO (E:=Try.env 0) Try.tok (σ:=Nat) (fun i=>[(1,.ptr 0 0),(3,.d (dI c.first)),(42,.d (dPs c.gates)),(43,.d (dI c.gates.length)),(44,.d (dI i))]) (fun i=>[.box [.d (dI c.inputs),.d (dIs c.next),.d (dPs c.gates),.d (dIs c.outs)]])
  (fun i=>i≤c.gates.length∧∀ j,j<i→qbc (c.gates.getD j (0,0)).1 (c.first+(j:Int))∧qbc (c.gates.getD j (0,0)).2 (c.first+(j:Int))) (fun i=>c.gates.length-i) [] 1000 1000 ?_ ?_ ?_
 ·simp only[go_sem,seval]
 ·simp only[go_sem,seval]
  exact⟨0,⟨by omega,fun j hj=>absurd hj (by omega)⟩,rfl⟩
 ·rintro i ⟨hi,hinv⟩
  simp only[go_sem,seval,Try.results39]
  repeat' first|assumption|(simp (disch:=first|assumption|omega|(simp;done)|(simp;omega)) only[qaa,qac,List.take_of_length_le,qab];try simp only[go_sem,seval,Try.results39])|(with_reducible refine And.intro ?_ ?_)|(with_reducible intro _)|(refine qai (Try.c_isLit _ _ (by omega)) ?_;simp only[go_sem,seval,Try.results39])|(refine qa7 (fun hg=>Try.c_isLit _ _ (by omega)) ?_;simp only[go_sem,seval,Try.results39])|(refine qai (Try.c_roots c (by omega)) ?_;simp only[go_sem,seval,Try.results39])|(refine @Exists.intro I _ (I.d D.nil) ?_;simp only[go_sem,seval,Try.results39])|((with_reducible (show Region.lexB _ _=true));kernel_rfl)|((try rw[qad]);omega)
  ·exact Circ.notValid fun hv=>by have:=hv.g i (by omega);unfold qbc at this;omega
  ·rename_i h1 h2
   refine⟨i+1,⟨by omega,fun j hj=>?_⟩,by omega,rfl⟩
   by_cases hji:j=i
   ·subst hji;exact h2
   ·exact hinv j (by omega)
  ·have hg : ∀ j,j<c.gates.length→qbc (c.gates.getD j (0,0)).1 (c.first+(j:Int))∧qbc (c.gates.getD j (0,0)).2 (c.first+(j:Int)):=fun j hj=>hinv j (by omega)
   clear hinv hi
   have hv0:c.first≤c.vars∧c.vars≤22:=by unfold Circ.vars;omega
   have hrl:c.roots.length≤6:=by simp[Circ.roots];omega
   refine qaO (E:=Try.env 0) Try.tok (σ:=Nat) (fun i=>[(1,.ptr 0 0),(66,.d (dIs c.roots)),(67,.d (dI c.roots.length)),(68,.d (dI i))]) (fun i=>[.box [.d (dI c.inputs),.d (dIs c.next),.d (dPs c.gates),.d (dIs c.outs)]])
    (fun i=>i≤c.roots.length∧∀ j,j<i→qbc (c.roots.getD j 0) c.vars) (fun i=>c.roots.length-i) [] 1000 1000 ?_ ?_ ?_
   ·simp only[go_sem,seval]
   ·simp only[go_sem,seval]
    exact⟨0,⟨by omega,fun j hj=>absurd hj (by omega)⟩,rfl⟩
   ·rintro i ⟨hi,hinv⟩
    simp only[go_sem,seval,Try.results39]
    repeat' first|assumption|(simp (disch:=first|assumption|omega|(simp;done)|(simp;omega)) only[qaa,qac,List.take_of_length_le,qab];try simp only[go_sem,seval,Try.results39])|(with_reducible refine And.intro ?_ ?_)|(with_reducible intro _)|(refine qai (Try.c_vars _ (by omega)) ?_;simp only[go_sem,seval,Try.results39])|(refine qai (Try.c_isLit _ _ (by omega)) ?_;simp only[go_sem,seval,Try.results39])|(refine qa7 (fun hg=>Try.c_isLit _ _ (by omega)) ?_;simp only[go_sem,seval,Try.results39])|(refine @Exists.intro I _ (I.d D.nil) ?_;simp only[go_sem,seval,Try.results39])|((with_reducible (show Region.lexB _ _=true));kernel_rfl)|((try rw[qad]);omega)
    ·exact Circ.notValid fun hv=>by have:=hv.roots _ (qaj (z:=0) (show i<c.roots.length by assumption));unfold qbc at this;omega
    ·rename_i h1 h2
     refine⟨i+1,⟨by omega,fun j hj=>?_⟩,by omega,rfl⟩
     by_cases hji:j=i
     ·subst hji;exact h2
     ·exact hinv j (by omega)
    ·have hr : ∀ x∈c.roots,qbc x c.vars:=(qle 0).2 fun j hj=>hinv j (by omega)
     have hv:c.Valid:=⟨by omega,by omega,by omega,by omega,by omega,hg,fun x hx=>hr x (List.mem_append.2 (.inl hx)),fun x hx=>hr x (List.mem_append.2 (.inr hx))⟩
     simp[hv]
theorem Try.c_alive:Pure Try.prog 14 [] (.bool true):=by
 refine qau (E:=Try.env 0) Try.tok rfl 1000 Try.func14 rfl rfl Try.ntmps14 (by simp) fun ok=>?_
 simp only[go_sem,seval,Try.results14]
 refine qai ((Try.c_CircuitValid Circ.zero).wk (by simp[go_sem,Circ.zero])) ?_
 simp only[go_sem,seval,Try.results14]
 simp[Circ.zero_valid]
end Go.Proofs
