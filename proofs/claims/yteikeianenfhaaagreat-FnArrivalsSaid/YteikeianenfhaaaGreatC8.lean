/- Contracts, plain definitions and lemmas. Conditions: none; lemmas. -/
import Derived.Test.YteikeianenfhaaaGreatTy
import Derived.Test.YteikeianenfhaaaGreatVM8
import Derived.Test.YteikeianenfhaaaGreatProg
import Derived.Test.YteikeianenfhaaaGreatC61
set_option maxRecDepth 20000
set_option linter.unusedSimpArgs false
set_option linter.unusedVariables false
set_option maxHeartbeats 2000000
namespace Go.Proofs
open Go Go.VL Tryz
def Tryz.held:List Int->Int->Int
 | [],k=>k
 | x::r,k=>if x=k then Tryz.held r (k+1) else -1

theorem Tryz.c_l1In (x lo hi:Int):Pure prog 134 [dI x,dI lo,dI hi] (.bool (decide (lo<=x)&&decide (x<=hi))):=by
 refine qaA func134 rfl ntmps134 fun ok=>?_
 simp only[go_sem,seval]

def Tryz.defectOk (d:Int×Int):Bool:=(decide (0<=d.1)&&decide (d.1<=24))&&(decide (0<=d.2)&&decide (d.2<=7))
theorem Tryz.defectOk_iff {d:Int×Int}:defectOk d=true↔(0<=d.1/\d.1<=24)/\0<=d.2/\d.2<=7:=by simp[defectOk]
theorem Tryz.defectOk_no {d:Int×Int}(h : ¬ ((0<=d.1/\d.1<=24)/\0<=d.2/\d.2<=7)):defectOk d=false:=by
 rw[Bool.eq_false_iff];exact fun e=>h (defectOk_iff.1 e)
def Tryz.defectsValid (l:List (Int×Int)):Bool:=decide (l.length<=12)&&l.all defectOk
theorem qj6 {α : Type}(p : α->Bool) (l:List α) (z : α):l.all p=true↔∀ j,j<l.length->p (l.getD j z)=true:=by
 rw[yav];constructor
 ·intro h j hj;exact h _ (by simp[List.getD,hj])
 ·intro h x hx;obtain⟨j,hj,rfl⟩:=yag hx;have:=h j hj;simpa [List.getD,hj] using this
theorem qnV {α : Type}{p : α->Bool}{l:List α}{z : α}{j:Nat}(hj:j<l.length) (h:p (l.getD j z)=false):l.all p=false:=by
 rw[Bool.eq_false_iff];intro ha;have:=(qj6 p l z).1 ha j hj;rw[h] at this;exact absurd this (by simp)
theorem Tryz.c_DefectsValid (l:List (Int×Int)):Pure prog 68 [dPs l] (.bool (defectsValid l)):=by
 refine qaA func68 rfl ntmps68 fun ok=>?_
 simp only[go_sem,seval] at ok⊢;refine⟨fun h=>by simp[defectsValid];omega,fun h=>?_⟩;refine qaI (E:=env 0) tok (σ:=Nat) (fun i=>[(8,.d (dPs l)),(9,.d (dI l.length)),(10,.d (dI i))]) (fun i=>[]) (fun i=>i<=l.length/\∀ j,j<i->defectOk (l.getD j (0,0))=true) (fun i=>l.length-i) [] 1000 1000 ?_ ?_ ?_
 ·simp only[go_sem,seval]
 ·simp only[go_sem,seval];exact⟨0,by simp⟩
 ·rintro i ⟨hi,hinv⟩;simp only[go_sem,seval];refine⟨fun h1=>⟨h1,fun h2=>?_,fun h2=>⟨by rw[qaa];omega,i+1,⟨by omega,fun j hj=>?_⟩,by omega,rfl⟩⟩,fun h1=>?_⟩
  ·have:defectOk (l.getD i (0,0))=false:=defectOk_no (by omega);simp[defectsValid,qnV h1 this]
  ·by_cases hji:j=i
   ·subst hji;exact defectOk_iff.2 (by omega)
   ·exact hinv j (by omega)
  ·have:l.all defectOk=true:=(qj6 _ _ (0,0)).2 fun j hj=>hinv j (by omega)
   simp[defectsValid,this];omega

abbrev Tryz.rd (b:List Int) (p:Int):R:=.box [.d (dUs b),.d (dI p)]
def Tryz.Bytes (b:List Int):Prop:=∀ x∈b,0<=x/\x<=255
theorem Tryz.shp_Bytes {f:Nat}(y:D) (h:shp tyT (f+2) 22 y) : ∃ l:List Int,y=dUs l:=
 shp_slice ty22 ty5 (g:=D.int .u8) (fun y h=>shp_int ty5 h) h
theorem Tryz.c_l20Open (code:List Int):Proc prog 65 [.d (dUs code)] [] (.ptr 0 0) [rd (code.take 2000) 0]:=by
 refine proc_of (E:=env 0) tok rfl 1000 func65 rfl rfl ntmps65 (by simp) ?_;simp only[go_sem,seval];refine⟨fun h=>by omega,fun h=>?_⟩;rw[yaa (by omega)]
theorem Tryz.byte_get {b:List Int}(hb:Bytes b) (k:Nat):0<=b.getD k 0/\b.getD k 0<=255:=by
 by_cases h:k<b.length
 ·have:=hb (b.getD k 0) (by simp[List.getD,h]);exact this
 ·simp[List.getD,h]
theorem qjd {x n:Int}(h0:0<=x) (hn:0<n):0<=x%n/\x%n<n:=⟨Int.emod_nonneg _ (by omega),Int.emod_lt_of_pos _ hn⟩
set_option maxRecDepth 100000 in
theorem Tryz.c_pick (b:List Int) (p n:Int) (hb:Bytes b) (hp:0<=p/\p<=1000000000) :
  ICall prog 125 [.ptr 0 0,.d (dI n)] [rd b p] (fun r H'=>∃ x,(0<=x/\(x<n∨x=0))/\r=.d (dI x)/\H'=[rd b (p+1)]):=by
 refine qaz (E:=env 1) tok rfl 1000 func125 rfl rfl ntmps125 (by simp) ?_;simp only[go_sem,seval];simp only[qaa];refine⟨by omega,fun h1=>?_,fun h1=>⟨by omega,fun h2=>?_,fun h2=>?_⟩⟩
 ·exact qbm ⟨0,by omega,rfl,rfl⟩
 ·have hx:=byte_get hb (p+1-1).toNat;refine⟨by omega,by omega,by omega,qbm ⟨_,?_,rfl,rfl⟩⟩;rw[qae hx.1];have:=qjd hx.1 (show 0<n by omega);omega
 ·simp only[Int.add_sub_cancel] at *
  simp only[qae (x:=p) (by omega),qae (x:=p*7+3) (by omega)];have m1:=qjd (x:=p) (n:=(b.length:Int)) (by omega) (by omega);have m2:=qjd (x:=p*7+3) (n:=(b.length:Int)) (by omega) (by omega);have d1:0<=p/(b.length:Int)/\p/(b.length:Int)<=p:=⟨Int.ediv_nonneg (by omega) (by omega),Int.ediv_le_self _ (by omega)⟩;have b1:=byte_get hb (p%(b.length:Int)).toNat;have b2:=byte_get hb ((p*7+3)%(b.length:Int)).toNat;generalize b.getD (p%(b.length:Int)).toNat 0=x1 at *
  generalize b.getD ((p*7+3)%(b.length:Int)).toNat 0=x2 at *
  generalize p/(b.length:Int)=x3 at *
  refine⟨by kernel_rfl,by omega,by omega,by omega,by omega,by omega,by omega,by omega,by omega,by omega,by omega,by omega,by omega,by omega,by omega,by omega,by omega,by omega,by omega,by omega,qbm ⟨_,?_,rfl,rfl⟩⟩;rw[qae (by omega)];have:=qjd (x:=(((x1*131+x2*1117+p*29+x3*53).toNat ^^^ ((x1*131+x2*1117+p*29+x3*53)/64).toNat:Nat):Int)) (n:=n) (by omega) (by omega);omega

theorem Tryz.bytes_of {code:List Int}(h : ∀ x∈code,InK .u8 x) (n:Nat):Bytes (code.take n):=fun x hx=>by
 have:=h x (yam hx)
 rwa [inK_u8] at this
theorem Tryz.pick_at {b:List Int}(hb:Bytes b) {p n:Int}(hp:0<=p/\p<=1000000000) {T:List R}{K:I->List R->Prop}(hk : ∀ x,0<=x/\(x<n∨x=0)->K (.d (dI x)) (rd b (p+1)::T)) :
  ICall prog 125 [.ptr 0 0,.d (dI n)] (rd b p::T) K:=by
 refine qaq (c_pick b p n hb hp) [0] (by simp only[go_sem,seval]) ?_;rintro r0 H1 ⟨x,hx,rfl,rfl⟩;have:=hk x hx;simp only[go_sem,seval];simpa using this
theorem Tryz.c_odd (b:List Int) (p n:Int) (hb:Bytes b) (hp:0<=p/\p<=1000000000) (hn:0<=n/\n<=1000) :
  ICall prog 126 [.ptr 0 0,.d (dI n)] [rd b p] (fun r H'=>∃ x q,(p<=q/\q<=p+1)/\(n=0->x=false)/\r=.d (.bool x)/\H'=[rd b q]):=by
 refine qaz (E:=env 1) tok rfl 1000 func126 rfl rfl ntmps126 (by simp) ?_;simp only[go_sem,seval];refine⟨fun h=>⟨.d (dI 0),?_⟩,fun h=>?_⟩
 ·simp only[go_sem,seval];simp only[h,decide_false,go_sem,yaf,false_imp_iff,true_and,↓reduceIte,reduceCtorEq];exact qbm ⟨false,p,by omega,by simp,by simp,rfl⟩
 ·refine⟨h,qaq (c_pick b p n hb hp) [0] (by simp only[go_sem,seval]) ?_⟩;rintro r0 H1 ⟨x,hx,rfl,rfl⟩;simp only[go_sem,seval];simp only[h,qaa,decide_true,go_sem,true_imp_iff,↓reduceIte];refine⟨by omega,qbm ⟨_,p+1,by omega,by omega,rfl,rfl⟩⟩
theorem Tryz.odd_at {b:List Int}(hb:Bytes b) {p n:Int}(hp:0<=p/\p<=1000000000) (hn:0<=n/\n<=1000) {T:List R}{K:I->List R->Prop}(hk : ∀ x q,p<=q/\q<=p+1->(n=0->x=false)->K (.d (.bool x)) (rd b q::T)) :
  ICall prog 126 [.ptr 0 0,.d (dI n)] (rd b p::T) K:=by
 refine qaq (c_odd b p n hb hp hn) [0] (by simp only[go_sem,seval]) ?_;rintro r0 H1 ⟨x,q,hq,hx,rfl,rfl⟩;have:=hk x q hq hx;simp only[go_sem,seval];simpa using this

theorem Tryz.c_sameInts (a b:List Int):Pure prog 37 [dIs a,dIs b] (.bool (decide (a=b))):=by
 refine qaA func37 rfl ntmps37 fun ok=>?_
 simp only[go_sem,seval] at ok⊢;refine⟨fun h=>?_,fun hlen=>?_⟩
 ·simp only[false_eq_decide_iff];rintro rfl;exact h rfl
 refine qaI (E:=env 0) tok (σ:=Nat) (fun i=>[(0,.d (dIs a)),(1,.d (dIs b)),(5,.d (dI i))]) (fun _=>[]) (fun i=>i<=a.length/\∀ j,j<i->a.getD j 0=b.getD j 0) (fun i=>a.length-i) [] 1000 1000 ?_ ?_ ?_
 ·simp only[go_sem,seval]
 ·simp only[go_sem,seval];exact⟨0,⟨by omega,by omega⟩,rfl⟩
 ·intro i hi;simp only[go_sem,seval];refine⟨fun h1=>?_,fun h1=>?_⟩
  ·refine⟨by kernel_rfl,h1,by omega,fun h2=>?_,fun h2=>⟨by rw[qaa];omega,i+1,⟨by omega,fun j hj=>?_⟩,by omega,rfl⟩⟩
   ·simp only[false_eq_decide_iff];rintro rfl;exact h2 rfl
   ·by_cases hji:j=i
    ·subst hji;exact h2
    ·exact hi.2 j (by omega)
  ·simp only[true_eq_decide_iff];exact qfA 0 hlen fun j hj=>hi.2 j (by omega)
theorem Tryz.c_isLit (l n:Int) (hn:0<=n/\n<=4000000000000000000):Pure prog 108 [dI l,dI n] (.bool (decide (0<=l)&&decide (l<2*n))):=by
 refine qaA func108 rfl ntmps108 fun ok=>?_
 simp only[go_sem,seval] at ok⊢;rw[qaa];omega
theorem Tryz.c_firstGate (c:Circ) (h : -1000<=c.inputs/\c.inputs<=1000):Pure prog 162 [pC c] (dI c.first):=by
 refine qaA func162 rfl ntmps162 fun ok=>?_
 simp only[go_sem,seval] at ok⊢;refine⟨by kernel_rfl,?_,?_,rfl⟩ <;> (rw[qaa];omega)
theorem Tryz.c_vars (c:Circ) (h : -1000<=c.inputs/\c.inputs<=1000):Pure prog 104 [pC c] (dI c.vars):=by
 refine qaA func104 rfl ntmps104 fun ok=>?_
 simp only[go_sem,seval] at ok⊢;refine⟨by kernel_rfl,qb3 (fun _=>⟨c_firstGate c h,by simp only[scal,qaa,Circ.first];omega⟩) ?_⟩;simp only[go_sem,seval];simp only[qaa,Circ.first,Circ.vars,and_true];omega
theorem Tryz.c_roots (c:Circ) (h1:c.next.length<=1000000/\c.outs.length<=1000000):Pure prog 103 [pC c] (dIs c.roots):=by
 refine qaA func103 rfl ntmps103 fun ok=>?_
 simp only[go_sem,seval] at ok⊢;refine qbN (n:=0) [4,9] (fsts [0,1,2,5,6,7,3] (.two 4 (.one 8 (.one 9 (.fst 10 .done))) 8 (.one 4 (.one 9 (.fst 10 .done))))) ?_;simp only[go_sem,seval];simp only[Circ.roots,and_true];refine⟨by omega,by omega⟩
theorem Circ.notValid {c:Circ}(h : ¬ c.Valid):false=decide c.Valid:=by simp[h]
theorem Tryz.c_CircuitValid (c:Circ):Pure prog 49 [dC c] (.bool (decide c.Valid)):=by
 refine qaA func49 rfl ntmps49 fun ok=>?_
 simp only[go_sem,seval] at ok⊢;refine⟨fun h=>Circ.notValid fun hv=>?_,fun h=>?_⟩
 ·have:=hv.i0;have:=hv.i1;have:=hv.ln;have:=hv.lg;have:=hv.lo;omega
 refine⟨by rw[qaa];omega,by rw[qaa];omega,?_⟩;have hf:1+c.inputs+(c.next.length:Int)=c.first:=rfl
 have hb:1<=c.first/\c.first<=8:=by omega
 rw[hf];refine qaI (E:=env 0) tok (σ:=Nat) (fun i=>[(1,.ptr 0 0),(3,.d (dI c.first)),(42,.d (dPs c.gates)),(43,.d (dI c.gates.length)),(44,.d (dI i))]) (fun i=>[.box [.d (dI c.inputs),.d (dIs c.next),.d (dPs c.gates),.d (dIs c.outs)]])
  (fun i=>i<=c.gates.length/\∀ j,j<i->qa6 (c.gates.getD j (0,0)).1 (c.first+(j:Int))/\qa6 (c.gates.getD j (0,0)).2 (c.first+(j:Int))) (fun i=>c.gates.length-i) [] 1000 1000 ?_ ?_ ?_
 ·simp only[go_sem,seval]
 ·simp only[go_sem,seval];exact⟨0,⟨by omega,fun j hj=>absurd hj (by omega)⟩,rfl⟩
 ·rintro i ⟨hi,hinv⟩
  repeat' first|assumption|(simp (disch:=first|assumption|omega|(simp;done)|(simp;omega)) only[go_sem,seval])|(with_reducible first|apply And.intro|intro _)|(refine qad (c_isLit _ _ (by omega)) ?_)|(refine qaO (fun hg=>c_isLit _ _ (by omega)) ?_)|(refine qad (c_roots c (by omega)) ?_)|((try rw[qaa]);omega)
  ·exact Circ.notValid fun hv=>by have:=hv.g i (by omega);unfold qa6 at this;omega
  ·rename_i h1 h2;refine⟨i+1,⟨by omega,fun j hj=>?_⟩,by omega,rfl⟩;by_cases hji:j=i
   ·subst hji;exact h2
   ·exact hinv j (by omega)
  ·have hg : ∀ j,j<c.gates.length->qa6 (c.gates.getD j (0,0)).1 (c.first+(j:Int))/\qa6 (c.gates.getD j (0,0)).2 (c.first+(j:Int)):=fun j hj=>hinv j (by omega)
   clear hinv hi;have hv0:c.first<=c.vars/\c.vars<=22:=by unfold Circ.vars;omega
   have hrl:c.roots.length<=6:=by simp[Circ.roots];omega
   refine qaI (E:=env 0) tok (σ:=Nat) (fun i=>[(1,.ptr 0 0),(66,.d (dIs c.roots)),(67,.d (dI c.roots.length)),(68,.d (dI i))]) (fun i=>[.box [.d (dI c.inputs),.d (dIs c.next),.d (dPs c.gates),.d (dIs c.outs)]])
    (fun i=>i<=c.roots.length/\∀ j,j<i->qa6 (c.roots.getD j 0) c.vars) (fun i=>c.roots.length-i) [] 1000 1000 ?_ ?_ ?_
   ·simp only[go_sem,seval]
   ·simp only[go_sem,seval];exact⟨0,⟨by omega,fun j hj=>absurd hj (by omega)⟩,rfl⟩
   ·rintro i ⟨hi,hinv⟩
    repeat' first|assumption|(simp (disch:=first|assumption|omega|(simp;done)|(simp;omega)) only[go_sem,seval])|(with_reducible first|apply And.intro|intro _)|(refine qad (c_vars _ (by omega)) ?_)|(refine qad (c_isLit _ _ (by omega)) ?_)|(refine qaO (fun hg=>c_isLit _ _ (by omega)) ?_)|((try rw[qaa]);omega)
    ·exact Circ.notValid fun hv=>by have:=hv.roots _ (qab (z:=0) (show i<c.roots.length by assumption));unfold qa6 at this;omega
    ·rename_i h1 h2;refine⟨i+1,⟨by omega,fun j hj=>?_⟩,by omega,rfl⟩;by_cases hji:j=i
     ·subst hji;exact h2
     ·exact hinv j (by omega)
    ·have hr : ∀ x∈c.roots,qa6 x c.vars:=(qlz 0).2 fun j hj=>hinv j (by omega)
     have hv:c.Valid:=⟨by omega,by omega,by omega,by omega,by omega,hg,fun x hx=>hr x (List.mem_append.2 (.inl hx)),fun x hx=>hr x (List.mem_append.2 (.inr hx))⟩;simp[hv]
theorem Tryz.c_alive:Pure prog 16 [] (.bool true):=by
 refine qaA func16 rfl ntmps16 fun ok=>?_
 simp only[go_sem,seval];refine qad ((c_CircuitValid Circ.zero).wk (by simp[go_sem,Circ.zero])) ?_;simp only[go_sem,seval];simp[Circ.zero_valid]

abbrev Kn:=List (Int×Bool)
def kn (m:Kn) (k:Int):Option Bool:=(m.find? fun e=>decide (e.1=k)).map fun e=>e.2
def knUp:Kn->Int->Bool->Kn
 | [],k,b=>[(k,b)]
 | e::r,k,b=>if e.1=k then(k,b)::r else e::knUp r k b
theorem qk2 (k:Int) (b:Bool) (j:Int) : ∀ m,kn (knUp m k b) j=if j=k then some b else kn m j
 | []=>by by_cases h:j=k <;> simp[kn,knUp,h,eq_comm]
 | e::r=>by
  have ih:=qk2 k b j r;unfold knUp;by_cases h:e.1=k
  ·rw[if_pos h];by_cases h2:j=k
   ·simp[kn,h2]
   ·have h3 : ¬ e.1=j:=fun h4=>h2 (by rw[<-h4,h])
    have h4 : ¬ k=j:=fun h5=>h2 h5.symm
    simp[kn,h2,h3,h4]
  ·rw[if_neg h];by_cases h3:e.1=j
   ·have h2 : ¬ j=k:=fun h4=>h (by rw[h3,h4])
    simp[kn,h2,h3]
   ·unfold kn at ih ⊢;simp only[List.find?_cons,decide_eq_false h3,ih]
def knE (m:Kn):List (D×D):=m.map fun e=>(dI e.1,D.bool e.2)
theorem qje (k:Int) : ∀ m,qcV (knE m) (dI k)=(kn m k).map D.bool
 | []=>rfl
 | e::r=>by
  have ih:=qje k r;show qcV ((dI e.1,D.bool e.2)::knE r) _=_
  rw[qf7,qeK];by_cases h:e.1=k
  ·subst h;simp[kn]
  ·rw[decide_eq_false (fun h2=>h h2.symm)];simp only[yaf,if_false,ih];simp[kn,h]
theorem qjf (k:Int) (b:Bool) : ∀ m,updD (knE m) (dI k) (D.bool b)=knE (knUp m k b)
 | []=>rfl
 | e::r=>by
  have ih:=qjf k b r;show updD ((dI e.1,D.bool e.2)::knE r) _ _=_
  rw[updD,qeK];by_cases h:e.1=k
  ·subst h;simp[knUp,knE]
  ·rw[decide_eq_false (fun h2=>h h2.symm)];simp only[yaf,if_false,ih];simp[knUp,knE,h]
theorem qgQ (m:Kn):qbw (.int .i64) (knE m):=by
 rw[qdV];intro e he;obtain⟨x,_,rfl⟩:=List.mem_map.1 he;exact rfl
structure KnOk (c:Circ) (leaves:List Int) (x:Nat) (m:Kn):Prop where
 val : ∀ k b,kn m k=some b->b=qcf c leaves x k
 leaf : ∀ z∈leaves,kn m z≠none
theorem KnOk.up {c:Circ}{leaves:List Int}{x:Nat}{m:Kn}(h:KnOk c leaves x m) (k:Int):KnOk c leaves x (knUp m k (qcf c leaves x k)):=by
 refine⟨fun j b hj=>?_,fun z hz=>?_⟩
 ·rw[qk2] at hj;split at hj
  ·rename_i e;subst e;simpa using hj.symm
  ·exact h.val j b hj
 ·rw[qk2];split
  ·simp
  ·exact h.leaf z hz
theorem qqM {c:Circ}{leaves:List Int}{x:Nat}{v:Int}{m:Kn}{X:Bool}{T:List R}(hm:KnOk c leaves x m) (hX:X=qcf c leaves x v) :
  endI 1 (fun r H'=>∃ m',KnOk c leaves x m'/\r=I.d (dB (qcf c leaves x v))/\H'=[R.map (knE m')]) (I.d (D.bool X)) (.map (updD (knE m) (dI v) (D.bool X))::T):=by
 subst hX;rw[qjf];refine qa3 (r0:=.d (dB (qcf c leaves x v))) (H1:=[.map (knE (knUp m v (qcf c leaves x v)))]) ?_ ⟨_,hm.up v,rfl,rfl⟩;simp only[go_sem,seval]
set_option maxHeartbeats 4000000 in
theorem Tryz.c_coneValue (c:Circ) (hc:c.Valid) (leaves:List Int) (x:Nat) : ∀ (n:Nat) (v:Int) (m:Kn),v.toNat<n->0<=v->v<c.vars->KnOk c leaves x m->
  ICall prog 208 [.d (pC c),.d (dI v),.map 0] [.map (knE m)] (fun r H'=>∃ m',KnOk c leaves x m'/\r=.d (dB (qcf c leaves x v))/\H'=[.map (knE m')]):=by
 have hf:=hc.first_bd;have hi0:=hc.i0;have hi1:=hc.i1;have hvv:=hc.vars_bd;have hfst:=c_firstGate c (by omega);intro n;induction n with
 | zero=>intro v m h;omega
 | succ n ih=>
  intro v m hvn hv0 hv hm;have ek:=qje v m;have hks:=qgQ m;have hnl:kn m v=none->v∉leaves:=fun h hv=>hm.leaf v hv h
  cases hkn:kn m v with
  | some b=>
   rw[hkn] at ek;refine qaz (E:=env 1) tok rfl 1000 func208 rfl rfl ntmps208 (by simp) ?_;simp only[go_sem,seval,ek,yax]
   repeat' first|assumption|(simp (disch:=first|assumption|omega|(simp;done)|(simp;omega)) only[];try simp only[go_sem,seval,ek,yax])|(with_reducible first|apply And.intro|intro _)|(refine qad hfst ?_;simp only[go_sem,seval,ek,yax])|(refine qaO (fun _=>hfst) ?_;simp only[go_sem,seval,ek,yax])|((try rw[qaa]);omega)
   refine qa3 (r0:=.d (dB (qcf c leaves x v))) (H1:=[.map (knE m)]) ?_ ⟨m,hm,rfl,rfl⟩;rw[<-hm.val v b hkn];simp only[go_sem,seval]
  | none=>
   rw[hkn] at ek;have hvl:=hnl hkn;by_cases hlow:v<c.first
   ·have hval:qcf c leaves x v=false:=by rw[qfI hv0 hlow,qey,if_neg hvl]
    refine qaz (E:=env 1) tok rfl 1000 func208 rfl rfl ntmps208 (by simp) ?_;simp only[go_sem,seval,ek,yaD]
    repeat' first|assumption|(simp (disch:=first|assumption|omega|(simp;done)|(simp;omega)) only[];try simp only[go_sem,seval,ek,yaD])|(with_reducible first|apply And.intro|intro _)|(refine qad hfst ?_;simp only[go_sem,seval,ek,yaD])|(refine qaO (fun _=>hfst) ?_;simp only[go_sem,seval,ek,yaD])|((try rw[qaa]);omega)
    refine qa3 (r0:=.d (dB (qcf c leaves x v))) (H1:=[.map (knE m)]) ?_ ⟨m,hm,rfl,rfl⟩;rw[hval];simp only[go_sem,seval]
   ·obtain⟨i,rfl⟩ : ∃ i:Nat,v=c.first+(i:Int):=⟨(v-c.first).toNat,by omega⟩
    have hi:i<c.gates.length:=by unfold Circ.vars at hv;omega
    obtain⟨g1,g2⟩:=hc.g i hi;have hval:=qgg hc (leaves:=leaves) (x:=x) hi;rw[qey,if_neg hvl] at hval;have ei:(c.first+(i:Int)-c.first).toNat=i:=by omega
    have ea:qbq c i=(c.gates.getD i (0,0)).1:=rfl;have eb:qbr c i=(c.gates.getD i (0,0)).2:=rfl;rw[ea,eb] at hval;unfold qa6 at g1 g2;have iha:=fun m hm=>ih ((c.gates.getD i (0,0)).1/2) m (by omega) (by omega) (by unfold Circ.vars;omega) hm
    have ihb:=fun m hm=>ih ((c.gates.getD i (0,0)).2/2) m (by omega) (by omega) (by unfold Circ.vars;omega) hm
    have hg : ∀ z,(c.gates.map fun x=>dP x).getD i z=dP (c.gates.getD i (0,0)):=fun z=>getD_lt _ _ _ _ _ hi
    generalize c.gates.getD i (0,0)=gg at *
    obtain⟨ga,gb⟩:=gg;simp only at hval g1 g2 iha ihb;have ha2:((ga.toNat &&& 1:Nat):Int)=ga%2:=by rw[Nat.and_one_is_mod];omega
    have hb2:((gb.toNat &&& 1:Nat):Int)=gb%2:=by rw[Nat.and_one_is_mod];omega
    have cva : ∀ {m:Kn}{T:List R}{K:I->List R->Prop},KnOk c leaves x m->(∀ m',KnOk c leaves x m'->K (.d (dB (qcf c leaves x (ga/2)))) (.map (knE m')::T))->
      ICall prog 208 [.d (pC c),.d (dI (ga/2)),.map 0] (.map (knE m)::T) K:=fun {m T K} hm hk=>by
     refine qaq (iha m hm) [0] (by simp only[go_sem,seval]) ?_;rintro r0 H1 ⟨m',hm',rfl,rfl⟩;have:=hk m' hm';simp only[go_sem,seval];simpa using this
    have cvb : ∀ {m:Kn}{T:List R}{K:I->List R->Prop},KnOk c leaves x m->(∀ m',KnOk c leaves x m'->K (.d (dB (qcf c leaves x (gb/2)))) (.map (knE m')::T))->
      ICall prog 208 [.d (pC c),.d (dI (gb/2)),.map 0] (.map (knE m)::T) K:=fun {m T K} hm hk=>by
     refine qaq (ihb m hm) [0] (by simp only[go_sem,seval]) ?_;rintro r0 H1 ⟨m',hm',rfl,rfl⟩;have:=hk m' hm';simp only[go_sem,seval];simpa using this
    refine qaz (E:=env 1) tok rfl 1000 func208 rfl rfl ntmps208 (by simp) ?_;simp only[go_sem,seval,ek,yaD,ei,hg]
    repeat' first|assumption|(simp (disch:=first|assumption|omega|(simp;done)|(simp;omega)) only[];try simp only[go_sem,seval,ek,yaD,ei,hg])|(with_reducible first|apply And.intro|intro _)|(refine qad hfst ?_;simp only[go_sem,seval,ek,yaD,ei,hg])|(refine qaO (fun _=>hfst) ?_;simp only[go_sem,seval,ek,yaD,ei,hg])|((try rw[qaa]);omega)
    refine qbN (n:=1) [11] (fsts [0,1,2,4,5,3] (.two 6 (fsts [7,8] (.two 9 (.one 10 (.one 11 .done)) 10 (.one 9 (.one 11 .done)))) 10 (.one 6 (fsts [7,8] (.one 9 (.one 11 .done)))))) ?_;simp only[go_sem,seval,ek,yaD,ei,hg]
    repeat' first|assumption|(simp (disch:=first|assumption|omega|(simp;done)|(simp;omega)) only[];try simp only[go_sem,seval,ek,yaD,ei,hg])|(with_reducible first|apply And.intro|intro _)|(refine qad hfst ?_;simp only[go_sem,seval,ek,yaD,ei,hg])|(refine qaO (fun _=>hfst) ?_;simp only[go_sem,seval,ek,yaD,ei,hg])|((try rw[qaa]);omega)
    all_goals (
     refine qbN (n:=1) [5,17] (fsts [0,1,4,6,2,3] (.two 5 (.one 7 (fsts [8,9,10,11,12,13,16,18] (.two 14 (.fst 15 (.two 17 (.one 19 (fsts [20,21,22,23,24] .done)) 19 (fsts [20,21] (.one 17 (fsts [22,23,24] .done))))) 19 (fsts [20,21] (.one 14 (.fst 15 (.one 17 (fsts [22,23,24] .done)))))))) 7 (fsts [8,9] (.one 5 (fsts [10,11,12,13,16,18] (.two 14 (.fst 15 (.two 17 (.one 19 (fsts [20,21,22,23,24] .done)) 19 (fsts [20,21] (.one 17 (fsts [22,23,24] .done))))) 19 (fsts [20,21] (.one 14 (.fst 15 (.one 17 (fsts [22,23,24] .done))))))))))) ?_;simp only[go_sem,seval,ha2,hb2]
     repeat' first|assumption|(simp (disch:=first|assumption|omega|(simp;done)|(simp;omega)) only[];try simp only[go_sem,seval,ha2,hb2])|(with_reducible first|apply And.intro|intro _)|(refine cva (by assumption) ?_;simp only[go_sem,seval,ha2,hb2])|(refine cvb (by assumption) ?_;simp only[go_sem,seval,ha2,hb2])|(refine @Exists.intro I _ (I.d (D.bool false)) ?_;simp only[go_sem,seval,ha2,hb2])|((try rw[qaa]);omega))
    all_goals first
     | exact qgQ _
     | exact qqM (by assumption) hval.symm
     | exact qqM (by assumption) (by rw[hval];simp_all)

noncomputable instance:DecidableEq Circ:=fun _ _=>Classical.propDecidable _

def rowsOk (c:Circ) (rows:List (List Bool)):Prop:=c.Valid/\rows.length<=40/\∀ r∈rows,(r.length:Int)=c.inputs
noncomputable instance (c:Circ) (rows:List (List Bool)):Decidable (rowsOk c rows):=Classical.propDecidable _
end Go.Proofs
