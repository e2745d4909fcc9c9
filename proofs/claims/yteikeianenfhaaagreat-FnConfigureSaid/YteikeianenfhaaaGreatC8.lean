/- Contracts, plain definitions and lemmas. Conditions: none; lemmas. -/
import Derived.Test.YteikeianenfhaaaGreatTy
import Derived.Test.YteikeianenfhaaaGreatVM8
import Derived.Test.YteikeianenfhaaaGreatProg
set_option maxRecDepth 20000
set_option linter.unusedSimpArgs false
set_option linter.unusedVariables false
set_option maxHeartbeats 2000000
namespace Go.Proofs
open Go Go.VL Tryz
def Tryz.held:List Int->Int->Int
 | [],k=>k
 | x::r,k=>if x=k then Tryz.held r (k+1) else -1

theorem Tryz.c_l1In (x lo hi:Int):Pure prog 134 [dI x,dI lo,dI hi] (.bool (decide (lo<=x)&&decide (x<=hi))):=by
 refine qay func134 rfl ntmps134 fun ok=>?_
 simp only[go_sem,seval]

def Tryz.defectOk (d:Int×Int):Bool:=(decide (0<=d.1)&&decide (d.1<=24))&&(decide (0<=d.2)&&decide (d.2<=7))
theorem Tryz.defectOk_iff {d:Int×Int}:defectOk d=true↔(0<=d.1/\d.1<=24)/\0<=d.2/\d.2<=7:=by simp[defectOk]
theorem Tryz.defectOk_no {d:Int×Int}(h : ¬ ((0<=d.1/\d.1<=24)/\0<=d.2/\d.2<=7)):defectOk d=false:=by
 rw[Bool.eq_false_iff];exact fun e=>h (defectOk_iff.1 e)
def Tryz.defectsValid (l:List (Int×Int)):Bool:=decide (l.length<=12)&&l.all defectOk
theorem qiA {α : Type}(p : α->Bool) (l:List α) (z : α):l.all p=true↔∀ j,j<l.length->p (l.getD j z)=true:=by
 rw[yaH];constructor
 ·intro h j hj;exact h _ (by simp[List.getD,hj])
 ·intro h x hx;obtain⟨j,hj,rfl⟩:=yal hx;have:=h j hj;simpa [List.getD,hj] using this
theorem qpu {α : Type}{p : α->Bool}{l:List α}{z : α}{j:Nat}(hj:j<l.length) (h:p (l.getD j z)=false):l.all p=false:=by
 rw[Bool.eq_false_iff];intro ha;have:=(qiA p l z).1 ha j hj;rw[h] at this;exact absurd this (by simp)
theorem Tryz.c_DefectsValid (l:List (Int×Int)):Pure prog 68 [dPs l] (.bool (defectsValid l)):=by
 refine qay func68 rfl ntmps68 fun ok=>?_
 simp only[go_sem,seval] at ok⊢;refine⟨fun h=>by simp[defectsValid];omega,fun h=>?_⟩;refine qaw (E:=env 0) tok (σ:=Nat) (fun i=>[(8,.d (dPs l)),(9,.d (dI l.length)),(10,.d (dI i))]) (fun i=>[]) (fun i=>i<=l.length/\∀ j,j<i->defectOk (l.getD j (0,0))=true) (fun i=>l.length-i) [] 1000 1000 ?_ ?_ ?_
 ·simp only[go_sem,seval]
 ·simp only[go_sem,seval];exact⟨0,by simp⟩
 ·rintro i ⟨hi,hinv⟩;simp only[go_sem,seval];refine⟨fun h1=>⟨h1,fun h2=>?_,fun h2=>⟨by rw[qaa];omega,i+1,⟨by omega,fun j hj=>?_⟩,by omega,rfl⟩⟩,fun h1=>?_⟩
  ·have:defectOk (l.getD i (0,0))=false:=defectOk_no (by omega);simp[defectsValid,qpu h1 this]
  ·by_cases hji:j=i
   ·subst hji;exact defectOk_iff.2 (by omega)
   ·exact hinv j (by omega)
  ·have:l.all defectOk=true:=(qiA _ _ (0,0)).2 fun j hj=>hinv j (by omega)
   simp[defectsValid,this];omega

abbrev Tryz.rd (b:List Int) (p:Int):R:=.box [.d (dUs b),.d (dI p)]
def Tryz.Bytes (b:List Int):Prop:=∀ x∈b,0<=x/\x<=255
theorem Tryz.shp_Bytes {f:Nat}(y:D) (h:shp tyT (f+2) 22 y) : ∃ l:List Int,y=dUs l:=
 shp_slice ty22 ty5 (g:=D.int .u8) (fun y h=>shp_int ty5 h) h
theorem Tryz.c_l20Open (code:List Int):Proc prog 65 [.d (dUs code)] [] (.ptr 0 0) [rd (code.take 2000) 0]:=by
 refine proc_of (E:=env 0) tok rfl 1000 func65 rfl rfl ntmps65 (by simp) ?_;simp only[go_sem,seval];refine⟨fun h=>by omega,fun h=>?_⟩;rw[yaa (by omega)]
theorem Tryz.byte_get {b:List Int}(hb:Bytes b) (k:Nat):0<=b.getD k 0/\b.getD k 0<=255:=by
 by_cases h:k<b.length
 ·have:=hb (b.getD k 0) (by simp[List.getD,h]);exact this
 ·simp[List.getD,h]
theorem qkk {x n:Int}(h0:0<=x) (hn:0<n):0<=x%n/\x%n<n:=⟨Int.emod_nonneg _ (by omega),Int.emod_lt_of_pos _ hn⟩
set_option maxRecDepth 100000 in
theorem Tryz.c_pick (b:List Int) (p n:Int) (hb:Bytes b) (hp:0<=p/\p<=1000000000) :
  ICall prog 125 [.ptr 0 0,.d (dI n)] [rd b p] (fun r H'=>∃ x,(0<=x/\(x<n∨x=0))/\r=.d (dI x)/\H'=[rd b (p+1)]):=by
 refine qax (E:=env 1) tok rfl 1000 func125 rfl rfl ntmps125 (by simp) ?_;simp only[go_sem,seval];simp only[qaa];refine⟨by omega,fun h1=>?_,fun h1=>⟨by omega,fun h2=>?_,fun h2=>?_⟩⟩
 ·exact qbB ⟨0,by omega,rfl,rfl⟩
 ·have hx:=byte_get hb (p+1-1).toNat;refine⟨by omega,by omega,by omega,qbB ⟨_,?_,rfl,rfl⟩⟩;rw[qab hx.1];have:=qkk hx.1 (show 0<n by omega);omega
 ·simp only[Int.add_sub_cancel] at *
  simp only[qab (x:=p) (by omega),qab (x:=p*7+3) (by omega)];have m1:=qkk (x:=p) (n:=(b.length:Int)) (by omega) (by omega);have m2:=qkk (x:=p*7+3) (n:=(b.length:Int)) (by omega) (by omega);have d1:0<=p/(b.length:Int)/\p/(b.length:Int)<=p:=⟨Int.ediv_nonneg (by omega) (by omega),Int.ediv_le_self _ (by omega)⟩;have b1:=byte_get hb (p%(b.length:Int)).toNat;have b2:=byte_get hb ((p*7+3)%(b.length:Int)).toNat;generalize b.getD (p%(b.length:Int)).toNat 0=x1 at *
  generalize b.getD ((p*7+3)%(b.length:Int)).toNat 0=x2 at *
  generalize p/(b.length:Int)=x3 at *
  refine⟨by kernel_rfl,by omega,by omega,by omega,by omega,by omega,by omega,by omega,by omega,by omega,by omega,by omega,by omega,by omega,by omega,by omega,by omega,by omega,by omega,by omega,qbB ⟨_,?_,rfl,rfl⟩⟩;rw[qab (by omega)];have:=qkk (x:=(((x1*131+x2*1117+p*29+x3*53).toNat ^^^ ((x1*131+x2*1117+p*29+x3*53)/64).toNat:Nat):Int)) (n:=n) (by omega) (by omega);omega

theorem Tryz.bytes_of {code:List Int}(h : ∀ x∈code,InK .u8 x) (n:Nat):Bytes (code.take n):=fun x hx=>by
 have:=h x (yat hx)
 rwa [inK_u8] at this
theorem Tryz.pick_at {b:List Int}(hb:Bytes b) {p n:Int}(hp:0<=p/\p<=1000000000) {T:List R}{K:I->List R->Prop}(hk : ∀ x,0<=x/\(x<n∨x=0)->K (.d (dI x)) (rd b (p+1)::T)) :
  ICall prog 125 [.ptr 0 0,.d (dI n)] (rd b p::T) K:=by
 refine qao (c_pick b p n hb hp) [0] (by simp only[go_sem,seval]) ?_;rintro r0 H1 ⟨x,hx,rfl,rfl⟩;have:=hk x hx;simp only[go_sem,seval];simpa using this
theorem Tryz.c_odd (b:List Int) (p n:Int) (hb:Bytes b) (hp:0<=p/\p<=1000000000) (hn:0<=n/\n<=1000) :
  ICall prog 126 [.ptr 0 0,.d (dI n)] [rd b p] (fun r H'=>∃ x q,(p<=q/\q<=p+1)/\(n=0->x=false)/\r=.d (.bool x)/\H'=[rd b q]):=by
 refine qax (E:=env 1) tok rfl 1000 func126 rfl rfl ntmps126 (by simp) ?_;simp only[go_sem,seval];refine⟨fun h=>⟨.d (dI 0),?_⟩,fun h=>?_⟩
 ·simp only[go_sem,seval];simp only[h,decide_false,go_sem,yah,false_imp_iff,true_and,↓reduceIte,reduceCtorEq];exact qbB ⟨false,p,by omega,by simp,by simp,rfl⟩
 ·refine⟨h,qao (c_pick b p n hb hp) [0] (by simp only[go_sem,seval]) ?_⟩;rintro r0 H1 ⟨x,hx,rfl,rfl⟩;simp only[go_sem,seval];simp only[h,qaa,decide_true,go_sem,true_imp_iff,↓reduceIte];refine⟨by omega,qbB ⟨_,p+1,by omega,by omega,rfl,rfl⟩⟩
theorem Tryz.odd_at {b:List Int}(hb:Bytes b) {p n:Int}(hp:0<=p/\p<=1000000000) (hn:0<=n/\n<=1000) {T:List R}{K:I->List R->Prop}(hk : ∀ x q,p<=q/\q<=p+1->(n=0->x=false)->K (.d (.bool x)) (rd b q::T)) :
  ICall prog 126 [.ptr 0 0,.d (dI n)] (rd b p::T) K:=by
 refine qao (c_odd b p n hb hp hn) [0] (by simp only[go_sem,seval]) ?_;rintro r0 H1 ⟨x,q,hq,hx,rfl,rfl⟩;have:=hk x q hq hx;simp only[go_sem,seval];simpa using this

theorem Tryz.c_sameInts (a b:List Int):Pure prog 37 [dIs a,dIs b] (.bool (decide (a=b))):=by
 refine qay func37 rfl ntmps37 fun ok=>?_
 simp only[go_sem,seval] at ok⊢;refine⟨fun h=>?_,fun hlen=>?_⟩
 ·simp only[false_eq_decide_iff];rintro rfl;exact h rfl
 refine qaw (E:=env 0) tok (σ:=Nat) (fun i=>[(0,.d (dIs a)),(1,.d (dIs b)),(5,.d (dI i))]) (fun _=>[]) (fun i=>i<=a.length/\∀ j,j<i->a.getD j 0=b.getD j 0) (fun i=>a.length-i) [] 1000 1000 ?_ ?_ ?_
 ·simp only[go_sem,seval]
 ·simp only[go_sem,seval];exact⟨0,⟨by omega,by omega⟩,rfl⟩
 ·intro i hi;simp only[go_sem,seval];refine⟨fun h1=>?_,fun h1=>?_⟩
  ·refine⟨by kernel_rfl,h1,by omega,fun h2=>?_,fun h2=>⟨by rw[qaa];omega,i+1,⟨by omega,fun j hj=>?_⟩,by omega,rfl⟩⟩
   ·simp only[false_eq_decide_iff];rintro rfl;exact h2 rfl
   ·by_cases hji:j=i
    ·subst hji;exact h2
    ·exact hi.2 j (by omega)
  ·simp only[true_eq_decide_iff];exact qdu 0 hlen fun j hj=>hi.2 j (by omega)
theorem Tryz.c_isLit (l n:Int) (hn:0<=n/\n<=4000000000000000000):Pure prog 108 [dI l,dI n] (.bool (decide (0<=l)&&decide (l<2*n))):=by
 refine qay func108 rfl ntmps108 fun ok=>?_
 simp only[go_sem,seval] at ok⊢;rw[qaa];omega
theorem Tryz.c_firstGate (c:Circ) (h : -1000<=c.inputs/\c.inputs<=1000):Pure prog 162 [pC c] (dI c.first):=by
 refine qay func162 rfl ntmps162 fun ok=>?_
 simp only[go_sem,seval] at ok⊢;refine⟨by kernel_rfl,?_,?_,rfl⟩ <;> (rw[qaa];omega)
theorem Tryz.c_vars (c:Circ) (h : -1000<=c.inputs/\c.inputs<=1000):Pure prog 104 [pC c] (dI c.vars):=by
 refine qay func104 rfl ntmps104 fun ok=>?_
 simp only[go_sem,seval] at ok⊢;refine⟨by kernel_rfl,qcB (fun _=>⟨c_firstGate c h,by simp only[scal,qaa,Circ.first];omega⟩) ?_⟩;simp only[go_sem,seval];simp only[qaa,Circ.first,Circ.vars,and_true];omega
theorem Tryz.c_roots (c:Circ) (h1:c.next.length<=1000000/\c.outs.length<=1000000):Pure prog 103 [pC c] (dIs c.roots):=by
 refine qay func103 rfl ntmps103 fun ok=>?_
 simp only[go_sem,seval] at ok⊢;refine qaR (n:=0) [4,9] (fsts [0,1,2,5,6,7,3] (.two 4 (.one 8 (.one 9 (.fst 10 .done))) 8 (.one 4 (.one 9 (.fst 10 .done))))) ?_;simp only[go_sem,seval];simp only[Circ.roots,and_true];refine⟨by omega,by omega⟩
theorem Circ.notValid {c:Circ}(h : ¬ c.Valid):false=decide c.Valid:=by simp[h]
theorem Tryz.c_CircuitValid (c:Circ):Pure prog 49 [dC c] (.bool (decide c.Valid)):=by
 refine qay func49 rfl ntmps49 fun ok=>?_
 simp only[go_sem,seval] at ok⊢;refine⟨fun h=>Circ.notValid fun hv=>?_,fun h=>?_⟩
 ·have:=hv.i0;have:=hv.i1;have:=hv.ln;have:=hv.lg;have:=hv.lo;omega
 refine⟨by rw[qaa];omega,by rw[qaa];omega,?_⟩;have hf:1+c.inputs+(c.next.length:Int)=c.first:=rfl
 have hb:1<=c.first/\c.first<=8:=by omega
 rw[hf];refine qaw (E:=env 0) tok (σ:=Nat) (fun i=>[(1,.ptr 0 0),(3,.d (dI c.first)),(42,.d (dPs c.gates)),(43,.d (dI c.gates.length)),(44,.d (dI i))]) (fun i=>[.box [.d (dI c.inputs),.d (dIs c.next),.d (dPs c.gates),.d (dIs c.outs)]])
  (fun i=>i<=c.gates.length/\∀ j,j<i->qaX (c.gates.getD j (0,0)).1 (c.first+(j:Int))/\qaX (c.gates.getD j (0,0)).2 (c.first+(j:Int))) (fun i=>c.gates.length-i) [] 1000 1000 ?_ ?_ ?_
 ·simp only[go_sem,seval]
 ·simp only[go_sem,seval];exact⟨0,⟨by omega,fun j hj=>absurd hj (by omega)⟩,rfl⟩
 ·rintro i ⟨hi,hinv⟩
  repeat' first|assumption|(simp (disch:=first|assumption|omega|(simp;done)|(simp;omega)) only[go_sem,seval])|(with_reducible first|apply And.intro|intro _)|(refine qad (c_isLit _ _ (by omega)) ?_)|(refine qbg (fun hg=>c_isLit _ _ (by omega)) ?_)|(refine qad (c_roots c (by omega)) ?_)|((try rw[qaa]);omega)
  ·exact Circ.notValid fun hv=>by have:=hv.g i (by omega);unfold qaX at this;omega
  ·rename_i h1 h2;refine⟨i+1,⟨by omega,fun j hj=>?_⟩,by omega,rfl⟩;by_cases hji:j=i
   ·subst hji;exact h2
   ·exact hinv j (by omega)
  ·have hg : ∀ j,j<c.gates.length->qaX (c.gates.getD j (0,0)).1 (c.first+(j:Int))/\qaX (c.gates.getD j (0,0)).2 (c.first+(j:Int)):=fun j hj=>hinv j (by omega)
   clear hinv hi;have hv0:c.first<=c.vars/\c.vars<=22:=by unfold Circ.vars;omega
   have hrl:c.roots.length<=6:=by simp[Circ.roots];omega
   refine qaw (E:=env 0) tok (σ:=Nat) (fun i=>[(1,.ptr 0 0),(66,.d (dIs c.roots)),(67,.d (dI c.roots.length)),(68,.d (dI i))]) (fun i=>[.box [.d (dI c.inputs),.d (dIs c.next),.d (dPs c.gates),.d (dIs c.outs)]])
    (fun i=>i<=c.roots.length/\∀ j,j<i->qaX (c.roots.getD j 0) c.vars) (fun i=>c.roots.length-i) [] 1000 1000 ?_ ?_ ?_
   ·simp only[go_sem,seval]
   ·simp only[go_sem,seval];exact⟨0,⟨by omega,fun j hj=>absurd hj (by omega)⟩,rfl⟩
   ·rintro i ⟨hi,hinv⟩
    repeat' first|assumption|(simp (disch:=first|assumption|omega|(simp;done)|(simp;omega)) only[go_sem,seval])|(with_reducible first|apply And.intro|intro _)|(refine qad (c_vars _ (by omega)) ?_)|(refine qad (c_isLit _ _ (by omega)) ?_)|(refine qbg (fun hg=>c_isLit _ _ (by omega)) ?_)|((try rw[qaa]);omega)
    ·exact Circ.notValid fun hv=>by have:=hv.roots _ (qac (z:=0) (show i<c.roots.length by assumption));unfold qaX at this;omega
    ·rename_i h1 h2;refine⟨i+1,⟨by omega,fun j hj=>?_⟩,by omega,rfl⟩;by_cases hji:j=i
     ·subst hji;exact h2
     ·exact hinv j (by omega)
    ·have hr : ∀ x∈c.roots,qaX x c.vars:=(qhL 0).2 fun j hj=>hinv j (by omega)
     have hv:c.Valid:=⟨by omega,by omega,by omega,by omega,by omega,hg,fun x hx=>hr x (List.mem_append.2 (.inl hx)),fun x hx=>hr x (List.mem_append.2 (.inr hx))⟩;simp[hv]
theorem Tryz.c_alive:Pure prog 16 [] (.bool true):=by
 refine qay func16 rfl ntmps16 fun ok=>?_
 simp only[go_sem,seval];refine qad ((c_CircuitValid Circ.zero).wk (by simp[go_sem,Circ.zero])) ?_;simp only[go_sem,seval];simp[Circ.zero_valid]

noncomputable instance:DecidableEq Circ:=fun _ _=>Classical.propDecidable _

theorem Tryz.c_litValue (v:List Bool) (l:Int) (h:0<=l/\l<2*v.length):Pure prog 198 [dBs v,dI l] (.bool (litV v l)):=by
 refine qay func198 rfl ntmps198 fun ok=>?_
 simp only[go_sem,seval] at ok
 repeat' first|assumption|(simp (disch:=first|assumption|omega|(simp;done)|(simp;omega)) only[go_sem,seval,qaj,yaa])|(with_reducible first|apply And.intro|intro _)|((try rw[qaa]);omega)
 simp only[land1 h.1];rfl
theorem Tryz.c_litValues (v:List Bool) (ls:List Int) (h : ∀ l∈ls,0<=l/\l<2*v.length) (hl:ls.length<=1000000):Pure prog 146 [dBs v,dIs ls] (dBs (qcD v ls)):=by
 refine qay func146 rfl ntmps146 fun ok=>?_
 simp only[go_sem,seval] at ok
 repeat' first|assumption|(simp (disch:=first|assumption|omega|(simp;done)|(simp;omega)) only[go_sem,seval,qaj,yaa])|(with_reducible first|apply And.intro|intro _)|((try rw[qaa]);omega)
 refine qaw (E:=env 0) tok (σ:=Nat) (fun i=>[(0,.d (dBs v)),(5,.sl 0 i 1 0 i),(11,.d (dIs ls)),(12,.d (dI ls.length)),(13,.d (dI i))]) (fun i=>[.row i 1 true ((qcD v (ls.take i)).map D.bool)]) (fun i=>i<=ls.length) (fun i=>ls.length-i) [] 1000 1000 ?_ ?_ ?_
 ·simp only[go_sem,seval]
 ·simp only[go_sem,seval];exact⟨0,by simp[qcD]⟩
 ·intro i hi;simp only[go_sem,seval];have hl2:(qcD v (ls.take i)).length=i:=by simp[qcD];omega
  by_cases hlt:i<ls.length
  ·have hx:=h (ls.getD i 0) (qac hlt)
   repeat' first|assumption|(simp (disch:=first|assumption|omega|(simp;done)|(simp;omega)) only[go_sem,seval,qaj,yaa])|(with_reducible first|apply And.intro|intro _)|(refine qad (c_litValue v _ hx) ?_)|((try rw[qaa]);omega)
   refine⟨i+1,by omega,by omega,rfl,rfl,?_⟩;rw[yaJ hlt];simp only[qcD,yaA,yaK,List.map_nil,List.getD,List.getElem?_eq_getElem hlt,yag]
  ·have:=qek (v:=v) (ls:=ls)
   repeat' first|assumption|(simp (disch:=first|assumption|omega|(simp;done)|(simp;omega)) only[go_sem,seval,qaj,yaa])|(with_reducible first|apply And.intro|intro _)|((try rw[qaa]);omega)
def qpv (c:Circ) (rows:List (List Bool)):Prop:=c.Valid/\rows.length<=40/\∀ r∈rows,(r.length:Int)=c.inputs
noncomputable instance (c:Circ) (rows:List (List Bool)):Decidable (qpv c rows):=Classical.propDecidable _
theorem Tryz.c_rowsFit (c:Circ) (rows:List (List Bool)):Pure prog 78 [pC c,dBss rows] (.bool (decide (qpv c rows))):=by
 refine qay func78 rfl ntmps78 fun ok=>?_
 simp only[go_sem,seval] at ok
 repeat' first|assumption|(simp (disch:=first|assumption|omega|(simp;done)|(simp;omega)) only[go_sem,seval,qaj,yaa])|(with_reducible first|apply And.intro|intro _)|(refine qad (c_CircuitValid c) ?_)|((try rw[qaa]);omega)
 ·rename_i h;simp only[false_eq_decide_iff];rintro⟨h1,h2,h3⟩;rcases h with h|h
  ·exact h h1
  ·omega
 rename_i h;refine qaw (E:=env 0) tok (σ:=Nat) (fun i=>[(0,.d (pC c)),(17,.d (dBss rows)),(18,.d (dI rows.length)),(19,.d (dI i))]) (fun _=>[]) (fun i=>i<=rows.length/\∀ j,j<i->((rows.getD j []).length:Int)=c.inputs) (fun i=>rows.length-i) [] 1000 1000 ?_ ?_ ?_
 ·simp only[go_sem,seval]
 ·simp only[go_sem,seval];exact⟨0,⟨by omega,by omega⟩,rfl⟩
 ·rintro i ⟨hi,hinv⟩
  repeat' first|assumption|(simp (disch:=first|assumption|omega|(simp;done)|(simp;omega)) only[go_sem,seval,qaj,yaa])|(with_reducible first|apply And.intro|intro _)|((try rw[qaa]);omega)
  ·rename_i h1 h2;simp only[false_eq_decide_iff];rintro⟨_,_,h3⟩;exact h2 (h3 _ (qac h1))
  ·rename_i h1 h2;refine⟨i+1,⟨by omega,fun j hj=>?_⟩,by omega,rfl⟩;by_cases hji:j=i
   ·subst hji;exact h2
   ·exact hinv j (by omega)
  ·simp only[true_eq_decide_iff];exact⟨h.1,by omega,(qhL []).2 fun j hj=>hinv j (by omega)⟩
theorem Tryz.c_evaluate (c:Circ) (hv:c.Valid) (st ins:List Bool) (h1:st.length=c.next.length) (h2:(ins.length:Int)=c.inputs) (b:Bool) :
  Pure prog 197 [pC c,dBs st,dBs ins,dI (-1),dB b] (dBs (values c st ins)):=by
 refine qay func197 rfl ntmps197 fun ok=>?_
 simp only[go_sem,seval] at ok⊢;have hb:=hv.vars_bd;have hf:=hv.first_bd;have hi0:=hv.i0;have hi1:=hv.i1;have hvv:c.vars=1+(ins.length:Int)+st.length+c.gates.length:=by rw[h2,h1];rfl
 have e0:(1+c.inputs).toNat=1+ins.length:=by omega
 have e1:c.vars.toNat=1+ins.length+st.length+c.gates.length:=by omega
 repeat' first|assumption|(simp (disch:=first|assumption|omega|(simp;done)|(simp;omega)) only[go_sem,seval,qaj,yaa])|(with_reducible first|apply And.intro|intro _)|(refine qad (c_vars c (by omega)) ?_)|((try rw[qaa]);omega)
 ·rw[qnZ (by simp;omega)];simp;omega
 rw[e0,e1,qn0 false ins st _ (by omega),show 1+ins.length+st.length+c.gates.length-(1+ins.length+st.length)=c.gates.length by omega];refine qaw (E:=env 0) tok (σ:=Nat) (fun i=>[(0,.d (pC c)),(3,.d (dI (-1))),(11,.sl 0 0 1 0 (1+ins.length+st.length+c.gates.length)),(40,.d (dPs c.gates)),(41,.d (dI c.gates.length)),(42,.d (dI i))]) (fun i=>[.row 0 1 true ((qdw c st ins i++List.replicate (c.gates.length-i) false).map D.bool)]) (fun i=>i<=c.gates.length) (fun i=>c.gates.length-i) [] 1000 1000 ?_ ?_ ?_
 ·simp only[go_sem,seval]
 ·simp only[go_sem,seval];exact⟨0,by simp[qgY]⟩
 ·intro i hi;have hln:=qfc c st ins i;by_cases hlt:i<c.gates.length
  ·obtain⟨g1,g2⟩:=hv.g i hlt;unfold qaX at g1 g2;have hfe:c.first=1+ins.length+st.length:=by rw[Circ.first];omega
   have q1:litV (qdw c st ins i++List.replicate (c.gates.length-i) false) (c.gates.getD i (0,0)).1=litV (qdw c st ins i) (c.gates.getD i (0,0)).1:=qm4 g1.1 (by omega);have q2:litV (qdw c st ins i++List.replicate (c.gates.length-i) false) (c.gates.getD i (0,0)).2=litV (qdw c st ins i) (c.gates.getD i (0,0)).2:=qm4 g2.1 (by omega);have hlen:(qdw c st ins i++List.replicate (c.gates.length-i) false).length=1+ins.length+st.length+c.gates.length:=by simp;omega
   repeat' first|assumption|(simp (disch:=first|assumption|omega|(simp;done)|(simp;omega)) only[go_sem,seval,qaj,yaa])|(with_reducible first|apply And.intro|intro _)|(refine qad (c_firstGate c (by omega)) ?_)|(refine qad (c_litValue _ _ (by rw[hlen];omega)) ?_)|(refine qbg (fun _=>c_litValue _ _ (by rw[hlen];omega)) ?_)|((try rw[qaa]);omega)
   refine⟨i+1,by omega,by omega,rfl,?_⟩;rw[q1,q2,show(c.first+(i:Int)).toNat=(qdw c st ins i).length by omega,qel rfl (by omega),Nat.sub_sub];rfl
  ·repeat' first|assumption|(simp (disch:=first|assumption|omega|(simp;done)|(simp;omega)) only[go_sem,seval,qaj,yaa])|(with_reducible first|apply And.intro|intro _)|((try rw[qaa]);omega)
   rw[values,show i=c.gates.length by omega,Nat.sub_self];simp
def qcE (c:Circ) (rows:List (List Bool)):Nat->List Bool
 | 0=>List.replicate c.next.length false
 | i+1=>qcD (values c (qcE c rows i) (rows.getD i [])) c.next
def qfM (c:Circ) (rows:List (List Bool)) (i:Nat):List Bool:=values c (qcE c rows i) (rows.getD i [])
end Go.Proofs
