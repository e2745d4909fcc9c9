/- Contracts, plain definitions and lemmas. Conditions: none; lemmas. -/
import Derived.Test.YteikeianenfhaaaGreatTy
import Derived.Test.YteikeianenfhaaaGreatVM8
import Derived.Test.YteikeianenfhaaaGreatProg
set_option maxRecDepth 20000
set_option linter.unusedSimpArgs false
set_option linter.unusedVariables false
set_option maxHeartbeats 2000000
namespace Go.Proofs
set_option linter.defProp false
open Go Go.VL Tryz
variable {d:Int×Int}{α:Type}{b:List Int}{n p:Int}{T:List R}{K:I->List R->Prop}{i:Nat}
def Tryz.held:List Int->Int->Int
 | [],k=>k
 | x::r,k=>if x=k then Tryz.held r (k+1) else -1

def Tryz.c_l1In (x lo hi:Int):Pure prog 134 [dI x,dI lo,dI hi] (.bool (decide (lo<=x)&&decide (x<=hi))):=by
 refine qaC func134 rfl ntmps134 fun ok=>?_
 simp only[go_sem,seval]

def Tryz.defectOk (d:Int×Int):Bool:=(decide (0<=d.1)&&decide (d.1<=24))&&(decide (0<=d.2)&&decide (d.2<=7))
def Tryz.defectOk_iff:defectOk d=true↔(0<=d.1/\d.1<=24)/\0<=d.2/\d.2<=7:=by simp[defectOk]
def Tryz.defectOk_no (h : ¬ ((0<=d.1/\d.1<=24)/\0<=d.2/\d.2<=7)):defectOk d=false:=by
 rw[Bool.eq_false_iff];exact fun e=>h (defectOk_iff.1 e)
def Tryz.defectsValid (l:List (Int×Int)):Bool:=decide (l.length<=12)&&l.all defectOk
def qiC (p : α->Bool) (l:List α) (z : α):l.all p=true↔∀ j,j<l.length->p (l.getD j z)=true:=by
 rw[yaG];constructor
 ·intro h j hj;exact h _ (by simp[List.getD,hj])
 ·intro h x hx;obtain⟨j,hj,rfl⟩:=yak hx;have:=h j hj;simpa [List.getD,hj] using this
def qpy {p : α->Bool}{l:List α}{z : α}{j:Nat}(hj:j<l.length) (h:p (l.getD j z)=false):l.all p=false:=by
 rw[Bool.eq_false_iff];intro ha;have:=(qiC p l z).1 ha j hj;rw[h] at this;exact absurd this (by simp)
def Tryz.c_DefectsValid (l:List (Int×Int)):Pure prog 68 [dPs l] (.bool (defectsValid l)):=by
 refine qaC func68 rfl ntmps68 fun ok=>?_
 simp only[go_sem,seval] at ok⊢;refine⟨fun h=>by simp[defectsValid];omega,fun h=>?_⟩;refine qaB (E:=env 0) tok (σ:=Nat) (fun i=>[(8,.d (dPs l)),(9,.d (dI l.length)),(10,.d (dI i))]) (fun i=>[]) (fun i=>i<=l.length/\∀ j,j<i->defectOk (l.getD j (0,0))=true) (fun i=>l.length-i) [] 1000 1000 ?_ ?_ ?_
 ·simp only[go_sem,seval]
 ·simp only[go_sem,seval];exact⟨0,by simp⟩
 ·rintro i ⟨hi,hinv⟩;simp only[go_sem,seval];refine⟨fun h1=>⟨h1,fun h2=>?_,fun h2=>⟨by rw[qaa];omega,i+1,⟨by omega,fun j hj=>?_⟩,by omega,rfl⟩⟩,fun h1=>?_⟩
  ·have:defectOk (l.getD i (0,0))=false:=defectOk_no (by omega);simp[defectsValid,qpy h1 this]
  ·by_cases hji:j=i
   ·subst hji;exact defectOk_iff.2 (by omega)
   ·exact hinv j (by omega)
  ·have:l.all defectOk=true:=(qiC _ _ (0,0)).2 fun j hj=>hinv j (by omega)
   simp[defectsValid,this];omega

abbrev Tryz.rd (b:List Int) (p:Int):R:=.box [.d (dUs b),.d (dI p)]
def Tryz.Bytes (b:List Int):Prop:=∀ x∈b,0<=x/\x<=255
def Tryz.shp_Bytes {f:Nat}(y:D) (h:shp tyT (f+2) 22 y) : ∃ l:List Int,y=dUs l:=
 shp_slice ty22 ty5 (g:=D.int .u8) (fun y h=>shp_int ty5 h) h
def Tryz.c_l20Open (code:List Int):Proc prog 65 [.d (dUs code)] [] (.ptr 0 0) [rd (code.take 2000) 0]:=by
 refine proc_of (E:=env 0) tok rfl 1000 func65 rfl rfl ntmps65 (by simp) ?_;simp only[go_sem,seval];refine⟨fun h=>by omega,fun h=>?_⟩;rw[yaa (by omega)]
def Tryz.byte_get (hb:Bytes b) (k:Nat):0<=b.getD k 0/\b.getD k 0<=255:=by
 by_cases h:k<b.length
 ·have:=hb (b.getD k 0) (by simp[List.getD,h]);exact this
 ·simp[List.getD,h]
def qkt {x:Int}(h0:0<=x) (hn:0<n):0<=x%n/\x%n<n:=⟨Int.emod_nonneg _ (by omega),Int.emod_lt_of_pos _ hn⟩
set_option maxRecDepth 100000 in
def Tryz.c_pick (b:List Int) (p n:Int) (hb:Bytes b) (hp:0<=p/\p<=1000000000) :
  ICall prog 125 [.ptr 0 0,.d (dI n)] [rd b p] (fun r H'=>∃ x,(0<=x/\(x<n∨x=0))/\r=.d (dI x)/\H'=[rd b (p+1)]):=by
 refine qaL (E:=env 1) tok rfl 1000 func125 rfl rfl ntmps125 (by simp) ?_;simp only[go_sem,seval];simp only[qaa];refine⟨by omega,fun h1=>?_,fun h1=>⟨by omega,fun h2=>?_,fun h2=>?_⟩⟩
 ·exact qbS ⟨0,by omega,rfl,rfl⟩
 ·have hx:=byte_get hb (p+1-1).toNat;refine⟨by omega,by omega,by omega,qbS ⟨_,?_,rfl,rfl⟩⟩;rw[qac hx.1];have:=qkt hx.1 (show 0<n by omega);omega
 ·simp only[Int.add_sub_cancel] at *
  simp only[qac (x:=p) (by omega),qac (x:=p*7+3) (by omega)];have m1:=qkt (x:=p) (n:=(b.length:Int)) (by omega) (by omega);have m2:=qkt (x:=p*7+3) (n:=(b.length:Int)) (by omega) (by omega);have d1:0<=p/(b.length:Int)/\p/(b.length:Int)<=p:=⟨Int.ediv_nonneg (by omega) (by omega),Int.ediv_le_self _ (by omega)⟩;have b1:=byte_get hb (p%(b.length:Int)).toNat;have b2:=byte_get hb ((p*7+3)%(b.length:Int)).toNat;generalize b.getD (p%(b.length:Int)).toNat 0=x1 at *
  generalize b.getD ((p*7+3)%(b.length:Int)).toNat 0=x2 at *
  generalize p/(b.length:Int)=x3 at *
  refine⟨by kernel_rfl,by omega,by omega,by omega,by omega,by omega,by omega,by omega,by omega,by omega,by omega,by omega,by omega,by omega,by omega,by omega,by omega,by omega,by omega,by omega,qbS ⟨_,?_,rfl,rfl⟩⟩;rw[qac (by omega)];have:=qkt (x:=(((x1*131+x2*1117+p*29+x3*53).toNat ^^^ ((x1*131+x2*1117+p*29+x3*53)/64).toNat:Nat):Int)) (n:=n) (by omega) (by omega);omega

def Tryz.bytes_of {code:List Int}(h : ∀ x∈code,InK .u8 x) (n:Nat):Bytes (code.take n):=fun x hx=>by
 have:=h x (yar hx)
 rwa [inK_u8] at this
def Tryz.pick_at (hb:Bytes b) (hp:0<=p/\p<=1000000000) (hk : ∀ x,0<=x/\(x<n∨x=0)->K (.d (dI x)) (rd b (p+1)::T)) :
  ICall prog 125 [.ptr 0 0,.d (dI n)] (rd b p::T) K:=by
 refine qas (c_pick b p n hb hp) [0] (by simp only[go_sem,seval]) ?_;rintro r0 H1 ⟨x,hx,rfl,rfl⟩;have:=hk x hx;simp only[go_sem,seval];simpa using this
def Tryz.c_odd (b:List Int) (p n:Int) (hb:Bytes b) (hp:0<=p/\p<=1000000000) (hn:0<=n/\n<=1000) :
  ICall prog 126 [.ptr 0 0,.d (dI n)] [rd b p] (fun r H'=>∃ x q,(p<=q/\q<=p+1)/\(n=0->x=false)/\r=.d (.bool x)/\H'=[rd b q]):=by
 refine qaL (E:=env 1) tok rfl 1000 func126 rfl rfl ntmps126 (by simp) ?_;simp only[go_sem,seval];refine⟨fun h=>⟨.d (dI 0),?_⟩,fun h=>?_⟩
 ·simp only[go_sem,seval];simp only[h,decide_false,go_sem,yai,false_imp_iff,true_and,↓reduceIte,reduceCtorEq];exact qbS ⟨false,p,by omega,by simp,by simp,rfl⟩
 ·refine⟨h,qas (c_pick b p n hb hp) [0] (by simp only[go_sem,seval]) ?_⟩;rintro r0 H1 ⟨x,hx,rfl,rfl⟩;simp only[go_sem,seval];simp only[h,qaa,decide_true,go_sem,true_imp_iff,↓reduceIte];refine⟨by omega,qbS ⟨_,p+1,by omega,by omega,rfl,rfl⟩⟩
def Tryz.odd_at (hb:Bytes b) (hp:0<=p/\p<=1000000000) (hn:0<=n/\n<=1000) (hk : ∀ x q,p<=q/\q<=p+1->(n=0->x=false)->K (.d (.bool x)) (rd b q::T)) :
  ICall prog 126 [.ptr 0 0,.d (dI n)] (rd b p::T) K:=by
 refine qas (c_odd b p n hb hp hn) [0] (by simp only[go_sem,seval]) ?_;rintro r0 H1 ⟨x,q,hq,hx,rfl,rfl⟩;have:=hk x q hq hx;simp only[go_sem,seval];simpa using this

def Tryz.c_isLit (l n:Int) (hn:0<=n/\n<=4000000000000000000):Pure prog 108 [dI l,dI n] (.bool (decide (0<=l)&&decide (l<2*n))):=by
 refine qaC func108 rfl ntmps108 fun ok=>?_
 simp only[go_sem,seval] at ok⊢;rw[qaa];omega
def Tryz.c_firstGate (c:Circ) (h : -1000<=c.inputs/\c.inputs<=1000):Pure prog 162 [pC c] (dI c.first):=by
 refine qaC func162 rfl ntmps162 fun ok=>?_
 simp only[go_sem,seval] at ok⊢;refine⟨by kernel_rfl,?_,?_,rfl⟩ <;> (rw[qaa];omega)
def Tryz.c_vars (c:Circ) (h : -1000<=c.inputs/\c.inputs<=1000):Pure prog 104 [pC c] (dI c.vars):=by
 refine qaC func104 rfl ntmps104 fun ok=>?_
 simp only[go_sem,seval] at ok⊢;refine⟨by kernel_rfl,qcE (fun _=>⟨c_firstGate c h,by simp only[scal,qaa,Circ.first];omega⟩) ?_⟩;simp only[go_sem,seval];simp only[qaa,Circ.first,Circ.vars,and_true];omega
def Tryz.c_roots (c:Circ) (h1:c.next.length<=1000000/\c.outs.length<=1000000):Pure prog 103 [pC c] (dIs c.roots):=by
 refine qaC func103 rfl ntmps103 fun ok=>?_
 simp only[go_sem,seval] at ok⊢;refine qaS (n:=0) [4,9] (fsts [0,1,2,5,6,7,3] (.two 4 (.one 8 (.one 9 (.fst 10 .done))) 8 (.one 4 (.one 9 (.fst 10 .done))))) ?_;simp only[go_sem,seval];simp only[Circ.roots,and_true];refine⟨by omega,by omega⟩
def Circ.notValid {c:Circ}(h : ¬ c.Valid):false=decide c.Valid:=by simp[h]
def Tryz.c_CircuitValid (c:Circ):Pure prog 49 [dC c] (.bool (decide c.Valid)):=by
 refine qaC func49 rfl ntmps49 fun ok=>?_
 simp only[go_sem,seval] at ok⊢;refine⟨fun h=>Circ.notValid fun hv=>?_,fun h=>?_⟩
 ·have:=hv.i0;have:=hv.i1;have:=hv.ln;have:=hv.lg;have:=hv.lo;omega
 refine⟨by rw[qaa];omega,by rw[qaa];omega,?_⟩;have hf:1+c.inputs+(c.next.length:Int)=c.first:=rfl
 have hb:1<=c.first/\c.first<=8:=by omega
 rw[hf];refine qaB (E:=env 0) tok (σ:=Nat) (fun i=>[(1,.ptr 0 0),(3,.d (dI c.first)),(42,.d (dPs c.gates)),(43,.d (dI c.gates.length)),(44,.d (dI i))]) (fun i=>[.box [.d (dI c.inputs),.d (dIs c.next),.d (dPs c.gates),.d (dIs c.outs)]])
  (fun i=>i<=c.gates.length/\∀ j,j<i->qa7 (c.gates.getD j (0,0)).1 (c.first+(j:Int))/\qa7 (c.gates.getD j (0,0)).2 (c.first+(j:Int))) (fun i=>c.gates.length-i) [] 1000 1000 ?_ ?_ ?_
 ·simp only[go_sem,seval]
 ·simp only[go_sem,seval];exact⟨0,⟨by omega,fun j hj=>absurd hj (by omega)⟩,rfl⟩
 ·rintro i ⟨hi,hinv⟩
  repeat' first|assumption|(simp (disch:=first|assumption|omega|(simp;done)|(simp;omega)) only[go_sem,seval])|(with_reducible first|apply And.intro|intro _)|(refine qad (c_isLit _ _ (by omega)) ?_)|(refine qaK (fun hg=>c_isLit _ _ (by omega)) ?_)|(refine qad (c_roots c (by omega)) ?_)|((try rw[qaa]);omega)
  ·exact Circ.notValid fun hv=>by have:=hv.g i (by omega);unfold qa7 at this;omega
  ·rename_i h1 h2;refine⟨i+1,⟨by omega,fun j hj=>?_⟩,by omega,rfl⟩;by_cases hji:j=i
   ·subst hji;exact h2
   ·exact hinv j (by omega)
  ·have hg : ∀ j,j<c.gates.length->qa7 (c.gates.getD j (0,0)).1 (c.first+(j:Int))/\qa7 (c.gates.getD j (0,0)).2 (c.first+(j:Int)):=fun j hj=>hinv j (by omega)
   clear hinv hi;have hv0:c.first<=c.vars/\c.vars<=22:=by unfold Circ.vars;omega
   have hrl:c.roots.length<=6:=by simp[Circ.roots];omega
   refine qaB (E:=env 0) tok (σ:=Nat) (fun i=>[(1,.ptr 0 0),(66,.d (dIs c.roots)),(67,.d (dI c.roots.length)),(68,.d (dI i))]) (fun i=>[.box [.d (dI c.inputs),.d (dIs c.next),.d (dPs c.gates),.d (dIs c.outs)]])
    (fun i=>i<=c.roots.length/\∀ j,j<i->qa7 (c.roots.getD j 0) c.vars) (fun i=>c.roots.length-i) [] 1000 1000 ?_ ?_ ?_
   ·simp only[go_sem,seval]
   ·simp only[go_sem,seval];exact⟨0,⟨by omega,fun j hj=>absurd hj (by omega)⟩,rfl⟩
   ·rintro i ⟨hi,hinv⟩
    repeat' first|assumption|(simp (disch:=first|assumption|omega|(simp;done)|(simp;omega)) only[go_sem,seval])|(with_reducible first|apply And.intro|intro _)|(refine qad (c_vars _ (by omega)) ?_)|(refine qad (c_isLit _ _ (by omega)) ?_)|(refine qaK (fun hg=>c_isLit _ _ (by omega)) ?_)|((try rw[qaa]);omega)
    ·exact Circ.notValid fun hv=>by have:=hv.roots _ (qae (z:=0) (show i<c.roots.length by assumption));unfold qa7 at this;omega
    ·rename_i h1 h2;refine⟨i+1,⟨by omega,fun j hj=>?_⟩,by omega,rfl⟩;by_cases hji:j=i
     ·subst hji;exact h2
     ·exact hinv j (by omega)
    ·have hr : ∀ x∈c.roots,qa7 x c.vars:=(qkq 0).2 fun j hj=>hinv j (by omega)
     have hv:c.Valid:=⟨by omega,by omega,by omega,by omega,by omega,hg,fun x hx=>hr x (List.mem_append.2 (.inl hx)),fun x hx=>hr x (List.mem_append.2 (.inr hx))⟩;simp[hv]

noncomputable instance:DecidableEq Circ:=fun _ _=>Classical.propDecidable _

def rowsOk (c:Circ) (rows:List (List Bool)):Prop:=c.Valid/\rows.length<=40/\∀ r∈rows,(r.length:Int)=c.inputs
noncomputable instance (c:Circ) (rows:List (List Bool)):Decidable (rowsOk c rows):=Classical.propDecidable _
def qgX (c:Circ) (rows:List (List Bool)):Nat->List Bool
 | 0=>List.replicate c.next.length false
 | i+1=>qjh (values c (qgX c rows i) (rows.getD i [])) c.next

def qiD {P:Nat->Prop}{n:Nat}(h1:i<n) (h2:P i) (hinv : ∀ j,j<i->P j) : ∃ s',(s'<=n/\∀ j,j<s'->P j)/\n-s'<n-i/\i+1=s':=
 ⟨i+1,⟨by omega,fun j hj=>by
  by_cases h:j=i
  ·subst h;exact h2
  ·exact hinv j (by omega)⟩,by omega,rfl⟩
def no_at {l:List α}{P : α->Prop}{d:Decidable (∀ x∈l,P x)}(z : α) (h1:i<l.length) (h : ¬ P (l.getD i z)):false=decide (∀ x∈l,P x):=by
 rw[eq_comm,decide_eq_false_iff_not];exact fun h2=>h (h2 _ (qae h1))
def yes_at {l:List α}{P : α->Prop}{d:Decidable (∀ x∈l,P x)}(z : α) (h : ∀ j,j<l.length->P (l.getD j z)):true=decide (∀ x∈l,P x):=by
 rw[eq_comm,decide_eq_true_eq];exact(qkq z).2 h
def Tryz.c_l1First (c:Circ) (h : -1000<=c.inputs/\c.inputs<=1000):Pure prog 135 [dC c] (dI c.first):=by
 refine qaC func135 rfl ntmps135 fun ok=>?_
 simp only[go_sem,seval] at ok
 repeat' first|assumption|(simp (disch:=first|assumption|omega|(simp;done)|(simp;omega)) only[go_sem,seval])|(with_reducible first|apply And.intro|intro _)|((try rw[qaa]);omega)
 unfold Circ.first
 omega
def Tryz.c_l1Lits (l:List Int) (n:Int) (hn:0<=n/\n<=1000):Pure prog 136 [dIs l,dI n] (.bool (decide (∀ x∈l,qa7 x n))):=by
 refine qaC func136 rfl ntmps136 fun ok=>?_
 simp only[go_sem,seval] at ok⊢;refine qaB (E:=env 0) tok (σ:=Nat) (fun i=>[(0,.d (dIs l)),(1,.d (dI n)),(5,.d (dI i))]) (fun _=>[]) (fun i=>i<=l.length/\∀ j,j<i->qa7 (l.getD j 0) n) (fun i=>l.length-i) [] 1000 1000 ?_ ?_ ?_
 ·simp only[go_sem,seval]
 ·simp only[go_sem,seval];exact⟨0,⟨by omega,fun j hj=>absurd hj (by omega)⟩,rfl⟩
 ·rintro i ⟨hi,hinv⟩
  repeat' first|assumption|(simp (disch:=first|assumption|omega|(simp;done)|(simp;omega)) only[go_sem,seval])|(with_reducible first|apply And.intro|intro _)|(refine qad (c_l1In _ _ _) ?_)|((try rw[qaa]);omega)
  ·rename_i h1 h2;exact no_at 0 h1 (by unfold qa7;omega)
  ·rename_i h1 h2;exact qiD h1 (by unfold qa7;omega) hinv
  ·exact yes_at 0 fun j hj=>hinv j (by omega)
def Tryz.c_sCircuitValid (c:Circ):Pure prog 72 [dC c] (.bool (decide c.Valid)):=by
 refine qaC func72 rfl ntmps72 fun ok=>?_
 simp only[go_sem,seval] at ok⊢;refine qad (c_l1In _ _ _) ?_;simp only[go_sem,seval];refine⟨fun h=>Circ.notValid fun hv=>?_,fun h=>?_⟩
 ·have:=hv.i0;have:=hv.i1;have:=hv.ln;have:=hv.lg;have:=hv.lo;omega
 refine qad (c_l1First c (by omega)) ?_;have hb:1<=c.first/\c.first<=8:=by unfold Circ.first;omega
 simp only[go_sem,seval];refine qaB (E:=env 0) tok (σ:=Nat) (fun i=>[(1,.ptr 0 0),(3,.d (dI c.first)),(4,.d (dI i))]) (fun i=>[.box [.d (dI c.inputs),.d (dIs c.next),.d (dPs c.gates),.d (dIs c.outs)]])
  (fun i=>i<=c.gates.length/\∀ j,j<i->qa7 (c.gates.getD j (0,0)).1 (c.first+(j:Int))/\qa7 (c.gates.getD j (0,0)).2 (c.first+(j:Int))) (fun i=>c.gates.length-i) [] 1000 1000 ?_ ?_ ?_
 ·simp only[go_sem,seval]
 ·simp only[go_sem,seval];exact⟨0,⟨by omega,fun j hj=>absurd hj (by omega)⟩,rfl⟩
 ·rintro i ⟨hi,hinv⟩;simp only[go_sem,seval];have hv0:c.vars=c.first+c.gates.length:=rfl
  refine⟨fun hlt=>?_,fun hge=>?_⟩
  ·refine qaS (n:=0) [] (fsts [0,2,6,8,13,14,15,1,3,4,5,7,9,10,11] (.one 12 (.one 16 (.fst 17 .done)))) ?_
   repeat' first|assumption|(simp (disch:=first|assumption|omega|(simp;done)|(simp;omega)) only[go_sem,seval])|(with_reducible first|apply And.intro|intro _)|(refine qad (c_l1Lits [_,_] _ (by omega)) ?_)|((try rw[qaa]);omega)
   ·rename_i h2;exact Circ.notValid fun hv=>h2 (hv.g i hlt)
   ·rename_i h2;exact qiD hlt h2 hinv
  ·repeat' first|assumption|(simp (disch:=first|assumption|omega|(simp;done)|(simp;omega)) only[go_sem,seval])|(with_reducible first|apply And.intro|intro _)|(refine qad (c_l1Lits _ _ (by omega)) ?_)|(refine qaK (fun hg=>c_l1Lits _ _ (by omega)) ?_)|((try rw[qaa]);omega)
   rw[Bool.eq_iff_iff];simp only[yam,decide_eq_true_eq];refine⟨fun⟨q1,q2⟩=>⟨by omega,by omega,by omega,by omega,by omega,fun j hj=>hinv j (by omega),q1,q2⟩,fun hv=>⟨hv.n,hv.o⟩⟩
end Go.Proofs
