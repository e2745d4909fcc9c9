/- Contracts, plain definitions and lemmas. Conditions: none; lemmas. -/
import Derived.Test.YteikeianenfhaaaGreatTy
import Derived.Test.YteikeianenfhaaaGreatVM8
import Derived.Test.YteikeianenfhaaaGreatProg
set_option maxRecDepth 20000
set_option linter.unusedSimpArgs false
set_option linter.unusedVariables false
set_option maxHeartbeats 2000000
namespace Go.Proofs
set_option linter.defProp false
open Go Go.VL Tryz
variable {d:Int×Int}{α:Type}{b:List Int}{n p:Int}{T:List R}{K:I->List R->Prop}
def Tryz.held:List Int->Int->Int
 | [],k=>k
 | x::r,k=>if x=k then Tryz.held r (k+1) else -1

def Tryz.c_l1In (x lo hi:Int):Pure prog 134 [dI x,dI lo,dI hi] (.bool (decide (lo<=x)&&decide (x<=hi))):=by
 refine qax func134 rfl ntmps134 fun ok=>?_
 simp only[go_sem,seval]

def Tryz.defectOk (d:Int×Int):Bool:=(decide (0<=d.1)&&decide (d.1<=24))&&(decide (0<=d.2)&&decide (d.2<=7))
def Tryz.defectOk_iff:defectOk d=true↔(0<=d.1/\d.1<=24)/\0<=d.2/\d.2<=7:=by simp[defectOk]
def Tryz.defectOk_no (h : ¬ ((0<=d.1/\d.1<=24)/\0<=d.2/\d.2<=7)):defectOk d=false:=by
 rw[Bool.eq_false_iff];exact fun e=>h (defectOk_iff.1 e)
def Tryz.defectsValid (l:List (Int×Int)):Bool:=decide (l.length<=12)&&l.all defectOk
def qfg (p : α->Bool) (l:List α) (z : α):l.all p=true↔∀ j,j<l.length->p (l.getD j z)=true:=by
 rw[yaJ];constructor
 ·intro h j hj;exact h _ (by simp[List.getD,hj])
 ·intro h x hx;obtain⟨j,hj,rfl⟩:=yal hx;have:=h j hj;simpa [List.getD,hj] using this
def qlx {p : α->Bool}{l:List α}{z : α}{j:Nat}(hj:j<l.length) (h:p (l.getD j z)=false):l.all p=false:=by
 rw[Bool.eq_false_iff];intro ha;have:=(qfg p l z).1 ha j hj;rw[h] at this;exact absurd this (by simp)
def Tryz.c_DefectsValid (l:List (Int×Int)):Pure prog 68 [dPs l] (.bool (defectsValid l)):=by
 refine qax func68 rfl ntmps68 fun ok=>?_
 simp only[go_sem,seval] at ok⊢;refine⟨fun h=>by simp[defectsValid];omega,fun h=>?_⟩;refine qaw (E:=env 0) tok (σ:=Nat) (fun i=>[(8,.d (dPs l)),(9,.d (dI l.length)),(10,.d (dI i))]) (fun i=>[]) (fun i=>i<=l.length/\∀ j,j<i->defectOk (l.getD j (0,0))=true) (fun i=>l.length-i) [] 1000 1000 ?_ ?_ ?_
 ·simp only[go_sem,seval]
 ·simp only[go_sem,seval];exact⟨0,by simp⟩
 ·rintro i ⟨hi,hinv⟩;simp only[go_sem,seval];refine⟨fun h1=>⟨h1,fun h2=>?_,fun h2=>⟨by rw[qaa];omega,i+1,⟨by omega,fun j hj=>?_⟩,by omega,rfl⟩⟩,fun h1=>?_⟩
  ·have:defectOk (l.getD i (0,0))=false:=defectOk_no (by omega);simp[defectsValid,qlx h1 this]
  ·by_cases hji:j=i
   ·subst hji;exact defectOk_iff.2 (by omega)
   ·exact hinv j (by omega)
  ·have:l.all defectOk=true:=(qfg _ _ (0,0)).2 fun j hj=>hinv j (by omega)
   simp[defectsValid,this];omega
def Tryz.c_sDefectsValid (l:List (Int×Int)):Pure prog 73 [dPs l] (.bool (defectsValid l)):=by
 refine qax func73 rfl ntmps73 fun ok=>?_
 simp only[go_sem,seval] at ok⊢;refine qaw (E:=env 0) tok (σ:=Nat) (fun i=>[(0,.d (dPs l)),(3,.d (dI i))]) (fun i=>[]) (fun i=>i<=l.length/\∀ j,j<i->defectOk (l.getD j (0,0))=true) (fun i=>l.length-i) [] 1000 1000 ?_ ?_ ?_
 ·simp only[go_sem,seval]
 ·simp only[go_sem,seval];exact⟨0,by simp⟩
 ·rintro i ⟨hi,hinv⟩;simp only[go_sem,seval];refine⟨fun h1=>⟨h1,qac (c_l1In _ _ _) ?_⟩,fun h1=>?_⟩
  ·simp only[go_sem,seval];refine⟨fun h2=>⟨h2,h1⟩,qaN (fun _=>c_l1In _ _ _) ?_⟩;simp only[go_sem,seval];refine⟨fun h2=>?_,fun h2=>⟨by rw[qaa];omega,i+1,⟨by omega,fun j hj=>?_⟩,by omega,rfl⟩⟩
   ·have:defectOk (l.getD i (0,0))=false:=defectOk_no (by omega);simp[defectsValid,qlx h1 this]
   ·by_cases hji:j=i
    ·subst hji;exact defectOk_iff.2 (by omega)
    ·exact hinv j (by omega)
  ·have:l.all defectOk=true:=(qfg _ _ (0,0)).2 fun j hj=>hinv j (by omega)
   simp[defectsValid,this];omega

abbrev Tryz.rd (b:List Int) (p:Int):R:=.box [.d (dUs b),.d (dI p)]
def Tryz.Bytes (b:List Int):Prop:=∀ x∈b,0<=x/\x<=255
def Tryz.shp_Bytes {f:Nat}(y:D) (h:shp tyT (f+2) 22 y) : ∃ l:List Int,y=dUs l:=
 shp_slice ty22 ty5 (g:=D.int .u8) (fun y h=>shp_int ty5 h) h
def Tryz.c_l20Open (code:List Int):Proc prog 65 [.d (dUs code)] [] (.ptr 0 0) [rd (code.take 2000) 0]:=by
 refine proc_of (E:=env 0) tok rfl 1000 func65 rfl rfl ntmps65 (by simp) ?_;simp only[go_sem,seval];refine⟨fun h=>by omega,fun h=>?_⟩;rw[yaa (by omega)]
def Tryz.byte_get (hb:Bytes b) (k:Nat):0<=b.getD k 0/\b.getD k 0<=255:=by
 by_cases h:k<b.length
 ·have:=hb (b.getD k 0) (by simp[List.getD,h]);exact this
 ·simp[List.getD,h]
def qkz {x:Int}(h0:0<=x) (hn:0<n):0<=x%n/\x%n<n:=⟨Int.emod_nonneg _ (by omega),Int.emod_lt_of_pos _ hn⟩
set_option maxRecDepth 100000 in
def Tryz.c_pick (b:List Int) (p n:Int) (hb:Bytes b) (hp:0<=p/\p<=1000000000) :
  ICall prog 125 [.ptr 0 0,.d (dI n)] [rd b p] (fun r H'=>∃ x,(0<=x/\(x<n∨x=0))/\r=.d (dI x)/\H'=[rd b (p+1)]):=by
 refine qaz (E:=env 1) tok rfl 1000 func125 rfl rfl ntmps125 (by simp) ?_;simp only[go_sem,seval];simp only[qaa];refine⟨by omega,fun h1=>?_,fun h1=>⟨by omega,fun h2=>?_,fun h2=>?_⟩⟩
 ·exact qbS ⟨0,by omega,rfl,rfl⟩
 ·have hx:=byte_get hb (p+1-1).toNat;refine⟨by omega,by omega,by omega,qbS ⟨_,?_,rfl,rfl⟩⟩;rw[qab hx.1];have:=qkz hx.1 (show 0<n by omega);omega
 ·simp only[Int.add_sub_cancel] at *
  simp only[qab (x:=p) (by omega),qab (x:=p*7+3) (by omega)];have m1:=qkz (x:=p) (n:=(b.length:Int)) (by omega) (by omega);have m2:=qkz (x:=p*7+3) (n:=(b.length:Int)) (by omega) (by omega);have d1:0<=p/(b.length:Int)/\p/(b.length:Int)<=p:=⟨Int.ediv_nonneg (by omega) (by omega),Int.ediv_le_self _ (by omega)⟩;have b1:=byte_get hb (p%(b.length:Int)).toNat;have b2:=byte_get hb ((p*7+3)%(b.length:Int)).toNat;generalize b.getD (p%(b.length:Int)).toNat 0=x1 at *
  generalize b.getD ((p*7+3)%(b.length:Int)).toNat 0=x2 at *
  generalize p/(b.length:Int)=x3 at *
  refine⟨by kernel_rfl,by omega,by omega,by omega,by omega,by omega,by omega,by omega,by omega,by omega,by omega,by omega,by omega,by omega,by omega,by omega,by omega,by omega,by omega,by omega,qbS ⟨_,?_,rfl,rfl⟩⟩;rw[qab (by omega)];have:=qkz (x:=(((x1*131+x2*1117+p*29+x3*53).toNat ^^^ ((x1*131+x2*1117+p*29+x3*53)/64).toNat:Nat):Int)) (n:=n) (by omega) (by omega);omega

def Tryz.bytes_of {code:List Int}(h : ∀ x∈code,InK .u8 x) (n:Nat):Bytes (code.take n):=fun x hx=>by
 have:=h x (yau hx)
 rwa [inK_u8] at this
def Tryz.pick_at (hb:Bytes b) (hp:0<=p/\p<=1000000000) (hk : ∀ x,0<=x/\(x<n∨x=0)->K (.d (dI x)) (rd b (p+1)::T)) :
  ICall prog 125 [.ptr 0 0,.d (dI n)] (rd b p::T) K:=by
 refine qan (c_pick b p n hb hp) [0] (by simp only[go_sem,seval]) ?_;rintro r0 H1 ⟨x,hx,rfl,rfl⟩;have:=hk x hx;simp only[go_sem,seval];simpa using this
def Tryz.c_odd (b:List Int) (p n:Int) (hb:Bytes b) (hp:0<=p/\p<=1000000000) (hn:0<=n/\n<=1000) :
  ICall prog 126 [.ptr 0 0,.d (dI n)] [rd b p] (fun r H'=>∃ x q,(p<=q/\q<=p+1)/\(n=0->x=false)/\r=.d (.bool x)/\H'=[rd b q]):=by
 refine qaz (E:=env 1) tok rfl 1000 func126 rfl rfl ntmps126 (by simp) ?_;simp only[go_sem,seval];refine⟨fun h=>⟨.d (dI 0),?_⟩,fun h=>?_⟩
 ·simp only[go_sem,seval];simp only[h,decide_false,go_sem,yah,false_imp_iff,true_and,↓reduceIte,reduceCtorEq];exact qbS ⟨false,p,by omega,by simp,by simp,rfl⟩
 ·refine⟨h,qan (c_pick b p n hb hp) [0] (by simp only[go_sem,seval]) ?_⟩;rintro r0 H1 ⟨x,hx,rfl,rfl⟩;simp only[go_sem,seval];simp only[h,qaa,decide_true,go_sem,true_imp_iff,↓reduceIte];refine⟨by omega,qbS ⟨_,p+1,by omega,by omega,rfl,rfl⟩⟩
def Tryz.odd_at (hb:Bytes b) (hp:0<=p/\p<=1000000000) (hn:0<=n/\n<=1000) (hk : ∀ x q,p<=q/\q<=p+1->(n=0->x=false)->K (.d (.bool x)) (rd b q::T)) :
  ICall prog 126 [.ptr 0 0,.d (dI n)] (rd b p::T) K:=by
 refine qan (c_odd b p n hb hp hn) [0] (by simp only[go_sem,seval]) ?_;rintro r0 H1 ⟨x,q,hq,hx,rfl,rfl⟩;have:=hk x q hq hx;simp only[go_sem,seval];simpa using this
def Tryz.c_l20Defects (b:List Int) (p n:Int) (hb:Bytes b) (hp:0<=p/\p<=1000000) (hn:0<=n/\n<=1000) :
  ICall prog 67 [.ptr 0 0,.d (dI n)] [rd b p] (fun r H'=>∃ (l:List (Int×Int)) (q:Int),(p<=q/\q<=p+40)/\l.length<=14/\r=.d (dPs l)/\H'=[rd b q]):=by
 refine qaz (E:=env 1) tok rfl 1000 func67 rfl rfl ntmps67 (by simp) ?_;simp only[go_sem,seval];refine qan (c_pick b p 13 hb (by omega)) [0] (by simp only[go_sem,seval]) ?_;rintro r0 H1 ⟨x,hx,rfl,rfl⟩;simp only[go_sem,seval];refine qaw (E:=env 1) tok (σ:=List (Int×Int)×Int×Int) (fun s=>[(0,.ptr 0 0),(1,.d (dI n)),(5,.sl 1 s.1.length 2 0 s.1.length),(6,.d (dI s.2.1))]) (fun s=>[rd b s.2.2,.row s.1.length 2 true (s.1.map dP)]) (fun s=>0<=s.2.1/\s.1.length+s.2.1<=12/\p+1<=s.2.2/\s.2.2<=p+1+2*s.1.length) (fun s=>s.2.1.toNat) [] 1000 1000 ?_ ?_ ?_
 ·simp only[go_sem,seval]
 ·simp only[go_sem,seval];exact⟨([],x,p+1),by simp;omega,by simp⟩
 ·rintro⟨l,k,q⟩ hi;simp only at hi;simp only[go_sem,seval];refine⟨fun h1=>?_,fun h1=>?_⟩
  ·refine qan (c_pick b q 25 hb (by omega)) [0] (by simp only[go_sem,seval]) ?_;rintro r0 H1 ⟨x1,hx1,rfl,rfl⟩;simp only[go_sem,seval];refine qan (c_pick b (q+1) 8 hb (by omega)) [0] (by simp only[go_sem,seval]) ?_;rintro r0 H1 ⟨x2,hx2,rfl,rfl⟩;simp only[go_sem,seval];rw[qaa];exact⟨by omega,by omega,(l ++ [(x1,x2)],k-1,q+1+1),by simp;omega,by simp;omega,by simp,by simp,by simp⟩
  ·refine qan (c_odd b q n hb (by omega) hn) [0] (by simp only[go_sem,seval]) ?_;rintro r0 H1 ⟨y,q1,hq1,hy,rfl,rfl⟩;simp only[go_sem,seval];have fin : ∀ (l:List (Int×Int)) (q2:Int) (U:List R),p<=q2->q2<=p+40->l.length<=14->endI 1 (fun r H'=>∃ (l:List (Int×Int)) (q:Int),(p<=q/\q<=p+40)/\l.length<=14/\r=.d (dPs l)/\H'=[rd b q]) (I.sl 1 l.length 2 0 l.length) (rd b q2::.row l.length 2 true (l.map dP)::U):=by
    intro l q2 U h3 h4 h5;refine qcF (by simp) (by simp[go_sem]) ?_;simp only[go_sem,seval];exact⟨l,q2,⟨h3,h4⟩,h5,rfl,rfl⟩
   refine⟨fun h2=>?_,fun h2=>fin l q1 [] (by omega) (by omega) (by omega)⟩;refine qan (c_pick b q1 3 hb (by omega)) [0] (by simp only[go_sem,seval]) ?_;rintro r0 H1 ⟨x1,hx1,rfl,rfl⟩;simp only[go_sem,seval];refine⟨fun h3=>?_,fun h3=>?_⟩
   ·refine qaw (E:=env 1) tok (σ:=List (Int×Int)) (fun s=>[(0,.ptr 0 0),(1,.d (dI n)),(5,.sl 1 s.length 2 0 s.length)]) (fun s=>[rd b (q1+1),.row s.length 2 true (s.map dP)]) (fun s=>s.length<=13) (fun s=>13-s.length) [] 1000 1000 ?_ ?_ ?_
    ·simp only[go_sem,seval]
    ·simp only[go_sem,seval];exact⟨l,by omega,by simp⟩
    ·intro l2 hl2;simp only[go_sem,seval];refine⟨fun h4=>⟨by omega,l2 ++ [(0,0)],by simp;omega,by simp;omega,by simp,by simp,by simp⟩,fun h4=>fin l2 (q1+1) [] (by omega) (by omega) (by omega)⟩
   ·refine qan (c_pick b (q1+1) 4 hb (by omega)) [0] (by simp only[go_sem,seval]) ?_;rintro r0 H1 ⟨x2,hx2,rfl,rfl⟩;simp only[go_sem,seval];have e : ∀ m:Nat,([D.agg [dI (-1),dI 0],D.agg [dI 0,dI 8],D.agg [dI 25,dI 0],D.agg [dI 0,dI (-1)]]:List D).getD m (D.agg [dI 0,dI 0])=dP (([(-1,0),(0,8),(25,0),(0,-1)]:List (Int×Int)).getD m (0,0)):=fun m=>qei dP [(-1,0),(0,8),(25,0),(0,-1)] m (0,0)
    simp only[e];generalize ([(-1,0),(0,8),(25,0),(0,-1)]:List (Int×Int)).getD x2.toNat (0,0)=d;simp only[go_sem,seval];refine⟨by omega,by omega,by omega,?_⟩;have:=fin (l ++ [d]) (q1+1+1);simp only[yae,yaf,yam,qre] at this;exact this _ (by omega) (by omega) (by omega)

def Tryz.c_sameInts (a b:List Int):Pure prog 37 [dIs a,dIs b] (.bool (decide (a=b))):=by
 refine qax func37 rfl ntmps37 fun ok=>?_
 simp only[go_sem,seval] at ok⊢;refine⟨fun h=>?_,fun hlen=>?_⟩
 ·simp only[false_eq_decide_iff];rintro rfl;exact h rfl
 refine qaw (E:=env 0) tok (σ:=Nat) (fun i=>[(0,.d (dIs a)),(1,.d (dIs b)),(5,.d (dI i))]) (fun _=>[]) (fun i=>i<=a.length/\∀ j,j<i->a.getD j 0=b.getD j 0) (fun i=>a.length-i) [] 1000 1000 ?_ ?_ ?_
 ·simp only[go_sem,seval]
 ·simp only[go_sem,seval];exact⟨0,⟨by omega,by omega⟩,rfl⟩
 ·intro i hi;simp only[go_sem,seval];refine⟨fun h1=>?_,fun h1=>?_⟩
  ·refine⟨by kernel_rfl,h1,by omega,fun h2=>?_,fun h2=>⟨by rw[qaa];omega,i+1,⟨by omega,fun j hj=>?_⟩,by omega,rfl⟩⟩
   ·simp only[false_eq_decide_iff];rintro rfl;exact h2 rfl
   ·by_cases hji:j=i
    ·subst hji;exact h2
    ·exact hi.2 j (by omega)
  ·simp only[true_eq_decide_iff];exact qda 0 hlen fun j hj=>hi.2 j (by omega)
def Tryz.c_isLit (l n:Int) (hn:0<=n/\n<=4000000000000000000):Pure prog 108 [dI l,dI n] (.bool (decide (0<=l)&&decide (l<2*n))):=by
 refine qax func108 rfl ntmps108 fun ok=>?_
 simp only[go_sem,seval] at ok⊢;rw[qaa];omega
def Tryz.c_firstGate (c:Circ) (h : -1000<=c.inputs/\c.inputs<=1000):Pure prog 162 [pC c] (dI c.first):=by
 refine qax func162 rfl ntmps162 fun ok=>?_
 simp only[go_sem,seval] at ok⊢;refine⟨by kernel_rfl,?_,?_,rfl⟩ <;> (rw[qaa];omega)
def Tryz.c_vars (c:Circ) (h : -1000<=c.inputs/\c.inputs<=1000):Pure prog 104 [pC c] (dI c.vars):=by
 refine qax func104 rfl ntmps104 fun ok=>?_
 simp only[go_sem,seval] at ok⊢;refine⟨by kernel_rfl,qcD (fun _=>⟨c_firstGate c h,by simp only[scal,qaa,Circ.first];omega⟩) ?_⟩;simp only[go_sem,seval];simp only[qaa,Circ.first,Circ.vars,and_true];omega
def Tryz.c_roots (c:Circ) (h1:c.next.length<=1000000/\c.outs.length<=1000000):Pure prog 103 [pC c] (dIs c.roots):=by
 refine qax func103 rfl ntmps103 fun ok=>?_
 simp only[go_sem,seval] at ok⊢;refine qaL (n:=0) [4,9] (fsts [0,1,2,5,6,7,3] (.two 4 (.one 8 (.one 9 (.fst 10 .done))) 8 (.one 4 (.one 9 (.fst 10 .done))))) ?_;simp only[go_sem,seval];simp only[Circ.roots,and_true];refine⟨by omega,by omega⟩
def Circ.notValid {c:Circ}(h : ¬ c.Valid):false=decide c.Valid:=by simp[h]
def Tryz.c_CircuitValid (c:Circ):Pure prog 49 [dC c] (.bool (decide c.Valid)):=by
 refine qax func49 rfl ntmps49 fun ok=>?_
 simp only[go_sem,seval] at ok⊢;refine⟨fun h=>Circ.notValid fun hv=>?_,fun h=>?_⟩
 ·have:=hv.i0;have:=hv.i1;have:=hv.ln;have:=hv.lg;have:=hv.lo;omega
 refine⟨by rw[qaa];omega,by rw[qaa];omega,?_⟩;have hf:1+c.inputs+(c.next.length:Int)=c.first:=rfl
 have hb:1<=c.first/\c.first<=8:=by omega
 rw[hf];refine qaw (E:=env 0) tok (σ:=Nat) (fun i=>[(1,.ptr 0 0),(3,.d (dI c.first)),(42,.d (dPs c.gates)),(43,.d (dI c.gates.length)),(44,.d (dI i))]) (fun i=>[.box [.d (dI c.inputs),.d (dIs c.next),.d (dPs c.gates),.d (dIs c.outs)]])
  (fun i=>i<=c.gates.length/\∀ j,j<i->qaY (c.gates.getD j (0,0)).1 (c.first+(j:Int))/\qaY (c.gates.getD j (0,0)).2 (c.first+(j:Int))) (fun i=>c.gates.length-i) [] 1000 1000 ?_ ?_ ?_
 ·simp only[go_sem,seval]
 ·simp only[go_sem,seval];exact⟨0,⟨by omega,fun j hj=>absurd hj (by omega)⟩,rfl⟩
 ·rintro i ⟨hi,hinv⟩
  repeat' first|assumption|(simp (disch:=first|assumption|omega|(simp;done)|(simp;omega)) only[go_sem,seval])|(with_reducible first|apply And.intro|intro _)|(refine qac (c_isLit _ _ (by omega)) ?_)|(refine qaN (fun hg=>c_isLit _ _ (by omega)) ?_)|(refine qac (c_roots c (by omega)) ?_)|((try rw[qaa]);omega)
  ·exact Circ.notValid fun hv=>by have:=hv.g i (by omega);unfold qaY at this;omega
  ·rename_i h1 h2;refine⟨i+1,⟨by omega,fun j hj=>?_⟩,by omega,rfl⟩;by_cases hji:j=i
   ·subst hji;exact h2
   ·exact hinv j (by omega)
  ·have hg : ∀ j,j<c.gates.length->qaY (c.gates.getD j (0,0)).1 (c.first+(j:Int))/\qaY (c.gates.getD j (0,0)).2 (c.first+(j:Int)):=fun j hj=>hinv j (by omega)
   clear hinv hi;have hv0:c.first<=c.vars/\c.vars<=22:=by unfold Circ.vars;omega
   have hrl:c.roots.length<=6:=by simp[Circ.roots];omega
   refine qaw (E:=env 0) tok (σ:=Nat) (fun i=>[(1,.ptr 0 0),(66,.d (dIs c.roots)),(67,.d (dI c.roots.length)),(68,.d (dI i))]) (fun i=>[.box [.d (dI c.inputs),.d (dIs c.next),.d (dPs c.gates),.d (dIs c.outs)]])
    (fun i=>i<=c.roots.length/\∀ j,j<i->qaY (c.roots.getD j 0) c.vars) (fun i=>c.roots.length-i) [] 1000 1000 ?_ ?_ ?_
   ·simp only[go_sem,seval]
   ·simp only[go_sem,seval];exact⟨0,⟨by omega,fun j hj=>absurd hj (by omega)⟩,rfl⟩
   ·rintro i ⟨hi,hinv⟩
    repeat' first|assumption|(simp (disch:=first|assumption|omega|(simp;done)|(simp;omega)) only[go_sem,seval])|(with_reducible first|apply And.intro|intro _)|(refine qac (c_vars _ (by omega)) ?_)|(refine qac (c_isLit _ _ (by omega)) ?_)|(refine qaN (fun hg=>c_isLit _ _ (by omega)) ?_)|((try rw[qaa]);omega)
    ·exact Circ.notValid fun hv=>by have:=hv.roots _ (qad (z:=0) (show i<c.roots.length by assumption));unfold qaY at this;omega
    ·rename_i h1 h2;refine⟨i+1,⟨by omega,fun j hj=>?_⟩,by omega,rfl⟩;by_cases hji:j=i
     ·subst hji;exact h2
     ·exact hinv j (by omega)
    ·have hr : ∀ x∈c.roots,qaY x c.vars:=(qhY 0).2 fun j hj=>hinv j (by omega)
     have hv:c.Valid:=⟨by omega,by omega,by omega,by omega,by omega,hg,fun x hx=>hr x (List.mem_append.2 (.inl hx)),fun x hx=>hr x (List.mem_append.2 (.inr hx))⟩;simp[hv]
def Tryz.c_alive:Pure prog 16 [] (.bool true):=by
 refine qax func16 rfl ntmps16 fun ok=>?_
 simp only[go_sem,seval];refine qac ((c_CircuitValid Circ.zero).wk (by simp[go_sem,Circ.zero])) ?_;simp only[go_sem,seval];simp[Circ.zero_valid]
def bitsOf (x:Int) (n:Nat):List Bool:=(List.range n).map fun i=>decide (x/2 ^ i%2=1)
def Tryz.c_bits (x n:Int) (hx:0<=x) (hn:n<=60):Pure prog 17 [dI x,dI n] (dBs (bitsOf x n.toNat)):=by
 refine qax func17 rfl ntmps17 fun ok=>?_
 simp only[go_sem,seval] at ok⊢;refine qaw (E:=env 0) tok (σ:=Nat) (fun i=>[(0,.d (dI x)),(1,.d (dI n)),(5,.sl 0 i 1 0 i),(6,.d (dI i))]) (fun i=>[.row i 1 true ((bitsOf x i).map D.bool)])
  (fun i=>i<=n.toNat) (fun i=>n.toNat-i) [] 1000 1000 ?_ ?_ ?_
 ·simp only[go_sem,seval]
 ·simp only[go_sem,seval];exact⟨0,by simp[bitsOf]⟩
 ·intro i hi;simp only[go_sem,seval];have hl:(bitsOf x i).length=i:=by simp[bitsOf]
  repeat' first|assumption|(simp (disch:=first|assumption|omega|(simp;done)|(simp;omega)) only[go_sem,seval])|(with_reducible first|apply And.intro|intro _)|((try rw[qaa]);omega)
  ·refine⟨i+1,by omega,by omega,rfl,rfl,?_⟩;have e2:(2 ^ i:Int)=((2 ^ i:Nat):Int):=by simp
   rw[qab (by rw[e2];exact Int.ediv_nonneg hx (Int.natCast_nonneg _))];simp[bitsOf,yaH]
  ·rw[show n.toNat=i by omega]

noncomputable instance:DecidableEq Circ:=fun _ _=>Classical.propDecidable _
end Go.Proofs
