/- Contracts, plain definitions and lemmas. Conditions: none; lemmas. -/
import Derived.Test.YteikeianenfhaaaGreatTy
import Derived.Test.YteikeianenfhaaaGreatVM8
import Derived.Test.YteikeianenfhaaaGreatProg
set_option maxRecDepth 20000
set_option linter.unusedSimpArgs false
set_option linter.unusedVariables false
set_option maxHeartbeats 2000000
set_option linter.defProp false
namespace Go.Proofs
open Go Go.VL Tryz
variable {d p:Int×Int}{α:Type}{b:ZA}{x n y:Int}{T:ZF}{K:I->ZF->Prop}{c:ac}{P:Nat->Prop}{i:Nat}{l:List (Int×Int)}
def Tryz.held:ZA->Int->Int
 | [],k=>k
 | x::r,k=>if x=k then Tryz.held r (k+1) else -1

def Tryz.iL (x lo hi:Int):Pure prog 134 [dI x,dI lo,dI hi] (.bool (decide (lo<=x)&&decide (x<=hi))):=by
 refine bz func134 rfl ntmps134 fun ok=>?_
 simp only[go_sem,seval]

def Tryz.cS (d:Int×Int):Bool:=(decide (0<=d.1)&&decide (d.1<=24))&&(decide (0<=d.2)&&decide (d.2<=7))
def Tryz.g7:cS d=true↔(0<=d.1/\d.1<=24)/\0<=d.2/\d.2<=7:=by simp[cS]
def Tryz.mh (h : ¬ ((0<=d.1/\d.1<=24)/\0<=d.2/\d.2<=7)):cS d=false:=by
 rw[Bool.eq_false_iff];exact fun e=>h (g7.1 e)
def Tryz.bv (l:List (Int×Int)):Bool:=decide (l.length<=12)&&l.all cS
def GX (p : α->Bool) (l:List α) (z : α):l.all p=true↔∀ j,j<l.length->p (l.getD j z)=true:=by
 rw[l6];constructor
 ·intro h j hj;exact h _ (by simp[List.getD,hj])
 ·intro h x hx;obtain⟨j,hj,rfl⟩:=gJ hx;have:=h j hj;simpa [List.getD,hj] using this
def PQ {p : α->Bool}{l:List α}{z : α}{j:Nat}(hj:j<l.length) (h:p (l.getD j z)=false):l.all p=false:=by
 rw[Bool.eq_false_iff];intro ha;have:=(GX p l z).1 ha j hj;rw[h] at this;exact absurd this (by simp)
def Tryz.fL (l:List (Int×Int)):Pure prog 68 [aY l] (.bool (bv l)):=by
 refine bz func68 rfl ntmps68 fun ok=>?_
 simp only[go_sem,seval] at ok⊢;refine⟨fun h=>by simp[bv];omega,fun h=>?_⟩;refine cQ (σ:=Nat) (fun i=>[(8,.d (aY l)),(9,.d (dI l.length)),(10,.d (dI i))]) (fun i=>[]) (fun i=>i<=l.length/\∀ j,j<i->cS (l.getD j (0,0))=true) (fun i=>l.length-i) [] 1000 1000 ?_ ?_ ?_
 ·simp only[go_sem,seval]
 ·simp only[go_sem,seval];exact⟨0,by simp⟩
 ·rintro i ⟨hi,hinv⟩;simp only[go_sem,seval];refine⟨fun h1=>⟨h1,fun h2=>?_,fun h2=>⟨by rw[ae];omega,i+1,⟨by omega,fun j hj=>?_⟩,by omega,rfl⟩⟩,fun h1=>?_⟩
  ·have:cS (l.getD i (0,0))=false:=mh (by omega);simp[bv,PQ h1 this]
  ·by_cases hji:j=i
   ·subst hji;exact g7.2 (by omega)
   ·exact hinv j (by omega)
  ·have:l.all cS=true:=(GX _ _ (0,0)).2 fun j hj=>hinv j (by omega)
   simp[bv,this];omega

abbrev Tryz.rd (b:ZA) (p:Int):R:=.box [.d (lk b),.d (dI p)]
def Tryz.Bytes (b:ZA):Prop:=∀ x∈b,0<=x/\x<=255
def Tryz.shp_Bytes {f:Nat}(y:D) (h:iI tyT (f+2) 22 y) : ∃ l:ZA,y=lk l:=
 shp_slice FU Mr (g:=D.int .u8) (fun y h=>shp_int Mr h) h
def Tryz.o7 (code:ZA):pM prog 65 [.d (lk code)] [] (.ptr 0 0) [rd (code.take 2000) 0]:=by
 refine Gx (E:=env 0) tok rfl 1000 func65 rfl rfl ntmps65 (by simp) ?_;simp only[go_sem,seval];refine⟨fun h=>by omega,fun h=>?_⟩;rw[ag (by omega)]
def Tryz.kf (hb:Bytes b) (k:Nat):0<=b.getD k 0/\b.getD k 0<=255:=by
 by_cases h:k<b.length
 ·have:=hb (b.getD k 0) (by simp[List.getD,h]);exact this
 ·simp[List.getD,h]
def BZ (h0:0<=x) (hn:0<n):0<=x%n/\x%n<n:=⟨Int.emod_nonneg _ (by omega),Int.emod_lt_of_pos _ hn⟩
set_option maxRecDepth 100000 in
def Tryz.nB (b:ZA) (p n:Int) (hb:Bytes b) (hp:0<=p/\p<=1000000000) :
  aA prog 125 [.ptr 0 0,.d (dI n)] [rd b p] (fun r H'=>∃ x,(0<=x/\(x<n∨x=0))/\r=.d (dI x)/\H'=[rd b (p+1)]):=by
 refine i9 rfl 1000 func125 rfl rfl ntmps125 (by simp) ?_;simp only[go_sem,seval];simp only[ae];refine⟨by omega,fun h1=>?_,fun h1=>⟨by omega,fun h2=>?_,fun h2=>?_⟩⟩
 ·exact n5 ⟨0,by omega,rfl,rfl⟩
 ·have hx:=kf hb (p+1-1).toNat;refine⟨by omega,by omega,by omega,n5 ⟨_,?_,rfl,rfl⟩⟩;rw[aC hx.1];have:=BZ hx.1 (show 0<n by omega);omega
 ·simp only[Int.add_sub_cancel] at *
  simp only[aC (x:=p) (by omega),aC (x:=p*7+3) (by omega)];have m1:=BZ (x:=p) (n:=(b.length:Int)) (by omega) (by omega);have m2:=BZ (x:=p*7+3) (n:=(b.length:Int)) (by omega) (by omega);have d1:0<=p/(b.length:Int)/\p/(b.length:Int)<=p:=⟨Int.ediv_nonneg (by omega) (by omega),Int.ediv_le_self _ (by omega)⟩;have b1:=kf hb (p%(b.length:Int)).toNat;have b2:=kf hb ((p*7+3)%(b.length:Int)).toNat;generalize b.getD (p%(b.length:Int)).toNat 0=x1 at *
  generalize b.getD ((p*7+3)%(b.length:Int)).toNat 0=x2 at *
  generalize p/(b.length:Int)=x3 at *
  refine⟨by kernel_rfl,by omega,by omega,by omega,by omega,by omega,by omega,by omega,by omega,by omega,by omega,by omega,by omega,by omega,by omega,by omega,by omega,by omega,by omega,by omega,n5 ⟨_,?_,rfl,rfl⟩⟩;rw[aC (by omega)];have:=BZ (x:=(((x1*131+x2*1117+p*29+x3*53).toNat ^^^ ((x1*131+x2*1117+p*29+x3*53)/64).toNat:Nat):Int)) (n:=n) (by omega) (by omega);omega

def Tryz.re {code:ZA}(h : ∀ x∈code,cp .u8 x) (n:Nat):Bytes (code.take n):=fun x hx=>by
 have:=h x (kG hx)
 rwa [wF] at this
def Tryz.cB (hb:Bytes b) {p:Int}(hp:0<=p/\p<=1000000000) (hk : ∀ x,0<=x/\(x<n∨x=0)->K (.d (dI x)) (rd b (p+1)::T)) :
  aA prog 125 [.ptr 0 0,.d (dI n)] (rd b p::T) K:=by
 refine c7 (nB b p n hb hp) [0] (by simp only[go_sem,seval]) ?_;rintro r0 H1 ⟨x,hx,rfl,rfl⟩;have:=hk x hx;simp only[go_sem,seval];simpa using this
def Tryz.Bv (b:ZA) (p n:Int) (hb:Bytes b) (hp:0<=p/\p<=1000000000) (hn:0<=n/\n<=1000) :
  aA prog 126 [.ptr 0 0,.d (dI n)] [rd b p] (fun r H'=>∃ x q,(p<=q/\q<=p+1)/\(n=0->x=false)/\r=.d (.bool x)/\H'=[rd b q]):=by
 refine i9 rfl 1000 func126 rfl rfl ntmps126 (by simp) ?_;simp only[go_sem,seval];refine⟨fun h=>⟨.d (dI 0),?_⟩,fun h=>?_⟩
 ·simp only[go_sem,seval];simp only[h,decide_false,go_sem,eE,false_imp_iff,true_and,↓reduceIte,reduceCtorEq];exact n5 ⟨false,p,by omega,by simp,by simp,rfl⟩
 ·refine⟨h,c7 (nB b p n hb hp) [0] (by simp only[go_sem,seval]) ?_⟩;rintro r0 H1 ⟨x,hx,rfl,rfl⟩;simp only[go_sem,seval];simp only[h,ae,decide_true,go_sem,true_imp_iff,↓reduceIte];refine⟨by omega,n5 ⟨_,p+1,by omega,by omega,rfl,rfl⟩⟩
def Tryz.xK (hb:Bytes b) {p:Int}(hp:0<=p/\p<=1000000000) (hn:0<=n/\n<=1000) (hk : ∀ x q,p<=q/\q<=p+1->(n=0->x=false)->K (.d (.bool x)) (rd b q::T)) :
  aA prog 126 [.ptr 0 0,.d (dI n)] (rd b p::T) K:=by
 refine c7 (Bv b p n hb hp hn) [0] (by simp only[go_sem,seval]) ?_;rintro r0 H1 ⟨x,q,hq,hx,rfl,rfl⟩;have:=hk x q hq hx;simp only[go_sem,seval];simpa using this

def Tryz.jy (l n:Int) (hn:0<=n/\n<=4000000000000000000):Pure prog 108 [dI l,dI n] (.bool (decide (0<=l)&&decide (l<2*n))):=by
 refine bz func108 rfl ntmps108 fun ok=>?_
 simp only[go_sem,seval] at ok⊢;rw[ae];omega
def Tryz.bi (c:ac) (h : -1000<=c.inputs/\c.inputs<=1000):Pure prog 162 [pC c] (dI c.first):=by
 refine bz func162 rfl ntmps162 fun ok=>?_
 simp only[go_sem,seval] at ok⊢;refine⟨by kernel_rfl,?_,?_,rfl⟩ <;> (rw[ae];omega)
def Tryz.iP (c:ac) (h : -1000<=c.inputs/\c.inputs<=1000):Pure prog 104 [pC c] (dI c.vars):=by
 refine bz func104 rfl ntmps104 fun ok=>?_
 simp only[go_sem,seval] at ok⊢;refine⟨by kernel_rfl,qD (fun _=>⟨bi c h,by simp only[eW,ae,ac.first];omega⟩) ?_⟩;simp only[go_sem,seval];simp only[ae,ac.first,ac.vars,and_true];omega
def Tryz.lX (c:ac) (h1:c.next.length<=1000000/\c.outs.length<=1000000):Pure prog 103 [pC c] (aj c.roots):=by
 refine bz func103 rfl ntmps103 fun ok=>?_
 simp only[go_sem,seval] at ok⊢;refine co (n:=0) [4,9] (ax [0,1,2,5,6,7,3] (.two 4 (.one 8 (.one 9 (.fst 10 .done))) 8 (.one 4 (.one 9 (.fst 10 .done))))) ?_;simp only[go_sem,seval];simp only[ac.roots,and_true];refine⟨by omega,by omega⟩
def ac.fF (h : ¬ c.Valid):false=decide c.Valid:=by simp[h]
def Tryz.aR (c:ac):Pure prog 49 [dC c] (.bool (decide c.Valid)):=by
 refine bz func49 rfl ntmps49 fun ok=>?_
 simp only[go_sem,seval] at ok⊢;refine⟨fun h=>ac.fF fun hv=>?_,fun h=>?_⟩
 ·have:=hv.i0;have:=hv.i1;have:=hv.ln;have:=hv.lg;have:=hv.lo;omega
 refine⟨by rw[ae];omega,by rw[ae];omega,?_⟩;have hf:1+c.inputs+(c.next.length:Int)=c.first:=rfl
 have hb:1<=c.first/\c.first<=8:=by omega
 rw[hf];refine cQ (σ:=Nat) (fun i=>[(1,.ptr 0 0),(3,.d (dI c.first)),(42,.d (aY c.gates)),(43,.d (dI c.gates.length)),(44,.d (dI i))]) (fun i=>[.box [.d (dI c.inputs),.d (aj c.next),.d (aY c.gates),.d (aj c.outs)]])
  (fun i=>i<=c.gates.length/\∀ j,j<i->bm (c.gates.getD j (0,0)).1 (c.first+(j:Int))/\bm (c.gates.getD j (0,0)).2 (c.first+(j:Int))) (fun i=>c.gates.length-i) [] 1000 1000 ?_ ?_ ?_
 ·simp only[go_sem,seval]
 ·simp only[go_sem,seval];exact⟨0,⟨by omega,fun j hj=>absurd hj (by omega)⟩,rfl⟩
 ·rintro i ⟨hi,hinv⟩
  repeat' first|simp (disch:=omega) only[go_sem,seval]|(with_reducible first|apply aa|intro)|(refine az (jy _ _ (by omega)) ?_)|(refine iu (fun hg=>jy _ _ (by omega)) ?_)|(refine az (lX c (by omega)) ?_)|(try rw[ae]);omega
  ·exact ac.fF fun hv=>by have:=hv.g i (by omega);unfold bm at this;omega
  ·rename_i h1 h2;refine⟨i+1,⟨by omega,fun j hj=>?_⟩,by omega,rfl⟩;by_cases hji:j=i
   ·subst hji;exact h2
   ·exact hinv j (by omega)
  ·have hg : ∀ j,j<c.gates.length->bm (c.gates.getD j (0,0)).1 (c.first+(j:Int))/\bm (c.gates.getD j (0,0)).2 (c.first+(j:Int)):=fun j hj=>hinv j (by omega)
   clear hinv hi;have hv0:c.first<=c.vars/\c.vars<=22:=by unfold ac.vars;omega
   have hrl:c.roots.length<=6:=by simp[ac.roots];omega
   refine cQ (σ:=Nat) (fun i=>[(1,.ptr 0 0),(66,.d (aj c.roots)),(67,.d (dI c.roots.length)),(68,.d (dI i))]) (fun i=>[.box [.d (dI c.inputs),.d (aj c.next),.d (aY c.gates),.d (aj c.outs)]])
    (fun i=>i<=c.roots.length/\∀ j,j<i->bm (c.roots.getD j 0) c.vars) (fun i=>c.roots.length-i) [] 1000 1000 ?_ ?_ ?_
   ·simp only[go_sem,seval]
   ·simp only[go_sem,seval];exact⟨0,⟨by omega,fun j hj=>absurd hj (by omega)⟩,rfl⟩
   ·rintro i ⟨hi,hinv⟩
    repeat' first|simp (disch:=omega) only[go_sem,seval]|(with_reducible first|apply aa|intro)|(refine az (iP _ (by omega)) ?_)|(refine az (jy _ _ (by omega)) ?_)|(refine iu (fun hg=>jy _ _ (by omega)) ?_)|(try rw[ae]);omega
    ·exact ac.fF fun hv=>by have:=hv.roots _ (aO (z:=0) (show i<c.roots.length by assumption));unfold bm at this;omega
    ·rename_i h1 h2;refine⟨i+1,⟨by omega,fun j hj=>?_⟩,by omega,rfl⟩;by_cases hji:j=i
     ·subst hji;exact h2
     ·exact hinv j (by omega)
    ·have hr : ∀ x∈c.roots,bm x c.vars:=(DD 0).2 fun j hj=>hinv j (by omega)
     have hv:c.Valid:=⟨by omega,by omega,by omega,by omega,by omega,hg,fun x hx=>hr x (List.mem_append.2 (.inl hx)),fun x hx=>hr x (List.mem_append.2 (.inr hx))⟩;simp[hv]
def Tryz.tf:Pure prog 16 [] (.bool true):=by
 refine bz func16 rfl ntmps16 fun ok=>?_
 simp only[go_sem,seval];refine az ((aR ac.zero).wk (by simp[go_sem,ac.zero])) ?_;simp only[go_sem,seval];simp[ac.nu]

noncomputable instance:DecidableEq ac:=fun _ _=>Classical.propDecidable _

def Hr {n:Nat}(h1:i<n) (h2:P i) (hinv : ∀ j,j<i->P j) : ∃ s',(s'<=n/\∀ j,j<s'->P j)/\n-s'<n-i/\i+1=s':=
 ⟨i+1,⟨by omega,fun j hj=>by
  by_cases h:j=i
  ·subst h;exact h2
  ·exact hinv j (by omega)⟩,by omega,rfl⟩

def flip (x:Int):Int:=if x%2=0 then x+1 else x-1
def SJ : ∀ m:Nat,m ^^^ 1=if m%2=0 then m+1 else m-1:=by
 intro m;have h:=Nat.div_add_mod m 2;have hm:m%2<2:=Nat.mod_lt _ (by omega);apply Nat.eq_of_testBit_eq;intro i;rw[Nat.testBit_xor];cases i with
 | zero=>
  simp only[Nat.testBit_zero];rcases Nat.mod_two_eq_zero_or_one m with h2|h2
  ·rw[if_pos h2,show(m+1)%2=1 by omega,h2];rfl
  ·rw[if_neg (by omega),show(m-1)%2=0 by omega,h2];rfl
 | succ i=>
  have e1:Nat.testBit 1 (i+1)=false:=by simp[Nat.testBit_succ]
  rw[e1,Bool.xor_false,Nat.testBit_succ,Nat.testBit_succ];congr 1;split <;> omega
def rk (h:0<=x):((x.toNat ^^^ (1:Int).toNat:Nat):Int)=flip x:=by
 rw[show(1:Int).toNat=1 from rfl,SJ,flip];split <;> split <;> omega
def uN (h:0<=x/\x<2*n):0<=flip x/\flip x<2*n:=by unfold flip;split <;> omega
def jg (l:List (Int×Int)) (p:Int×Int):Nat:=l.findIdx (fun q=>decide (q=p))
def A7 (h:p∈l):jg l p<l.length:=List.findIdx_lt_length_of_exists ⟨p,h,by simp⟩
structure du where
 first:Nat
 gates:List (Int×Int)
 levels:ZA
def ce (x y:Int):Int:=if x > y then y else x
def bJ (x y:Int):Int:=if x > y then x else y
def gf (first:Nat) (gates:List (Int×Int)) (x y:Int):List (Int×Int)×Int:=
 if ce x y=0∨ce x y=flip (bJ x y) then(gates,0)
 else if ce x y=1∨ce x y=bJ x y then(gates,bJ x y)
 else if(ce x y,bJ x y)∈gates then(gates,2*((first:Int)+(jg gates (ce x y,bJ x y):Nat)))
 else(gates ++ [(ce x y,bJ x y)],2*((first:Int)+(gates.length:Nat)))
def du.and (b:du) (x y:Int):du×Int:=
 (⟨b.first,(gf b.first b.gates x y).1,if(gf b.first b.gates x y).1.length=b.gates.length then b.levels else b.levels ++ [1+max (b.levels.getD (ce x y/2).toNat 0) (b.levels.getD (bJ x y/2).toNat 0)]⟩,(gf b.first b.gates x y).2)
structure du.Ok (b:du):Prop where
 fst:1<=b.first
 len:b.levels.length=b.first+b.gates.length
 lev : ∀ l∈b.levels,0<=l/\l<b.levels.length
 fW:b.first+b.gates.length<=1000000
def mN (first:Nat):Nat->List (Int×Int)->List (D×D)
 | _,[]=>[]
 | i,g::r=>(dP g,dI (2*((first:Int)+(i:Int))))::mN first (i+1) r
def HP (first:Nat) (g:Int×Int) : ∀ (l:List (Int×Int)) (i:Nat),mN first i (l ++ [g])=mN first i l ++ [(dP g,dI (2*((first:Int)+((i+l.length:Nat):Int))))]
 | [],i=>by simp[mN]
 | x::r,i=>by
  simp only[vI,mN,HP first g r (i+1),eD];congr 5;omega
def IK (first:Nat) (p:Int×Int) : ∀ (l:List (Int×Int)) (i:Nat),fR (mN first i l) (dP p)=if p∈l then some (dI (2*((first:Int)+((i+jg l p:Nat):Int)))) else none
 | [],i=>rfl
 | x::r,i=>by
  have ih:=IK first p r (i+1)
  simp only[mN,fR,ih];obtain⟨p1,p2⟩:=p;obtain⟨x1,x2⟩:=x;simp only[dP,AD];by_cases h:p1=x1/\p2=x2
  ·obtain⟨rfl,rfl⟩:=h;simp[jg,List.findIdx_cons]
  ·have h' : ¬ (x1,x2)=(p1,p2):=fun e=>h (by simp at e;exact⟨e.1.symm,e.2.symm⟩)
   have h2 : ¬ (p1,p2)=(x1,x2):=fun e=>h' e.symm
   simp only[decide_eq_true_eq,h,if_false,jY,h2,false_or];split
   ·congr 4;simp only[jg,List.findIdx_cons,h',decide_false,cond_false];omega
   ·rfl
def KW (first:Nat) {fs:List (Nat×Nat)}(hf:fs.length=2) : ∀ (l:List (Int×Int)) (i:Nat),jN (.struct fs) (mN first i l)
 | [],i=>trivial
 | x::r,i=>⟨⟨by simp[hf],rfl,rfl,trivial⟩,KW first hf r (i+1)⟩
def JO {first:Nat}{gates:List (Int×Int)}(h:fR (mN first 0 gates) (.agg [dI p.1,dI p.2])=none) :
  bU (mN first 0 gates) (.agg [dI p.1,dI p.2]) (dI (2*((first:Int)+(gates.length:Nat))))=mN first 0 (gates ++ [p]):=by
 rw[I9 h,HP];simp[dP]
def bH (b:du):ZF:=[.box [.d (dI b.first),.sl 1 b.gates.length 2 0 b.gates.length,.sl 2 b.gates.length 1 0 (b.first+b.gates.length),.map 3],.row b.gates.length 2 true (b.gates.map dP),.row b.gates.length 1 true (b.levels.map (D.int .i64)),.map (mN b.first 0 b.gates)]
def du.new (n:Nat):du:=⟨n,[],List.replicate n 0⟩
def du.fT (b:du) (x y:Int):((ce x y=0∨ce x y=flip (bJ x y))/\b.and x y=(b,0))∨
  (¬ (ce x y=0∨ce x y=flip (bJ x y))/\(ce x y=1∨ce x y=bJ x y)/\b.and x y=(b,bJ x y))∨
  (¬ (ce x y=0∨ce x y=flip (bJ x y))/\¬ (ce x y=1∨ce x y=bJ x y)/\(ce x y,bJ x y)∈b.gates/\b.and x y=(b,2*((b.first:Int)+(jg b.gates (ce x y,bJ x y):Nat))))∨
  (¬ (ce x y=0∨ce x y=flip (bJ x y))/\¬ (ce x y=1∨ce x y=bJ x y)/\(ce x y,bJ x y)∉b.gates/\
   b.and x y=(⟨b.first,b.gates ++ [(ce x y,bJ x y)],b.levels ++ [1+max (b.levels.getD (ce x y/2).toNat 0) (b.levels.getD (bJ x y/2).toNat 0)]⟩,2*((b.first:Int)+(b.gates.length:Nat)))):=by
 unfold du.and gf;by_cases h1:ce x y=0∨ce x y=flip (bJ x y)
 ·left;simp only[if_pos h1,if_true];exact⟨h1,trivial⟩
 ·right;by_cases h2:ce x y=1∨ce x y=bJ x y
  ·left;simp only[if_neg h1,if_pos h2,if_true];exact⟨h1,h2,trivial⟩
  ·right;by_cases h3:(ce x y,bJ x y)∈b.gates
   ·left;simp only[if_neg h1,if_neg h2,if_pos h3,if_true];exact⟨h1,h2,h3,trivial⟩
   ·right;simp only[if_neg h1,if_neg h2,if_neg h3,b8,nn];exact⟨h1,h2,h3,by rw[if_neg (by omega)]⟩
def du.qK (b:du) (hb:b.Ok) (x y:Int):0<=max (b.levels.getD (x/2).toNat 0) (b.levels.getD (y/2).toNat 0)/\max (b.levels.getD (x/2).toNat 0) (b.levels.getD (y/2).toNat 0)<=1000000:=by
 have hg : ∀ k,0<=b.levels.getD k 0/\b.levels.getD k 0<=1000000:=by
  intro k;have:=hb.len;have:=hb.fW;by_cases hk:k<b.levels.length
  ·have:=hb.lev _ (aO (z:=0) hk);omega
  ·rw[List.getD_eq_getElem?_getD,List.getElem?_eq_none (by omega)];simp
 have h1:=hg (x/2).toNat;have h2:=hg (y/2).toNat;omega
def du.yM {b:du}(hb:b.Ok) (x y:Int) (hl:b.first+b.gates.length+1<=1000000):(b.and x y).1.Ok/\b.gates.length<=(b.and x y).1.gates.length/\(b.and x y).1.gates.length<=b.gates.length+1/\(b.and x y).1.first=b.first:=by
 rcases b.fT x y with⟨_,h⟩|⟨_,_,h⟩|⟨_,_,_,h⟩|⟨_,_,_,h⟩
 ·rw[h];exact⟨hb,by simp,by simp,rfl⟩
 ·rw[h];exact⟨hb,by simp,by simp,rfl⟩
 ·rw[h];exact⟨hb,by simp,by simp,rfl⟩
 ·rw[h];refine⟨⟨hb.fst,by simp[hb.len];omega,?_,by simp;omega⟩,by simp,by simp,rfl⟩;have hg : ∀ k,0<=b.levels.getD k 0/\(b.levels.getD k 0<b.levels.length∨b.levels.getD k 0=0):=by
   intro k;by_cases hk:k<b.levels.length
   ·have:=hb.lev _ (aO (z:=0) hk);exact⟨this.1,.inl this.2⟩
   ·rw[List.getD_eq_getElem?_getD,List.getElem?_eq_none (by omega)];exact⟨by simp,.inr rfl⟩
  intro l hl;simp only[gM,m5] at hl;simp only[b8,nn];have:=hb.len;have:=hb.fst;rcases hl with hl|rfl
  ·have:=hb.lev l hl;omega
  ·have h1:=hg (ce x y/2).toNat;have h2:=hg (bJ x y/2).toNat;omega
def bN (b:du):ZF:=[.row b.gates.length 1 true (b.levels.map (D.int .i64)),.map (mN b.first 0 b.gates),.box [.d (dI b.first),.sl 3 b.gates.length 2 0 b.gates.length,.sl 0 b.gates.length 1 0 (b.first+b.gates.length),.map 1],.row b.gates.length 2 true (b.gates.map dP)]
def du.yQ {n:Nat}(h:1<=n/\n<=100000):(du.new n).Ok:=by
 refine⟨h.1,by simp[du.new],?_,by simp[du.new];omega⟩;intro l hl;simp only[du.new,List.mem_replicate] at hl;simp only[du.new,m9];omega
def Tryz.lx (i l:Nat) (h:i+l<=1000):pM prog 105 [.d (dI i),.d (dI l)] [] (.ptr 2 0) (bN (du.new (1+i+l))):=by
 refine xx rfl 1000 func105 rfl rfl ntmps105 (by simp) ?_;simp only[go_sem,seval];have e:(1+(i:Int)+(l:Int)).toNat=1+i+l:=by omega
 refine⟨by rw[ae];omega,by rw[ae];omega,⟨by omega,by omega⟩,QW [(2,1,2,true)] (by simp only[go_sem,seval]) (n5 ⟨rfl,?_⟩)⟩;have e2:((1+i+l:Nat):Int)=1+(i:Int)+(l:Int):=by omega
 rw[e];simp only[go_sem,seval,e2,bN,du.new,mN,kr,m9,lL]
def Tryz.By (b:du) (hb:b.Ok) (x y:Int) (hx:0<=x/\x<2*((b.first+b.gates.length:Nat):Int)) (hy:0<=y/\y<2*((b.first+b.gates.length:Nat):Int)) :
  pM prog 107 [.ptr 0 0,.d (dI x),.d (dI y)] (bH b) (.d (dI (b.and x y).2)) (bH (b.and x y).1):=by
 refine Gx (E:=env 4) tok rfl 1000 func107 rfl rfl ntmps107 (by simp) ?_;have hks:jN (.struct [(0,3),(1,3)]) (mN b.first 0 b.gates):=KW b.first rfl b.gates 0
 have hlim:=hb.fW;have hll:=hb.len;have hx1:((x.toNat ^^^ 1:Nat):Int)=flip x:=rk hx.1;have hy1:((y.toNat ^^^ 1:Nat):Int)=flip y:=rk hy.1;have hf : ∀ p:Int×Int,fR (mN b.first 0 b.gates) (.agg [dI p.1,dI p.2])=if p∈b.gates then some (dI (2*((b.first:Int)+(jg b.gates p:Nat)))) else none:=by
  intro p;have:=IK b.first p b.gates 0
  simpa [dP] using this
 have hfx:=hf (x,y);have hfy:=hf (y,x);have hix:=A7 (l:=b.gates) (p:=(x,y));have hiy:=A7 (l:=b.gates) (p:=(y,x));unfold bH;by_cases hxy:y<x
 ·have e1:ce x y=y:=if_pos hxy;have e2:bJ x y=x:=if_pos hxy;have hc:=b.fT x y;rw[e1,e2] at hc;rcases hc with⟨hc,hq⟩|⟨hc,hc2,hq⟩|⟨hc,hc2,hc3,hq⟩|⟨hc,hc2,hc3,hq⟩
  ·rw[hq];simp only[go_sem,seval,hxy,hx1,hy1]
   repeat' first|simp (disch:=omega) only[];try simp only[go_sem,seval,hx1,hy1]|(with_reducible first|apply aa|intro)|exact ah|(try rw[ae]);omega
  ·rw[hq];simp only[go_sem,seval,hxy,hx1,hy1]
   repeat' first|simp (disch:=omega) only[];try simp only[go_sem,seval,hx1,hy1]|(with_reducible first|apply aa|intro)|exact ah|(try rw[ae]);omega
  ·rw[hq,if_pos hc3] at *;simp only[go_sem,seval,hxy,hx1,hy1,hfy]
   repeat' first|simp (disch:=omega) only[];try simp only[go_sem,seval,hx1,hy1,hfy]|(with_reducible first|apply aa|intro)|exact ah|(try rw[ae]);omega
  ·rw[hq,if_neg hc3] at *
   have hup:=JO hfy;have hlv:=b.qK hb y x;simp only[go_sem,seval,hxy,hx1,hy1,hfy]
   repeat' first|simp (disch:=omega) only[];try simp only[go_sem,seval,hx1,hy1,hfy]|(with_reducible first|apply aa|intro)|exact ah|(try rw[ae]);omega
   refine co (n:=4) [6] (ax [0,1,2,5,3,4] (.one 6 .done)) ?_;simp only[go_sem,seval,hup]
   repeat' first|simp (disch:=omega) only[];try simp only[go_sem,seval,hup]|(with_reducible first|apply aa|intro)|exact ah|(try rw[ae]);omega
   refine co (n:=4) [7,10] (ax [0,1,2,3,4,5] (.one 6 (.one 7 (ax [8,9] (.one 10 .done))))) ?_;simp only[go_sem,seval,hup]
   repeat' first|simp (disch:=omega) only[];try simp only[go_sem,seval,hup]|(with_reducible first|apply aa|intro)|exact ah|(try rw[ae]);omega
   refine co (n:=4) [24,27] (ax [0,1,2,3,5,6,7,9,10,13,14,15,17,18,4,8,11,12,16,19,20,21,22] (.one 23 (.one 24 (ax [25,26] (.one 27 .done))))) ?_;simp only[go_sem,seval,hup]
   repeat' first|simp (disch:=omega) only[];try simp only[go_sem,seval,hup]|(with_reducible first|apply aa|intro)|exact ah|(try rw[ae]);omega
   rw[ja]
 ·have e1:ce x y=x:=if_neg hxy;have e2:bJ x y=y:=if_neg hxy;have hc:=b.fT x y;rw[e1,e2] at hc;rcases hc with⟨hc,hq⟩|⟨hc,hc2,hq⟩|⟨hc,hc2,hc3,hq⟩|⟨hc,hc2,hc3,hq⟩
  ·rw[hq];simp only[go_sem,seval,hxy,hx1,hy1]
   repeat' first|simp (disch:=omega) only[];try simp only[go_sem,seval,hx1,hy1]|(with_reducible first|apply aa|intro)|exact ah|(try rw[ae]);omega
  ·rw[hq];simp only[go_sem,seval,hxy,hx1,hy1]
   repeat' first|simp (disch:=omega) only[];try simp only[go_sem,seval,hx1,hy1]|(with_reducible first|apply aa|intro)|exact ah|(try rw[ae]);omega
  ·rw[hq,if_pos hc3] at *;simp only[go_sem,seval,hxy,hx1,hy1,hfx]
   repeat' first|simp (disch:=omega) only[];try simp only[go_sem,seval,hx1,hy1,hfx]|(with_reducible first|apply aa|intro)|exact ah|(try rw[ae]);omega
  ·rw[hq,if_neg hc3] at *
   have hup:=JO hfx;have hlv:=b.qK hb x y;simp only[go_sem,seval,hxy,hx1,hy1,hfx]
   repeat' first|simp (disch:=omega) only[];try simp only[go_sem,seval,hx1,hy1,hfx]|(with_reducible first|apply aa|intro)|exact ah|(try rw[ae]);omega
   refine co (n:=4) [6] (ax [0,1,2,5,3,4] (.one 6 .done)) ?_;simp only[go_sem,seval,hup]
   repeat' first|simp (disch:=omega) only[];try simp only[go_sem,seval,hup]|(with_reducible first|apply aa|intro)|exact ah|(try rw[ae]);omega
   refine co (n:=4) [7,10] (ax [0,1,2,3,4,5] (.one 6 (.one 7 (ax [8,9] (.one 10 .done))))) ?_;simp only[go_sem,seval,hup]
   repeat' first|simp (disch:=omega) only[];try simp only[go_sem,seval,hup]|(with_reducible first|apply aa|intro)|exact ah|(try rw[ae]);omega
   refine co (n:=4) [24,27] (ax [0,1,2,3,5,6,7,9,10,13,14,15,17,18,4,8,11,12,16,19,20,21,22] (.one 23 (.one 24 (ax [25,26] (.one 27 .done))))) ?_;simp only[go_sem,seval,hup]
   repeat' first|simp (disch:=omega) only[];try simp only[go_sem,seval,hup]|(with_reducible first|apply aa|intro)|exact ah|(try rw[ae]);omega
   rw[ja]
def du.xor (b:du) (x y:Int):du×Int:=
 let p:=b.and x y
 let q:=p.1.and (flip x) (flip y)
 q.1.and (flip p.2) (flip q.2)
def du.tO {b:du}(hb:b.Ok) (hx:0<=x/\x<2*((b.first+b.gates.length:Nat):Int)) (hy:0<=y/\y<2*((b.first+b.gates.length:Nat):Int)) :
  0<=(b.and x y).2/\(b.and x y).2<2*(((b.and x y).1.first+(b.and x y).1.gates.length:Nat):Int):=by
 have:=hb.fst;have hh:0<=bJ x y/\bJ x y<2*((b.first+b.gates.length:Nat):Int):=by unfold bJ;split <;> assumption
 rcases b.fT x y with⟨_,h⟩|⟨_,_,h⟩|⟨_,_,h3,h⟩|⟨_,_,_,h⟩
 ·rw[h];simp only;omega
 ·rw[h];simp only;omega
 ·rw[h];have:=A7 h3;simp only;omega
 ·rw[h];simp only[b8,nn];omega

def Tryz.gC (v:ZB) (l:Int) (h:0<=l/\l<2*v.length):Pure prog 198 [cf v,dI l] (.bool (aW v l)):=by
 refine bz func198 rfl ntmps198 fun ok=>?_
 simp only[go_sem,seval] at ok
 repeat' first|simp (disch:=omega) only[go_sem,seval,bT,ag]|(with_reducible first|apply aa|intro)|(try rw[ae]);omega
 simp only[BG h.1];rfl
def Tryz.iT (v:ZB) (ls:ZA) (h : ∀ l∈ls,0<=l/\l<2*v.length) (hl:ls.length<=1000000):Pure prog 146 [cf v,aj ls] (cf (dN v ls)):=by
 refine bz func146 rfl ntmps146 fun ok=>?_
 simp only[go_sem,seval] at ok
 repeat' first|simp (disch:=omega) only[go_sem,seval,bT,ag]|(with_reducible first|apply aa|intro)|(try rw[ae]);omega
 refine cQ (σ:=Nat) (fun i=>[(0,.d (cf v)),(5,.sl 0 i 1 0 i),(11,.d (aj ls)),(12,.d (dI ls.length)),(13,.d (dI i))]) (fun i=>[.row i 1 true ((dN v (ls.take i)).map D.bool)]) (fun i=>i<=ls.length) (fun i=>ls.length-i) [] 1000 1000 ?_ ?_ ?_
 ·simp only[go_sem,seval]
 ·simp only[go_sem,seval];exact⟨0,by simp[dN]⟩
 ·intro i hi;simp only[go_sem,seval];have hl2:(dN v (ls.take i)).length=i:=by simp[dN];omega
  by_cases hlt:i<ls.length
  ·have hx:=h (ls.getD i 0) (aO hlt)
   repeat' first|simp (disch:=omega) only[go_sem,seval,bT,ag]|(with_reducible first|apply aa|intro)|(refine az (gC v _ hx) ?_)|(try rw[ae]);omega
   refine⟨i+1,by omega,by omega,rfl,rfl,?_⟩;rw[la hlt];simp only[dN,gw,js,List.map_nil,List.getD,List.getElem?_eq_getElem hlt,cP]
  ·have:=z0 (v:=v) (ls:=ls)
   repeat' first|simp (disch:=omega) only[go_sem,seval,bT,ag]|(with_reducible first|apply aa|intro)|(try rw[ae]);omega
def GC (c:ac) (rows:List ZB):Prop:=c.Valid/\rows.length<=40/\∀ r∈rows,(r.length:Int)=c.inputs
noncomputable instance (c:ac) (rows:List ZB):Decidable (GC c rows):=Classical.propDecidable _
def Tryz.pq (c:ac) (rows:List ZB):Pure prog 78 [pC c,eZ rows] (.bool (decide (GC c rows))):=by
 refine bz func78 rfl ntmps78 fun ok=>?_
 simp only[go_sem,seval] at ok
 repeat' first|simp (disch:=omega) only[go_sem,seval,bT,ag]|(with_reducible first|apply aa|intro)|(refine az (aR c) ?_)|(try rw[ae]);omega
 ·rename_i h;simp only[false_eq_decide_iff];rintro⟨h1,h2,h3⟩;rcases h with h|h
  ·exact h h1
  ·omega
 rename_i h;refine cQ (σ:=Nat) (fun i=>[(0,.d (pC c)),(17,.d (eZ rows)),(18,.d (dI rows.length)),(19,.d (dI i))]) (fun _=>[]) (fun i=>i<=rows.length/\∀ j,j<i->((rows.getD j []).length:Int)=c.inputs) (fun i=>rows.length-i) [] 1000 1000 ?_ ?_ ?_
 ·simp only[go_sem,seval]
 ·simp only[go_sem,seval];exact⟨0,⟨by omega,by omega⟩,rfl⟩
 ·rintro i ⟨hi,hinv⟩
  repeat' first|simp (disch:=omega) only[go_sem,seval,bT,ag]|(with_reducible first|apply aa|intro)|(try rw[ae]);omega
  ·rename_i h1 h2;simp only[false_eq_decide_iff];rintro⟨_,_,h3⟩;exact h2 (h3 _ (aO h1))
  ·rename_i h1 h2;refine⟨i+1,⟨by omega,fun j hj=>?_⟩,by omega,rfl⟩;by_cases hji:j=i
   ·subst hji;exact h2
   ·exact hinv j (by omega)
  ·simp only[true_eq_decide_iff];exact⟨h.1,by omega,(DD []).2 fun j hj=>hinv j (by omega)⟩
def Tryz.nZ (c:ac) (hv:c.Valid) (st ins:ZB) (h1:st.length=c.next.length) (h2:(ins.length:Int)=c.inputs) (b:Bool) :
  Pure prog 197 [pC c,cf st,cf ins,dI (-1),dB b] (cf (values c st ins)):=by
 refine bz func197 rfl ntmps197 fun ok=>?_
 simp only[go_sem,seval] at ok⊢;have hb:=hv.aN;have hf:=hv.al;have hi0:=hv.i0;have hi1:=hv.i1;have hvv:c.vars=1+(ins.length:Int)+st.length+c.gates.length:=by rw[h2,h1];rfl
 have e0:(1+c.inputs).toNat=1+ins.length:=by omega
 have e1:c.vars.toNat=1+ins.length+st.length+c.gates.length:=by omega
 repeat' first|simp (disch:=omega) only[go_sem,seval,bT,ag]|(with_reducible first|apply aa|intro)|(refine az (iP c (by omega)) ?_)|(try rw[ae]);omega
 ·rw[Q9 (by simp;omega)];simp;omega
 rw[e0,e1,RY false ins st _ (by omega),show 1+ins.length+st.length+c.gates.length-(1+ins.length+st.length)=c.gates.length by omega];refine cQ (σ:=Nat) (fun i=>[(0,.d (pC c)),(3,.d (dI (-1))),(11,.sl 0 0 1 0 (1+ins.length+st.length+c.gates.length)),(40,.d (aY c.gates)),(41,.d (dI c.gates.length)),(42,.d (dI i))]) (fun i=>[.row 0 1 true ((iR c st ins i++List.replicate (c.gates.length-i) false).map D.bool)]) (fun i=>i<=c.gates.length) (fun i=>c.gates.length-i) [] 1000 1000 ?_ ?_ ?_
 ·simp only[go_sem,seval]
 ·simp only[go_sem,seval];exact⟨0,by simp[Fq]⟩
 ·intro i hi;have hln:=A6 c st ins i;by_cases hlt:i<c.gates.length
  ·obtain⟨g1,g2⟩:=hv.g i hlt;unfold bm at g1 g2;have hfe:c.first=1+ins.length+st.length:=by rw[ac.first];omega
   have q1:aW (iR c st ins i++List.replicate (c.gates.length-i) false) (c.gates.getD i (0,0)).1=aW (iR c st ins i) (c.gates.getD i (0,0)).1:=Ga g1.1 (by omega);have q2:aW (iR c st ins i++List.replicate (c.gates.length-i) false) (c.gates.getD i (0,0)).2=aW (iR c st ins i) (c.gates.getD i (0,0)).2:=Ga g2.1 (by omega);have hlen:(iR c st ins i++List.replicate (c.gates.length-i) false).length=1+ins.length+st.length+c.gates.length:=by simp;omega
   repeat' first|simp (disch:=omega) only[go_sem,seval,bT,ag]|(with_reducible first|apply aa|intro)|(refine az (bi c (by omega)) ?_)|(refine az (gC _ _ (by rw[hlen];omega)) ?_)|(refine iu (fun _=>gC _ _ (by rw[hlen];omega)) ?_)|(try rw[ae]);omega
   refine⟨i+1,by omega,by omega,rfl,?_⟩;rw[q1,q2,show(c.first+(i:Int)).toNat=(iR c st ins i).length by omega,Kk rfl (by omega),Nat.sub_sub];rfl
  ·repeat' first|simp (disch:=omega) only[go_sem,seval,bT,ag]|(with_reducible first|apply aa|intro)|(try rw[ae]);omega
   rw[values,show i=c.gates.length by omega,Nat.sub_self];simp
def kF (c:ac) (rows:List ZB):Nat->ZB
 | 0=>List.replicate c.next.length false
 | i+1=>dN (values c (kF c rows i) (rows.getD i [])) c.next
def nj (c:ac) (rows:List ZB) (i:Nat):ZB:=values c (kF c rows i) (rows.getD i [])

def B6 {n:Nat}(h1:i<n) (h2:P i) (hinv : ∀ j,j<i->P j) : ∃ s',(s'<=n/\∀ j,j<s'->P j)/\n-s'<n-i/\i+1=s':=
 ⟨i+1,⟨by omega,fun j hj=>by
  by_cases h:j=i
  ·subst h;exact h2
  ·exact hinv j (by omega)⟩,by omega,rfl⟩
def AX {l:List α}{P : α->Prop}{d:Decidable (∀ x∈l,P x)}(z : α) (h1:i<l.length) (h : ¬ P (l.getD i z)):false=decide (∀ x∈l,P x):=by
 rw[eq_comm,decide_eq_false_iff_not];exact fun h2=>h (h2 _ (aO h1))
def yq {l:List α}{P : α->Prop}{d:Decidable (∀ x∈l,P x)}(z : α) (h : ∀ j,j<l.length->P (l.getD j z)):true=decide (∀ x∈l,P x):=by
 rw[eq_comm,decide_eq_true_eq];exact(DD z).2 h
def Tryz.br (c:ac) (h : -1000<=c.inputs/\c.inputs<=1000):Pure prog 135 [dC c] (dI c.first):=by
 refine bz func135 rfl ntmps135 fun ok=>?_
 simp only[go_sem,seval] at ok
 repeat' first|assumption|simp (disch:=omega) only[go_sem,seval]|(with_reducible first|apply aa|intro)|(try rw[ae]);omega
 unfold ac.first
 omega
def Tryz.jT (l:ZA) (n:Int) (hn:0<=n/\n<=1000):Pure prog 136 [aj l,dI n] (.bool (decide (∀ x∈l,bm x n))):=by
 refine bz func136 rfl ntmps136 fun ok=>?_
 simp only[go_sem,seval] at ok⊢;refine cQ (σ:=Nat) (fun i=>[(0,.d (aj l)),(1,.d (dI n)),(5,.d (dI i))]) (fun _=>[]) (fun i=>i<=l.length/\∀ j,j<i->bm (l.getD j 0) n) (fun i=>l.length-i) [] 1000 1000 ?_ ?_ ?_
 ·simp only[go_sem,seval]
 ·simp only[go_sem,seval];exact⟨0,⟨by omega,fun j hj=>absurd hj (by omega)⟩,rfl⟩
 ·rintro i ⟨hi,hinv⟩
  repeat' first|assumption|simp (disch:=omega) only[go_sem,seval]|(with_reducible first|apply aa|intro)|(refine az (iL _ _ _) ?_)|(try rw[ae]);omega
  ·rename_i h1 h2;exact AX 0 h1 (by unfold bm;omega)
  ·rename_i h1 h2;exact B6 h1 (by unfold bm;omega) hinv
  ·exact yq 0 fun j hj=>hinv j (by omega)
def Tryz.cX (c:ac):Pure prog 72 [dC c] (.bool (decide c.Valid)):=by
 refine bz func72 rfl ntmps72 fun ok=>?_
 simp only[go_sem,seval] at ok⊢;refine az (iL _ _ _) ?_;simp only[go_sem,seval];refine⟨fun h=>ac.fF fun hv=>?_,fun h=>?_⟩
 ·have:=hv.i0;have:=hv.i1;have:=hv.ln;have:=hv.lg;have:=hv.lo;omega
 refine az (br c (by omega)) ?_;have hb:1<=c.first/\c.first<=8:=by unfold ac.first;omega
 simp only[go_sem,seval];refine cQ (σ:=Nat) (fun i=>[(1,.ptr 0 0),(3,.d (dI c.first)),(4,.d (dI i))]) (fun i=>[.box [.d (dI c.inputs),.d (aj c.next),.d (aY c.gates),.d (aj c.outs)]])
  (fun i=>i<=c.gates.length/\∀ j,j<i->bm (c.gates.getD j (0,0)).1 (c.first+(j:Int))/\bm (c.gates.getD j (0,0)).2 (c.first+(j:Int))) (fun i=>c.gates.length-i) [] 1000 1000 ?_ ?_ ?_
 ·simp only[go_sem,seval]
 ·simp only[go_sem,seval];exact⟨0,⟨by omega,fun j hj=>absurd hj (by omega)⟩,rfl⟩
 ·rintro i ⟨hi,hinv⟩;simp only[go_sem,seval];have hv0:c.vars=c.first+c.gates.length:=rfl
  refine⟨fun hlt=>?_,fun hge=>?_⟩
  ·refine co (n:=0) [] (ax [0,2,6,8,13,14,15,1,3,4,5,7,9,10,11] (.one 12 (.one 16 (.fst 17 .done)))) ?_
   repeat' first|assumption|simp (disch:=omega) only[go_sem,seval]|(with_reducible first|apply aa|intro)|(refine az (jT [_,_] _ (by omega)) ?_)|(try rw[ae]);omega
   ·rename_i h2;exact ac.fF fun hv=>h2 (hv.g i hlt)
   ·rename_i h2;exact B6 hlt h2 hinv
  ·repeat' first|assumption|simp (disch:=omega) only[go_sem,seval]|(with_reducible first|apply aa|intro)|(refine az (jT _ _ (by omega)) ?_)|(refine iu (fun hg=>jT _ _ (by omega)) ?_)|(try rw[ae]);omega
   rw[Bool.eq_iff_iff];simp only[gO,decide_eq_true_eq];refine⟨fun⟨q1,q2⟩=>⟨by omega,by omega,by omega,by omega,by omega,fun j hj=>hinv j (by omega),q1,q2⟩,fun hv=>⟨hv.n,hv.o⟩⟩

structure Qw where
 b:du
 carry:Int
 outs:ZA
def sn (b:du):ZF:=[.row b.gates.length 1 true (b.levels.map (D.int .i64)),.map (mN b.first 0 b.gates),.box [.d (dI b.first),.sl 4 b.gates.length 2 0 b.gates.length,.sl 1 b.gates.length 1 0 (b.first+b.gates.length),.map 2],.row b.gates.length 2 true (b.gates.map dP)]
structure Rs (n i:Nat) (s:Qw):Prop where
 ok:s.b.Ok
 fst:s.b.first=1+2*n
 len:s.b.gates.length<=9*i
 c:0<=s.carry/\s.carry<2*((s.b.first+s.b.gates.length:Nat):Int)
 o:s.outs.length=i
def du.lit (b:du) (x:Int):Prop:=0<=x/\x<2*((b.first+b.gates.length:Nat):Int)
def ai (c:ac):Nat:=c.inputs.toNat+c.next.length+1
def fw (c:ac) (a b:Int):ac×Int:=(⟨c.inputs,c.next,(gf (ai c) c.gates a b).1,c.outs⟩,(gf (ai c) c.gates a b).2)
def Gb (c:ac) (x y:Int):((ce x y=0∨ce x y=flip (bJ x y))/\fw c x y=(c,0))∨
  (¬ (ce x y=0∨ce x y=flip (bJ x y))/\(ce x y=1∨ce x y=bJ x y)/\fw c x y=(c,bJ x y))∨
  (¬ (ce x y=0∨ce x y=flip (bJ x y))/\¬ (ce x y=1∨ce x y=bJ x y)/\
   (
    ((ce x y,bJ x y)∈c.gates/\fw c x y=(c,2*((ai c:Int)+(jg c.gates (ce x y,bJ x y):Nat))))∨
    ((ce x y,bJ x y)∉c.gates/\fw c x y=(⟨c.inputs,c.next,c.gates ++ [(ce x y,bJ x y)],c.outs⟩,2*((ai c:Int)+(c.gates.length:Nat)))))):=by
 unfold fw gf;by_cases h1:ce x y=0∨ce x y=flip (bJ x y)
 ·left;simp only[if_pos h1,if_true];exact⟨h1,trivial⟩
 ·right;by_cases h2:ce x y=1∨ce x y=bJ x y
  ·left;simp only[if_neg h1,if_pos h2,if_true];exact⟨h1,h2,trivial⟩
  ·right;by_cases h3:(ce x y,bJ x y)∈c.gates
   ·simp only[if_neg h1,if_neg h2,if_pos h3];exact⟨h1,h2,.inl ⟨h3,trivial⟩⟩
   ·simp only[if_neg h1,if_neg h2,if_neg h3];exact⟨h1,h2,.inr ⟨h3,trivial⟩⟩
def K8 (hi:i<l.length) (h:l.getD i (0,0)=p) (hn : ∀ j,j<i->l.getD j (0,0)≠p):jg l p=i:=by
 unfold jg;rw[List.findIdx_eq hi];refine⟨by simpa [List.getD,hi] using h,fun j hj=>?_⟩;have:=hn j hj;simpa [List.getD,show j<l.length by omega] using this
def Bl:p∈l↔∃ i,i<l.length/\l.getD i (0,0)=p:=by
 rw[List.mem_iff_getElem];constructor
 ·rintro⟨i,h,e⟩;exact⟨i,h,by simpa [List.getD,h] using e⟩
 ·rintro⟨i,h,e⟩;exact⟨i,h,by simpa [List.getD,h] using e⟩
structure Mk (c:ac):Prop where
 i:0<=c.inputs/\c.inputs<=1000
 n:c.next.length<=1000
def p6 (c:ac) (x:Int):Prop:=0<=x/\x<2*((ai c+c.gates.length:Nat):Int)
def u6 (h:Mk c) (hx:p6 c x) (hy:p6 c y):Mk (fw c x y).1/\ai (fw c x y).1=ai c/\c.gates.length<=(fw c x y).1.gates.length/\(fw c x y).1.gates.length<=c.gates.length+1/\p6 (fw c x y).1 (fw c x y).2:=by
 have hh:p6 c (bJ x y):=by unfold bJ;split <;> assumption
 have hp:1<=ai c:=by unfold ai;omega
 unfold p6 at *
 rcases Gb c x y with⟨_,q⟩|⟨_,_,q⟩|⟨_,_,⟨hm,q⟩|⟨_,q⟩⟩
 ·rw[q];exact⟨h,rfl,by simp,by simp,by simp only;omega⟩
 ·rw[q];exact⟨h,rfl,by simp,by simp,by simp only;omega⟩
 ·rw[q];have:=A7 hm;exact⟨h,rfl,by simp,by simp,by simp only;omega⟩
 ·rw[q];exact⟨⟨h.i,h.n⟩,rfl,by simp,by simp,by
   simp only[b8,nn];have e:ai ⟨c.inputs,c.next,c.gates ++ [(ce x y,bJ x y)],c.outs⟩=ai c:=rfl;rw[e];omega⟩

def sQ (x:Int):Prop:=0<=x/\x<=2
instance (x:Int):Decidable (sQ x):=by unfold sQ;infer_instance
def mH (l:ZA):Prop:=∀ x∈l,sQ x
noncomputable instance (l:ZA):Decidable (mH l):=Classical.propDecidable _
def mH.get {l:ZA}(h:mH l) (i:Nat):sQ (l.getD i 0):=by
 by_cases hi:i<l.length
 ·exact h _ (aO hi)
 ·rw[List.getD_eq_getElem?_getD,List.getElem?_eq_none (by omega)];exact⟨by simp,by simp⟩
def D3 (c:ac) (st ins:ZA):Prop:=c.Valid/\st.length=c.next.length/\(ins.length:Int)=c.inputs/\mH st/\mH ins
noncomputable instance (c:ac) (st ins:ZA):Decidable (D3 c st ins):=Classical.propDecidable _
end Go.Proofs
