/- Contracts, plain definitions and lemmas. Conditions: none; lemmas. -/
import Derived.Test.YteikeianenfhaaaGreatTy
import Derived.Test.YteikeianenfhaaaGreatVM8
import Derived.Test.YteikeianenfhaaaGreatProg
set_option maxRecDepth 20000
set_option linter.unusedSimpArgs false
set_option linter.unusedVariables false
set_option maxHeartbeats 2000000
namespace Go.Proofs
set_option linter.defProp false
open Go Go.VL Tryz
variable {d p:Int×Int}{α:Type}{f n i:Nat}{c:ac}{P:Nat->Prop}{x y:Int}{l:List (Int×Int)}
def Tryz.ra (a b:List Int):Pure prog 90 [ai a,ai b] (.bool (decide (a=b))):=by
 refine bw func90 rfl ntmps90 fun ok=>?_
 simp only[go_sem,seval] at ok⊢;refine⟨fun h=>?_,fun hlen=>?_⟩
 ·simp only[false_eq_decide_iff];rintro rfl;exact h rfl
 refine ce (E:=env 0) tok (σ:=Nat) (fun i=>[(0,.d (ai a)),(1,.d (ai b)),(5,.d (dI i))]) (fun _=>[]) (fun i=>i<=a.length/\∀ j,j<i->a.getD j 0=b.getD j 0) (fun i=>a.length-i) [] 1000 1000 ?_ ?_ ?_
 ·simp only[go_sem,seval]
 ·simp only[go_sem,seval];exact⟨0,⟨by omega,by omega⟩,rfl⟩
 ·intro i hi;simp only[go_sem,seval];refine⟨fun h1=>⟨by kernel_rfl,h1,by omega,fun h2=>?_,fun h2=>⟨by rw[ae];omega,i+1,⟨by omega,?_⟩,by omega,rfl⟩⟩,fun h1=>?_⟩
  ·simp only[false_eq_decide_iff];rintro rfl;exact h2 rfl
  ·intro j hj;by_cases hji:j=i
   ·subst hji;exact h2
   ·exact hi.2 j (by omega)
  ·simp only[true_eq_decide_iff];refine sq hlen fun j h3 h4=>?_
   have:=hi.2 j (by omega);simpa [List.getD,h3,h4] using this
def Tryz.held:List Int->Int->Int
 | [],k=>k
 | x::r,k=>if x=k then Tryz.held r (k+1) else -1
def Tryz.je (g:Nat) (a:List Int) (k:Int) (hk:0<=k/\k+a.length<=9000000000000000000) (ha:a.length<=281474976710656) :
  la prog 92 [.sl 0 g 1 0 a.length,.d (dI k)] [.row g 1 true (a.map (D.int .i64))] (.d (dI (k+(a.length:Int)))) [.row g 1 true (((List.range a.length).map fun(j:Nat)=>k+(j:Int)).map (D.int .i64))]:=by
 refine xU (E:=env 1) tok rfl 1000 func92 rfl rfl ntmps92 (by simp) ?_;simp only[go_sem,seval];refine ce (E:=env 1) tok (σ:=Nat×List Int) (fun s=>[(0,.sl 0 g 1 0 a.length),(1,.d (dI (k+(s.1:Int)))),(5,.d (dI s.1))]) (fun s=>[.row g 1 true (s.2.map (D.int .i64))]) (fun s=>s.1<=a.length/\s.2.length=a.length/\∀ (j:Nat),j<s.1->s.2.getD j 0=k+(j:Int)) (fun s=>a.length-s.1) [] 1000 1000 ?_ ?_ ?_
 ·simp only[go_sem,seval]
 ·simp only[go_sem,seval];exact⟨(0,a),⟨by omega,rfl,fun j hj=>by simp at hj⟩,by simp⟩
 ·rintro⟨i,b⟩ ⟨hi,hb,hinv⟩;simp only at hi hb hinv;simp only[go_sem,seval];refine⟨fun h1=>⟨h1,by omega,?_,?_,(i+1,b.set i (k+(i:Int))),⟨by omega,by simpa using hb,?_⟩,by omega,⟨by omega,rfl⟩,rfl⟩,fun h1=>⟨by omega,?_⟩⟩
  ·rw[ae];omega
  ·rw[ae];omega
  ·intro j hj;simp only at hj ⊢;by_cases hji:j=i
   ·subst hji;rw[xO _ (by omega)]
   ·rw[zl _ (by omega)];exact hinv j (by omega)
  ·refine oK 0 (by simpa using hb) fun j hj=>?_
   rw[hinv j (by omega)];simp[List.getD,show j<a.length by omega]

def Tryz.gX (x lo hi:Int):Pure prog 134 [dI x,dI lo,dI hi] (.bool (decide (lo<=x)&&decide (x<=hi))):=by
 refine bw func134 rfl ntmps134 fun ok=>?_
 simp only[go_sem,seval]

def Tryz.cI (d:Int×Int):Bool:=(decide (0<=d.1)&&decide (d.1<=24))&&(decide (0<=d.2)&&decide (d.2<=7))
def Tryz.gv:cI d=true↔(0<=d.1/\d.1<=24)/\0<=d.2/\d.2<=7:=by simp[cI]
def Tryz.lJ (h : ¬ ((0<=d.1/\d.1<=24)/\0<=d.2/\d.2<=7)):cI d=false:=by
 rw[Bool.eq_false_iff];exact fun e=>h (gv.1 e)
def Tryz.bp (l:List (Int×Int)):Bool:=decide (l.length<=12)&&l.all cI
def BZ (p : α->Bool) (l:List α) (z : α):l.all p=true↔∀ j,j<l.length->p (l.getD j z)=true:=by
 rw[lj];constructor
 ·intro h j hj;exact h _ (by simp[List.getD,hj])
 ·intro h x hx;obtain⟨j,hj,rfl⟩:=fM hx;have:=h j hj;simpa [List.getD,hj] using this
def Mr {p : α->Bool}{l:List α}{z : α}{j:Nat}(hj:j<l.length) (h:p (l.getD j z)=false):l.all p=false:=by
 rw[Bool.eq_false_iff];intro ha;have:=(BZ p l z).1 ha j hj;rw[h] at this;exact absurd this (by simp)
def Tryz.e7 (l:List (Int×Int)):Pure prog 68 [aO l] (.bool (bp l)):=by
 refine bw func68 rfl ntmps68 fun ok=>?_
 simp only[go_sem,seval] at ok⊢;refine⟨fun h=>by simp[bp];omega,fun h=>?_⟩;refine ce (E:=env 0) tok (σ:=Nat) (fun i=>[(8,.d (aO l)),(9,.d (dI l.length)),(10,.d (dI i))]) (fun i=>[]) (fun i=>i<=l.length/\∀ j,j<i->cI (l.getD j (0,0))=true) (fun i=>l.length-i) [] 1000 1000 ?_ ?_ ?_
 ·simp only[go_sem,seval]
 ·simp only[go_sem,seval];exact⟨0,by simp⟩
 ·rintro i ⟨hi,hinv⟩;simp only[go_sem,seval];refine⟨fun h1=>⟨h1,fun h2=>?_,fun h2=>⟨by rw[ae];omega,i+1,⟨by omega,fun j hj=>?_⟩,by omega,rfl⟩⟩,fun h1=>?_⟩
  ·have:cI (l.getD i (0,0))=false:=lJ (by omega);simp[bp,Mr h1 this]
  ·by_cases hji:j=i
   ·subst hji;exact gv.2 (by omega)
   ·exact hinv j (by omega)
  ·have:l.all cI=true:=(BZ _ _ (0,0)).2 fun j hj=>hinv j (by omega)
   simp[bp,this];omega

def Tryz.Bytes (b:List Int):Prop:=∀ x∈b,0<=x/\x<=255
def Tryz.shp_Bytes (y:D) (h:gZ tyT (f+2) 22 y) : ∃ l:List Int,y=mW l:=
 shp_slice Cf Hl (g:=D.int .u8) (fun y h=>shp_int Hl h) h

def Tryz.iT (l n:Int) (hn:0<=n/\n<=4000000000000000000):Pure prog 108 [dI l,dI n] (.bool (decide (0<=l)&&decide (l<2*n))):=by
 refine bw func108 rfl ntmps108 fun ok=>?_
 simp only[go_sem,seval] at ok⊢;rw[ae];omega
def Tryz.bq (c:ac) (h : -1000<=c.inputs/\c.inputs<=1000):Pure prog 162 [pC c] (dI c.first):=by
 refine bw func162 rfl ntmps162 fun ok=>?_
 simp only[go_sem,seval] at ok⊢;refine⟨by kernel_rfl,?_,?_,rfl⟩ <;> (rw[ae];omega)
def Tryz.jq (c:ac) (h : -1000<=c.inputs/\c.inputs<=1000):Pure prog 104 [pC c] (dI c.vars):=by
 refine bw func104 rfl ntmps104 fun ok=>?_
 simp only[go_sem,seval] at ok⊢;refine⟨by kernel_rfl,nP (fun _=>⟨bq c h,by simp only[dR,ae,ac.first];omega⟩) ?_⟩;simp only[go_sem,seval];simp only[ae,ac.first,ac.vars,and_true];omega
def Tryz.kU (c:ac) (h1:c.next.length<=1000000/\c.outs.length<=1000000):Pure prog 103 [pC c] (ai c.roots):=by
 refine bw func103 rfl ntmps103 fun ok=>?_
 simp only[go_sem,seval] at ok⊢;refine cg (n:=0) [4,9] (aw [0,1,2,5,6,7,3] (.two 4 (.one 8 (.one 9 (.fst 10 .done))) 8 (.one 4 (.one 9 (.fst 10 .done))))) ?_;simp only[go_sem,seval];simp only[ac.roots,and_true];refine⟨by omega,by omega⟩
def ac.eY (h : ¬ c.Valid):false=decide c.Valid:=by simp[h]
def Tryz.a8 (c:ac):Pure prog 49 [dC c] (.bool (decide c.Valid)):=by
 refine bw func49 rfl ntmps49 fun ok=>?_
 simp only[go_sem,seval] at ok⊢;refine⟨fun h=>ac.eY fun hv=>?_,fun h=>?_⟩
 ·have:=hv.i0;have:=hv.i1;have:=hv.ln;have:=hv.lg;have:=hv.lo;omega
 refine⟨by rw[ae];omega,by rw[ae];omega,?_⟩;have hf:1+c.inputs+(c.next.length:Int)=c.first:=rfl
 have hb:1<=c.first/\c.first<=8:=by omega
 rw[hf];refine ce (E:=env 0) tok (σ:=Nat) (fun i=>[(1,.ptr 0 0),(3,.d (dI c.first)),(42,.d (aO c.gates)),(43,.d (dI c.gates.length)),(44,.d (dI i))]) (fun i=>[.box [.d (dI c.inputs),.d (ai c.next),.d (aO c.gates),.d (ai c.outs)]])
  (fun i=>i<=c.gates.length/\∀ j,j<i->bj (c.gates.getD j (0,0)).1 (c.first+(j:Int))/\bj (c.gates.getD j (0,0)).2 (c.first+(j:Int))) (fun i=>c.gates.length-i) [] 1000 1000 ?_ ?_ ?_
 ·simp only[go_sem,seval]
 ·simp only[go_sem,seval];exact⟨0,⟨by omega,fun j hj=>absurd hj (by omega)⟩,rfl⟩
 ·rintro i ⟨hi,hinv⟩
  repeat' first|assumption|simp (disch:=first|assumption|omega|simp;try omega) only[go_sem,seval]|(with_reducible first|apply aa|intro)|(refine aA (iT _ _ (by omega)) ?_)|(refine io (fun hg=>iT _ _ (by omega)) ?_)|(refine aA (kU c (by omega)) ?_)|(try rw[ae]);omega
  ·exact ac.eY fun hv=>by have:=hv.g i (by omega);unfold bj at this;omega
  ·rename_i h1 h2;refine⟨i+1,⟨by omega,fun j hj=>?_⟩,by omega,rfl⟩;by_cases hji:j=i
   ·subst hji;exact h2
   ·exact hinv j (by omega)
  ·have hg : ∀ j,j<c.gates.length->bj (c.gates.getD j (0,0)).1 (c.first+(j:Int))/\bj (c.gates.getD j (0,0)).2 (c.first+(j:Int)):=fun j hj=>hinv j (by omega)
   clear hinv hi;have hv0:c.first<=c.vars/\c.vars<=22:=by unfold ac.vars;omega
   have hrl:c.roots.length<=6:=by simp[ac.roots];omega
   refine ce (E:=env 0) tok (σ:=Nat) (fun i=>[(1,.ptr 0 0),(66,.d (ai c.roots)),(67,.d (dI c.roots.length)),(68,.d (dI i))]) (fun i=>[.box [.d (dI c.inputs),.d (ai c.next),.d (aO c.gates),.d (ai c.outs)]])
    (fun i=>i<=c.roots.length/\∀ j,j<i->bj (c.roots.getD j 0) c.vars) (fun i=>c.roots.length-i) [] 1000 1000 ?_ ?_ ?_
   ·simp only[go_sem,seval]
   ·simp only[go_sem,seval];exact⟨0,⟨by omega,fun j hj=>absurd hj (by omega)⟩,rfl⟩
   ·rintro i ⟨hi,hinv⟩
    repeat' first|assumption|simp (disch:=first|assumption|omega|simp;try omega) only[go_sem,seval]|(with_reducible first|apply aa|intro)|(refine aA (jq _ (by omega)) ?_)|(refine aA (iT _ _ (by omega)) ?_)|(refine io (fun hg=>iT _ _ (by omega)) ?_)|(try rw[ae]);omega
    ·exact ac.eY fun hv=>by have:=hv.roots _ (aP (z:=0) (show i<c.roots.length by assumption));unfold bj at this;omega
    ·rename_i h1 h2;refine⟨i+1,⟨by omega,fun j hj=>?_⟩,by omega,rfl⟩;by_cases hji:j=i
     ·subst hji;exact h2
     ·exact hinv j (by omega)
    ·have hr : ∀ x∈c.roots,bj x c.vars:=(KE 0).2 fun j hj=>hinv j (by omega)
     have hv:c.Valid:=⟨by omega,by omega,by omega,by omega,by omega,hg,fun x hx=>hr x (List.mem_append.2 (.inl hx)),fun x hx=>hr x (List.mem_append.2 (.inr hx))⟩;simp[hv]

noncomputable instance:DecidableEq ac:=fun _ _=>Classical.propDecidable _
def Tryz.qT (p q:Int×Int):Pure prog 158 [dP p,dP q] (.bool (decide (p=q))):=by
 refine bw func158 rfl ntmps158 fun ok=>?_
 simp only[go_sem,seval] at ok⊢;obtain⟨a,b⟩:=p;obtain⟨c,d⟩:=q;simp only[aH,false_eq_decide_iff,true_eq_decide_iff];exact⟨fun h=>by simp[h],fun h=>⟨fun h2=>by simp[h2],fun h2=>⟨h,h2⟩⟩⟩
def Tryz.od (a b:List (Int×Int)):Pure prog 91 [aO a,aO b] (.bool (decide (a=b))):=by
 refine bw func91 rfl ntmps91 fun ok=>?_
 simp only[go_sem,seval] at ok⊢;refine⟨fun h=>?_,fun hlen=>?_⟩
 ·simp only[false_eq_decide_iff];rintro rfl;exact h rfl
 refine ce (E:=env 0) tok (σ:=Nat) (fun i=>[(0,.d (aO a)),(1,.d (aO b)),(5,.d (dI i))]) (fun _=>[]) (fun i=>i<=a.length/\∀ j,j<i->a.getD j (0,0)=b.getD j (0,0)) (fun i=>a.length-i) [] 1000 1000 ?_ ?_ ?_
 ·simp only[go_sem,seval]
 ·simp only[go_sem,seval];exact⟨0,⟨by omega,by omega⟩,rfl⟩
 ·intro i hi;simp only[go_sem,seval];refine⟨fun h1=>⟨by kernel_rfl,h1,by omega,nP (fun _=>⟨qT _ _,trivial⟩) ?_⟩,fun h1=>?_⟩
  ·simp only[go_sem,seval];refine⟨fun h2=>?_,fun h2=>⟨by rw[ae];omega,i+1,⟨by omega,fun j hj=>?_⟩,by omega,rfl⟩⟩
   ·simp only[false_eq_decide_iff];rintro rfl;exact h2 rfl
   ·by_cases hji:j=i
    ·subst hji;exact h2
    ·exact hi.2 j (by omega)
  ·simp only[true_eq_decide_iff];exact oK (0,0) hlen fun j hj=>hi.2 j (by omega)
def ac.ext' {d:ac}(h1:c.inputs=d.inputs) (h2:c.next=d.next) (h3:c.gates=d.gates) (h4:c.outs=d.outs):c=d:=by cases c;cases d;simp_all
def Tryz.lE (c d:ac):Pure prog 28 [dC c,dC d] (.bool (decide (c=d))):=by
 refine bw func28 rfl ntmps28 fun ok=>?_
 simp only[go_sem,seval] at ok
 repeat' first|assumption|simp (disch:=first|assumption|omega|simp;try omega) only[go_sem,seval]|(with_reducible first|apply aa|intro)|(refine aA (ra _ _) ?_)|(refine aA (od _ _) ?_)|(try rw[ae]);omega
 ·simp only[false_eq_decide_iff];rintro rfl;simp_all
 ·simp only[false_eq_decide_iff];rintro rfl;simp_all
 ·simp only[false_eq_decide_iff];rintro rfl;simp_all
 ·simp only[false_eq_decide_iff];rintro rfl;simp_all
 ·simp only[true_eq_decide_iff];exact ac.ext' (by assumption) (by assumption) (by assumption) (by assumption)
def AN (k:Int) (n:Nat):List (Int×Int):=(List.range n).map fun(j:Nat)=>(k+2*(j:Int),k+2*(j:Int)+1)
def Tryz.l8 (g:Nat) (a:List (Int×Int)) (k:Int) (hk:0<=k/\k+2*a.length<=9000000000000000000) (ha:a.length<=281474976710656) :
  la prog 93 [.sl 0 g 2 0 a.length,.d (dI k)] [.row g 2 true (a.map dP)] (.d (dI (k+2*(a.length:Int)))) [.row g 2 true ((AN k a.length).map dP)]:=by
 refine xU (E:=env 1) tok rfl 1000 func93 rfl rfl ntmps93 (by simp) ?_;simp only[go_sem,seval];refine ce (E:=env 1) tok (σ:=Nat×List (Int×Int)) (fun s=>[(0,.sl 0 g 2 0 a.length),(1,.d (dI (k+2*(s.1:Int)))),(5,.d (dI s.1))]) (fun s=>[.row g 2 true (s.2.map dP)]) (fun s=>s.1<=a.length/\s.2.length=a.length/\∀ (j:Nat),j<s.1->s.2.getD j (0,0)=(k+2*(j:Int),k+2*(j:Int)+1)) (fun s=>a.length-s.1) [] 1000 1000 ?_ ?_ ?_
 ·simp only[go_sem,seval]
 ·simp only[go_sem,seval];exact⟨(0,a),⟨by omega,rfl,fun j hj=>by simp at hj⟩,by simp⟩
 ·rintro⟨i,b⟩ ⟨hi,hb,hinv⟩;simp only at hi hb hinv
  repeat' first|assumption|simp (disch:=first|assumption|omega|simp;try omega) only[go_sem,seval]|(with_reducible first|apply aa|intro)|(try rw[ae]);omega
  ·refine⟨(i+1,b.set i (k+2*(i:Int),k+2*(i:Int)+1)),⟨by omega,by simpa using hb,fun j hj=>?_⟩,by omega,⟨by simp only;omega,rfl⟩,?_⟩
   ·simp only at hj ⊢;by_cases hji:j=i
    ·subst hji;rw[xO _ (by omega)]
    ·rw[zl _ (by omega)];exact hinv j (by omega)
   ·rw[List.set_set,xO _ (by omega)]
  ·refine oK (0,0) (by simpa [AN] using hb) fun j hj=>?_
   rw[hinv j (by omega)];simp[AN,List.getD,show j<a.length by omega]
def Tryz.jW (g1 g2 g3:Nat) (c:ac) (k:Int) (hk:0<=k/\k<=1000000) (h1:c.next.length<=2000000) (h2:c.gates.length<=2000000) (h3:c.outs.length<=2000000) :
  la prog 29 [.agg [.d (dI c.inputs),.sl 0 g1 1 0 c.next.length,.sl 1 g2 2 0 c.gates.length,.sl 2 g3 1 0 c.outs.length],.d (dI k)]
   [.row g1 1 true (c.next.map (D.int .i64)),.row g2 2 true (c.gates.map dP),.row g3 1 true (c.outs.map (D.int .i64))] (.d (dI (k+c.next.length+2*c.gates.length+c.outs.length)))
   [.row g1 1 true (((List.range c.next.length).map fun(j:Nat)=>k+(j:Int)).map (D.int .i64)),.row g2 2 true ((AN (k+c.next.length) c.gates.length).map dP),
    .row g3 1 true (((List.range c.outs.length).map fun(j:Nat)=>k+c.next.length+2*c.gates.length+(j:Int)).map (D.int .i64))]:=by
 refine xU (E:=env 3) tok rfl 1000 func29 rfl rfl ntmps29 (by simp) ?_;simp only[go_sem,seval];refine uM (je g1 c.next k (by omega) (by omega)) [0] (by simp only[go_sem,seval]) ?_;simp only[go_sem,seval];refine uM (l8 g2 c.gates (k+c.next.length) (by omega) (by omega)) [1] (by simp only[go_sem,seval]) ?_;simp only[go_sem,seval];refine uM (je g3 c.outs (k+c.next.length+2*c.gates.length) (by omega) (by omega)) [2] (by simp only[go_sem,seval]) ?_;simp only[go_sem,seval]

def IA (h1:i<n) (h2:P i) (hinv : ∀ j,j<i->P j) : ∃ s',(s'<=n/\∀ j,j<s'->P j)/\n-s'<n-i/\i+1=s':=
 ⟨i+1,⟨by omega,fun j hj=>by
  by_cases h:j=i
  ·subst h;exact h2
  ·exact hinv j (by omega)⟩,by omega,rfl⟩

def flip (x:Int):Int:=if x%2=0 then x+1 else x-1
def O8 : ∀ m:Nat,m ^^^ 1=if m%2=0 then m+1 else m-1:=by
 intro m;have h:=Nat.div_add_mod m 2;have hm:m%2<2:=Nat.mod_lt _ (by omega);apply Nat.eq_of_testBit_eq;intro i;rw[Nat.testBit_xor];cases i with
 | zero=>
  simp only[Nat.testBit_zero];rcases Nat.mod_two_eq_zero_or_one m with h2|h2
  ·rw[if_pos h2,show(m+1)%2=1 by omega,h2];rfl
  ·rw[if_neg (by omega),show(m-1)%2=0 by omega,h2];rfl
 | succ i=>
  have e1:Nat.testBit 1 (i+1)=false:=by simp[Nat.testBit_succ]
  rw[e1,Bool.xor_false,Nat.testBit_succ,Nat.testBit_succ];congr 1;split <;> omega
def pZ (h:0<=x):((x.toNat ^^^ (1:Int).toNat:Nat):Int)=flip x:=by
 rw[show(1:Int).toNat=1 from rfl,O8,flip];split <;> split <;> omega
def sw {n:Int}(h:0<=x/\x<2*n):0<=flip x/\flip x<2*n:=by unfold flip;split <;> omega
def iI (l:List (Int×Int)) (p:Int×Int):Nat:=l.findIdx (fun q=>decide (q=p))
def y5 (h:p∈l):iI l p<l.length:=List.findIdx_lt_length_of_exists ⟨p,h,by simp⟩
structure dm where
 first:Nat
 gates:List (Int×Int)
 levels:List Int
variable {b:dm}
def cf (x y:Int):Int:=if x > y then y else x
def bW (x y:Int):Int:=if x > y then x else y
def gz (first:Nat) (gates:List (Int×Int)) (x y:Int):List (Int×Int)×Int:=
 if cf x y=0∨cf x y=flip (bW x y) then(gates,0)
 else if cf x y=1∨cf x y=bW x y then(gates,bW x y)
 else if(cf x y,bW x y)∈gates then(gates,2*((first:Int)+(iI gates (cf x y,bW x y):Nat)))
 else(gates ++ [(cf x y,bW x y)],2*((first:Int)+(gates.length:Nat)))
def dm.and (b:dm) (x y:Int):dm×Int:=
 (⟨b.first,(gz b.first b.gates x y).1,if(gz b.first b.gates x y).1.length=b.gates.length then b.levels else b.levels ++ [1+max (b.levels.getD (cf x y/2).toNat 0) (b.levels.getD (bW x y/2).toNat 0)]⟩,(gz b.first b.gates x y).2)
structure dm.Ok (b:dm):Prop where
 fst:1<=b.first
 len:b.levels.length=b.first+b.gates.length
 lev : ∀ l∈b.levels,0<=l/\l<b.levels.length
 fj:b.first+b.gates.length<=1000000
def lW (first:Nat):Nat->List (Int×Int)->List (D×D)
 | _,[]=>[]
 | i,g::r=>(dP g,dI (2*((first:Int)+(i:Int))))::lW first (i+1) r
def Gh (first:Nat) (g:Int×Int) : ∀ (l:List (Int×Int)) (i:Nat),lW first i (l ++ [g])=lW first i l ++ [(dP g,dI (2*((first:Int)+((i+l.length:Nat):Int))))]
 | [],i=>by simp[lW]
 | x::r,i=>by
  simp only[List.cons_append,lW,Gh first g r (i+1),cU];congr 5;omega
def GJ (first:Nat) (p:Int×Int) : ∀ (l:List (Int×Int)) (i:Nat),fX (lW first i l) (dP p)=if p∈l then some (dI (2*((first:Int)+((i+iI l p:Nat):Int)))) else none
 | [],i=>rfl
 | x::r,i=>by
  have ih:=GJ first p r (i+1)
  simp only[lW,fX,ih];obtain⟨p1,p2⟩:=p;obtain⟨x1,x2⟩:=x;simp only[dP,Mv];by_cases h:p1=x1/\p2=x2
  ·obtain⟨rfl,rfl⟩:=h;simp[iI,List.findIdx_cons]
  ·have h' : ¬ (x1,x2)=(p1,p2):=fun e=>h (by simp at e;exact⟨e.1.symm,e.2.symm⟩)
   have h2 : ¬ (p1,p2)=(x1,x2):=fun e=>h' e.symm
   simp only[decide_eq_true_eq,h,if_false,jP,h2,false_or];split
   ·congr 4;simp only[iI,List.findIdx_cons,h',decide_false,cond_false];omega
   ·rfl
def Ii (first:Nat) {fs:List (Nat×Nat)}(hf:fs.length=2) : ∀ (l:List (Int×Int)) (i:Nat),jL (.struct fs) (lW first i l)
 | [],i=>trivial
 | x::r,i=>⟨⟨by simp[hf],rfl,rfl,trivial⟩,Ii first hf r (i+1)⟩
def Ft {first:Nat}{gates:List (Int×Int)}(h:fX (lW first 0 gates) (.agg [dI p.1,dI p.2])=none) :
  cw (lW first 0 gates) (.agg [dI p.1,dI p.2]) (dI (2*((first:Int)+(gates.length:Nat))))=lW first 0 (gates ++ [p]):=by
 rw[KB h,Gh];simp[dP]
def bH (b:dm):List R:=[.box [.d (dI b.first),.sl 1 b.gates.length 2 0 b.gates.length,.sl 2 b.gates.length 1 0 (b.first+b.gates.length),.map 3],.row b.gates.length 2 true (b.gates.map dP),.row b.gates.length 1 true (b.levels.map (D.int .i64)),.map (lW b.first 0 b.gates)]
def dm.new (n:Nat):dm:=⟨n,[],List.replicate n 0⟩
def dm.fl (b:dm) (x y:Int):((cf x y=0∨cf x y=flip (bW x y))/\b.and x y=(b,0))∨
  (¬ (cf x y=0∨cf x y=flip (bW x y))/\(cf x y=1∨cf x y=bW x y)/\b.and x y=(b,bW x y))∨
  (¬ (cf x y=0∨cf x y=flip (bW x y))/\¬ (cf x y=1∨cf x y=bW x y)/\(cf x y,bW x y)∈b.gates/\b.and x y=(b,2*((b.first:Int)+(iI b.gates (cf x y,bW x y):Nat))))∨
  (¬ (cf x y=0∨cf x y=flip (bW x y))/\¬ (cf x y=1∨cf x y=bW x y)/\(cf x y,bW x y)∉b.gates/\
   b.and x y=(⟨b.first,b.gates ++ [(cf x y,bW x y)],b.levels ++ [1+max (b.levels.getD (cf x y/2).toNat 0) (b.levels.getD (bW x y/2).toNat 0)]⟩,2*((b.first:Int)+(b.gates.length:Nat)))):=by
 unfold dm.and gz;by_cases h1:cf x y=0∨cf x y=flip (bW x y)
 ·left;simp only[if_pos h1,if_true];exact⟨h1,trivial⟩
 ·right;by_cases h2:cf x y=1∨cf x y=bW x y
  ·left;simp only[if_neg h1,if_pos h2,if_true];exact⟨h1,h2,trivial⟩
  ·right;by_cases h3:(cf x y,bW x y)∈b.gates
   ·left;simp only[if_neg h1,if_neg h2,if_pos h3,if_true];exact⟨h1,h2,h3,trivial⟩
   ·right;simp only[if_neg h1,if_neg h2,if_neg h3,cr,mr];exact⟨h1,h2,h3,by rw[if_neg (by omega)]⟩
def dm.qi (b:dm) (hb:b.Ok) (x y:Int):0<=max (b.levels.getD (x/2).toNat 0) (b.levels.getD (y/2).toNat 0)/\max (b.levels.getD (x/2).toNat 0) (b.levels.getD (y/2).toNat 0)<=1000000:=by
 have hg : ∀ k,0<=b.levels.getD k 0/\b.levels.getD k 0<=1000000:=by
  intro k;have:=hb.len;have:=hb.fj;by_cases hk:k<b.levels.length
  ·have:=hb.lev _ (aP (z:=0) hk);omega
  ·rw[List.getD_eq_getElem?_getD,List.getElem?_eq_none (by omega)];simp
 have h1:=hg (x/2).toNat;have h2:=hg (y/2).toNat;omega
def dm.u5 (hb:b.Ok) (x y:Int) (hl:b.first+b.gates.length+1<=1000000):(b.and x y).1.Ok/\b.gates.length<=(b.and x y).1.gates.length/\(b.and x y).1.gates.length<=b.gates.length+1/\(b.and x y).1.first=b.first:=by
 rcases b.fl x y with⟨_,h⟩|⟨_,_,h⟩|⟨_,_,_,h⟩|⟨_,_,_,h⟩
 ·rw[h];exact⟨hb,by simp,by simp,rfl⟩
 ·rw[h];exact⟨hb,by simp,by simp,rfl⟩
 ·rw[h];exact⟨hb,by simp,by simp,rfl⟩
 ·rw[h];refine⟨⟨hb.fst,by simp[hb.len];omega,?_,by simp;omega⟩,by simp,by simp,rfl⟩;have hg : ∀ k,0<=b.levels.getD k 0/\(b.levels.getD k 0<b.levels.length∨b.levels.getD k 0=0):=by
   intro k;by_cases hk:k<b.levels.length
   ·have:=hb.lev _ (aP (z:=0) hk);exact⟨this.1,.inl this.2⟩
   ·rw[List.getD_eq_getElem?_getD,List.getElem?_eq_none (by omega)];exact⟨by simp,.inr rfl⟩
  intro l hl;simp only[fV,mv] at hl;simp only[cr,mr];have:=hb.len;have:=hb.fst;rcases hl with hl|rfl
  ·have:=hb.lev l hl;omega
  ·have h1:=hg (cf x y/2).toNat;have h2:=hg (bW x y/2).toNat;omega
def bN (b:dm):List R:=[.row b.gates.length 1 true (b.levels.map (D.int .i64)),.map (lW b.first 0 b.gates),.box [.d (dI b.first),.sl 3 b.gates.length 2 0 b.gates.length,.sl 0 b.gates.length 1 0 (b.first+b.gates.length),.map 1],.row b.gates.length 2 true (b.gates.map dP)]
def dm.vu (h:1<=n/\n<=100000):(dm.new n).Ok:=by
 refine⟨h.1,by simp[dm.new],?_,by simp[dm.new];omega⟩;intro l hl;simp only[dm.new,List.mem_replicate] at hl;simp only[dm.new,mB];omega
def Tryz.kM (i l:Nat) (h:i+l<=1000):la prog 105 [.d (dI i),.d (dI l)] [] (.ptr 2 0) (bN (dm.new (1+i+l))):=by
 refine jp (E:=env 0) tok rfl 1000 func105 rfl rfl ntmps105 (by simp) ?_;simp only[go_sem,seval];have e:(1+(i:Int)+(l:Int)).toNat=1+i+l:=by omega
 refine⟨by rw[ae];omega,by rw[ae];omega,⟨by omega,by omega⟩,OI [(2,1,2,true)] (by simp only[go_sem,seval]) (tE ⟨rfl,?_⟩)⟩;have e2:((1+i+l:Nat):Int)=1+(i:Int)+(l:Int):=by omega
 rw[e];simp only[go_sem,seval,e2,bN,dm.new,lW,fm,mB,ms]
def Tryz.zK (b:dm) (hb:b.Ok) (x y:Int) (hx:0<=x/\x<2*((b.first+b.gates.length:Nat):Int)) (hy:0<=y/\y<2*((b.first+b.gates.length:Nat):Int)) :
  la prog 107 [.ptr 0 0,.d (dI x),.d (dI y)] (bH b) (.d (dI (b.and x y).2)) (bH (b.and x y).1):=by
 refine xU (E:=env 4) tok rfl 1000 func107 rfl rfl ntmps107 (by simp) ?_;have hks:jL (.struct [(0,3),(1,3)]) (lW b.first 0 b.gates):=Ii b.first rfl b.gates 0
 have hlim:=hb.fj;have hll:=hb.len;have hx1:((x.toNat ^^^ 1:Nat):Int)=flip x:=pZ hx.1;have hy1:((y.toNat ^^^ 1:Nat):Int)=flip y:=pZ hy.1;have hf : ∀ p:Int×Int,fX (lW b.first 0 b.gates) (.agg [dI p.1,dI p.2])=if p∈b.gates then some (dI (2*((b.first:Int)+(iI b.gates p:Nat)))) else none:=by
  intro p;have:=GJ b.first p b.gates 0
  simpa [dP] using this
 have hfx:=hf (x,y);have hfy:=hf (y,x);have hix:=y5 (l:=b.gates) (p:=(x,y));have hiy:=y5 (l:=b.gates) (p:=(y,x));unfold bH;by_cases hxy:y<x
 ·have e1:cf x y=y:=if_pos hxy;have e2:bW x y=x:=if_pos hxy;have hc:=b.fl x y;rw[e1,e2] at hc;rcases hc with⟨hc,hq⟩|⟨hc,hc2,hq⟩|⟨hc,hc2,hc3,hq⟩|⟨hc,hc2,hc3,hq⟩
  ·rw[hq];simp only[go_sem,seval,hxy,hx1,hy1]
   repeat' first|assumption|simp (disch:=first|assumption|omega|simp;try omega) only[];try simp only[go_sem,seval,hx1,hy1]|(with_reducible first|apply aa|intro)|exact ah|(try rw[ae]);omega
  ·rw[hq];simp only[go_sem,seval,hxy,hx1,hy1]
   repeat' first|assumption|simp (disch:=first|assumption|omega|simp;try omega) only[];try simp only[go_sem,seval,hx1,hy1]|(with_reducible first|apply aa|intro)|exact ah|(try rw[ae]);omega
  ·rw[hq,if_pos hc3] at *;simp only[go_sem,seval,hxy,hx1,hy1,hfy]
   repeat' first|assumption|simp (disch:=first|assumption|omega|simp;try omega) only[];try simp only[go_sem,seval,hx1,hy1,hfy]|(with_reducible first|apply aa|intro)|exact ah|(try rw[ae]);omega
  ·rw[hq,if_neg hc3] at *
   have hup:=Ft hfy;have hlv:=b.qi hb y x;simp only[go_sem,seval,hxy,hx1,hy1,hfy]
   repeat' first|assumption|simp (disch:=first|assumption|omega|simp;try omega) only[];try simp only[go_sem,seval,hx1,hy1,hfy]|(with_reducible first|apply aa|intro)|exact ah|(try rw[ae]);omega
   refine cg (n:=4) [6] (aw [0,1,2,5,3,4] (.one 6 .done)) ?_;simp only[go_sem,seval,hup]
   repeat' first|assumption|simp (disch:=first|assumption|omega|simp;try omega) only[];try simp only[go_sem,seval,hup]|(with_reducible first|apply aa|intro)|exact ah|(try rw[ae]);omega
   refine cg (n:=4) [7,10] (aw [0,1,2,3,4,5] (.one 6 (.one 7 (aw [8,9] (.one 10 .done))))) ?_;simp only[go_sem,seval,hup]
   repeat' first|assumption|simp (disch:=first|assumption|omega|simp;try omega) only[];try simp only[go_sem,seval,hup]|(with_reducible first|apply aa|intro)|exact ah|(try rw[ae]);omega
   refine cg (n:=4) [24,27] (aw [0,1,2,3,5,6,7,9,10,13,14,15,17,18,4,8,11,12,16,19,20,21,22] (.one 23 (.one 24 (aw [25,26] (.one 27 .done))))) ?_;simp only[go_sem,seval,hup]
   repeat' first|assumption|simp (disch:=first|assumption|omega|simp;try omega) only[];try simp only[go_sem,seval,hup]|(with_reducible first|apply aa|intro)|exact ah|(try rw[ae]);omega
   rw[jy]
 ·have e1:cf x y=x:=if_neg hxy;have e2:bW x y=y:=if_neg hxy;have hc:=b.fl x y;rw[e1,e2] at hc;rcases hc with⟨hc,hq⟩|⟨hc,hc2,hq⟩|⟨hc,hc2,hc3,hq⟩|⟨hc,hc2,hc3,hq⟩
  ·rw[hq];simp only[go_sem,seval,hxy,hx1,hy1]
   repeat' first|assumption|simp (disch:=first|assumption|omega|simp;try omega) only[];try simp only[go_sem,seval,hx1,hy1]|(with_reducible first|apply aa|intro)|exact ah|(try rw[ae]);omega
  ·rw[hq];simp only[go_sem,seval,hxy,hx1,hy1]
   repeat' first|assumption|simp (disch:=first|assumption|omega|simp;try omega) only[];try simp only[go_sem,seval,hx1,hy1]|(with_reducible first|apply aa|intro)|exact ah|(try rw[ae]);omega
  ·rw[hq,if_pos hc3] at *;simp only[go_sem,seval,hxy,hx1,hy1,hfx]
   repeat' first|assumption|simp (disch:=first|assumption|omega|simp;try omega) only[];try simp only[go_sem,seval,hx1,hy1,hfx]|(with_reducible first|apply aa|intro)|exact ah|(try rw[ae]);omega
  ·rw[hq,if_neg hc3] at *
   have hup:=Ft hfx;have hlv:=b.qi hb x y;simp only[go_sem,seval,hxy,hx1,hy1,hfx]
   repeat' first|assumption|simp (disch:=first|assumption|omega|simp;try omega) only[];try simp only[go_sem,seval,hx1,hy1,hfx]|(with_reducible first|apply aa|intro)|exact ah|(try rw[ae]);omega
   refine cg (n:=4) [6] (aw [0,1,2,5,3,4] (.one 6 .done)) ?_;simp only[go_sem,seval,hup]
   repeat' first|assumption|simp (disch:=first|assumption|omega|simp;try omega) only[];try simp only[go_sem,seval,hup]|(with_reducible first|apply aa|intro)|exact ah|(try rw[ae]);omega
   refine cg (n:=4) [7,10] (aw [0,1,2,3,4,5] (.one 6 (.one 7 (aw [8,9] (.one 10 .done))))) ?_;simp only[go_sem,seval,hup]
   repeat' first|assumption|simp (disch:=first|assumption|omega|simp;try omega) only[];try simp only[go_sem,seval,hup]|(with_reducible first|apply aa|intro)|exact ah|(try rw[ae]);omega
   refine cg (n:=4) [24,27] (aw [0,1,2,3,5,6,7,9,10,13,14,15,17,18,4,8,11,12,16,19,20,21,22] (.one 23 (.one 24 (aw [25,26] (.one 27 .done))))) ?_;simp only[go_sem,seval,hup]
   repeat' first|assumption|simp (disch:=first|assumption|omega|simp;try omega) only[];try simp only[go_sem,seval,hup]|(with_reducible first|apply aa|intro)|exact ah|(try rw[ae]);omega
   rw[jy]
def dm.xor (b:dm) (x y:Int):dm×Int:=
 let p:=b.and x y
 let q:=p.1.and (flip x) (flip y)
 q.1.and (flip p.2) (flip q.2)
def dm.sN (hb:b.Ok) (hx:0<=x/\x<2*((b.first+b.gates.length:Nat):Int)) (hy:0<=y/\y<2*((b.first+b.gates.length:Nat):Int)) :
  0<=(b.and x y).2/\(b.and x y).2<2*(((b.and x y).1.first+(b.and x y).1.gates.length:Nat):Int):=by
 have:=hb.fst;have hh:0<=bW x y/\bW x y<2*((b.first+b.gates.length:Nat):Int):=by unfold bW;split <;> assumption
 rcases b.fl x y with⟨_,h⟩|⟨_,_,h⟩|⟨_,_,h3,h⟩|⟨_,_,_,h⟩
 ·rw[h];simp only;omega
 ·rw[h];simp only;omega
 ·rw[h];have:=y5 h3;simp only;omega
 ·rw[h];simp only[cr,mr];omega

def u6 (c:ac) (rows:List (List Bool)):Prop:=c.Valid/\rows.length<=40/\∀ r∈rows,(r.length:Int)=c.inputs
noncomputable instance (c:ac) (rows:List (List Bool)):Decidable (u6 c rows):=Classical.propDecidable _
def xE (c:ac) (rows:List (List Bool)):Nat->List Bool
 | 0=>List.replicate c.next.length false
 | i+1=>rj (values c (xE c rows i) (rows.getD i [])) c.next

def Dz (h1:i<n) (h2:P i) (hinv : ∀ j,j<i->P j) : ∃ s',(s'<=n/\∀ j,j<s'->P j)/\n-s'<n-i/\i+1=s':=
 ⟨i+1,⟨by omega,fun j hj=>by
  by_cases h:j=i
  ·subst h;exact h2
  ·exact hinv j (by omega)⟩,by omega,rfl⟩
def yQ {l:List α}{P : α->Prop}{d:Decidable (∀ x∈l,P x)}(z : α) (h1:i<l.length) (h : ¬ P (l.getD i z)):false=decide (∀ x∈l,P x):=by
 rw[eq_comm,decide_eq_false_iff_not];exact fun h2=>h (h2 _ (aP h1))
def wB {l:List α}{P : α->Prop}{d:Decidable (∀ x∈l,P x)}(z : α) (h : ∀ j,j<l.length->P (l.getD j z)):true=decide (∀ x∈l,P x):=by
 rw[eq_comm,decide_eq_true_eq];exact(KE z).2 h
def Tryz.ba (c:ac) (h : -1000<=c.inputs/\c.inputs<=1000):Pure prog 135 [dC c] (dI c.first):=by
 refine bw func135 rfl ntmps135 fun ok=>?_
 simp only[go_sem,seval] at ok
 repeat' first|assumption|simp (disch:=first|assumption|omega|simp;try omega) only[go_sem,seval]|(with_reducible first|apply aa|intro)|(try rw[ae]);omega
 unfold ac.first
 omega
def Tryz.jl (l:List Int) (n:Int) (hn:0<=n/\n<=1000):Pure prog 136 [ai l,dI n] (.bool (decide (∀ x∈l,bj x n))):=by
 refine bw func136 rfl ntmps136 fun ok=>?_
 simp only[go_sem,seval] at ok⊢;refine ce (E:=env 0) tok (σ:=Nat) (fun i=>[(0,.d (ai l)),(1,.d (dI n)),(5,.d (dI i))]) (fun _=>[]) (fun i=>i<=l.length/\∀ j,j<i->bj (l.getD j 0) n) (fun i=>l.length-i) [] 1000 1000 ?_ ?_ ?_
 ·simp only[go_sem,seval]
 ·simp only[go_sem,seval];exact⟨0,⟨by omega,fun j hj=>absurd hj (by omega)⟩,rfl⟩
 ·rintro i ⟨hi,hinv⟩
  repeat' first|assumption|simp (disch:=first|assumption|omega|simp;try omega) only[go_sem,seval]|(with_reducible first|apply aa|intro)|(refine aA (gX _ _ _) ?_)|(try rw[ae]);omega
  ·rename_i h1 h2;exact yQ 0 h1 (by unfold bj;omega)
  ·rename_i h1 h2;exact Dz h1 (by unfold bj;omega) hinv
  ·exact wB 0 fun j hj=>hinv j (by omega)
def Tryz.cR (c:ac):Pure prog 72 [dC c] (.bool (decide c.Valid)):=by
 refine bw func72 rfl ntmps72 fun ok=>?_
 simp only[go_sem,seval] at ok⊢;refine aA (gX _ _ _) ?_;simp only[go_sem,seval];refine⟨fun h=>ac.eY fun hv=>?_,fun h=>?_⟩
 ·have:=hv.i0;have:=hv.i1;have:=hv.ln;have:=hv.lg;have:=hv.lo;omega
 refine aA (ba c (by omega)) ?_;have hb:1<=c.first/\c.first<=8:=by unfold ac.first;omega
 simp only[go_sem,seval];refine ce (E:=env 0) tok (σ:=Nat) (fun i=>[(1,.ptr 0 0),(3,.d (dI c.first)),(4,.d (dI i))]) (fun i=>[.box [.d (dI c.inputs),.d (ai c.next),.d (aO c.gates),.d (ai c.outs)]])
  (fun i=>i<=c.gates.length/\∀ j,j<i->bj (c.gates.getD j (0,0)).1 (c.first+(j:Int))/\bj (c.gates.getD j (0,0)).2 (c.first+(j:Int))) (fun i=>c.gates.length-i) [] 1000 1000 ?_ ?_ ?_
 ·simp only[go_sem,seval]
 ·simp only[go_sem,seval];exact⟨0,⟨by omega,fun j hj=>absurd hj (by omega)⟩,rfl⟩
 ·rintro i ⟨hi,hinv⟩;simp only[go_sem,seval];have hv0:c.vars=c.first+c.gates.length:=rfl
  refine⟨fun hlt=>?_,fun hge=>?_⟩
  ·refine cg (n:=0) [] (aw [0,2,6,8,13,14,15,1,3,4,5,7,9,10,11] (.one 12 (.one 16 (.fst 17 .done)))) ?_
   repeat' first|assumption|simp (disch:=first|assumption|omega|simp;try omega) only[go_sem,seval]|(with_reducible first|apply aa|intro)|(refine aA (jl [_,_] _ (by omega)) ?_)|(try rw[ae]);omega
   ·rename_i h2;exact ac.eY fun hv=>h2 (hv.g i hlt)
   ·rename_i h2;exact Dz hlt h2 hinv
  ·repeat' first|assumption|simp (disch:=first|assumption|omega|simp;try omega) only[go_sem,seval]|(with_reducible first|apply aa|intro)|(refine aA (jl _ _ (by omega)) ?_)|(refine io (fun hg=>jl _ _ (by omega)) ?_)|(try rw[ae]);omega
   rw[Bool.eq_iff_iff];simp only[gN,decide_eq_true_eq];refine⟨fun⟨q1,q2⟩=>⟨by omega,by omega,by omega,by omega,by omega,fun j hj=>hinv j (by omega),q1,q2⟩,fun hv=>⟨hv.n,hv.o⟩⟩
def Tryz.qJ (l:List Int) (hl:l.length<=1048576):Pure prog 87 [ai l] (ai l):=by
 refine bw func87 rfl ntmps87 fun ok=>?_
 simp only[go_sem,seval] at ok⊢;refine⟨by omega,?_⟩;refine ce (E:=env 0) tok (σ:=Nat×List Int) (fun s=>[(0,.d (ai l)),(3,.sl 0 0 1 0 l.length),(4,.d (dI s.1))]) (fun s=>[.row 0 1 true (s.2.map (D.int .i64))]) (fun s=>s.1<=l.length/\s.2.length=l.length/\∀ j,j<s.1->s.2.getD j 0=l.getD j 0) (fun s=>l.length-s.1) [] 1000 1000 ?_ ?_ ?_
 ·simp only[go_sem,seval]
 ·simp only[go_sem,seval];exact⟨(0,List.replicate l.length 0),⟨by omega,by simp,fun j hj=>absurd hj (by simp)⟩,by simp⟩
 ·rintro⟨i,b⟩ ⟨hi,hb,hinv⟩;simp only at hi hb hinv
  repeat' first|assumption|simp (disch:=first|assumption|omega|simp;try omega) only[go_sem,seval]|(with_reducible first|apply aa|intro)|(try rw[ae]);omega
  ·refine⟨(i+1,b.set i (l.getD i 0)),⟨by omega,by simpa using hb,fun j hj=>?_⟩,by omega,rfl,rfl⟩;simp only at hj ⊢;by_cases hji:j=i
   ·subst hji;rw[xO _ (by omega)]
   ·rw[zl _ (by omega)];exact hinv j (by omega)
  ·exact oK 0 hb fun j hj=>hinv j (by omega)
def Tryz.lF (l:List Int) (k:Int) (hk:0<=k/\k<=1048576):Pure prog 83 [ai l,dI k] (dI (if k<l.length then -1 else k-(l.length:Int))):=by
 refine bw func83 rfl ntmps83 fun ok=>?_
 simp only[go_sem,seval] at ok⊢;refine⟨by rw[ae];omega,fun h=>?_,fun h=>?_⟩
 ·rw[if_pos (by omega)]
 ·rw[if_neg (by omega)]
def Tryz.pK (p:Int×Int):Pure prog 155 [dP p] (dP p):=by
 refine bw func155 rfl ntmps155 fun ok=>?_
 simp only[go_sem,seval] at ok
 repeat' first|assumption|simp (disch:=first|assumption|omega|simp;try omega) only[go_sem,seval]|(with_reducible first|apply aa|intro)|(try rw[ae]);omega
def Tryz.n5 (l:List (Int×Int)) (hl:l.length<=1048576):Pure prog 88 [aO l] (aO l):=by
 refine bw func88 rfl ntmps88 fun ok=>?_
 simp only[go_sem,seval] at ok⊢;refine⟨by omega,?_⟩;refine ce (E:=env 0) tok (σ:=Nat×List (Int×Int)) (fun s=>[(0,.d (aO l)),(3,.sl 0 0 2 0 l.length),(4,.d (dI s.1))]) (fun s=>[.row 0 2 true (s.2.map dP)]) (fun s=>s.1<=l.length/\s.2.length=l.length/\∀ j,j<s.1->s.2.getD j (0,0)=l.getD j (0,0)) (fun s=>l.length-s.1) [] 1000 1000 ?_ ?_ ?_
 ·simp only[go_sem,seval]
 ·simp only[go_sem,seval];exact⟨(0,List.replicate l.length (0,0)),⟨by omega,by simp,fun j hj=>absurd hj (by simp)⟩,by simp⟩
 ·rintro⟨i,b⟩ ⟨hi,hb,hinv⟩;simp only at hi hb hinv
  repeat' first|assumption|simp (disch:=first|assumption|omega|simp;try omega) only[go_sem,seval]|(with_reducible first|apply aa|intro)|(refine aA (pK _) ?_)|(try rw[ae]);omega
  ·refine⟨(i+1,b.set i (l.getD i (0,0))),⟨by omega,by simpa using hb,fun j hj=>?_⟩,by omega,rfl,rfl⟩;simp only at hj ⊢;by_cases hji:j=i
   ·subst hji;rw[xO _ (by omega)]
   ·rw[zl _ (by omega)];exact hinv j (by omega)
  ·exact oK (0,0) hb fun j hj=>hinv j (by omega)
def Tryz.lL (c:ac) (h1:c.next.length<=1048576) (h2:c.gates.length<=1048576) (h3:c.outs.length<=1048576):Pure prog 25 [dC c] (dC c):=by
 refine bw func25 rfl ntmps25 fun ok=>?_
 simp only[go_sem,seval] at ok
 repeat' first|assumption|simp (disch:=first|assumption|omega|simp;try omega) only[go_sem,seval]|(with_reducible first|apply aa|intro)|(refine lu (qJ _ (by omega)) ?_)|(refine lu (n5 _ (by omega)) ?_)|(try rw[ae]);omega
def Tryz.ol (l:List (Int×Int)) (k:Int) (hk:0<=k/\k<=1048576):Pure prog 84 [aO l,dI k] (dI (if k<l.length then -1 else k-(l.length:Int))):=by
 refine bw func84 rfl ntmps84 fun ok=>?_
 simp only[go_sem,seval] at ok⊢;refine⟨by rw[ae];omega,fun h=>?_,fun h=>?_⟩
 ·rw[if_pos (by omega)]
 ·rw[if_neg (by omega)]

structure Ot where
 b:dm
 carry:Int
 outs:List Int
def rq (b:dm):List R:=[.row b.gates.length 1 true (b.levels.map (D.int .i64)),.map (lW b.first 0 b.gates),.box [.d (dI b.first),.sl 4 b.gates.length 2 0 b.gates.length,.sl 1 b.gates.length 1 0 (b.first+b.gates.length),.map 2],.row b.gates.length 2 true (b.gates.map dP)]
structure MJ (n i:Nat) (s:Ot):Prop where
 ok:s.b.Ok
 fst:s.b.first=1+2*n
 len:s.b.gates.length<=9*i
 c:0<=s.carry/\s.carry<2*((s.b.first+s.b.gates.length:Nat):Int)
 o:s.outs.length=i
def dm.lit (b:dm) (x:Int):Prop:=0<=x/\x<2*((b.first+b.gates.length:Nat):Int)
def aj (c:ac):Nat:=c.inputs.toNat+c.next.length+1
def dO (c:ac) (a b:Int):ac×Int:=(⟨c.inputs,c.next,(gz (aj c) c.gates a b).1,c.outs⟩,(gz (aj c) c.gates a b).2)
def Cu (c:ac) (x y:Int):((cf x y=0∨cf x y=flip (bW x y))/\dO c x y=(c,0))∨
  (¬ (cf x y=0∨cf x y=flip (bW x y))/\(cf x y=1∨cf x y=bW x y)/\dO c x y=(c,bW x y))∨
  (¬ (cf x y=0∨cf x y=flip (bW x y))/\¬ (cf x y=1∨cf x y=bW x y)/\
   (
    ((cf x y,bW x y)∈c.gates/\dO c x y=(c,2*((aj c:Int)+(iI c.gates (cf x y,bW x y):Nat))))∨
    ((cf x y,bW x y)∉c.gates/\dO c x y=(⟨c.inputs,c.next,c.gates ++ [(cf x y,bW x y)],c.outs⟩,2*((aj c:Int)+(c.gates.length:Nat)))))):=by
 unfold dO gz;by_cases h1:cf x y=0∨cf x y=flip (bW x y)
 ·left;simp only[if_pos h1,if_true];exact⟨h1,trivial⟩
 ·right;by_cases h2:cf x y=1∨cf x y=bW x y
  ·left;simp only[if_neg h1,if_pos h2,if_true];exact⟨h1,h2,trivial⟩
  ·right;by_cases h3:(cf x y,bW x y)∈c.gates
   ·simp only[if_neg h1,if_neg h2,if_pos h3];exact⟨h1,h2,.inl ⟨h3,trivial⟩⟩
   ·simp only[if_neg h1,if_neg h2,if_neg h3];exact⟨h1,h2,.inr ⟨h3,trivial⟩⟩
def Kz (hi:i<l.length) (h:l.getD i (0,0)=p) (hn : ∀ j,j<i->l.getD j (0,0)≠p):iI l p=i:=by
 unfold iI;rw[List.findIdx_eq hi];refine⟨by simpa [List.getD,hi] using h,fun j hj=>?_⟩;have:=hn j hj;simpa [List.getD,show j<l.length by omega] using this
def Bl:p∈l↔∃ i,i<l.length/\l.getD i (0,0)=p:=by
 rw[List.mem_iff_getElem];constructor
 ·rintro⟨i,h,e⟩;exact⟨i,h,by simpa [List.getD,h] using e⟩
 ·rintro⟨i,h,e⟩;exact⟨i,h,by simpa [List.getD,h] using e⟩
structure Mk (c:ac):Prop where
 i:0<=c.inputs/\c.inputs<=1000
 n:c.next.length<=1000
def oc (c:ac) (x:Int):Prop:=0<=x/\x<2*((aj c+c.gates.length:Nat):Int)
def tp (h:Mk c) (hx:oc c x) (hy:oc c y):Mk (dO c x y).1/\aj (dO c x y).1=aj c/\c.gates.length<=(dO c x y).1.gates.length/\(dO c x y).1.gates.length<=c.gates.length+1/\oc (dO c x y).1 (dO c x y).2:=by
 have hh:oc c (bW x y):=by unfold bW;split <;> assumption
 have hp:1<=aj c:=by unfold aj;omega
 unfold oc at *
 rcases Cu c x y with⟨_,q⟩|⟨_,_,q⟩|⟨_,_,⟨hm,q⟩|⟨_,q⟩⟩
 ·rw[q];exact⟨h,rfl,by simp,by simp,by simp only;omega⟩
 ·rw[q];exact⟨h,rfl,by simp,by simp,by simp only;omega⟩
 ·rw[q];have:=y5 hm;exact⟨h,rfl,by simp,by simp,by simp only;omega⟩
 ·rw[q];exact⟨⟨h.i,h.n⟩,rfl,by simp,by simp,by
   simp only[cr,mr];have e:aj ⟨c.inputs,c.next,c.gates ++ [(cf x y,bW x y)],c.outs⟩=aj c:=rfl;rw[e];omega⟩

def rQ (x:Int):Prop:=0<=x/\x<=2
instance (x:Int):Decidable (rQ x):=by unfold rQ;infer_instance
def lZ (l:List Int):Prop:=∀ x∈l,rQ x
noncomputable instance (l:List Int):Decidable (lZ l):=Classical.propDecidable _
def lZ.get {l:List Int}(h:lZ l) (i:Nat):rQ (l.getD i 0):=by
 by_cases hi:i<l.length
 ·exact h _ (aP hi)
 ·rw[List.getD_eq_getElem?_getD,List.getElem?_eq_none (by omega)];exact⟨by simp,by simp⟩
def C2 (c:ac) (st ins:List Int):Prop:=c.Valid/\st.length=c.next.length/\(ins.length:Int)=c.inputs/\lZ st/\lZ ins
noncomputable instance (c:ac) (st ins:List Int):Decidable (C2 c st ins):=Classical.propDecidable _

@[go_sem] def Zp {k:IntKind}{a b z:Int}{m:Nat}:[D.int k a,D.int k b].getD m (D.int k z)=D.int k ([a,b].getD m z):=by
 rcases m with _|_|m <;> rfl

def Ix (c:ac):Prop:=c.Valid/\0<c.next.length/\c.inputs<=2/\c.outs.length<3/\c.gates.length+3*c.next.length<=14
noncomputable instance (c:ac):Decidable (Ix c):=Classical.propDecidable _
def ja (f:Int->Int) (c:ac):ac:=⟨c.inputs,c.next.map f,c.gates.map (fun p=>(f p.1,f p.2)),c.outs.map f⟩
def vr {β:Type}(f : α->β) {l:List α}(z : α) (h:i<l.length):(l.take (i+1)).map f=(l.take i).map f ++ [f (l.getD i z)]:=by
 rw[m6 h,iz];simp only[jC,List.map_nil,List.getD,List.getElem?_eq_getElem h,i9]
@[go_sem] def zqS {H:List R}{ds:List D}:mh H (ds.map .d)=some (True,ds):=by
 induction ds with
 | nil=>rfl
 | cons x r ih=>
  rw[jC,Oh,ih];simp[go_sem]
def Tryz.jm (c:ac) (g:Nat) (ds:List D) (h:Int->Int) (hg:(env 0).pf g=.own) (hl:c.next.length<=1000000/\c.gates.length<=1000000/\c.outs.length<=1000000)
  (hn : ∀ l∈c.next,Pure prog g (dI l::ds) (dI (h l))) (ho : ∀ l∈c.outs,Pure prog g (dI l::ds) (dI (h l)))
  (hga : ∀ p∈c.gates,Pure prog g (dI p.1::ds) (dI (h p.1))/\Pure prog g (dI p.2::ds) (dI (h p.2))) :
  Pure prog 203 [pC c,.fn g ds] (dC (ja h c)):=by
 refine bw func203 rfl ntmps203 fun ok=>?_
 simp only[go_sem,seval] at ok⊢;refine Bw (E:=env 0) tok (σ:=Nat) (fun i=>[(0,.d (pC c)),(1,.d (.fn g ds)),(4,.ptr 0 0),(5,.ptr 1 0),(20,.d (ai c.next)),(21,.d (dI c.next.length)),(22,.d (dI i))])
  (fun i=>[.box [.d (dI 0),.d .nil,.d .nil,.d .nil],.box [.d (dI c.inputs),.sl 2 i 1 0 i,.d .nil,.d .nil],.row i 1 true (((c.next.take i).map h).map (D.int .i64))])
  (fun i=>i<=c.next.length) (fun i=>c.next.length-i) [(1,1,1,true)] [] 1000 1000 ?_ ?_ ?_ ?_
 ·simp only[go_sem,seval]
 ·simp only[go_sem,seval]
 ·simp only[go_sem,seval];exact⟨0,by omega,rfl,by simp⟩
 ·intro i hi;by_cases hlt:i<c.next.length
  ·have hx:=hn _ (aP (z:=0) hlt);have hli:(c.next.take i).length=i:=by simp;omega
   repeat' first|assumption|simp (disch:=first|assumption|omega|simp;try omega) only[go_sem,seval,ag]|(with_reducible first|apply aa|intro)|(try rw[ae]);omega
   refine cg (n:=0) [6,8] (aw [0,2,3,1] (.one 4 (.one 5 (.one 6 (.fst 7 (.one 8 .done)))))) ?_;simp only[go_sem,seval,hg];refine aA hx ?_;simp only[go_sem,seval,hg]
   repeat' first|assumption|simp (disch:=first|assumption|omega|simp;try omega) only[go_sem,seval,ag]|(with_reducible first|apply aa|intro)|(try rw[ae]);omega
   exact⟨i+1,by omega,by omega,rfl,rfl,rfl,(vr h 0 hlt).symm⟩
  ·repeat' first|assumption|simp (disch:=first|assumption|omega|simp;try omega) only[go_sem,seval,ag]|(with_reducible first|apply aa|intro)|(try rw[ae]);omega
   refine Bw (E:=env 0) tok (σ:=Nat) (fun j=>[(0,.d (pC c)),(1,.d (.fn g ds)),(4,.ptr 0 0),(5,.ptr 1 0),(38,.d (aO c.gates)),(39,.d (dI c.gates.length)),(40,.d (dI j))])
    (fun j=>[.box [.d (dI 0),.d .nil,.d .nil,.d .nil],.box [.d (dI c.inputs),.sl 2 i 1 0 i,.sl 3 j 2 0 j,.d .nil],.row i 1 true ((c.next.map h).map (D.int .i64)),.row j 2 true (((c.gates.take j).map (fun p=>(h p.1,h p.2))).map dP)])
    (fun j=>j<=c.gates.length) (fun j=>c.gates.length-j) [(1,2,2,true)] [] 1000 1000 ?_ ?_ ?_ ?_
   ·simp only[go_sem,seval]
   ·simp only[go_sem,seval]
   ·simp only[go_sem,seval];exact⟨0,by omega,rfl,by simp⟩
   ·intro j hj;by_cases hlt:j<c.gates.length
    ·obtain⟨hx1,hx2⟩:=hga _ (aP (z:=(0,0)) hlt);have hli:(c.gates.take j).length=j:=by simp;omega
     repeat' first|assumption|simp (disch:=first|assumption|omega|simp;try omega) only[go_sem,seval,ag]|(with_reducible first|apply aa|intro)|(try rw[ae]);omega
     refine cg (n:=0) [12,14] (aw [0,2,3,6,7,1,4,8] (.one 5 (.one 9 (.fst 10 (.one 11 (.one 12 (.fst 13 (.one 14 .done)))))))) ?_;simp only[go_sem,seval,hg];refine aA hx1 ?_;simp only[go_sem,seval,hg];refine aA hx2 ?_;simp only[go_sem,seval,hg]
     repeat' first|assumption|simp (disch:=first|assumption|omega|simp;try omega) only[go_sem,seval,ag]|(with_reducible first|apply aa|intro)|(try rw[ae]);omega
     exact⟨j+1,by omega,by omega,rfl,rfl,rfl,(vr (fun p:Int×Int=>(h p.1,h p.2)) (0,0) hlt).symm⟩
    ·repeat' first|assumption|simp (disch:=first|assumption|omega|simp;try omega) only[go_sem,seval,ag]|(with_reducible first|apply aa|intro)|(try rw[ae]);omega
     refine Bw (E:=env 0) tok (σ:=Nat) (fun m=>[(0,.d (pC c)),(1,.d (.fn g ds)),(4,.ptr 0 0),(5,.ptr 1 0),(62,.d (ai c.outs)),(63,.d (dI c.outs.length)),(64,.d (dI m))])
      (fun m=>[.box [.d (dI 0),.d .nil,.d .nil,.d .nil],.box [.d (dI c.inputs),.sl 2 i 1 0 i,.sl 3 j 2 0 j,.sl 4 m 1 0 m],.row i 1 true ((c.next.map h).map (D.int .i64)),.row j 2 true ((c.gates.map (fun p=>(h p.1,h p.2))).map dP),.row m 1 true (((c.outs.take m).map h).map (D.int .i64))])
      (fun m=>m<=c.outs.length) (fun m=>c.outs.length-m) [(1,3,1,true)] [] 1000 1000 ?_ ?_ ?_ ?_
     ·simp only[go_sem,seval]
     ·simp only[go_sem,seval]
     ·simp only[go_sem,seval];exact⟨0,by omega,rfl,by simp⟩
     ·intro m hm;by_cases hlt:m<c.outs.length
      ·have hx:=ho _ (aP (z:=0) hlt);have hli:(c.outs.take m).length=m:=by simp;omega
       repeat' first|assumption|simp (disch:=first|assumption|omega|simp;try omega) only[go_sem,seval,ag]|(with_reducible first|apply aa|intro)|(try rw[ae]);omega
       refine cg (n:=0) [6,8] (aw [0,2,3,1] (.one 4 (.one 5 (.one 6 (.fst 7 (.one 8 .done)))))) ?_;simp only[go_sem,seval,hg];refine aA hx ?_;simp only[go_sem,seval,hg]
       repeat' first|assumption|simp (disch:=first|assumption|omega|simp;try omega) only[go_sem,seval,ag]|(with_reducible first|apply aa|intro)|(try rw[ae]);omega
       exact⟨m+1,by omega,by omega,rfl,rfl,rfl,(vr h 0 hlt).symm⟩
      ·repeat' first|assumption|simp (disch:=first|assumption|omega|simp;try omega) only[go_sem,seval,ag]|(with_reducible first|apply aa|intro)|(try rw[ae]);omega
       all_goals rfl

def M3 (c:ac) (st:List Bool):Prop:=Ix c/\st.length=c.next.length
noncomputable instance (c:ac) (st:List Bool):Decidable (M3 c st):=Classical.propDecidable _

def Tryz.shp_ints (y:D) (h:gZ tyT (f+2) 23 y) : ∃ l:List Int,y=ai l:=
 shp_slice CI wb (fun y h=>shp_int wb h) h
def Tryz.shp_Gate (y:D) (h:gZ tyT (f+2) 216 y) : ∃ a:Int×Int,y=dP a:=by
 obtain⟨ys,rfl,k0⟩:=shp_struct uI h;obtain⟨y1,r1,rfl,h1,k1⟩:=uB k0;obtain⟨y2,r2,rfl,h2,k2⟩:=uB k1;obtain rfl:=Ea k2;obtain⟨n,rfl⟩:=shp_int wb h1;obtain⟨m,rfl⟩:=shp_int wb h2;exact⟨(n,m),rfl⟩
def Tryz.shp_Gates (y:D) (h:gZ tyT (f+3) 47 y) : ∃ l:List (Int×Int),y=aO l:=
 shp_slice DX uI shp_Gate h
def Tryz.shp_Circuit (y:D) (h:gZ tyT (f+4) 49 y) : ∃ c:ac,y=dC c:=by
 obtain⟨ys,rfl,k0⟩:=shp_struct CD h;obtain⟨y1,r1,rfl,h1,k1⟩:=uB k0;obtain⟨y2,r2,rfl,h2,k2⟩:=uB k1;obtain⟨y3,r3,rfl,h3,k3⟩:=uB k2;obtain⟨y4,r4,rfl,h4,k4⟩:=uB k3;obtain rfl:=Ea k4;obtain⟨n,rfl⟩:=shp_int wb h1;obtain⟨a,rfl⟩:=shp_ints _ h2;obtain⟨b,rfl⟩:=shp_Gates _ h3;obtain⟨d,rfl⟩:=shp_ints _ h4;exact⟨⟨n,a,b,d⟩,rfl⟩
def Tryz.mj (c:ac) (k:Int) (hk:0<=k/\k<=1048576):Pure prog 23 [dC c,dI k] (dI (if k<c.next.length+c.gates.length+c.outs.length then -1 else k-(c.next.length:Int)-(c.gates.length:Int)-(c.outs.length:Int))):=by
 refine bw func23 rfl ntmps23 fun ok=>?_
 simp only[go_sem,seval] at ok⊢;refine aA (lF _ k hk) ?_;by_cases h1:k<c.next.length
 ·rw[if_pos h1,if_pos (by omega)];simp only[go_sem,seval]
 rw[if_neg h1];simp only[go_sem,seval];refine⟨fun h=>by omega,fun _=>?_⟩;refine aA (ol _ _ (by omega)) ?_;by_cases h2:k-c.next.length<c.gates.length
 ·rw[if_pos h2,if_pos (by omega)];simp only[go_sem,seval]
 rw[if_neg h2];simp only[go_sem,seval];refine⟨fun h=>by omega,fun _=>?_⟩;refine aA (lF _ _ (by omega)) ?_;by_cases h3:k-c.next.length-c.gates.length<c.outs.length
 ·rw[if_pos h3,if_pos (by omega)];simp only[go_sem,seval]
 rw[if_neg h3,if_neg (by omega)];simp only[go_sem,seval];omega

structure NG where
 b:dm
 next:List Int
 outs:List Int
 en:Int
structure Pj (n i:Nat) (s:NG):Prop where
 ok:s.b.Ok
 fst:s.b.first=2+n
 len:s.b.gates.length<=4*i
 e:s.b.lit s.en
 nx:s.next.length=i
 o:s.outs.length=i
end Go.Proofs
