/- Contracts, plain definitions and lemmas. Conditions: none; lemmas. -/
import Derived.Test.YteikeianenfhaaaGreatTy
import Derived.Test.YteikeianenfhaaaGreatVM8
import Derived.Test.YteikeianenfhaaaGreatProg
set_option maxRecDepth 20000
set_option linter.unusedSimpArgs false
set_option linter.unusedVariables false
namespace Go.Proofs
open Go Go.VL
theorem Tryz.c_eqIntS (a b:List Int):Pure Tryz.prog 90 [dIs a,dIs b] (.bool (decide (a=b))):=by
 refine qas (E:=Tryz.env 0) Tryz.tok rfl 1000 Tryz.func90 rfl rfl Tryz.ntmps90 (by simp) fun ok=>?_
 simp only[go_sem,seval] at ok;simp only[go_sem,seval];refine⟨fun h=>?_,fun hlen=>?_⟩
 ·simp only[false_eq_decide_iff];rintro rfl;exact h rfl
 refine qaF (E:=Tryz.env 0) Tryz.tok (σ:=Nat) (fun i=>[(0,.d (dIs a)),(1,.d (dIs b)),(5,.d (dI i))]) (fun _=>[]) (fun i=>i<=a.length/\∀ j,j<i->a.getD j 0=b.getD j 0) (fun i=>a.length-i) [] 1000 1000 ?_ ?_ ?_
 ·simp only[go_sem,seval]
 ·simp only[go_sem,seval];exact⟨0,⟨by omega,by omega⟩,rfl⟩
 ·intro i hi;simp only[go_sem,seval];refine⟨fun h1=>⟨by kernel_rfl,h1,by omega,fun h2=>?_,fun h2=>⟨by rw[qad];omega,i+1,⟨by omega,?_⟩,by omega,rfl⟩⟩,fun h1=>?_⟩
  ·simp only[false_eq_decide_iff];rintro rfl;exact h2 rfl
  ·intro j hj;by_cases hji:j=i
   ·subst hji;exact h2
   ·exact hi.2 j (by omega)
  ·simp only[true_eq_decide_iff];refine ybo hlen fun j h3 h4=>?_
   have:=hi.2 j (by omega);simpa [List.getD,h3,h4] using this
def Tryz.held:List Int->Int->Int
 | [],k=>k
 | x::r,k=>if x=k then Tryz.held r (k+1) else -1
theorem Tryz.held_marks (k:Int) : ∀ (m s:Nat),Tryz.held ((List.range' s m).map fun(j:Nat)=>k+(j:Int)) (k+(s:Int))=k+((s+m:Nat):Int)
 | 0,s=>by simp[Tryz.held]
 | m+1,s=>by
  have:=Tryz.held_marks k m (s+1);simp only[List.range'_succ,yaJ,Tryz.held,if_true];have e:k+(s:Int)+1=k+((s+1:Nat):Int):=by omega
  rw[e,this];omega
theorem Tryz.held_mark (k:Int) (m:Nat):Tryz.held ((List.range m).map fun(j:Nat)=>k+(j:Int)) k=k+(m:Int):=by
 have:=Tryz.held_marks k m 0;rw[<-List.range_eq_range'] at this;simpa using this
theorem Tryz.c_heldIntS (a:List Int) (k:Int) (hk:0<=k/\k+a.length<=9000000000000000000):Pure Tryz.prog 179 [dIs a,dI k] (dI (Tryz.held a k)):=by
 refine qas (E:=Tryz.env 0) Tryz.tok rfl 1000 Tryz.func179 rfl rfl Tryz.ntmps179 (by simp) fun ok=>?_
 simp only[go_sem,seval] at ok;simp only[go_sem,seval];refine qaF (E:=Tryz.env 0) Tryz.tok (σ:=Nat) (fun i=>[(0,.d (dIs a)),(1,.d (dI (k+(i:Int)))),(5,.d (dI i))]) (fun _=>[]) (fun i=>i<=a.length/\Tryz.held a k=Tryz.held (a.drop i) (k+(i:Int))) (fun i=>a.length-i) [] 1000 1000 ?_ ?_ ?_
 ·simp only[go_sem,seval]
 ·simp only[go_sem,seval];exact⟨0,by simp⟩
 ·rintro i ⟨hi,hinv⟩;simp only[go_sem,seval];refine⟨fun h1=>⟨h1,fun h2=>?_,fun h2=>⟨?_,?_,i+1,?_,?_⟩⟩,fun h1=>?_⟩
  ·rw[hinv,qk0 0 h1,Tryz.held,if_neg h2]
  ·rw[qad];omega
  ·rw[qad];omega
  ·rw[hinv,qk0 0 h1,Tryz.held,if_pos h2];refine⟨by omega,?_⟩;congr 1;omega
  ·omega
  ·rw[hinv,yaQ (by omega),Tryz.held]
theorem Tryz.c_markIntS (g:Nat) (a:List Int) (k:Int) (hk:0<=k/\k+a.length<=9000000000000000000) (ha:a.length<=281474976710656) :
  Proc Tryz.prog 92 [.sl 0 g 1 0 a.length,.d (dI k)] [.row g 1 true (a.map (D.int .i64))] (.d (dI (k+(a.length:Int)))) [.row g 1 true (((List.range a.length).map fun(j:Nat)=>k+(j:Int)).map (D.int .i64))]:=by
 refine qma (E:=Tryz.env 1) Tryz.tok rfl 1000 Tryz.func92 rfl rfl Tryz.ntmps92 (by simp) ?_;simp only[go_sem,seval];refine qaF (E:=Tryz.env 1) Tryz.tok (σ:=Nat×List Int) (fun s=>[(0,.sl 0 g 1 0 a.length),(1,.d (dI (k+(s.1:Int)))),(5,.d (dI s.1))]) (fun s=>[.row g 1 true (s.2.map (D.int .i64))]) (fun s=>s.1<=a.length/\s.2.length=a.length/\∀ (j:Nat),j<s.1->s.2.getD j 0=k+(j:Int)) (fun s=>a.length-s.1) [] 1000 1000 ?_ ?_ ?_
 ·simp only[go_sem,seval]
 ·simp only[go_sem,seval];exact⟨(0,a),⟨by omega,rfl,fun j hj=>by simp at hj⟩,by simp⟩
 ·rintro⟨i,b⟩ ⟨hi,hb,hinv⟩;simp only at hi hb hinv;simp only[go_sem,seval];refine⟨fun h1=>⟨h1,by omega,?_,?_,(i+1,b.set i (k+(i:Int))),⟨by omega,by simpa using hb,?_⟩,by omega,⟨by omega,rfl⟩,rfl⟩,fun h1=>⟨by omega,?_⟩⟩
  ·rw[qad];omega
  ·rw[qad];omega
  ·intro j hj;simp only at hj ⊢;by_cases hji:j=i
   ·subst hji;rw[qcU _ (by omega)]
   ·rw[qdG _ (by omega)];exact hinv j (by omega)
  ·refine qbz 0 (by simpa using hb) fun j hj=>?_
   rw[hinv j (by omega)];simp[List.getD,show j<a.length by omega]

theorem Tryz.c_l1In (x lo hi:Int):Pure Tryz.prog 134 [dI x,dI lo,dI hi] (.bool (decide (lo<=x)&&decide (x<=hi))):=by
 refine qas (E:=Tryz.env 0) Tryz.tok rfl 1000 Tryz.func134 rfl rfl Tryz.ntmps134 (by simp) fun ok=>?_
 simp only[go_sem,seval]

def Tryz.defectOk (d:Int×Int):Bool:=(decide (0<=d.1)&&decide (d.1<=24))&&(decide (0<=d.2)&&decide (d.2<=7))
theorem Tryz.defectOk_iff {d:Int×Int}:Tryz.defectOk d=true↔(0<=d.1/\d.1<=24)/\0<=d.2/\d.2<=7:=by simp[Tryz.defectOk]
theorem Tryz.defectOk_no {d:Int×Int}(h : ¬ ((0<=d.1/\d.1<=24)/\0<=d.2/\d.2<=7)):Tryz.defectOk d=false:=by
 rw[Bool.eq_false_iff];exact fun e=>h (Tryz.defectOk_iff.1 e)
def Tryz.defectsValid (l:List (Int×Int)):Bool:=decide (l.length<=12)&&l.all Tryz.defectOk
theorem qgf {α : Type}(p : α->Bool) (l:List α) (z : α):l.all p=true↔∀ j,j<l.length->p (l.getD j z)=true:=by
 rw[yaF];constructor
 ·intro h j hj;exact h _ (by simp[List.getD,hj])
 ·intro h x hx;obtain⟨j,hj,rfl⟩:=yal hx;have:=h j hj;simpa [List.getD,hj] using this
theorem qlb {α : Type}{p : α->Bool}{l:List α}{z : α}{j:Nat}(hj:j<l.length) (h:p (l.getD j z)=false):l.all p=false:=by
 rw[Bool.eq_false_iff];intro ha;have:=(qgf p l z).1 ha j hj;rw[h] at this;exact absurd this (by simp)
theorem Tryz.c_DefectsValid (l:List (Int×Int)):Pure Tryz.prog 68 [dPs l] (.bool (Tryz.defectsValid l)):=by
 refine qas (E:=Tryz.env 0) Tryz.tok rfl 1000 Tryz.func68 rfl rfl Tryz.ntmps68 (by simp) fun ok=>?_
 simp only[go_sem,seval] at ok;simp only[go_sem,seval];refine⟨fun h=>by simp[Tryz.defectsValid];omega,fun h=>?_⟩;refine qaF (E:=Tryz.env 0) Tryz.tok (σ:=Nat) (fun i=>[(8,.d (dPs l)),(9,.d (dI l.length)),(10,.d (dI i))]) (fun i=>[]) (fun i=>i<=l.length/\∀ j,j<i->Tryz.defectOk (l.getD j (0,0))=true) (fun i=>l.length-i) [] 1000 1000 ?_ ?_ ?_
 ·simp only[go_sem,seval]
 ·simp only[go_sem,seval];exact⟨0,by simp⟩
 ·rintro i ⟨hi,hinv⟩;simp only[go_sem,seval];refine⟨fun h1=>⟨h1,fun h2=>?_,fun h2=>⟨by rw[qad];omega,i+1,⟨by omega,fun j hj=>?_⟩,by omega,rfl⟩⟩,fun h1=>?_⟩
  ·have:Tryz.defectOk (l.getD i (0,0))=false:=Tryz.defectOk_no (by omega);simp[Tryz.defectsValid,qlb h1 this]
  ·by_cases hji:j=i
   ·subst hji;exact Tryz.defectOk_iff.2 (by omega)
   ·exact hinv j (by omega)
  ·have:l.all Tryz.defectOk=true:=(qgf _ _ (0,0)).2 fun j hj=>hinv j (by omega)
   simp[Tryz.defectsValid,this];omega
theorem Tryz.c_sDefectsValid (l:List (Int×Int)):Pure Tryz.prog 73 [dPs l] (.bool (Tryz.defectsValid l)):=by
 refine qas (E:=Tryz.env 0) Tryz.tok rfl 1000 Tryz.func73 rfl rfl Tryz.ntmps73 (by simp) fun ok=>?_
 simp only[go_sem,seval] at ok;simp only[go_sem,seval];refine qaF (E:=Tryz.env 0) Tryz.tok (σ:=Nat) (fun i=>[(0,.d (dPs l)),(3,.d (dI i))]) (fun i=>[]) (fun i=>i<=l.length/\∀ j,j<i->Tryz.defectOk (l.getD j (0,0))=true) (fun i=>l.length-i) [] 1000 1000 ?_ ?_ ?_
 ·simp only[go_sem,seval]
 ·simp only[go_sem,seval];exact⟨0,by simp⟩
 ·rintro i ⟨hi,hinv⟩;simp only[go_sem,seval];refine⟨fun h1=>⟨h1,qaj (Tryz.c_l1In _ _ _) ?_⟩,fun h1=>?_⟩
  ·simp only[go_sem,seval];refine⟨fun h2=>⟨h2,h1⟩,qaZ (fun _=>Tryz.c_l1In _ _ _) ?_⟩;simp only[go_sem,seval];refine⟨fun h2=>?_,fun h2=>⟨by rw[qad];omega,i+1,⟨by omega,fun j hj=>?_⟩,by omega,rfl⟩⟩
   ·have:Tryz.defectOk (l.getD i (0,0))=false:=Tryz.defectOk_no (by omega);simp[Tryz.defectsValid,qlb h1 this]
   ·by_cases hji:j=i
    ·subst hji;exact Tryz.defectOk_iff.2 (by omega)
    ·exact hinv j (by omega)
  ·have:l.all Tryz.defectOk=true:=(qgf _ _ (0,0)).2 fun j hj=>hinv j (by omega)
   simp[Tryz.defectsValid,this];omega
theorem Tryz.c_toDefect (p:Int×Int):Pure Tryz.prog 121 [dP p] (dP p):=by
 refine qas (E:=Tryz.env 0) Tryz.tok rfl 1000 Tryz.func121 rfl rfl Tryz.ntmps121 (by simp) fun ok=>?_
 simp only[go_sem,seval] at ok;simp only[go_sem,seval]
theorem Tryz.c_toDefectS (l:List (Int×Int)) (hl:l.length<=1048576):Pure Tryz.prog 61 [dPs l] (dPs l):=by
 refine qas (E:=Tryz.env 0) Tryz.tok rfl 1000 Tryz.func61 rfl rfl Tryz.ntmps61 (by simp) fun ok=>?_
 simp only[go_sem,seval] at ok;simp only[go_sem,seval];refine⟨by omega,?_⟩;refine qaF (E:=Tryz.env 0) Tryz.tok (σ:=Nat×List (Int×Int)) (fun s=>[(0,.d (dPs l)),(3,.sl 0 0 2 0 l.length),(4,.d (dI s.1))]) (fun s=>[.row 0 2 true (s.2.map dP)]) (fun s=>s.1<=l.length/\s.2.length=l.length/\∀ j,j<s.1->s.2.getD j (0,0)=l.getD j (0,0)) (fun s=>l.length-s.1) [] 1000 1000 ?_ ?_ ?_
 ·simp only[go_sem,seval]
 ·simp only[go_sem,seval];exact⟨(0,List.replicate l.length (0,0)),⟨by omega,by simp,fun j hj=>absurd hj (by simp)⟩,by simp⟩
 ·rintro⟨i,b⟩ ⟨hi,hb,hinv⟩;simp only at hi hb hinv;simp only[go_sem,seval];refine⟨fun h1=>⟨h1,qaj (Tryz.c_toDefect _) ?_⟩,fun h1=>?_⟩
  ·simp only[go_sem,seval];refine⟨h1,by omega,by rw[qad];omega,(i+1,b.set i (l.getD i (0,0))),⟨by omega,by simpa using hb,fun j hj=>?_⟩,by omega,rfl,rfl⟩;simp only at hj ⊢;by_cases hji:j=i
   ·subst hji;rw[qcU _ (by omega)]
   ·rw[qdG _ (by omega)];exact hinv j (by omega)
  ·exact⟨hb.symm,qbz (0,0) hb fun j hj=>hinv j (by omega)⟩
theorem Tryz.c_szDefectS (l:List (Int×Int)) (k:Int) (hk:0<=k/\k<=1048576):Pure Tryz.prog 60 [dPs l,dI k] (dI (if k<l.length then -1 else k-(l.length:Int))):=by
 refine qas (E:=Tryz.env 0) Tryz.tok rfl 1000 Tryz.func60 rfl rfl Tryz.ntmps60 (by simp) fun ok=>?_
 simp only[go_sem,seval] at ok;simp only[go_sem,seval];refine⟨by rw[qad];omega,fun h=>?_,fun h=>?_⟩
 ·rw[if_pos (by omega)]
 ·rw[if_neg (by omega)]
theorem Tryz.c_eqDefect (p q:Int×Int):Pure Tryz.prog 122 [dP p,dP q] (.bool (decide (p=q))):=by
 refine qas (E:=Tryz.env 0) Tryz.tok rfl 1000 Tryz.func122 rfl rfl Tryz.ntmps122 (by simp) fun ok=>?_
 simp only[go_sem,seval] at ok;simp only[go_sem,seval];obtain⟨a,b⟩:=p;obtain⟨c,d⟩:=q;simp only[yac,false_eq_decide_iff,true_eq_decide_iff];exact⟨fun h=>by simp[h],fun h=>⟨fun h2=>by simp[h2],fun h2=>⟨h,h2⟩⟩⟩
theorem Tryz.c_eqDefectS (a b:List (Int×Int)):Pure Tryz.prog 62 [dPs a,dPs b] (.bool (decide (a=b))):=by
 refine qas (E:=Tryz.env 0) Tryz.tok rfl 1000 Tryz.func62 rfl rfl Tryz.ntmps62 (by simp) fun ok=>?_
 simp only[go_sem,seval] at ok;simp only[go_sem,seval];refine⟨fun h=>?_,fun hlen=>?_⟩
 ·simp only[false_eq_decide_iff];rintro rfl;exact h rfl
 refine qaF (E:=Tryz.env 0) Tryz.tok (σ:=Nat) (fun i=>[(0,.d (dPs a)),(1,.d (dPs b)),(5,.d (dI i))]) (fun _=>[]) (fun i=>i<=a.length/\∀ j,j<i->a.getD j (0,0)=b.getD j (0,0)) (fun i=>a.length-i) [] 1000 1000 ?_ ?_ ?_
 ·simp only[go_sem,seval]
 ·simp only[go_sem,seval];exact⟨0,⟨by omega,by omega⟩,rfl⟩
 ·intro i hi;simp only[go_sem,seval];refine⟨fun h1=>⟨by kernel_rfl,h1,by omega,qb6 (fun _=>⟨Tryz.c_eqDefect _ _,trivial⟩) ?_⟩,fun h1=>?_⟩
  ·simp only[go_sem,seval];refine⟨fun h2=>?_,fun h2=>⟨by rw[qad];omega,i+1,⟨by omega,fun j hj=>?_⟩,by omega,rfl⟩⟩
   ·simp only[false_eq_decide_iff];rintro rfl;exact h2 rfl
   ·by_cases hji:j=i
    ·subst hji;exact h2
    ·exact hi.2 j (by omega)
  ·simp only[true_eq_decide_iff];exact qbz (0,0) hlen fun j hj=>hi.2 j (by omega)

def Tryz.Bytes (b:List Int):Prop:=∀ x∈b,0<=x/\x<=255
theorem Tryz.shp_Bytes {f:Nat}(y:D) (h:shp Tryz.tyT (f+2) 22 y) : ∃ l:List Int,y=dUs l:=
 shp_slice Tryz.ty22 Tryz.ty5 (g:=D.int .u8) (fun y h=>shp_int Tryz.ty5 h) h

theorem Tryz.c_isLit (l n:Int) (hn:0<=n/\n<=4000000000000000000):Pure Tryz.prog 108 [dI l,dI n] (.bool (decide (0<=l)&&decide (l<2*n))):=by
 refine qas (E:=Tryz.env 0) Tryz.tok rfl 1000 Tryz.func108 rfl rfl Tryz.ntmps108 (by simp) fun ok=>?_
 simp only[go_sem,seval] at ok;simp only[go_sem,seval];rw[qad];omega
theorem Tryz.c_firstGate (c:Circ) (h : -1000<=c.inputs/\c.inputs<=1000):Pure Tryz.prog 162 [pC c] (dI c.first):=by
 refine qas (E:=Tryz.env 0) Tryz.tok rfl 1000 Tryz.func162 rfl rfl Tryz.ntmps162 (by simp) fun ok=>?_
 simp only[go_sem,seval] at ok;simp only[go_sem,seval];refine⟨by kernel_rfl,?_,?_,rfl⟩ <;> (rw[qad];omega)
theorem Tryz.c_vars (c:Circ) (h : -1000<=c.inputs/\c.inputs<=1000):Pure Tryz.prog 104 [pC c] (dI c.vars):=by
 refine qas (E:=Tryz.env 0) Tryz.tok rfl 1000 Tryz.func104 rfl rfl Tryz.ntmps104 (by simp) fun ok=>?_
 simp only[go_sem,seval] at ok;simp only[go_sem,seval];refine⟨by kernel_rfl,qb6 (fun _=>⟨Tryz.c_firstGate c h,by simp only[scal,qad,Circ.first];omega⟩) ?_⟩;simp only[go_sem,seval];simp only[qad,Circ.first,Circ.vars,and_true];omega
theorem Tryz.c_roots (c:Circ) (h1:c.next.length<=1000000/\c.outs.length<=1000000):Pure Tryz.prog 103 [pC c] (dIs c.roots):=by
 refine qas (E:=Tryz.env 0) Tryz.tok rfl 1000 Tryz.func103 rfl rfl Tryz.ntmps103 (by simp) fun ok=>?_
 simp only[go_sem,seval] at ok;simp only[go_sem,seval];refine qaL (E:=Tryz.env 0) Tryz.tok Tryz.follows 1000 1000 [4,9] (.fst 0 (.fst 1 (.fst 2 (.fst 5 (.fst 6 (.fst 7 (.fst 3 (.two 4 (.one 8 (.one 9 (.fst 10 (.done)))) 8 (.one 4 (.one 9 (.fst 10 (.done)))))))))))) (by kernel_rfl) ?_;simp only[go_sem,seval];simp only[Circ.roots,and_true];refine⟨by omega,by omega⟩
theorem Circ.notValid {c:Circ}(h : ¬ c.Valid):false=decide c.Valid:=by simp[h]
theorem Tryz.c_CircuitValid (c:Circ):Pure Tryz.prog 49 [dC c] (.bool (decide c.Valid)):=by
 refine qas (E:=Tryz.env 0) Tryz.tok rfl 1000 Tryz.func49 rfl rfl Tryz.ntmps49 (by simp) fun ok=>?_
 simp only[go_sem,seval] at ok;simp only[go_sem,seval];refine⟨fun h=>Circ.notValid fun hv=>?_,fun h=>?_⟩
 ·have:=hv.i0;have:=hv.i1;have:=hv.ln;have:=hv.lg;have:=hv.lo;omega
 refine⟨by rw[qad];omega,by rw[qad];omega,?_⟩;have hf:1+c.inputs+(c.next.length:Int)=c.first:=rfl
 have hb:1<=c.first/\c.first<=8:=by omega
 rw[hf];refine qaF (E:=Tryz.env 0) Tryz.tok (σ:=Nat) (fun i=>[(1,.ptr 0 0),(3,.d (dI c.first)),(42,.d (dPs c.gates)),(43,.d (dI c.gates.length)),(44,.d (dI i))]) (fun i=>[.box [.d (dI c.inputs),.d (dIs c.next),.d (dPs c.gates),.d (dIs c.outs)]])
  (fun i=>i<=c.gates.length/\∀ j,j<i->qa4 (c.gates.getD j (0,0)).1 (c.first+(j:Int))/\qa4 (c.gates.getD j (0,0)).2 (c.first+(j:Int))) (fun i=>c.gates.length-i) [] 1000 1000 ?_ ?_ ?_
 ·simp only[go_sem,seval]
 ·simp only[go_sem,seval];exact⟨0,⟨by omega,fun j hj=>absurd hj (by omega)⟩,rfl⟩
 ·rintro i ⟨hi,hinv⟩;simp only[go_sem,seval]
  repeat' first|assumption|(simp (disch:=first|assumption|omega|(simp;done)|(simp;omega)) only[qaa,qac,yaa,qab];try simp only[go_sem,seval])|(with_reducible first|refine And.intro ?_ ?_|intro _)|(refine qaj (Tryz.c_isLit _ _ (by omega)) ?_;simp only[go_sem,seval])|(refine qaZ (fun hg=>Tryz.c_isLit _ _ (by omega)) ?_;simp only[go_sem,seval])|(refine qaj (Tryz.c_roots c (by omega)) ?_;simp only[go_sem,seval])|((try rw[qad]);omega)
  ·exact Circ.notValid fun hv=>by have:=hv.g i (by omega);unfold qa4 at this;omega
  ·rename_i h1 h2;refine⟨i+1,⟨by omega,fun j hj=>?_⟩,by omega,rfl⟩;by_cases hji:j=i
   ·subst hji;exact h2
   ·exact hinv j (by omega)
  ·have hg : ∀ j,j<c.gates.length->qa4 (c.gates.getD j (0,0)).1 (c.first+(j:Int))/\qa4 (c.gates.getD j (0,0)).2 (c.first+(j:Int)):=fun j hj=>hinv j (by omega)
   clear hinv hi;have hv0:c.first<=c.vars/\c.vars<=22:=by unfold Circ.vars;omega
   have hrl:c.roots.length<=6:=by simp[Circ.roots];omega
   refine qaF (E:=Tryz.env 0) Tryz.tok (σ:=Nat) (fun i=>[(1,.ptr 0 0),(66,.d (dIs c.roots)),(67,.d (dI c.roots.length)),(68,.d (dI i))]) (fun i=>[.box [.d (dI c.inputs),.d (dIs c.next),.d (dPs c.gates),.d (dIs c.outs)]])
    (fun i=>i<=c.roots.length/\∀ j,j<i->qa4 (c.roots.getD j 0) c.vars) (fun i=>c.roots.length-i) [] 1000 1000 ?_ ?_ ?_
   ·simp only[go_sem,seval]
   ·simp only[go_sem,seval];exact⟨0,⟨by omega,fun j hj=>absurd hj (by omega)⟩,rfl⟩
   ·rintro i ⟨hi,hinv⟩;simp only[go_sem,seval]
    repeat' first|assumption|(simp (disch:=first|assumption|omega|(simp;done)|(simp;omega)) only[qaa,qac,yaa,qab];try simp only[go_sem,seval])|(with_reducible first|refine And.intro ?_ ?_|intro _)|(refine qaj (Tryz.c_vars _ (by omega)) ?_;simp only[go_sem,seval])|(refine qaj (Tryz.c_isLit _ _ (by omega)) ?_;simp only[go_sem,seval])|(refine qaZ (fun hg=>Tryz.c_isLit _ _ (by omega)) ?_;simp only[go_sem,seval])|((try rw[qad]);omega)
    ·exact Circ.notValid fun hv=>by have:=hv.roots _ (qal (z:=0) (show i<c.roots.length by assumption));unfold qa4 at this;omega
    ·rename_i h1 h2;refine⟨i+1,⟨by omega,fun j hj=>?_⟩,by omega,rfl⟩;by_cases hji:j=i
     ·subst hji;exact h2
     ·exact hinv j (by omega)
    ·have hr : ∀ x∈c.roots,qa4 x c.vars:=(qmO 0).2 fun j hj=>hinv j (by omega)
     have hv:c.Valid:=⟨by omega,by omega,by omega,by omega,by omega,hg,fun x hx=>hr x (List.mem_append.2 (.inl hx)),fun x hx=>hr x (List.mem_append.2 (.inr hx))⟩;simp[hv]
end Go.Proofs
