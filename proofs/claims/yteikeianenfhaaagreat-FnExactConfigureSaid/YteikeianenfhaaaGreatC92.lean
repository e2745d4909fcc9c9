/- Contracts, plain definitions and lemmas. Conditions: none; lemmas. -/
import Derived.Test.YteikeianenfhaaaGreatTy
import Derived.Test.YteikeianenfhaaaGreatVM8
import Derived.Test.YteikeianenfhaaaGreatProg
import Derived.Test.YteikeianenfhaaaGreatC61
set_option maxRecDepth 20000
set_option linter.unusedSimpArgs false
set_option linter.unusedVariables false
set_option maxHeartbeats 2000000
namespace Go.Proofs
open Go Go.VL Tryz
theorem Tryz.c_eqIntS (a b:List Int):Pure prog 90 [dIs a,dIs b] (.bool (decide (a=b))):=by
 refine qav func90 rfl ntmps90 fun ok=>?_
 simp only[go_sem,seval] at ok⊢;refine⟨fun h=>?_,fun hlen=>?_⟩
 ·simp only[false_eq_decide_iff];rintro rfl;exact h rfl
 refine qaF (E:=env 0) tok (σ:=Nat) (fun i=>[(0,.d (dIs a)),(1,.d (dIs b)),(5,.d (dI i))]) (fun _=>[]) (fun i=>i<=a.length/\∀ j,j<i->a.getD j 0=b.getD j 0) (fun i=>a.length-i) [] 1000 1000 ?_ ?_ ?_
 ·simp only[go_sem,seval]
 ·simp only[go_sem,seval];exact⟨0,⟨by omega,by omega⟩,rfl⟩
 ·intro i hi;simp only[go_sem,seval];refine⟨fun h1=>⟨by kernel_rfl,h1,by omega,fun h2=>?_,fun h2=>⟨by rw[qaa];omega,i+1,⟨by omega,?_⟩,by omega,rfl⟩⟩,fun h1=>?_⟩
  ·simp only[false_eq_decide_iff];rintro rfl;exact h2 rfl
  ·intro j hj;by_cases hji:j=i
   ·subst hji;exact h2
   ·exact hi.2 j (by omega)
  ·simp only[true_eq_decide_iff];refine ybn hlen fun j h3 h4=>?_
   have:=hi.2 j (by omega);simpa [List.getD,h3,h4] using this
def Tryz.held:List Int->Int->Int
 | [],k=>k
 | x::r,k=>if x=k then Tryz.held r (k+1) else -1
theorem Tryz.held_marks (k:Int) : ∀ (m s:Nat),Tryz.held ((List.range' s m).map fun(j:Nat)=>k+(j:Int)) (k+(s:Int))=k+((s+m:Nat):Int)
 | 0,s=>by simp[Tryz.held]
 | m+1,s=>by
  have:=held_marks k m (s+1);simp only[List.range'_succ,yaH,Tryz.held,if_true];have e:k+(s:Int)+1=k+((s+1:Nat):Int):=by omega
  rw[e,this];omega
theorem Tryz.held_mark (k:Int) (m:Nat):Tryz.held ((List.range m).map fun(j:Nat)=>k+(j:Int)) k=k+(m:Int):=by
 have:=held_marks k m 0;rw[<-List.range_eq_range'] at this;simpa using this
theorem Tryz.c_heldIntS (a:List Int) (k:Int) (hk:0<=k/\k+a.length<=9000000000000000000):Pure prog 179 [dIs a,dI k] (dI (Tryz.held a k)):=by
 refine qav func179 rfl ntmps179 fun ok=>?_
 simp only[go_sem,seval] at ok⊢;refine qaF (E:=env 0) tok (σ:=Nat) (fun i=>[(0,.d (dIs a)),(1,.d (dI (k+(i:Int)))),(5,.d (dI i))]) (fun _=>[]) (fun i=>i<=a.length/\Tryz.held a k=Tryz.held (a.drop i) (k+(i:Int))) (fun i=>a.length-i) [] 1000 1000 ?_ ?_ ?_
 ·simp only[go_sem,seval]
 ·simp only[go_sem,seval];exact⟨0,by simp⟩
 ·rintro i ⟨hi,hinv⟩;simp only[go_sem,seval];refine⟨fun h1=>⟨h1,fun h2=>?_,fun h2=>⟨?_,?_,i+1,?_,?_⟩⟩,fun h1=>?_⟩
  ·rw[hinv,qkS 0 h1,Tryz.held,if_neg h2]
  ·rw[qaa];omega
  ·rw[qaa];omega
  ·rw[hinv,qkS 0 h1,Tryz.held,if_pos h2];refine⟨by omega,?_⟩;congr 1;omega
  ·omega
  ·rw[hinv,yaP (by omega),Tryz.held]
theorem Tryz.c_markIntS (g:Nat) (a:List Int) (k:Int) (hk:0<=k/\k+a.length<=9000000000000000000) (ha:a.length<=281474976710656) :
  Proc prog 92 [.sl 0 g 1 0 a.length,.d (dI k)] [.row g 1 true (a.map (D.int .i64))] (.d (dI (k+(a.length:Int)))) [.row g 1 true (((List.range a.length).map fun(j:Nat)=>k+(j:Int)).map (D.int .i64))]:=by
 refine ql5 (E:=env 1) tok rfl 1000 func92 rfl rfl ntmps92 (by simp) ?_;simp only[go_sem,seval];refine qaF (E:=env 1) tok (σ:=Nat×List Int) (fun s=>[(0,.sl 0 g 1 0 a.length),(1,.d (dI (k+(s.1:Int)))),(5,.d (dI s.1))]) (fun s=>[.row g 1 true (s.2.map (D.int .i64))]) (fun s=>s.1<=a.length/\s.2.length=a.length/\∀ (j:Nat),j<s.1->s.2.getD j 0=k+(j:Int)) (fun s=>a.length-s.1) [] 1000 1000 ?_ ?_ ?_
 ·simp only[go_sem,seval]
 ·simp only[go_sem,seval];exact⟨(0,a),⟨by omega,rfl,fun j hj=>by simp at hj⟩,by simp⟩
 ·rintro⟨i,b⟩ ⟨hi,hb,hinv⟩;simp only at hi hb hinv;simp only[go_sem,seval];refine⟨fun h1=>⟨h1,by omega,?_,?_,(i+1,b.set i (k+(i:Int))),⟨by omega,by simpa using hb,?_⟩,by omega,⟨by omega,rfl⟩,rfl⟩,fun h1=>⟨by omega,?_⟩⟩
  ·rw[qaa];omega
  ·rw[qaa];omega
  ·intro j hj;simp only at hj ⊢;by_cases hji:j=i
   ·subst hji;rw[qdA _ (by omega)]
   ·rw[qex _ (by omega)];exact hinv j (by omega)
  ·refine qbD 0 (by simpa using hb) fun j hj=>?_
   rw[hinv j (by omega)];simp[List.getD,show j<a.length by omega]

theorem Tryz.c_l1In (x lo hi:Int):Pure prog 134 [dI x,dI lo,dI hi] (.bool (decide (lo<=x)&&decide (x<=hi))):=by
 refine qav func134 rfl ntmps134 fun ok=>?_
 simp only[go_sem,seval]

def Tryz.defectOk (d:Int×Int):Bool:=(decide (0<=d.1)&&decide (d.1<=24))&&(decide (0<=d.2)&&decide (d.2<=7))
theorem Tryz.defectOk_iff {d:Int×Int}:defectOk d=true↔(0<=d.1/\d.1<=24)/\0<=d.2/\d.2<=7:=by simp[defectOk]
theorem Tryz.defectOk_no {d:Int×Int}(h : ¬ ((0<=d.1/\d.1<=24)/\0<=d.2/\d.2<=7)):defectOk d=false:=by
 rw[Bool.eq_false_iff];exact fun e=>h (defectOk_iff.1 e)
def Tryz.defectsValid (l:List (Int×Int)):Bool:=decide (l.length<=12)&&l.all defectOk
theorem qio {α : Type}(p : α->Bool) (l:List α) (z : α):l.all p=true↔∀ j,j<l.length->p (l.getD j z)=true:=by
 rw[yaD];constructor
 ·intro h j hj;exact h _ (by simp[List.getD,hj])
 ·intro h x hx;obtain⟨j,hj,rfl⟩:=yai hx;have:=h j hj;simpa [List.getD,hj] using this
theorem qo6 {α : Type}{p : α->Bool}{l:List α}{z : α}{j:Nat}(hj:j<l.length) (h:p (l.getD j z)=false):l.all p=false:=by
 rw[Bool.eq_false_iff];intro ha;have:=(qio p l z).1 ha j hj;rw[h] at this;exact absurd this (by simp)
theorem Tryz.c_DefectsValid (l:List (Int×Int)):Pure prog 68 [dPs l] (.bool (defectsValid l)):=by
 refine qav func68 rfl ntmps68 fun ok=>?_
 simp only[go_sem,seval] at ok⊢;refine⟨fun h=>by simp[defectsValid];omega,fun h=>?_⟩;refine qaF (E:=env 0) tok (σ:=Nat) (fun i=>[(8,.d (dPs l)),(9,.d (dI l.length)),(10,.d (dI i))]) (fun i=>[]) (fun i=>i<=l.length/\∀ j,j<i->defectOk (l.getD j (0,0))=true) (fun i=>l.length-i) [] 1000 1000 ?_ ?_ ?_
 ·simp only[go_sem,seval]
 ·simp only[go_sem,seval];exact⟨0,by simp⟩
 ·rintro i ⟨hi,hinv⟩;simp only[go_sem,seval];refine⟨fun h1=>⟨h1,fun h2=>?_,fun h2=>⟨by rw[qaa];omega,i+1,⟨by omega,fun j hj=>?_⟩,by omega,rfl⟩⟩,fun h1=>?_⟩
  ·have:defectOk (l.getD i (0,0))=false:=defectOk_no (by omega);simp[defectsValid,qo6 h1 this]
  ·by_cases hji:j=i
   ·subst hji;exact defectOk_iff.2 (by omega)
   ·exact hinv j (by omega)
  ·have:l.all defectOk=true:=(qio _ _ (0,0)).2 fun j hj=>hinv j (by omega)
   simp[defectsValid,this];omega

def Tryz.Bytes (b:List Int):Prop:=∀ x∈b,0<=x/\x<=255
theorem Tryz.shp_Bytes {f:Nat}(y:D) (h:shp tyT (f+2) 22 y) : ∃ l:List Int,y=dUs l:=
 shp_slice ty22 ty5 (g:=D.int .u8) (fun y h=>shp_int ty5 h) h

theorem Tryz.c_isLit (l n:Int) (hn:0<=n/\n<=4000000000000000000):Pure prog 108 [dI l,dI n] (.bool (decide (0<=l)&&decide (l<2*n))):=by
 refine qav func108 rfl ntmps108 fun ok=>?_
 simp only[go_sem,seval] at ok⊢;rw[qaa];omega
theorem Tryz.c_firstGate (c:Circ) (h : -1000<=c.inputs/\c.inputs<=1000):Pure prog 162 [pC c] (dI c.first):=by
 refine qav func162 rfl ntmps162 fun ok=>?_
 simp only[go_sem,seval] at ok⊢;refine⟨by kernel_rfl,?_,?_,rfl⟩ <;> (rw[qaa];omega)
theorem Tryz.c_vars (c:Circ) (h : -1000<=c.inputs/\c.inputs<=1000):Pure prog 104 [pC c] (dI c.vars):=by
 refine qav func104 rfl ntmps104 fun ok=>?_
 simp only[go_sem,seval] at ok⊢;refine⟨by kernel_rfl,qb7 (fun _=>⟨c_firstGate c h,by simp only[scal,qaa,Circ.first];omega⟩) ?_⟩;simp only[go_sem,seval];simp only[qaa,Circ.first,Circ.vars,and_true];omega
theorem Tryz.c_roots (c:Circ) (h1:c.next.length<=1000000/\c.outs.length<=1000000):Pure prog 103 [pC c] (dIs c.roots):=by
 refine qav func103 rfl ntmps103 fun ok=>?_
 simp only[go_sem,seval] at ok⊢;refine qbt (n:=0) [4,9] (fsts [0,1,2,5,6,7,3] (.two 4 (.one 8 (.one 9 (.fst 10 .done))) 8 (.one 4 (.one 9 (.fst 10 .done))))) ?_;simp only[go_sem,seval];simp only[Circ.roots,and_true];refine⟨by omega,by omega⟩
theorem Circ.notValid {c:Circ}(h : ¬ c.Valid):false=decide c.Valid:=by simp[h]
theorem Tryz.c_CircuitValid (c:Circ):Pure prog 49 [dC c] (.bool (decide c.Valid)):=by
 refine qav func49 rfl ntmps49 fun ok=>?_
 simp only[go_sem,seval] at ok⊢;refine⟨fun h=>Circ.notValid fun hv=>?_,fun h=>?_⟩
 ·have:=hv.i0;have:=hv.i1;have:=hv.ln;have:=hv.lg;have:=hv.lo;omega
 refine⟨by rw[qaa];omega,by rw[qaa];omega,?_⟩;have hf:1+c.inputs+(c.next.length:Int)=c.first:=rfl
 have hb:1<=c.first/\c.first<=8:=by omega
 rw[hf];refine qaF (E:=env 0) tok (σ:=Nat) (fun i=>[(1,.ptr 0 0),(3,.d (dI c.first)),(42,.d (dPs c.gates)),(43,.d (dI c.gates.length)),(44,.d (dI i))]) (fun i=>[.box [.d (dI c.inputs),.d (dIs c.next),.d (dPs c.gates),.d (dIs c.outs)]])
  (fun i=>i<=c.gates.length/\∀ j,j<i->qaX (c.gates.getD j (0,0)).1 (c.first+(j:Int))/\qaX (c.gates.getD j (0,0)).2 (c.first+(j:Int))) (fun i=>c.gates.length-i) [] 1000 1000 ?_ ?_ ?_
 ·simp only[go_sem,seval]
 ·simp only[go_sem,seval];exact⟨0,⟨by omega,fun j hj=>absurd hj (by omega)⟩,rfl⟩
 ·rintro i ⟨hi,hinv⟩
  repeat' first|assumption|(simp (disch:=first|assumption|omega|(simp;done)|(simp;omega)) only[go_sem,seval])|(with_reducible first|apply And.intro|intro _)|(refine qad (c_isLit _ _ (by omega)) ?_)|(refine qbk (fun hg=>c_isLit _ _ (by omega)) ?_)|(refine qad (c_roots c (by omega)) ?_)|((try rw[qaa]);omega)
  ·exact Circ.notValid fun hv=>by have:=hv.g i (by omega);unfold qaX at this;omega
  ·rename_i h1 h2;refine⟨i+1,⟨by omega,fun j hj=>?_⟩,by omega,rfl⟩;by_cases hji:j=i
   ·subst hji;exact h2
   ·exact hinv j (by omega)
  ·have hg : ∀ j,j<c.gates.length->qaX (c.gates.getD j (0,0)).1 (c.first+(j:Int))/\qaX (c.gates.getD j (0,0)).2 (c.first+(j:Int)):=fun j hj=>hinv j (by omega)
   clear hinv hi;have hv0:c.first<=c.vars/\c.vars<=22:=by unfold Circ.vars;omega
   have hrl:c.roots.length<=6:=by simp[Circ.roots];omega
   refine qaF (E:=env 0) tok (σ:=Nat) (fun i=>[(1,.ptr 0 0),(66,.d (dIs c.roots)),(67,.d (dI c.roots.length)),(68,.d (dI i))]) (fun i=>[.box [.d (dI c.inputs),.d (dIs c.next),.d (dPs c.gates),.d (dIs c.outs)]])
    (fun i=>i<=c.roots.length/\∀ j,j<i->qaX (c.roots.getD j 0) c.vars) (fun i=>c.roots.length-i) [] 1000 1000 ?_ ?_ ?_
   ·simp only[go_sem,seval]
   ·simp only[go_sem,seval];exact⟨0,⟨by omega,fun j hj=>absurd hj (by omega)⟩,rfl⟩
   ·rintro i ⟨hi,hinv⟩
    repeat' first|assumption|(simp (disch:=first|assumption|omega|(simp;done)|(simp;omega)) only[go_sem,seval])|(with_reducible first|apply And.intro|intro _)|(refine qad (c_vars _ (by omega)) ?_)|(refine qad (c_isLit _ _ (by omega)) ?_)|(refine qbk (fun hg=>c_isLit _ _ (by omega)) ?_)|((try rw[qaa]);omega)
    ·exact Circ.notValid fun hv=>by have:=hv.roots _ (qae (z:=0) (show i<c.roots.length by assumption));unfold qaX at this;omega
    ·rename_i h1 h2;refine⟨i+1,⟨by omega,fun j hj=>?_⟩,by omega,rfl⟩;by_cases hji:j=i
     ·subst hji;exact h2
     ·exact hinv j (by omega)
    ·have hr : ∀ x∈c.roots,qaX x c.vars:=(qmM 0).2 fun j hj=>hinv j (by omega)
     have hv:c.Valid:=⟨by omega,by omega,by omega,by omega,by omega,hg,fun x hx=>hr x (List.mem_append.2 (.inl hx)),fun x hx=>hr x (List.mem_append.2 (.inr hx))⟩;simp[hv]

abbrev Kn:=List (Int×Bool)
def kn (m:Kn) (k:Int):Option Bool:=(m.find? fun e=>decide (e.1=k)).map fun e=>e.2
def knUp:Kn->Int->Bool->Kn
 | [],k,b=>[(k,b)]
 | e::r,k,b=>if e.1=k then(k,b)::r else e::knUp r k b
theorem qmc (k:Int) (b:Bool) (j:Int) : ∀ m,kn (knUp m k b) j=if j=k then some b else kn m j
 | []=>by by_cases h:j=k <;> simp[kn,knUp,h,eq_comm]
 | e::r=>by
  have ih:=qmc k b j r;unfold knUp;by_cases h:e.1=k
  ·rw[if_pos h];by_cases h2:j=k
   ·simp[kn,h2]
   ·have h3 : ¬ e.1=j:=fun h4=>h2 (by rw[<-h4,h])
    have h4 : ¬ k=j:=fun h5=>h2 h5.symm
    simp[kn,h2,h3,h4]
  ·rw[if_neg h];by_cases h3:e.1=j
   ·have h2 : ¬ j=k:=fun h4=>h (by rw[h3,h4])
    simp[kn,h2,h3]
   ·unfold kn at ih ⊢;simp only[List.find?_cons,decide_eq_false h3,ih]
def knE (m:Kn):List (D×D):=m.map fun e=>(dI e.1,D.bool e.2)
theorem qj7 (k:Int) : ∀ m,qde (knE m) (dI k)=(kn m k).map D.bool
 | []=>rfl
 | e::r=>by
  have ih:=qj7 k r;show qde ((dI e.1,D.bool e.2)::knE r) _=_
  rw[qgF,qdr];by_cases h:e.1=k
  ·subst h;simp[kn]
  ·rw[decide_eq_false (fun h2=>h h2.symm)];simp only[yag,if_false,ih];simp[kn,h]
theorem qj8 (k:Int) (b:Bool) : ∀ m,updD (knE m) (dI k) (D.bool b)=knE (knUp m k b)
 | []=>rfl
 | e::r=>by
  have ih:=qj8 k b r;show updD ((dI e.1,D.bool e.2)::knE r) _ _=_
  rw[updD,qdr];by_cases h:e.1=k
  ·subst h;simp[knUp,knE]
  ·rw[decide_eq_false (fun h2=>h h2.symm)];simp only[yag,if_false,ih];simp[knUp,knE,h]
theorem qhy (m:Kn):qbH (.int .i64) (knE m):=by
 rw[qen];intro e he;obtain⟨x,_,rfl⟩:=List.mem_map.1 he;exact rfl
structure KnOk (c:Circ) (leaves:List Int) (x:Nat) (m:Kn):Prop where
 val : ∀ k b,kn m k=some b->b=qcl c leaves x k
 leaf : ∀ z∈leaves,kn m z≠none
theorem KnOk.up {c:Circ}{leaves:List Int}{x:Nat}{m:Kn}(h:KnOk c leaves x m) (k:Int):KnOk c leaves x (knUp m k (qcl c leaves x k)):=by
 refine⟨fun j b hj=>?_,fun z hz=>?_⟩
 ·rw[qmc] at hj;split at hj
  ·rename_i e;subst e;simpa using hj.symm
  ·exact h.val j b hj
 ·rw[qmc];split
  ·simp
  ·exact h.leaf z hz
theorem qsf {c:Circ}{leaves:List Int}{x:Nat}{v:Int}{m:Kn}{X:Bool}{T:List R}(hm:KnOk c leaves x m) (hX:X=qcl c leaves x v) :
  endI 1 (fun r H'=>∃ m',KnOk c leaves x m'/\r=I.d (dB (qcl c leaves x v))/\H'=[R.map (knE m')]) (I.d (D.bool X)) (.map (updD (knE m) (dI v) (D.bool X))::T):=by
 subst hX;rw[qj8];refine qco (r0:=.d (dB (qcl c leaves x v))) (H1:=[.map (knE (knUp m v (qcl c leaves x v)))]) ?_ ⟨_,hm.up v,rfl,rfl⟩;simp only[go_sem,seval]
set_option maxHeartbeats 4000000 in
theorem Tryz.c_coneValue (c:Circ) (hc:c.Valid) (leaves:List Int) (x:Nat) : ∀ (n:Nat) (v:Int) (m:Kn),v.toNat<n->0<=v->v<c.vars->KnOk c leaves x m->
  ICall prog 208 [.d (pC c),.d (dI v),.map 0] [.map (knE m)] (fun r H'=>∃ m',KnOk c leaves x m'/\r=.d (dB (qcl c leaves x v))/\H'=[.map (knE m')]):=by
 have hf:=hc.first_bd;have hi0:=hc.i0;have hi1:=hc.i1;have hvv:=hc.vars_bd;have hfst:=c_firstGate c (by omega);intro n;induction n with
 | zero=>intro v m h;omega
 | succ n ih=>
  intro v m hvn hv0 hv hm;have ek:=qj7 v m;have hks:=qhy m;have hnl:kn m v=none->v∉leaves:=fun h hv=>hm.leaf v hv h
  cases hkn:kn m v with
  | some b=>
   rw[hkn] at ek;refine qaJ (E:=env 1) tok rfl 1000 func208 rfl rfl ntmps208 (by simp) ?_;simp only[go_sem,seval,ek,yaJ]
   repeat' first|assumption|(simp (disch:=first|assumption|omega|(simp;done)|(simp;omega)) only[];try simp only[go_sem,seval,ek,yaJ])|(with_reducible first|apply And.intro|intro _)|(refine qad hfst ?_;simp only[go_sem,seval,ek,yaJ])|(refine qbk (fun _=>hfst) ?_;simp only[go_sem,seval,ek,yaJ])|((try rw[qaa]);omega)
   refine qco (r0:=.d (dB (qcl c leaves x v))) (H1:=[.map (knE m)]) ?_ ⟨m,hm,rfl,rfl⟩;rw[<-hm.val v b hkn];simp only[go_sem,seval]
  | none=>
   rw[hkn] at ek;have hvl:=hnl hkn;by_cases hlow:v<c.first
   ·have hval:qcl c leaves x v=false:=by rw[qe0 hv0 hlow,qdE,if_neg hvl]
    refine qaJ (E:=env 1) tok rfl 1000 func208 rfl rfl ntmps208 (by simp) ?_;simp only[go_sem,seval,ek,yaF]
    repeat' first|assumption|(simp (disch:=first|assumption|omega|(simp;done)|(simp;omega)) only[];try simp only[go_sem,seval,ek,yaF])|(with_reducible first|apply And.intro|intro _)|(refine qad hfst ?_;simp only[go_sem,seval,ek,yaF])|(refine qbk (fun _=>hfst) ?_;simp only[go_sem,seval,ek,yaF])|((try rw[qaa]);omega)
    refine qco (r0:=.d (dB (qcl c leaves x v))) (H1:=[.map (knE m)]) ?_ ⟨m,hm,rfl,rfl⟩;rw[hval];simp only[go_sem,seval]
   ·obtain⟨i,rfl⟩ : ∃ i:Nat,v=c.first+(i:Int):=⟨(v-c.first).toNat,by omega⟩
    have hi:i<c.gates.length:=by unfold Circ.vars at hv;omega
    obtain⟨g1,g2⟩:=hc.g i hi;have hval:=qfg hc (leaves:=leaves) (x:=x) hi;rw[qdE,if_neg hvl] at hval;have ei:(c.first+(i:Int)-c.first).toNat=i:=by omega
    have ea:qbe c i=(c.gates.getD i (0,0)).1:=rfl;have eb:qbf c i=(c.gates.getD i (0,0)).2:=rfl;rw[ea,eb] at hval;unfold qaX at g1 g2;have iha:=fun m hm=>ih ((c.gates.getD i (0,0)).1/2) m (by omega) (by omega) (by unfold Circ.vars;omega) hm
    have ihb:=fun m hm=>ih ((c.gates.getD i (0,0)).2/2) m (by omega) (by omega) (by unfold Circ.vars;omega) hm
    have hg : ∀ z,(c.gates.map fun x=>dP x).getD i z=dP (c.gates.getD i (0,0)):=fun z=>getD_lt _ _ _ _ _ hi
    generalize c.gates.getD i (0,0)=gg at *
    obtain⟨ga,gb⟩:=gg;simp only at hval g1 g2 iha ihb;have ha2:((ga.toNat &&& 1:Nat):Int)=ga%2:=by rw[Nat.and_one_is_mod];omega
    have hb2:((gb.toNat &&& 1:Nat):Int)=gb%2:=by rw[Nat.and_one_is_mod];omega
    have cva : ∀ {m:Kn}{T:List R}{K:I->List R->Prop},KnOk c leaves x m->(∀ m',KnOk c leaves x m'->K (.d (dB (qcl c leaves x (ga/2)))) (.map (knE m')::T))->
      ICall prog 208 [.d (pC c),.d (dI (ga/2)),.map 0] (.map (knE m)::T) K:=fun {m T K} hm hk=>by
     refine qaA (iha m hm) [0] (by simp only[go_sem,seval]) ?_;rintro r0 H1 ⟨m',hm',rfl,rfl⟩;have:=hk m' hm';simp only[go_sem,seval];simpa using this
    have cvb : ∀ {m:Kn}{T:List R}{K:I->List R->Prop},KnOk c leaves x m->(∀ m',KnOk c leaves x m'->K (.d (dB (qcl c leaves x (gb/2)))) (.map (knE m')::T))->
      ICall prog 208 [.d (pC c),.d (dI (gb/2)),.map 0] (.map (knE m)::T) K:=fun {m T K} hm hk=>by
     refine qaA (ihb m hm) [0] (by simp only[go_sem,seval]) ?_;rintro r0 H1 ⟨m',hm',rfl,rfl⟩;have:=hk m' hm';simp only[go_sem,seval];simpa using this
    refine qaJ (E:=env 1) tok rfl 1000 func208 rfl rfl ntmps208 (by simp) ?_;simp only[go_sem,seval,ek,yaF,ei,hg]
    repeat' first|assumption|(simp (disch:=first|assumption|omega|(simp;done)|(simp;omega)) only[];try simp only[go_sem,seval,ek,yaF,ei,hg])|(with_reducible first|apply And.intro|intro _)|(refine qad hfst ?_;simp only[go_sem,seval,ek,yaF,ei,hg])|(refine qbk (fun _=>hfst) ?_;simp only[go_sem,seval,ek,yaF,ei,hg])|((try rw[qaa]);omega)
    refine qbt (n:=1) [11] (fsts [0,1,2,4,5,3] (.two 6 (fsts [7,8] (.two 9 (.one 10 (.one 11 .done)) 10 (.one 9 (.one 11 .done)))) 10 (.one 6 (fsts [7,8] (.one 9 (.one 11 .done)))))) ?_;simp only[go_sem,seval,ek,yaF,ei,hg]
    repeat' first|assumption|(simp (disch:=first|assumption|omega|(simp;done)|(simp;omega)) only[];try simp only[go_sem,seval,ek,yaF,ei,hg])|(with_reducible first|apply And.intro|intro _)|(refine qad hfst ?_;simp only[go_sem,seval,ek,yaF,ei,hg])|(refine qbk (fun _=>hfst) ?_;simp only[go_sem,seval,ek,yaF,ei,hg])|((try rw[qaa]);omega)
    all_goals (
     refine qbt (n:=1) [5,17] (fsts [0,1,4,6,2,3] (.two 5 (.one 7 (fsts [8,9,10,11,12,13,16,18] (.two 14 (.fst 15 (.two 17 (.one 19 (fsts [20,21,22,23,24] .done)) 19 (fsts [20,21] (.one 17 (fsts [22,23,24] .done))))) 19 (fsts [20,21] (.one 14 (.fst 15 (.one 17 (fsts [22,23,24] .done)))))))) 7 (fsts [8,9] (.one 5 (fsts [10,11,12,13,16,18] (.two 14 (.fst 15 (.two 17 (.one 19 (fsts [20,21,22,23,24] .done)) 19 (fsts [20,21] (.one 17 (fsts [22,23,24] .done))))) 19 (fsts [20,21] (.one 14 (.fst 15 (.one 17 (fsts [22,23,24] .done))))))))))) ?_;simp only[go_sem,seval,ha2,hb2]
     repeat' first|assumption|(simp (disch:=first|assumption|omega|(simp;done)|(simp;omega)) only[];try simp only[go_sem,seval,ha2,hb2])|(with_reducible first|apply And.intro|intro _)|(refine cva (by assumption) ?_;simp only[go_sem,seval,ha2,hb2])|(refine cvb (by assumption) ?_;simp only[go_sem,seval,ha2,hb2])|(refine @Exists.intro I _ (I.d (D.bool false)) ?_;simp only[go_sem,seval,ha2,hb2])|((try rw[qaa]);omega))
    all_goals first
     | exact qhy _
     | exact qsf (by assumption) hval.symm
     | exact qsf (by assumption) (by rw[hval];simp_all)
end Go.Proofs
