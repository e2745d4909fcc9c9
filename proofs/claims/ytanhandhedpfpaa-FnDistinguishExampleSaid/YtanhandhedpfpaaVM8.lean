/- Part 32: circuits as data. Conditions: none; plain definitions and lemmas. -/
import Derived.Test.YtanhandhedpfpaaVM7
import Derived.OrdersHeld
import Derived.KernelRfl
set_option linter.unusedVariables false
set_option linter.unusedSimpArgs false
namespace Go.VL
abbrev dP (p:Int×Int):D:=.agg [dI p.1,dI p.2]
abbrev dPs (l:List (Int×Int)):D:=.lst 2 (l.map dP)
@[go_sem] theorem dP_get {l:List (Int×Int)}{i:Nat}:(l.map dP).getD i (.agg [.int .i64 0,.int .i64 0])=dP (l.getD i (0,0)):=qcX _ _ _ (0,0)
@[go_sem] theorem dP_inj {l l':List (Int×Int)}:(l.map dP=l'.map dP)=(l=l'):=qff fun x y h=>by
 obtain⟨a,b⟩:=x;obtain⟨c,d⟩:=y
 simpa [dP] using h
@[go_sem] theorem dP_ok {l:List (Int×Int)}:okL (l.map dP) = ∀ x∈l,InK .i64 x.1∧InK .i64 x.2:=by
 rw[qgm]
 simp[dP,D.ok,okL]
@[go_sem] theorem dP_set {l:List (Int×Int)}{i:Nat}{x:Int×Int}:(l.map dP).set i (dP x)=(l.set i x).map dP:=List.map_set.symm
@[go_sem] theorem dP_set' {l:List (Int×Int)}{i:Nat}{x y:Int}:(l.map dP).set i (D.agg [.int .i64 x,.int .i64 y])=(l.set i (x,y)).map dP:=(List.map_set (f:=dP) (a:=(x,y))).symm
@[go_sem] theorem dP_rep {n:Nat}:List.replicate n (D.agg [.int .i64 0,.int .i64 0])=(List.replicate n ((0,0):Int×Int)).map dP:=by simp[dP]
@[go_sem] theorem dP_push {l:List (Int×Int)}{x y:Int}:l.map dP ++ [D.agg [.int .i64 x,.int .i64 y]]=(l ++ [(x,y)]).map dP:=by simp
@[go_sem] theorem dP_push' {l:List (Int×Int)}{x:Int×Int}:l.map dP ++ [dP x]=(l ++ [x]).map dP:=by simp
@[go_sem] theorem dP_app {l l':List (Int×Int)}:l.map dP++l'.map dP=(l++l').map dP:=by simp
@[go_sem] theorem dP_none {l:List (Int×Int)}:(([]:List D)=l.map dP)=(l=[]):=propext ⟨fun h=>by cases l with|nil=>rfl|cons x r=>simp at h,fun h=>by rw[h];rfl⟩
@[go_sem] theorem dP_one {x y:Int}{l:List (Int×Int)}:([D.agg [.int .i64 x,.int .i64 y]]=l.map dP)=(l=[(x,y)]):=propext ⟨fun h=>by
  cases l with
  | nil=>simp at h
  | cons z r=>
   cases r with
   | nil=>obtain⟨u,v⟩:=z;simp[dP] at h;simp[h]
   | cons y r=>simp at h,fun h=>by rw[h];rfl⟩
@[go_sem] theorem dP_drop {l:List (Int×Int)}{n:Nat}:(l.map dP).drop n=(l.drop n).map dP:=by simp
@[go_sem] theorem dP_take {l:List (Int×Int)}{n:Nat}:(l.map dP).take n=(l.take n).map dP:=by simp
attribute [go_sem] List.drop_zero
theorem qat {α : Type}{l:List α}{i:Nat}{z : α}(h:i<l.length):l.getD i z∈l:=by simp[List.getD,h]
theorem qh4 {α : Type}{l:List α}{x : α}(z : α) (h:x∈l) : ∃ i,i<l.length∧l.getD i z=x:=by
 obtain⟨i,hi,rfl⟩:=List.getElem_of_mem h
 exact⟨i,hi,by simp[List.getD,hi]⟩
theorem ql6 {α : Type}{P : α→Prop}{l:List α}(z : α):(∀ x∈l,P x)↔∀ j,j<l.length→P (l.getD j z):=
 ⟨fun h j hj=>h _ (qat hj),fun h x hx=>by obtain⟨i,hi,rfl⟩:=qh4 z hx;exact h i hi⟩
theorem Pure.wk {P:Program}{f:Nat}{ds ds':List D}{x:D}(h:Pure P f ds x) (hw:wkT ds' ds):Pure P f ds' x:=by
 obtain⟨hl,hg⟩:=qe2 hw
 exact⟨h.1,fun S vs w Rr hS ha hr=>h.2 S vs w Rr hS ⟨ha.1.trans hl,fun j hj=>qhU (hg j (by omega)) (ha.2 j (by omega))⟩ hr⟩
theorem PureF.wk {P:Program}{f:Nat}{ds ds':List D}{x:D}(h:PureF P f ds x) (hw:wkT ds' ds):PureF P f ds' x:=by
 obtain⟨hl,hg⟩:=qe2 hw
 exact⟨h.1,fun S vs w Rr hS ha hr=>h.2 S vs w Rr hS ⟨ha.1.trans hl,fun j hj=>qhU (hg j (by omega)) (ha.2 j (by omega))⟩ hr⟩
structure Circ where
 inputs:Int
 next:List Int
 gates:List (Int×Int)
 outs:List Int
abbrev dC (c:Circ):D:=.agg [dI c.inputs,dIs c.next,dPs c.gates,dIs c.outs]
abbrev pC (c:Circ):D:=.ptr [dI c.inputs,dIs c.next,dPs c.gates,dIs c.outs]
def Circ.zero:Circ:=⟨0,[],[],[]⟩
def Circ.first (c:Circ):Int:=1+c.inputs+(c.next.length:Int)
def Circ.vars (c:Circ):Int:=c.first+(c.gates.length:Int)
def Circ.roots (c:Circ):List Int:=c.next++c.outs
def qbc (l n:Int):Prop:=0≤l∧l<2*n
instance (l n:Int):Decidable (qbc l n):=by unfold qbc;infer_instance
structure Circ.Valid (c:Circ):Prop where
 i0:0≤c.inputs
 i1:c.inputs≤4
 ln:c.next.length≤3
 lg:c.gates.length≤14
 lo:c.outs.length≤3
 g : ∀ i,i<c.gates.length→qbc (c.gates.getD i (0,0)).1 (c.first+(i:Int))∧qbc (c.gates.getD i (0,0)).2 (c.first+(i:Int))
 n : ∀ x∈c.next,qbc x c.vars
 o : ∀ x∈c.outs,qbc x c.vars
noncomputable instance (c:Circ):Decidable c.Valid:=Classical.propDecidable _
theorem Circ.Valid.first_bd {c:Circ}(h:c.Valid):1≤c.first∧c.first≤8:=by
 have:=h.i0;have:=h.i1;have:=h.ln
 unfold Circ.first;omega
theorem Circ.Valid.vars_bd {c:Circ}(h:c.Valid):c.first≤c.vars∧c.vars≤22:=by
 have:=h.first_bd;have:=h.lg
 unfold Circ.vars;omega
theorem Circ.Valid.roots {c:Circ}(h:c.Valid) : ∀ x∈c.roots,qbc x c.vars:=by
 intro x hx
 rcases List.mem_append.1 hx with h1|h1
 ·exact h.n x h1
 ·exact h.o x h1
end Go.VL
namespace Go.VL
variable {P:Program}{ops:Array Oper}{Q:Exit→Act→World→Prop}{S0:World→Prop}{T0:Nat→Bool}
def qbU (P:Program) (ops:Array Oper) (Q:Exit→Act→World→Prop) (S0:World→Prop) (T0:Nat→Bool):Nat→Array Bool→Act→World→Prop
 | 0,listed,a,w=>Region.ready .any ops listed=[]∧Q .normal a w
 | fuel+1,listed,a,w=>
  (Region.ready .any ops listed=[]→Q .normal a w)∧
  ∀ i∈Region.ready .any ops listed,wpOp P ops Q i (fun a' w'=>(T0 i=true→S0 w→S0 w')∧qbU P ops Q S0 T0 fuel (listed.setIfInBounds i true) a' w') a w
theorem qfR : ∀ (fuel:Nat) (listed:Array Bool) (a:Act) (w:World),qbU P ops Q S0 T0 fuel listed a w→wpAny P .any ops Q fuel listed a w
 | 0,_,_,_,h=>h
 | fuel+1,_,_,_,h=>⟨h.1,fun i hi=>wpOp_mono (fun a' w' h'=>qfR fuel _ a' w' h'.2) (h.2 i hi)⟩
def Closed (ops:Array Oper) (listed:Array Bool):Prop:=∀ j o,ops[j]?=some o→listed.getD j false=true→∀ e∈o.after,Region.binds .any e=true→listed.getD e.on false=true
theorem Closed.set {listed:Array Bool}(hc:Closed ops listed) {i:Nat}(hi:i∈Region.ready .any ops listed):Closed ops (listed.setIfInBounds i true):=by
 intro j o ho hj e he hb
 by_cases hij:i=j
 ·subst hij
  obtain⟨_,o',ho',hall⟩:=mem_ready.1 hi
  rw[ho] at ho'
  cases ho'
  exact getD_set_true (hall e he hb)
 ·rw[getD_set_ne false hij] at hj
  exact getD_set_true (hc j o ho hj e he hb)
def waits (ops:Array Oper) (i:Nat):Nat→Nat→Bool
 | 0,_=>false
 | f+1,j=>match ops[j]? with
  | some o=>o.after.any fun e=>Region.binds .any e&&(e.on == i || waits ops i f e.on)
  | none=>false
theorem qeq {listed:Array Bool}(hc:Closed ops listed) {i:Nat} : ∀ (f j:Nat),waits ops i f j=true→listed.getD j false=true→listed.getD i false=true
 | 0,j,h,_=>by simp[waits] at h
 | f+1,j,h,hj=>by
  simp only[waits] at h
  split at h
  ·rename_i o ho
   obtain⟨e,he,hb⟩:=Array.any_eq_true'.1 h
   simp only[Bool.and_eq_true,Bool.or_eq_true,beq_iff_eq] at hb
   have hl:=hc j o ho hj e he hb.1
   rcases hb.2 with h1|h1
   ·rw[←h1];exact hl
   ·exact qeq hc f e.on h1 hl
  ·simp at h
theorem qhC {listed:Array Bool}(hc:Closed ops listed) {i:Nat}(f j:Nat) (h:waits ops i f j=true) (hj:j∈Region.ready .any ops listed):listed.getD i false=true:=by
 cases f with
 | zero=>simp[waits] at h
 | succ f=>
  simp only[waits] at h
  obtain⟨_,o,ho,hall⟩:=mem_ready.1 hj
  simp only[ho] at h
  obtain⟨e,he,hb⟩:=Array.any_eq_true'.1 h
  simp only[Bool.and_eq_true,Bool.or_eq_true,beq_iff_eq] at hb
  have hl:=hall e he hb.1
  rcases hb.2 with h1|h1
  ·rw[←h1];exact hl
  ·exact qeq hc f e.on h1 hl
theorem qjZ {listed:Array Bool}{i:Nat}(h:listed.getD i true=false):listed.getD i false=false:=by
 rcases Nat.lt_or_ge i listed.size with h'|h'
 ·simp[h'] at h ⊢;exact h
 ·simp[Array.getElem?_eq_none h'] at h
theorem qer {S1:World→Prop}{i:Nat}{oi:Oper}{v:Value}(hi:ops[i]?=some oi) (hsel : ∀ (j:Nat) (o:Oper) cs b,ops[j]?=some o→o.op≠.select cs b)
  (hQ : ∀ c a w,Q (.panic c) (a.put oi.dst v) w→Q (.panic c) a w) (hS1:(∀ w,S1 w)∨S1=S0) :
  ∀ (fuel:Nat) (listed:Array Bool) (a:Act) (w:World),
   (∀ j oj,ops[j]?=some oj→j≠i→listed.getD j true=false→(∀ e∈oj.after,Region.binds .any e=true→e.on≠i)→oi.apart ops oj=true)→
   ((∀ w,S1 w)∨∀ j,T0 j=false→listed.getD j true=true∨∃ f,waits ops i f j=true)→Closed ops listed→
   i∈Region.ready .any ops listed→YieldsIf P ops S1 oi v a→S1 w→
   qbU P ops Q S0 T0 fuel (listed.setIfInBounds i true) (a.put oi.dst v) w→qbU P ops Q S0 T0 (fuel+1) listed a w:=by
 intro fuel
 induction fuel with
 | zero=>
  intro listed a w _ _ _ hr hy hS H
  refine⟨fun h=>(by rw[h] at hr;cases hr),fun j hj=>?_⟩
  by_cases hji:j=i
  ·subst hji;exact hy.wpOp hi hS ⟨fun _ h=>h,H⟩
  ·have:=ready_mono hj hji
   rw[H.1] at this
   cases this
 | succ fuel ih=>
  intro listed a w hfree hwait hcl hr hy hS H
  refine⟨fun h=>(by rw[h] at hr;cases hr),fun j hj=>?_⟩
  by_cases hji:j=i
  ·subst hji;exact hy.wpOp hi hS ⟨fun _ h=>h,H⟩
  ·have h1:=H.2 j (ready_mono hj hji)
   obtain⟨hjun,oj,hoj,hall⟩:=mem_ready.1 hj
   have hnot : ∀ e∈oj.after,Region.binds .any e=true→e.on≠i:=fun e he hb heq=>by
    have h1:=hall e he hb
    have h0:=qjZ (mem_ready.1 hr).1
    rw[heq] at h1
    rw[h1] at h0
    cases h0
   have h2:=wpOp_putIf hoj (hfree j oj hoj hji hjun hnot) (fun cs b=>hsel i oi cs b hi) (fun cs b=>hsel j oj cs b hoj) hQ hy h1
   have hfree' : ∀ k ok,ops[k]?=some ok→k≠i→(listed.setIfInBounds j true).getD k true=false→
     (∀ e∈ok.after,Region.binds .any e=true→e.on≠i)→oi.apart ops ok=true:=fun k ok hk hki hun hno=>by
    refine hfree k ok hk hki ?_ hno
    by_cases hjk:j=k
    ·subst hjk;exact hjun
    ·rw[getD_set_ne true hjk] at hun;exact hun
   have hwait':(∀ w,S1 w)∨∀ k,T0 k=false→(listed.setIfInBounds j true).getD k true=true∨∃ f,waits ops i f k=true:=by
    refine hwait.imp id fun h k hk=>(h k hk).imp (fun h=>?_) id
    by_cases hjk:j=k
    ·subst hjk;rw[h] at hjun;cases hjun
    ·rw[getD_set_ne true hjk];exact h
   have hkeep : ∀ w',(T0 j=true→S0 w→S0 w')→S1 w':=by
    intro w' hw'
    rcases hwait with h|h
    ·exact h w'
    ·rcases hS1 with h3|rfl
     ·exact h3 w'
     cases hT:T0 j with
     | true=>exact hw' hT hS
     | false=>
      rcases h j hT with h3|⟨f,h3⟩
      ·rw[h3] at hjun;cases hjun
      ·have h0:=qjZ (mem_ready.1 hr).1
       rw[qhC hcl f j h3 hj] at h0
       cases h0
   refine wpOp_mono (fun a' w' h3=>⟨h3.2.1,ih (listed.setIfInBounds j true) a' w' hfree' hwait' (hcl.set hj) (ready_mono hr (Ne.symm hji)) h3.1 (hkeep w' h3.2.1) ?_⟩) h2
   rw[Array.setIfInBounds_comm _ _ hji]
   exact h3.2.2
def memO:Op→Bool
 | .box _ _|.alloc _|.buildSlice _ _ _|.makeSlice _ _ _|.makeMap _ _=>false
 | _=>true
def qfi (E:Env) (fn:Option (Nat×List I)):Prop:=
 match fn with
 | some (f,_)=>E.pf f≠.proc
 | none=>True
def qaq (E:Env) (fr:Fr) (o:Oper):Prop:=
 match qar o.op with
 | some (g,_)=>qfi E (fnOf (evx fr g))
 | none=>qaE o.op=true∨memO o.op=false
def nQ (K:Fr→List R→Prop):Post:=fun e fr H=>match e with|.normal=>K fr H|_=>False
@[go_sem] theorem nQ_normal {K:Fr→List R→Prop}{fr:Fr}{H:List R}:nQ K .normal fr H=K fr H:=rfl
variable {E:Env}{S:Nat→Prop}{φ : List (List Nat)}{H:List R}{w:World}{fr:Fr}{a:Act}{n:Nat}
theorem qj0 {T:Nat→Option TI}{fr:Fr}{H:List R}{op:Op}{vc:Prop}{x:I}{H':List R}(h:sopI T fr H op=some (vc,x,H')) (hm:memO op=false) :
  ∃ H'',sopI T fr (qaZ H.length H) op=some (vc,x,H''):=by
 have hl:(qaZ H.length H).length=H.length:=qbC _ _
 cases op with
 | box e y=>
  simp only[sopI,sBox] at h ⊢
  cases hT:T e with
  | none=>simp[hT,qaP] at h
  | some ti=>
   simp only[hT] at h ⊢
   cases hc:qaR ti (evx fr y) with
   | none=>simp[hc,qaP] at h
   | some p=>
    simp only[hc,qaP,Option.some.injEq,Prod.mk.injEq,hl] at h ⊢
    exact⟨_,h.1,h.2.1,rfl⟩
 | alloc e=>
  simp only[sopI,qeR] at h ⊢
  cases hT:T e with
  | none=>simp[hT] at h
  | some ti=>
   simp only[hT,Option.some.injEq,Prod.mk.injEq,hl] at h ⊢
   exact⟨_,h.1,h.2.1,rfl⟩
 | buildSlice t len parts=>
  simp only[sopI,sLit] at h ⊢
  cases hT:T t with
  | none=>simp[hT,qaP] at h
  | some ti=>
   simp only[hT] at h ⊢
   cases hy:ti.ty with
   | slice e=>
    simp only[hy] at h ⊢
    cases he:T e with
    | none=>simp[he,qaP] at h
    | some ei=>
     simp only[he] at h ⊢
     cases hp:qaM ei.size 0 (qaG fr parts.toList) with
     | none=>simp[hp,qaP] at h
     | some p=>
      simp only[hp,qaP,Option.some.injEq,Prod.mk.injEq,hl] at h ⊢
      exact⟨_,h.1,h.2.1,rfl⟩
   | _=>simp[hy,qaP] at h
 | makeSlice t l c=>
  simp only[sopI,qgH] at h ⊢
  split at h
  ·rename_i ti x y hT hx hy
   cases hy:ti.ty with
   | slice e=>
    simp only[hy] at h ⊢
    cases he:T e with
    | none=>simp[he,qaP] at h
    | some ei=>
     simp only[he,qaP,Option.some.injEq,Prod.mk.injEq,hl] at h ⊢
     exact⟨_,h.1,h.2.1,rfl⟩
   | _=>simp[hy,qaP] at h
  ·simp[qaP] at h
 | makeMap t r=>
  cases r with
  | some r=>simp[sopI] at h
  | none=>
   simp only[sopI,qcr] at h ⊢
   split at h
   ·simp only[Option.some.injEq,Prod.mk.injEq,hl] at h ⊢
    exact⟨_,h.1,h.2.1,rfl⟩
   ·simp at h
 | _=>simp[memO] at hm
theorem qj1 (φ : List (List Nat)) (hl : φ.length=H.length) (b:Nat) : ¬ Foot (qbT H.length φ) b:=by
 rintro⟨i,hi⟩
 rw[qa6] at hi
 split at hi
 ·simp at hi
 ·simp[List.getD,List.getElem?_eq_none (show φ.length≤i by omega)] at hi
theorem qfj (hT:TOK E.P E.T) (s:Sim S φ H w) (hf:FrR S φ H w fr a) {o:Oper}(hnc:qar o.op=none) {vc:Prop}{x:I}{H':List R}(hp:sopI E.T fr H o.op=some (vc,x,H')) (hvc:vc) {v:Value}{w':World}
  (hr:(execOp a.eval o).run E.P w=.ok (.value v) w'∨((execOp a.eval o).run E.P w=.ok .skip w'∧v=undef)):qaq E fr o→Agree w w':=by
 intro hko
 simp only[qaq,hnc] at hko
 rcases hko with hq|hmem
 ·exfalso
  obtain⟨dst,op,ty,pos,after,guard⟩:=o
  simp only at hp hq hnc
  cases op with
  | call c=>
   obtain⟨callee,cargs,tys⟩:=c
   cases callee with
   | builtin b=>cases b <;> simp[qaE] at hq <;> simp[sopI] at hp
   | value g=>simp[qar] at hnc
   | _=>simp[qaE] at hq
  | _=>first|(simp[qaE] at hq;done)|(simp[sopI] at hp;done)
 ·obtain⟨H'',hp2⟩:=qj0 hp hmem
  obtain⟨s1,t1⟩:=s.kill H.length
  obtain⟨v2,w2,φ2,hr2,s2,_,he2,_⟩:=qbz hT s1 (hf.tr t1) hp2 hvc
  have hww:w2=w':=by
   rcases hr with h1|⟨h1,_⟩ <;> rcases hr2 with h2|⟨h2,_⟩ <;> rw[h1] at h2 <;> injection h2 with _ h3 <;> exact h3.symm
  rw[←hww]
  exact fun b hb=>he2.keep b hb (qj1 φ s.len b)
def Left (E:Env) (S:Nat→Prop) (φ : List (List Nat)) (H:List R) (w:World) (K:Fr→List R→Prop) (a':Act) (w':World):Prop:=
 ∃ S' φ' fr' H',Sim S' φ' H' w'∧FrR S' φ' H' w' fr' a'∧Ext S φ w S' φ' w'∧Tr E.n S φ H w S' φ' H' w'∧K fr' H'
theorem qdb {f:Operand}{args:List Operand}{o:Oper}(ho:qar o.op=some (f,args)) (s:Sim S φ H w) (hf:FrR S φ H w fr a)
  {Kc:I→List R→Prop}(h:qdS E (evc fr f∧evcs fr args) (fnOf (evx fr f)) (evs fr args) H Kc) {Qr:Exit→Act→World→Prop}{Kr:Act→World→Prop}
  (hK : ∀ S' φ' H' w' r v,Sim S' φ' H' w'→FrR S' φ' H' w' fr a→V S' φ' H' w' r v→Ext S φ w S' φ' w'→Tr H.length S φ H w S' φ' H' w'→(qfi E (fnOf (evx fr f))→Agree w w')→Kc r H'→Kr (a.put o.dst v) w'):o.wp E.P a w Kr Qr:=by
 unfold qdS at h
 split at h
 ·rename_i g caps hfn
  have common:(evc fr f∧evcs fr args)→∃ vs,a.eval f=.func (.func g) #[] vs∧((args.map a.eval).toArray++vs).size=(evs fr args++caps).length∧
    ∀ j,j<(evs fr args++caps).length→V S φ H w ((evs fr args++caps).getD j .junk) (((args.map a.eval).toArray++vs).getD j undef):=by
   rintro⟨hc1,hc2⟩
   obtain⟨vs,e1,e2,e3⟩:=qd8 (hf.evx f hc1) hfn
   obtain⟨l1,l2⟩:=qcP hf args hc2
   obtain⟨m1,m2⟩:=qd9 (va:=(args.map a.eval).toArray) (by simp[l1]) (fun j hj=>l2 j (by omega)) e2 e3
   exact⟨vs,e1,m1,m2⟩
  split at h
  ·split at h
   ·rename_i vc ds hv
    obtain⟨hc,hvc,ψ,hp,hk⟩:=h
    obtain⟨vs,e1,e2,e3⟩:=common hc
    refine qba (qcu ho e1 hp.1 w) (hp.2 (Lent S φ) _ w _ (fun b hb=>hb.elim (s.slt b) (s.lt b)) (qce (fun x v vc d h1 h2 h3=>qbQ s 3 h1 h2 h3) e2 e3 hv hvc) ?_)
    intro x v w' fp hx how hnd hfp hg
    rcases hk x hx with hk|⟨r,H',hu,hk⟩
    ·obtain⟨s1,s2,s3⟩:=qct s hg (fun b=>S b∨b∈fp) (fun b h=>.inl h) (fun b h=>h.imp id (hfp b)) (fun b h=>h.elim (fun h=>Nat.lt_of_lt_of_le (s.slt b h) hg.size) (how.lt b))
     exact hK _ _ _ _ _ _ s1 (hf.tr s2) (.d (how.fz fun b hb=>.inr hb)) s3 s2 (fun _=>hg.keep) hk
    ·obtain⟨S',φ',s1,s2,s3,hv⟩:=hu S φ w w' v fp s how hnd hfp hg
     exact hK _ _ _ _ _ _ s1 (hf.tr s2) hv s3 s2 (fun _=>hg.keep) hk
   ·exact h.elim
  ·split at h
   ·rename_i vc ds hv
    obtain⟨hc,hvc,ψ,hp,hk⟩:=h
    obtain⟨vs,e1,e2,e3⟩:=common hc
    refine qba (qcu ho e1 hp.1 w) (hp.2 S _ w _ s.slt (qce qhQ e2 e3 hv hvc) ?_)
    intro x v w' S' hx h1 h2 h3 hz hg
    obtain⟨s1,s2,s3⟩:=qct s hg S' h1 h2 h3
    exact hK _ _ _ _ _ _ s1 (hf.tr s2) (.d hz) s3 s2 (fun _=>hg.keep) (hk x hx)
   ·exact h.elim
  ·rename_i hpf
   obtain⟨hc,hp⟩:=h
   obtain⟨vs,e1,e2,e3⟩:=common hc
   refine qba (qcu ho e1 hp.1 w) (hp.2 S φ _ w _ s e2 e3 ?_)
   intro v w' S' φ' r H' s1 hv s3 s2 hk
   exact hK _ _ _ _ _ _ s1 (hf.tr s2) hv s3 s2 (fun hne=>by simp only[hfn,qfi] at hne;exact absurd hpf hne) hk
 ·exact h.elim
set_option maxHeartbeats 1000000 in
theorem qbe (hT:TOK E.P E.T) {all:List Oper}{o:Oper}{K:Fr→List R→Prop}(F:Nat) (hn:E.n≤H.length) (s:Sim S φ H w) (hf:FrR S φ H w fr a)
  (h:ops' E F all [o] [] (nQ K) fr H) {Kr:Act→World→Prop}{Qr:Exit→Act→World→Prop}(hK : ∀ a' w',(qaq E fr o→Agree w w')→Left E S φ H w K a' w'→Kr a' w') :
  if Region.wanted o (yielded all.toArray a.tmps) then o.wp E.P a w Kr Qr∨(o.asks E.P a w∧LetsOut Qr) else Kr (a.put o.dst undef) w:=by
 have fin : ∀ (f:Nat) {fr':Fr}{H':List R},ops' E f all [] [] (nQ K) fr' H'→K fr' H':=by
  intro f fr' H' h
  match f with
  | 0=>simp only[ops'] at h
  | 1=>simp only[ops',exec] at h
  | f+2=>simpa only[ops',exec,nQ] using h
 have same : ∀ {fr':Fr}{a':Act},FrR S φ H w fr' a'→K fr' H→Kr a' w:=fun hf' hk=>hK _ _ (fun _=>Agree.refl w) ⟨S,φ,_,H,s,hf',Ext.refl ..,Tr.refl hn,hk⟩
 match F with
 | 0=>simp only[ops'] at h
 | F+1=>
 simp only[ops'] at h
 split at h
 ·rename_i hgd
  have hw:Region.wanted o (yielded all.toArray a.tmps)=true:=by simp only[Region.wanted,hgd]
  simp only[hw,if_true]
  left
  split at h
  ·rename_i g args ho
   refine qdb ho s hf h fun S' φ' H' w' r v s' hf' hv he ht hag hk=>hK _ _ (fun hk=>hag (by simpa only[qaq,ho] using hk)) ?_
   match F with
   | 0=>simp only[opsK] at hk
   | f+1=>
    simp only[opsK] at hk
    exact⟨S',φ',_,H',s',hf'.put o.dst hv,he,ht.weaken hn,fin _ hk⟩
  ·rename_i hnc
   split at h
   ·rename_i vc x hp
    obtain⟨hvc,hk⟩:=h
    obtain⟨v,hv,hr⟩:=qbi hT s hf hp hvc
    unfold Oper.wp
    rw[hr w (fun _=>Agree.refl w),Oper.upon_value]
    exact same (hf.put o.dst hv) (fin _ hk)
   ·rename_i hnP
    split at h
    ·rename_i vc x H' hp
     obtain⟨hvc,hk⟩:=h
     obtain⟨v,w',φ',hr,s',ht,he,hv⟩:=qbz hT s hf hp hvc
     have hag:qaq E fr o→Agree w w':=qfj hT s hf hnc hp hvc hr
     have fin2:Kr (a.put o.dst v) w':=hK _ _ hag ⟨S,φ',_,H',s',(hf.tr ht).put o.dst hv,he,ht.weaken hn,fin _ hk⟩
     unfold Oper.wp
     rcases hr with hr|⟨hr,rfl⟩
     ·rw[hr,Oper.upon_value];exact fin2
     ·rw[hr,Oper.upon_skip];exact fin2
    ·split at h
     ·rename_i vc x H' hp
      obtain⟨hvc,hk⟩:=h
      obtain⟨v,w',φ',hr,hag,s',ht,he,hv,_⟩:=qdA hT s hf hp hvc
      have fin2:Kr (a.put o.dst v) w':=hK _ _ (fun _=>hag) ⟨S,φ',_,H',s',(hf.tr ht).put o.dst hv,he,ht.weaken hn,fin _ hk⟩
      unfold Oper.wp
      rw[hr,Oper.upon_value];exact fin2
     split at h
     ·rename_i fc fr1 H1 hfz
      split at h
      ·rename_i vc x H' hp
       obtain⟨hfc,hvc,hk⟩:=h
       obtain⟨S1,φ1,s1,hf1,e1,t1⟩:=qe5 s hf hfz hfc
       obtain⟨v,w',φ',hr,s',ht,he,hv⟩:=qbz hT s1 hf1 hp hvc
       have hn1:=Nat.le_trans hn t1.len
       have hag:qaq E fr o→Agree w w':=fun _=>qfj hT s1 hf1 hnc hp hvc hr (by
        obtain⟨_,_,_,hop⟩:=qe6 hfz
        simp[qaq,hop,qar,memO])
       have fin2:Kr (a.put o.dst v) w':=hK _ _ hag ⟨S1,φ',_,H',s',(hf1.tr ht).put o.dst hv,e1.trans he,(t1.weaken hn).trans (ht.weaken hn1),fin _ hk⟩
       unfold Oper.wp
       rcases hr with hr|⟨hr,rfl⟩
       ·rw[hr,Oper.upon_value];exact fin2
       ·rw[hr,Oper.upon_skip];exact fin2
      ·exact h.elim
     ·exact h.elim
 ·rename_i j want hgd
  split at h
  ·rename_i gc e hg
   have wanted:gc→Region.wanted o (yielded all.toArray a.tmps)=e:=by
    intro hgc
    exact qbK hf hgd hg hgc
   split at h
   ·rename_i g args ho
    obtain⟨hgc,h⟩:=h
    rw[wanted hgc]
    unfold qhs at h
    split at h
    ·rename_i g' caps hfn
     split at h
     ·rename_i hpf
      split at h
      ·rename_i vc ds hv
       obtain⟨hc,x,hp,hk⟩:=h
       match F with
       | 0=>simp only[opsG] at hk
       | F+1=>
       simp only[opsG] at hk
       cases e with
       | false=>
        simp only[Bool.false_eq_true,if_false]
        exact same (hf.skip o.dst rfl _) (fin _ hk)
       | true=>
        simp only[if_true]
        left
        obtain⟨hc,hvc⟩:=hc rfl
        have hp:=hp rfl
        refine qdb (E:=E) ho s hf (Kc:=fun r H'=>H'=H∧r=.d x) ?_ ?_
        ·simp only[qdS,hfn,hpf,hv]
         exact⟨hc,hvc,fun y=>y=x,hp.toE,fun y hy=>.inl ⟨rfl,by rw[hy]⟩⟩
        ·rintro S' φ' H' w' r v s' hf' hv' he ht hag ⟨rfl,rfl⟩
         exact hK _ _ (fun hk=>hag (by simpa only[qaq,ho] using hk)) ⟨S',φ',_,_,s',hf'.put o.dst (.cond (fun _=>hv') fun h=>by cases h),he,ht.weaken hn,fin _ hk⟩
      ·exact h.elim
     ·rename_i hpf
      cases e with
      | false=>
       obtain⟨x,hk⟩:=h.1 rfl
       match F with
       | 0=>simp only[opsG] at hk
       | F+1=>
       simp only[opsG] at hk
       simp only[Bool.false_eq_true,if_false]
       exact same (hf.skip o.dst rfl _) (fin _ hk)
      | true=>
       simp only[if_true]
       left
       obtain⟨hc,hp⟩:=h.2 rfl
       refine qdb (E:=E) ho s hf (Kc:=fun r H'=>opsG E F all [] [] (nQ K) fr o.dst H' (.cond true r)) ?_ ?_
       ·simp only[qdS,hfn,hpf]
        exact⟨hc,hp⟩
       ·intro S' φ' H' w' r v s' hf' hv' he ht hag hk
        match F with
        | 0=>simp only[opsG] at hk
        | F+1=>
        simp only[opsG] at hk
        exact hK _ _ (fun hk=>hag (by simpa only[qaq,ho] using hk)) ⟨S',φ',_,_,s',hf'.put o.dst (.cond (fun _=>hv') fun h=>by cases h),he,ht.weaken hn,fin _ hk⟩
     ·rename_i hpf
      cases e with
      | false=>
       obtain⟨x,hk⟩:=h.1 rfl
       match F with
       | 0=>simp only[opsG] at hk
       | F+1=>
       simp only[opsG] at hk
       simp only[Bool.false_eq_true,if_false]
       exact same (hf.skip o.dst rfl _) (fin _ hk)
      | true=>
       simp only[if_true]
       left
       have hp:=h.2 rfl
       refine qdb (E:=E) ho s hf (Kc:=fun r H'=>opsG E F all [] [] (nQ K) fr o.dst H' (.cond true r)) ?_ ?_
       ·simp only[qdS,hfn,hpf]
        exact hp
       ·intro S' φ' H' w' r v s' hf' hv' he ht hag hk
        match F with
        | 0=>simp only[opsG] at hk
        | F+1=>
        simp only[opsG] at hk
        exact hK _ _ (fun hk=>hag (by simpa only[qaq,ho] using hk)) ⟨S',φ',_,_,s',hf'.put o.dst (.cond (fun _=>hv') fun h=>by cases h),he,ht.weaken hn,fin _ hk⟩
    ·exact h.elim
   ·split at h
    ·rename_i vc x hp
     obtain⟨hgc,hvc,hk⟩:=h
     rw[wanted hgc]
     cases e with
     | false=>
      simp only[Bool.false_eq_true,if_false]
      exact same (hf.skip o.dst rfl _) (fin _ hk)
     | true=>
      simp only[if_true]
      left
      obtain⟨v,hv,hr⟩:=qbi hT s hf hp (hvc rfl)
      unfold Oper.wp
      rw[hr w (fun _=>Agree.refl w),Oper.upon_value]
      exact same (hf.put o.dst (.cond (fun _=>hv) fun h=>by cases h)) (fin _ hk)
    ·rename_i hnP
     split at h
     ·rename_i vc x H' hp
      obtain⟨hgc,hk0,hk1⟩:=h
      rw[wanted hgc]
      cases e with
      | false=>
       obtain⟨y,hk⟩:=hk0 rfl
       simp only[Bool.false_eq_true,if_false]
       exact same (hf.skip o.dst rfl _) (fin _ hk)
      | true=>
       obtain⟨hvc,hk⟩:=hk1 rfl
       simp only[if_true]
       left
       obtain⟨v,w',φ',hr,s',ht,he,hv⟩:=qbz hT s hf hp hvc
       have fin2:Kr (a.put o.dst v) w':=hK _ _ (qfj hT s hf (by assumption) hp hvc hr) ⟨S,φ',_,H',s',(hf.tr ht).put o.dst (.cond (fun _=>hv) fun h=>by cases h),he,ht.weaken hn,fin _ hk⟩
       unfold Oper.wp
       rcases hr with hr|⟨hr,rfl⟩
       ·rw[hr,Oper.upon_value];exact fin2
       ·rw[hr,Oper.upon_skip];exact fin2
     ·exact h.elim
  ·exact h.elim
def fstO (E:Env) (o:Oper):Prop:=strO E.T o.op=false
def plainO (o:Oper):Bool:=qaE o.op&&(qar o.op).isNone
theorem ql7 (hT:TOK E.P E.T) {all:List Oper}{o:Oper}{K:Fr→List R→Prop}(F:Nat) (hn:E.n≤H.length) (s:Sim S φ H w) (hf:FrR S φ H w fr a) (hq:plainO o=true) (hst:strO E.T o.op=false)
  (h:ops' E F all [o] [] (nQ K) fr H) : ∃ v fr' φ' H',Sim S φ' H' w∧Ext S φ w S φ' w∧Tr E.n S φ H w S φ' H' w∧FrR S φ' H' w fr' (a.put o.dst v)∧K fr' H'∧YieldsIf E.P all.toArray (fun w'=>qa5 o.op=true→Agree w w') o v a:=by
 have fin : ∀ (f:Nat) {fr':Fr}{H':List R},ops' E f all [] [] (nQ K) fr' H'→K fr' H':=by
  intro f fr' H' h
  match f with
  | 0=>simp only[ops'] at h
  | 1=>simp only[ops',exec] at h
  | f+2=>simpa only[ops',exec,nQ] using h
 simp only[plainO,Bool.and_eq_true,Option.isNone_iff_eq_none] at hq
 have noI : ∀ {vc:Prop}{x:I}{H':List R},sopI E.T fr H o.op=some (vc,x,H')→False:=by
  intro vc x H' hp
  obtain⟨dst,op,ty,pos,after,guard⟩:=o
  simp only at hp hq
  cases op with
  | call c=>
   obtain⟨callee,cargs,tys⟩:=c
   cases callee with
   | builtin b=>cases b <;> simp[qaE] at hq <;> simp[sopI] at hp
   | value g=>simp[qar] at hq
   | _=>simp[qaE] at hq
  | _=>first|(simp[qaE] at hq;done)|(simp[sopI] at hp;done)
 match F with
 | 0=>simp only[ops'] at h
 | F+1=>
 simp only[ops',hq.2] at h
 split at h
 ·rename_i hgd
  have hw:Region.wanted o (yielded all.toArray a.tmps)=true:=by simp only[Region.wanted,hgd]
  split at h
  ·rename_i vc x hp
   obtain⟨hvc,hk⟩:=h
   obtain⟨v,hv,hr⟩:=qbi hT s hf hp hvc
   exact⟨v,_,φ,H,s,Ext.refl ..,Tr.refl hn,hf.put o.dst hv,fin _ hk,.inl ⟨hw,fun w' hw'=>hr w' fun h=>hw' (h.resolve_right (by rw[hst];simp))⟩⟩
  ·split at h
   ·rename_i vc x H' hp
    exact(noI hp).elim
   ·split at h
    ·rename_i vc x H' hp
     obtain⟨hvc,hk⟩:=h
     obtain⟨v,w',φ',hr,hag,s',ht,he,hv,hl⟩:=qdA hT s hf hp hvc
     have hld : ∃ t q,o.op=.load t q:=by
      rcases qjs hp with⟨t,n,q,h⟩|h
      ·rw[h] at hq;simp[qaE] at hq
      ·exact h
     obtain⟨rfl,hl⟩:=hl hld
     exact⟨v,_,φ',H',s',he,ht.weaken hn,(hf.tr ht).put o.dst hv,fin _ hk,.inl ⟨hw,fun w2 hw2=>hl w2 (hw2 (by obtain⟨t,q,h⟩:=hld;rw[h];rfl))⟩⟩
    split at h
    ·rename_i fc fr1 H1 hfz
     obtain⟨_,_,_,hop⟩:=qe6 hfz
     rw[hop] at hq
     simp[qaE] at hq
    ·exact h.elim
 ·rename_i j want hgd
  split at h
  ·rename_i gc e hg
   have wanted:gc→Region.wanted o (yielded all.toArray a.tmps)=e:=by
    intro hgc
    exact qbK hf hgd hg hgc
   split at h
   ·rename_i vc x hp
    obtain⟨hgc,hvc,hk⟩:=h
    have hw:=wanted hgc
    cases e with
    | false=>exact⟨undef,_,φ,H,s,Ext.refl ..,Tr.refl hn,hf.skip o.dst rfl _,fin _ hk,.inr ⟨hw,rfl⟩⟩
    | true=>
     obtain⟨v,hv,hr⟩:=qbi hT s hf hp (hvc rfl)
     exact⟨v,_,φ,H,s,Ext.refl ..,Tr.refl hn,hf.put o.dst (.cond (fun _=>hv) fun h=>by cases h),fin _ hk,.inl ⟨hw,fun w' hw'=>hr w' fun h=>hw' (h.resolve_right (by rw[hst];simp))⟩⟩
   ·split at h
    ·rename_i vc x H' hp
     exact(noI hp).elim
    ·exact h.elim
  ·exact h.elim
inductive Sch where
 | done
 | fst (i:Nat) (t:Sch)
 | one (i:Nat) (t:Sch)
 | two (i:Nat) (t:Sch) (j:Nat) (u:Sch)
 | three (i:Nat) (t:Sch) (j:Nat) (u:Sch) (k:Nat) (v:Sch)
 | four (i:Nat) (t:Sch) (j:Nat) (u:Sch) (k:Nat) (v:Sch) (m:Nat) (y:Sch)
def chkS (ops:Array Oper) (tails:List Nat):Array Bool→Bool→Sch→Bool
 | listed,_,.done=>(Region.ready .any ops listed).isEmpty
 | listed,ph,.fst i t=>
  (Region.ready .any ops listed).contains i&&Region.free .any ops listed i&&(match ops[i]? with|some o=>plainO o&&(!qa5 o.op || (ph&&tails.all fun j=>listed.getD j true || waits ops i ops.size j))|none=>false) &&
   chkS ops tails (listed.setIfInBounds i true) ph t
 | listed,ph,.one i t=>Region.ready .any ops listed == [i]&&(ops[i]?).isSome&&chkS ops tails (listed.setIfInBounds i true) false t
 | listed,ph,.two i t j u=>Region.ready .any ops listed == [i,j]&&(ops[i]?).isSome&&(ops[j]?).isSome&&chkS ops tails (listed.setIfInBounds i true) false t&&chkS ops tails (listed.setIfInBounds j true) false u
 | listed,ph,.three i t j u k v=>Region.ready .any ops listed == [i,j,k]&&(ops[i]?).isSome&&(ops[j]?).isSome&&(ops[k]?).isSome&&chkS ops tails (listed.setIfInBounds i true) false t&&chkS ops tails (listed.setIfInBounds j true) false u&&chkS ops tails (listed.setIfInBounds k true) false v
 | listed,ph,.four i t j u k v m y=>Region.ready .any ops listed == [i,j,k,m]&&(ops[i]?).isSome&&(ops[j]?).isSome&&(ops[k]?).isSome&&(ops[m]?).isSome&&chkS ops tails (listed.setIfInBounds i true) false t&&chkS ops tails (listed.setIfInBounds j true) false u&&chkS ops tails (listed.setIfInBounds k true) false v&&chkS ops tails (listed.setIfInBounds m true) false y
def opAt (l : List Oper) (i : Nat) : Oper := l.getD i ⟨none, .move (.const undef), 0, "", #[], none⟩
def runS (E:Env) (F:Nat) (l:List Oper) (tails:List Nat) (K:Fr→List R→Prop):Sch→Fr→List R→Prop
 | .done,fr,H=>K fr H
 | .fst i t,fr,H=>fstO E (opAt l i)∧ops' E F l [opAt l i] [] (nQ (runS E F l tails K t)) fr H
 | .one i t,fr,H=>(tails.contains i=false→qaq E fr (opAt l i))∧ops' E F l [opAt l i] [] (nQ (runS E F l tails K t)) fr H
 | .two i t j u,fr,H=>((tails.contains i=false→qaq E fr (opAt l i))∧ops' E F l [opAt l i] [] (nQ (runS E F l tails K t)) fr H)∧
   ((tails.contains j=false→qaq E fr (opAt l j))∧ops' E F l [opAt l j] [] (nQ (runS E F l tails K u)) fr H)
 | .three i t j u k v,fr,H=>((tails.contains i=false→qaq E fr (opAt l i))∧ops' E F l [opAt l i] [] (nQ (runS E F l tails K t)) fr H)∧
   ((tails.contains j=false→qaq E fr (opAt l j))∧ops' E F l [opAt l j] [] (nQ (runS E F l tails K u)) fr H)∧
   ((tails.contains k=false→qaq E fr (opAt l k))∧ops' E F l [opAt l k] [] (nQ (runS E F l tails K v)) fr H)
 | .four i t j u k v m y,fr,H=>
   ((tails.contains i=false→qaq E fr (opAt l i))∧ops' E F l [opAt l i] [] (nQ (runS E F l tails K t)) fr H)∧
   ((tails.contains j=false→qaq E fr (opAt l j))∧ops' E F l [opAt l j] [] (nQ (runS E F l tails K u)) fr H)∧
   ((tails.contains k=false→qaq E fr (opAt l k))∧ops' E F l [opAt l k] [] (nQ (runS E F l tails K v)) fr H)∧
   ((tails.contains m=false→qaq E fr (opAt l m))∧ops' E F l [opAt l m] [] (nQ (runS E F l tails K y)) fr H)
theorem qbs {l:List Oper}{i:Nat}{o:Oper}(h:l.toArray[i]?=some o):opAt l i=o:=by
 have:l[i]?=some o:=by simpa using h
 simp[opAt,List.getD,this]
def Sch.depth:Sch→Nat
 | .done=>0
 | .fst _ t=>t.depth+1
 | .one _ t=>t.depth+1
 | .two _ t _ u=>max t.depth u.depth+1
 | .three _ t _ u _ v=>max t.depth (max u.depth v.depth)+1
 | .four _ t _ u _ v _ y=>max (max t.depth y.depth) (max u.depth v.depth)+1
theorem Left.trans {S0:Nat→Prop}{φ0:List (List Nat)}{H0:List R}{w0:World}{K:Fr→List R→Prop}{a':Act}{w':World}(he:Ext S0 φ0 w0 S φ w) (ht:Tr E.n S0 φ0 H0 w0 S φ H w) (h:Left E S φ H w K a' w'):Left E S0 φ0 H0 w0 K a' w':=by
 obtain⟨S',φ',fr',H',a1,a2,a3,a4,a5⟩:=h
 exact⟨S',φ',fr',H',a1,a2,he.trans a3,ht.trans a4,a5⟩
theorem qiG (hT:TOK E.P E.T) {F:Nat}{l:List Oper}{tails:List Nat}{K:Fr→List R→Prop}{Qr:Act→World→Prop}{w0:World}{S0:Nat→Prop}{φ0:List (List Nat)}{H0:List R}
  (hs:Region.noSelect l.toArray=true) (hq : ∀ a' w',Left E S0 φ0 H0 w0 K a' w'→Qr a' w') :
  ∀ (t:Sch) (fuel:Nat) (listed:Array Bool) (ph:Bool) (S:Nat→Prop) (φ : List (List Nat)) (H:List R) (w:World) (fr:Fr) (a:Act),
   Sim S φ H w→FrR S φ H w fr a→Ext S0 φ0 w0 S φ w→Tr E.n S0 φ0 H0 w0 S φ H w→(ph=true→w=w0)→Closed l.toArray listed→chkS l.toArray tails listed ph t=true→t.depth≤fuel→runS E F l tails K t fr H→
   qbU E.P l.toArray (fun e a w=>match e with|.normal=>Qr a w|_=>False) (Agree w0) (fun i=>!tails.contains i) fuel listed a w:=by
 have agtr : ∀ {w w':World},Agree w w'→Agree w0 w→w0.heap.size≤w.heap.size→Agree w0 w':=fun h1 h2 h3 b hb=>(h1 b (Nat.lt_of_lt_of_le hb h3)).trans (h2 b hb)
 intro t
 induction t with
 | done=>
  intro fuel listed ph S φ H w fr a s hf he ht hph hcl hc hd h
  simp only[chkS,List.isEmpty_iff] at hc
  have hQ:Qr a w:=hq _ _ ⟨S,φ,fr,H,s,hf,he,ht,h⟩
  cases fuel with
  | zero=>exact⟨hc,hQ⟩
  | succ f=>exact⟨fun _=>hQ,by rw[hc];simp⟩
 | fst i t ih=>
  intro fuel listed ph S φ H w fr a s hf he ht hph hcl hc hd h
  match fuel with
  | 0=>simp[Sch.depth] at hd
  | fuel+1=>
  simp only[chkS,Bool.and_eq_true,List.contains_iff_mem] at hc
  obtain⟨⟨⟨hr,hfree⟩,hop⟩,hc⟩:=hc
  split at hop
  case h_2=>simp at hop
  rename_i o ho
  simp only[Bool.and_eq_true,Bool.or_eq_true,Bool.not_eq_true'] at hop
  obtain⟨hpl,hrd⟩:=hop
  simp only[runS,qbs ho] at h
  obtain⟨v,fr',φ',H',s',he',ht',hf',hk,hy⟩:=ql7 hT F ht.len s hf hpl h.1 h.2
  have next:=ih fuel (listed.setIfInBounds i true) ph S φ' H' w fr' (a.put o.dst v) s' hf' (he.trans he') (ht.trans ht') hph (hcl.set hr) hc (by simpa [Sch.depth] using hd) hk
  have hfr:=Region.free_spec ho hfree
  cases hro:qa5 o.op with
  | false=>
   refine qer (S1:=fun _=>True) ho (Region.noSelect_spec hs) (fun _ _ _ h=>h) (.inl fun _=>trivial) fuel listed a w hfr (.inl fun _=>trivial) hcl hr ?_ trivial next
   exact hy.imp (fun⟨h1,h2⟩=>⟨h1,fun w' _=>h2 w' (by simp[hro])⟩) id
  | true=>
   rcases hrd with h0|⟨h1,h2⟩
   ·rw[hro] at h0;cases h0
   ·obtain rfl:=hph h1
    refine qer (S1:=Agree w) ho (Region.noSelect_spec hs) (fun _ _ _ h=>h) (.inr rfl) fuel listed a w hfr (.inr fun j hj=>?_) hcl hr ?_ (Agree.refl w) next
    ·simp only[Bool.not_eq_false',List.contains_iff_mem] at hj
     have:=List.all_eq_true.1 h2 j hj
     simp only[Bool.or_eq_true] at this
     exact this.imp id fun h=>⟨_,h⟩
    ·exact hy.imp (fun⟨h1,h2⟩=>⟨h1,fun w' hw'=>h2 w' fun _=>hw'⟩) id
 | one i t ih=>
  intro fuel listed ph S φ H w fr a s hf he ht hph hcl hc hd h
  match fuel with
  | 0=>simp[Sch.depth] at hd
  | fuel+1=>
  simp only[chkS,Bool.and_eq_true,beq_iff_eq] at hc
  obtain⟨⟨hr,hop⟩,hc⟩:=hc
  obtain⟨o,ho⟩:=Option.isSome_iff_exists.1 hop
  simp only[runS,qbs ho] at h
  have hmem:i∈Region.ready .any l.toArray listed:=by rw[hr];simp
  refine⟨fun h0=>(by rw[hr] at h0;cases h0),fun k hk=>?_⟩
  rw[hr,List.mem_singleton] at hk
  subst hk
  have:=qbe hT (Qr:=fun e a w=>match e with|.normal=>Qr a w|_=>False) (Kr:=fun a' w'=>((!tails.contains k)=true→Agree w0 w→Agree w0 w')∧qbU E.P l.toArray (fun e a w=>match e with|.normal=>Qr a w|_=>False) (Agree w0) (fun i=>!tails.contains i) fuel (listed.setIfInBounds k true) a' w') F ht.len s hf h.2 (fun a' w' hag hl=>?_)
  ·unfold wpOp
   simp only[ho]
   exact this
  ·obtain⟨S',φ',fr',H',b1,b2,b3,b4,b5⟩:=hl
   refine⟨fun h1 h2=>agtr (hag (h.1 (by simpa using h1))) h2 he.size,?_⟩
   exact ih fuel _ false S' φ' H' w' fr' a' b1 b2 (he.trans b3) (ht.trans b4) (by simp) (hcl.set hmem) hc (by simpa [Sch.depth] using hd) b5
 | two i t j u ih1 ih2=>
  intro fuel listed ph S φ H w fr a s hf he ht hph hcl hc hd h
  match fuel with
  | 0=>simp[Sch.depth] at hd
  | fuel+1=>
  simp only[chkS,Bool.and_eq_true,beq_iff_eq] at hc
  obtain⟨⟨⟨⟨hr,hop1⟩,hop2⟩,hc1⟩,hc2⟩:=hc
  obtain⟨o1,ho1⟩:=Option.isSome_iff_exists.1 hop1
  obtain⟨o2,ho2⟩:=Option.isSome_iff_exists.1 hop2
  simp only[runS,qbs ho1,qbs ho2] at h
  have hd':t.depth≤fuel∧u.depth≤fuel:=by simp[Sch.depth] at hd;omega
  refine⟨fun h0=>(by rw[hr] at h0;cases h0),fun k hk=>?_⟩
  have hmem:=hk
  rw[hr,List.mem_cons,List.mem_singleton] at hk
  rcases hk with rfl|rfl
  ·have:=qbe hT (Qr:=fun e a w=>match e with|.normal=>Qr a w|_=>False) (Kr:=fun a' w'=>((!tails.contains k)=true→Agree w0 w→Agree w0 w')∧qbU E.P l.toArray (fun e a w=>match e with|.normal=>Qr a w|_=>False) (Agree w0) (fun i=>!tails.contains i) fuel (listed.setIfInBounds k true) a' w') F ht.len s hf h.1.2 (fun a' w' hag hl=>?_)
   ·unfold wpOp
    simp only[ho1]
    exact this
   ·obtain⟨S',φ',fr',H',b1,b2,b3,b4,b5⟩:=hl
    refine⟨fun h1 h2=>agtr (hag (h.1.1 (by simpa using h1))) h2 he.size,?_⟩
    exact ih1 fuel _ false S' φ' H' w' fr' a' b1 b2 (he.trans b3) (ht.trans b4) (by simp) (hcl.set hmem) hc1 hd'.1 b5
  ·have:=qbe hT (Qr:=fun e a w=>match e with|.normal=>Qr a w|_=>False) (Kr:=fun a' w'=>((!tails.contains k)=true→Agree w0 w→Agree w0 w')∧qbU E.P l.toArray (fun e a w=>match e with|.normal=>Qr a w|_=>False) (Agree w0) (fun i=>!tails.contains i) fuel (listed.setIfInBounds k true) a' w') F ht.len s hf h.2.2 (fun a' w' hag hl=>?_)
   ·unfold wpOp
    simp only[ho2]
    exact this
   ·obtain⟨S',φ',fr',H',b1,b2,b3,b4,b5⟩:=hl
    refine⟨fun h1 h2=>agtr (hag (h.2.1 (by simpa using h1))) h2 he.size,?_⟩
    exact ih2 fuel _ false S' φ' H' w' fr' a' b1 b2 (he.trans b3) (ht.trans b4) (by simp) (hcl.set hmem) hc2 hd'.2 b5
 | three i t j u m v ih1 ih2 ih3=>
  intro fuel listed ph S φ H w fr a s hf he ht hph hcl hc hd h
  match fuel with
  | 0=>simp[Sch.depth] at hd
  | fuel+1=>
  simp only[chkS,Bool.and_eq_true,beq_iff_eq] at hc
  obtain⟨⟨⟨⟨⟨⟨hr,hop1⟩,hop2⟩,hop3⟩,hc1⟩,hc2⟩,hc3⟩:=hc
  obtain⟨o1,ho1⟩:=Option.isSome_iff_exists.1 hop1
  obtain⟨o2,ho2⟩:=Option.isSome_iff_exists.1 hop2
  obtain⟨o3,ho3⟩:=Option.isSome_iff_exists.1 hop3
  simp only[runS,qbs ho1,qbs ho2,qbs ho3] at h
  have hd':t.depth≤fuel∧u.depth≤fuel∧v.depth≤fuel:=by simp[Sch.depth] at hd;omega
  refine⟨fun h0=>(by rw[hr] at h0;cases h0),fun k hk=>?_⟩
  have hmem:=hk
  rw[hr,List.mem_cons,List.mem_cons,List.mem_singleton] at hk
  rcases hk with rfl|rfl|rfl
  ·have:=qbe hT (Qr:=fun e a w=>match e with|.normal=>Qr a w|_=>False) (Kr:=fun a' w'=>((!tails.contains k)=true→Agree w0 w→Agree w0 w')∧qbU E.P l.toArray (fun e a w=>match e with|.normal=>Qr a w|_=>False) (Agree w0) (fun i=>!tails.contains i) fuel (listed.setIfInBounds k true) a' w') F ht.len s hf h.1.2 (fun a' w' hag hl=>?_)
   ·unfold wpOp
    simp only[ho1]
    exact this
   ·obtain⟨S',φ',fr',H',b1,b2,b3,b4,b5⟩:=hl
    refine⟨fun h1 h2=>agtr (hag (h.1.1 (by simpa using h1))) h2 he.size,?_⟩
    exact ih1 fuel _ false S' φ' H' w' fr' a' b1 b2 (he.trans b3) (ht.trans b4) (by simp) (hcl.set hmem) hc1 hd'.1 b5
  ·have:=qbe hT (Qr:=fun e a w=>match e with|.normal=>Qr a w|_=>False) (Kr:=fun a' w'=>((!tails.contains k)=true→Agree w0 w→Agree w0 w')∧qbU E.P l.toArray (fun e a w=>match e with|.normal=>Qr a w|_=>False) (Agree w0) (fun i=>!tails.contains i) fuel (listed.setIfInBounds k true) a' w') F ht.len s hf h.2.1.2 (fun a' w' hag hl=>?_)
   ·unfold wpOp
    simp only[ho2]
    exact this
   ·obtain⟨S',φ',fr',H',b1,b2,b3,b4,b5⟩:=hl
    refine⟨fun h1 h2=>agtr (hag (h.2.1.1 (by simpa using h1))) h2 he.size,?_⟩
    exact ih2 fuel _ false S' φ' H' w' fr' a' b1 b2 (he.trans b3) (ht.trans b4) (by simp) (hcl.set hmem) hc2 hd'.2.1 b5
  ·have:=qbe hT (Qr:=fun e a w=>match e with|.normal=>Qr a w|_=>False) (Kr:=fun a' w'=>((!tails.contains k)=true→Agree w0 w→Agree w0 w')∧qbU E.P l.toArray (fun e a w=>match e with|.normal=>Qr a w|_=>False) (Agree w0) (fun i=>!tails.contains i) fuel (listed.setIfInBounds k true) a' w') F ht.len s hf h.2.2.2 (fun a' w' hag hl=>?_)
   ·unfold wpOp
    simp only[ho3]
    exact this
   ·obtain⟨S',φ',fr',H',b1,b2,b3,b4,b5⟩:=hl
    refine⟨fun h1 h2=>agtr (hag (h.2.2.1 (by simpa using h1))) h2 he.size,?_⟩
    exact ih3 fuel _ false S' φ' H' w' fr' a' b1 b2 (he.trans b3) (ht.trans b4) (by simp) (hcl.set hmem) hc3 hd'.2.2 b5
 | four i t j u m v q y ih1 ih2 ih3 ih4=>
  intro fuel listed ph S φ H w fr a s hf he ht hph hcl hc hd h
  match fuel with
  | 0=>simp[Sch.depth] at hd
  | fuel+1=>
  simp only[chkS,Bool.and_eq_true,beq_iff_eq] at hc
  obtain⟨⟨⟨⟨⟨⟨⟨⟨hr,hop1⟩,hop2⟩,hop3⟩,hop4⟩,hc1⟩,hc2⟩,hc3⟩,hc4⟩:=hc
  obtain⟨o1,ho1⟩:=Option.isSome_iff_exists.1 hop1
  obtain⟨o2,ho2⟩:=Option.isSome_iff_exists.1 hop2
  obtain⟨o3,ho3⟩:=Option.isSome_iff_exists.1 hop3
  obtain⟨o4,ho4⟩:=Option.isSome_iff_exists.1 hop4
  simp only[runS,qbs ho1,qbs ho2,qbs ho3,qbs ho4] at h
  have hd':t.depth≤fuel∧u.depth≤fuel∧v.depth≤fuel∧y.depth≤fuel:=by simp[Sch.depth] at hd;omega
  refine⟨fun h0=>(by rw[hr] at h0;cases h0),fun k hk=>?_⟩
  have hmem:=hk
  rw[hr,List.mem_cons,List.mem_cons,List.mem_cons,List.mem_singleton] at hk
  rcases hk with rfl|rfl|rfl|rfl
  ·have:=qbe hT (Qr:=fun e a w=>match e with|.normal=>Qr a w|_=>False) (Kr:=fun a' w'=>((!tails.contains k)=true→Agree w0 w→Agree w0 w')∧qbU E.P l.toArray (fun e a w=>match e with|.normal=>Qr a w|_=>False) (Agree w0) (fun i=>!tails.contains i) fuel (listed.setIfInBounds k true) a' w') F ht.len s hf h.1.2 (fun a' w' hag hl=>?_)
   ·unfold wpOp
    simp only[ho1]
    exact this
   ·obtain⟨S',φ',fr',H',b1,b2,b3,b4,b5⟩:=hl
    refine⟨fun h1 h2=>agtr (hag (h.1.1 (by simpa using h1))) h2 he.size,?_⟩
    exact ih1 fuel _ false S' φ' H' w' fr' a' b1 b2 (he.trans b3) (ht.trans b4) (by simp) (hcl.set hmem) hc1 hd'.1 b5
  ·have:=qbe hT (Qr:=fun e a w=>match e with|.normal=>Qr a w|_=>False) (Kr:=fun a' w'=>((!tails.contains k)=true→Agree w0 w→Agree w0 w')∧qbU E.P l.toArray (fun e a w=>match e with|.normal=>Qr a w|_=>False) (Agree w0) (fun i=>!tails.contains i) fuel (listed.setIfInBounds k true) a' w') F ht.len s hf h.2.1.2 (fun a' w' hag hl=>?_)
   ·unfold wpOp
    simp only[ho2]
    exact this
   ·obtain⟨S',φ',fr',H',b1,b2,b3,b4,b5⟩:=hl
    refine⟨fun h1 h2=>agtr (hag (h.2.1.1 (by simpa using h1))) h2 he.size,?_⟩
    exact ih2 fuel _ false S' φ' H' w' fr' a' b1 b2 (he.trans b3) (ht.trans b4) (by simp) (hcl.set hmem) hc2 hd'.2.1 b5
  ·have:=qbe hT (Qr:=fun e a w=>match e with|.normal=>Qr a w|_=>False) (Kr:=fun a' w'=>((!tails.contains k)=true→Agree w0 w→Agree w0 w')∧qbU E.P l.toArray (fun e a w=>match e with|.normal=>Qr a w|_=>False) (Agree w0) (fun i=>!tails.contains i) fuel (listed.setIfInBounds k true) a' w') F ht.len s hf h.2.2.1.2 (fun a' w' hag hl=>?_)
   ·unfold wpOp
    simp only[ho3]
    exact this
   ·obtain⟨S',φ',fr',H',b1,b2,b3,b4,b5⟩:=hl
    refine⟨fun h1 h2=>agtr (hag (h.2.2.1.1 (by simpa using h1))) h2 he.size,?_⟩
    exact ih3 fuel _ false S' φ' H' w' fr' a' b1 b2 (he.trans b3) (ht.trans b4) (by simp) (hcl.set hmem) hc3 hd'.2.2.1 b5
  ·have:=qbe hT (Qr:=fun e a w=>match e with|.normal=>Qr a w|_=>False) (Kr:=fun a' w'=>((!tails.contains k)=true→Agree w0 w→Agree w0 w')∧qbU E.P l.toArray (fun e a w=>match e with|.normal=>Qr a w|_=>False) (Agree w0) (fun i=>!tails.contains i) fuel (listed.setIfInBounds k true) a' w') F ht.len s hf h.2.2.2.2 (fun a' w' hag hl=>?_)
   ·unfold wpOp
    simp only[ho4]
    exact this
   ·obtain⟨S',φ',fr',H',b1,b2,b3,b4,b5⟩:=hl
    refine⟨fun h1 h2=>agtr (hag (h.2.2.2.1 (by simpa using h1))) h2 he.size,?_⟩
    exact ih4 fuel _ false S' φ' H' w' fr' a' b1 b2 (he.trans b3) (ht.trans b4) (by simp) (hcl.set hmem) hc4 hd'.2.2.2 b5
def chkT (ops:Array Oper) (tails:List Nat) (t:Sch):Bool:=
 Region.noSelect ops&&chkS ops tails (Array.replicate ops.size false) true t&&decide (t.depth≤ops.size)
def endK (E:Env) (F2:Nat) (ks:List Item) (Q:Post) (fr:Fr) (H:List R):Prop:=exec E F2 ks Q fr H
@[go_sem] theorem endK_eq {F2:Nat}{ks:List Item}{Q:Post}:endK E F2 ks Q fr H=exec E F2 ks Q fr H:=rfl
theorem qax (hT:TOK E.P E.T) (hm:E.P.follows .mixedOrders=true) (F F2:Nat) {id:Nat}{l:List Oper}{ks:List Item}{Q:Post}(tails:List Nat) (t:Sch) (hc:chkT l.toArray tails t=true)
  (h:runS E F l tails (endK E F2 ks Q) t fr H):iwp E.P E.n (.region id l.toArray true) (qaQ E ks Q) fr H:=by
 intro S φ a w Qr hn s hf hq
 simp only[chkT,Bool.and_eq_true,decide_eq_true_eq] at hc
 obtain⟨⟨h1,h2⟩,h3⟩:=hc
 obtain⟨s1,s2,s3⟩:=qct s (Grow.draw w) S (fun b h=>h) (fun b h=>.inl h) (fun b h=>s.slt b h)
 have main:=qiG (E:=E) hT (F:=F) (l:=l) (tails:=tails) (K:=endK E F2 ks Q) (Qr:=fun a' w'=>Qr .normal a' w') (w0:={ w with drawn:=w.drawn+1 }) (S0:=S) (φ0:=φ) (H0:=H) h1
  (fun a' w' hl=>by
   obtain⟨S',φ',fr',H',b1,b2,b3,b4,b5⟩:=hl
   exact hq _ a' w' S' φ' fr' H' b1 b2 (s3.trans b3) ((s2.weaken hn).trans b4) (qeD hT F2 b5))
  t l.toArray.size (Array.replicate l.toArray.size false) true S φ H _ fr a s1 (hf.tr s2) (Ext.refl ..) (Tr.refl hn) (fun _=>rfl) (fun j o ho hj=>?_) h2 h3 h
 ·refine wp_mono (wp_region_any hm (qfR _ _ _ _ main)) ?_
  intro e a' w' he
  cases e with
  | normal=>exact he
  | _=>exact he.elim
 ·have hlt:j<l.toArray.size:=(Array.getElem?_eq_some_iff.1 ho).1
  simp only[Array.getD_eq_getD_getElem?,Array.getElem?_replicate] at hj
  split at hj <;> simp at hj
@[go_sem] theorem runS_done {F:Nat}{l:List Oper}{tails:List Nat}{K:Fr→List R→Prop}:runS E F l tails K .done fr H=K fr H:=rfl
@[go_sem] theorem runS_fst {F:Nat}{l:List Oper}{tails:List Nat}{K:Fr→List R→Prop}{i:Nat}{t:Sch}:runS E F l tails K (.fst i t) fr H=(fstO E (opAt l i)∧ops' E F l [opAt l i] [] (nQ (runS E F l tails K t)) fr H):=rfl
@[go_sem] theorem runS_one {F:Nat}{l:List Oper}{tails:List Nat}{K:Fr→List R→Prop}{i:Nat}{t:Sch}:runS E F l tails K (.one i t) fr H =
  ((tails.contains i=false→qaq E fr (opAt l i))∧ops' E F l [opAt l i] [] (nQ (runS E F l tails K t)) fr H):=rfl
@[go_sem] theorem runS_two {F:Nat}{l:List Oper}{tails:List Nat}{K:Fr→List R→Prop}{i j:Nat}{t u:Sch}:runS E F l tails K (.two i t j u) fr H =
  ((
   (tails.contains i=false→qaq E fr (opAt l i))∧ops' E F l [opAt l i] [] (nQ (runS E F l tails K t)) fr H)∧
   ((tails.contains j=false→qaq E fr (opAt l j))∧ops' E F l [opAt l j] [] (nQ (runS E F l tails K u)) fr H)):=rfl
@[go_sem] theorem runS_three {F:Nat}{l:List Oper}{tails:List Nat}{K:Fr→List R→Prop}{i j k:Nat}{t u v:Sch}:runS E F l tails K (.three i t j u k v) fr H =
  ((
   (tails.contains i=false→qaq E fr (opAt l i))∧ops' E F l [opAt l i] [] (nQ (runS E F l tails K t)) fr H)∧
   ((tails.contains j=false→qaq E fr (opAt l j))∧ops' E F l [opAt l j] [] (nQ (runS E F l tails K u)) fr H)∧
   ((tails.contains k=false→qaq E fr (opAt l k))∧ops' E F l [opAt l k] [] (nQ (runS E F l tails K v)) fr H)):=rfl
@[go_sem] theorem runS_four {F:Nat}{l:List Oper}{tails:List Nat}{K:Fr→List R→Prop}{i j k m:Nat}{t u v y:Sch}:runS E F l tails K (.four i t j u k v m y) fr H =
  ((
   (tails.contains i=false→qaq E fr (opAt l i))∧ops' E F l [opAt l i] [] (nQ (runS E F l tails K t)) fr H)∧
   ((tails.contains j=false→qaq E fr (opAt l j))∧ops' E F l [opAt l j] [] (nQ (runS E F l tails K u)) fr H)∧
   ((tails.contains k=false→qaq E fr (opAt l k))∧ops' E F l [opAt l k] [] (nQ (runS E F l tails K v)) fr H)∧
   ((tails.contains m=false→qaq E fr (opAt l m))∧ops' E F l [opAt l m] [] (nQ (runS E F l tails K y)) fr H)):=rfl
@[go_sem] theorem opAt_zero {o:Oper}{l:List Oper}:opAt (o::l) 0=o:=rfl
@[go_sem] theorem opAt_succ {o:Oper}{l:List Oper}{n:Nat}:opAt (o::l) (n+1)=opAt l n:=rfl
section keep
variable {dst:Option Tmp}{ty:TypeId}{pos:String}{af:Array Edge}{gd:Option (Nat×Bool)}
@[go_sem] theorem keepO_move {x:Operand}:qaq E fr ⟨dst,.move x,ty,pos,af,gd⟩=True:=by simp[qaq,qar,qaE]
@[go_sem] theorem qnm {x:Operand}:qaq E fr ⟨dst,.assign x,ty,pos,af,gd⟩=True:=by simp[qaq,qar,qaE]
@[go_sem] theorem keepO_pick {c x y:Operand}:qaq E fr ⟨dst,.pick c x y,ty,pos,af,gd⟩=True:=by simp[qaq,qar,qaE]
@[go_sem] theorem keepO_build {t:TypeId}{p:Array (Nat×Operand)}:qaq E fr ⟨dst,.build t p,ty,pos,af,gd⟩=True:=by simp[qaq,qar,qaE]
@[go_sem] theorem keepO_load {t:TypeId}{x:Operand}:qaq E fr ⟨dst,.load t x,ty,pos,af,gd⟩=True:=by simp[qaq,qar,qaE]
@[go_sem] theorem qnn {t:TypeId}{x y:Operand}{ok:Bool}:qaq E fr ⟨dst,.lookup t x y ok,ty,pos,af,gd⟩=True:=by simp[qaq,qar,qaE]
@[go_sem] theorem ql8 {t:TypeId}{x:Option Operand}:qaq E fr ⟨dst,.makeMap t x,ty,pos,af,gd⟩=True:=by simp[qaq,qar,memO]
@[go_sem] theorem qkP {x:Operand}:qaq E fr ⟨dst,.nilCheck x,ty,pos,af,gd⟩=True:=by simp[qaq,qar,qaE]
@[go_sem] theorem keepO_binOp {op:BinOp}{t yt:TypeId}{x y:Operand}:qaq E fr ⟨dst,.binOp op t x y yt,ty,pos,af,gd⟩=True:=by simp[qaq,qar,qaE]
@[go_sem] theorem keepO_unOp {op:UnOp}{t:TypeId}{x:Operand}:qaq E fr ⟨dst,.unOp op t x,ty,pos,af,gd⟩=True:=by simp[qaq,qar,qaE]
@[go_sem] theorem ql9 {t u:TypeId}{x:Operand}:qaq E fr ⟨dst,.convert t u x,ty,pos,af,gd⟩=True:=by simp[qaq,qar,qaE]
@[go_sem] theorem keepO_slice {t:TypeId}{x:Operand}{lo hi mx:Option Operand}:qaq E fr ⟨dst,.slice t x lo hi mx,ty,pos,af,gd⟩=True:=by simp[qaq,qar,qaE]
@[go_sem] theorem qj2 {t:TypeId}{x:Operand}{i:Nat}:qaq E fr ⟨dst,.fieldAddr t x i,ty,pos,af,gd⟩=True:=by simp[qaq,qar,qaE]
@[go_sem] theorem keepO_field {t:TypeId}{x:Operand}{i:Nat}:qaq E fr ⟨dst,.field t x i,ty,pos,af,gd⟩=True:=by simp[qaq,qar,qaE]
@[go_sem] theorem qj3 {t:TypeId}{x y:Operand}:qaq E fr ⟨dst,.indexAddr t x y,ty,pos,af,gd⟩=True:=by simp[qaq,qar,qaE]
@[go_sem] theorem keepO_index {t:TypeId}{x y:Operand}:qaq E fr ⟨dst,.index t x y,ty,pos,af,gd⟩=True:=by simp[qaq,qar,qaE]
@[go_sem] theorem qma {x:Operand}{i:Nat}:qaq E fr ⟨dst,.extract x i,ty,pos,af,gd⟩=True:=by simp[qaq,qar,qaE]
@[go_sem] theorem qkQ {c:Fn}{a:Array Operand}{b:Array Operand}:qaq E fr ⟨dst,.makeFunc c a b,ty,pos,af,gd⟩=True:=by simp[qaq,qar,qaE]
@[go_sem] theorem keepO_len {a:Array Operand}{b:Array TypeId}:qaq E fr ⟨dst,.call ⟨.builtin .len,a,b⟩,ty,pos,af,gd⟩=True:=by simp[qaq,qar,qaE]
@[go_sem] theorem keepO_cap {a:Array Operand}{b:Array TypeId}:qaq E fr ⟨dst,.call ⟨.builtin .cap,a,b⟩,ty,pos,af,gd⟩=True:=by simp[qaq,qar,qaE]
@[go_sem] theorem keepO_min {a:Array Operand}{b:Array TypeId}:qaq E fr ⟨dst,.call ⟨.builtin .min,a,b⟩,ty,pos,af,gd⟩=True:=by simp[qaq,qar,qaE]
@[go_sem] theorem keepO_max {a:Array Operand}{b:Array TypeId}:qaq E fr ⟨dst,.call ⟨.builtin .max,a,b⟩,ty,pos,af,gd⟩=True:=by simp[qaq,qar,qaE]
@[go_sem] theorem keepO_box {t:TypeId}{x:Operand}:qaq E fr ⟨dst,.box t x,ty,pos,af,gd⟩=True:=by simp[qaq,qar,memO]
@[go_sem] theorem keepO_alloc {t:TypeId}:qaq E fr ⟨dst,.alloc t,ty,pos,af,gd⟩=True:=by simp[qaq,qar,memO]
@[go_sem] theorem qiX {t:TypeId}{n:Nat}{p:Array (Nat×Operand)}:qaq E fr ⟨dst,.buildSlice t n p,ty,pos,af,gd⟩=True:=by simp[qaq,qar,memO]
@[go_sem] theorem qj4 {t:TypeId}{x y:Operand}:qaq E fr ⟨dst,.makeSlice t x y,ty,pos,af,gd⟩=True:=by simp[qaq,qar,memO]
@[go_sem] theorem keepO_call {g:Operand}{args:Array Operand}{ts:Array TypeId}:qaq E fr ⟨dst,.call ⟨.value g,args,ts⟩,ty,pos,af,gd⟩=qfi E (fnOf (evx fr g)):=rfl
@[go_sem] theorem qno {f:Nat}{c:List I}:qfi E (some (f,c))=(E.pf f≠.proc):=rfl
def fstT (o:Option TI):Prop:=strT o=false
@[go_sem] theorem fstT_int {k:IntKind}{sz b:Nat}{z:D}:fstT (some ⟨.int k,sz,b,z⟩)=True:=by simp[fstT,strT]
@[go_sem] theorem fstT_str {sz b:Nat}{z:D}:fstT (some ⟨.string,sz,b,z⟩)=False:=by simp[fstT,strT]
@[go_sem] theorem fstO_move {x:Operand}:fstO E ⟨dst,.move x,ty,pos,af,gd⟩=True:=by simp[fstO,strO]
@[go_sem] theorem fstO_assign {x:Operand}:fstO E ⟨dst,.assign x,ty,pos,af,gd⟩=True:=by simp[fstO,strO]
@[go_sem] theorem fstO_pick {c x y:Operand}:fstO E ⟨dst,.pick c x y,ty,pos,af,gd⟩=True:=by simp[fstO,strO]
@[go_sem] theorem fstO_build {t:TypeId}{p:Array (Nat×Operand)}:fstO E ⟨dst,.build t p,ty,pos,af,gd⟩=True:=by simp[fstO,strO]
@[go_sem] theorem fstO_load {t:TypeId}{x:Operand}:fstO E ⟨dst,.load t x,ty,pos,af,gd⟩=True:=by simp[fstO,strO]
@[go_sem] theorem fstO_lookup {t:TypeId}{x y:Operand}{ok:Bool}:fstO E ⟨dst,.lookup t x y ok,ty,pos,af,gd⟩=True:=by simp[fstO,strO]
@[go_sem] theorem qnp {t:TypeId}{x:Option Operand}:fstO E ⟨dst,.makeMap t x,ty,pos,af,gd⟩=True:=by simp[fstO,strO]
@[go_sem] theorem qmb {x:Operand}:fstO E ⟨dst,.nilCheck x,ty,pos,af,gd⟩=True:=by simp[fstO,strO]
@[go_sem] theorem fstO_binOp {op:BinOp}{t yt:TypeId}{x y:Operand}:fstO E ⟨dst,.binOp op t x y yt,ty,pos,af,gd⟩=True:=by simp[fstO,strO]
@[go_sem] theorem fstO_unOp {op:UnOp}{t:TypeId}{x:Operand}:fstO E ⟨dst,.unOp op t x,ty,pos,af,gd⟩=True:=by simp[fstO,strO]
@[go_sem] theorem qnq {t u:TypeId}{x:Operand}:fstO E ⟨dst,.convert t u x,ty,pos,af,gd⟩=fstT (E.T u):=rfl
@[go_sem] theorem fstO_slice {t:TypeId}{x:Operand}{lo hi mx:Option Operand}:fstO E ⟨dst,.slice t x lo hi mx,ty,pos,af,gd⟩=True:=by simp[fstO,strO]
@[go_sem] theorem qkR {t:TypeId}{x:Operand}{i:Nat}:fstO E ⟨dst,.fieldAddr t x i,ty,pos,af,gd⟩=True:=by simp[fstO,strO]
@[go_sem] theorem fstO_field {t:TypeId}{x:Operand}{i:Nat}:fstO E ⟨dst,.field t x i,ty,pos,af,gd⟩=True:=by simp[fstO,strO]
@[go_sem] theorem qkS {t:TypeId}{x y:Operand}:fstO E ⟨dst,.indexAddr t x y,ty,pos,af,gd⟩=True:=by simp[fstO,strO]
@[go_sem] theorem fstO_index {t:TypeId}{x y:Operand}:fstO E ⟨dst,.index t x y,ty,pos,af,gd⟩=True:=by simp[fstO,strO]
@[go_sem] theorem qnr {x:Operand}{i:Nat}:fstO E ⟨dst,.extract x i,ty,pos,af,gd⟩=True:=by simp[fstO,strO]
@[go_sem] theorem qmc {c:Fn}{a:Array Operand}{b:Array Operand}:fstO E ⟨dst,.makeFunc c a b,ty,pos,af,gd⟩=True:=by simp[fstO,strO]
@[go_sem] theorem fstO_len {a:Array Operand}{b:Array TypeId}:fstO E ⟨dst,.call ⟨.builtin .len,a,b⟩,ty,pos,af,gd⟩=True:=by simp[fstO,strO]
@[go_sem] theorem fstO_cap {a:Array Operand}{b:Array TypeId}:fstO E ⟨dst,.call ⟨.builtin .cap,a,b⟩,ty,pos,af,gd⟩=True:=by simp[fstO,strO]
@[go_sem] theorem fstO_min {a:Array Operand}{b:Array TypeId}:fstO E ⟨dst,.call ⟨.builtin .min,a,b⟩,ty,pos,af,gd⟩=True:=by simp[fstO,strO]
@[go_sem] theorem fstO_max {a:Array Operand}{b:Array TypeId}:fstO E ⟨dst,.call ⟨.builtin .max,a,b⟩,ty,pos,af,gd⟩=True:=by simp[fstO,strO]
@[go_sem] theorem fstO_box {t:TypeId}{x:Operand}:fstO E ⟨dst,.box t x,ty,pos,af,gd⟩=True:=by simp[fstO,strO]
@[go_sem] theorem fstO_alloc {t:TypeId}:fstO E ⟨dst,.alloc t,ty,pos,af,gd⟩=True:=by simp[fstO,strO]
@[go_sem] theorem qj5 {t:TypeId}{n:Nat}{p:Array (Nat×Operand)}:fstO E ⟨dst,.buildSlice t n p,ty,pos,af,gd⟩=True:=by simp[fstO,strO]
@[go_sem] theorem qkT {t:TypeId}{x y:Operand}:fstO E ⟨dst,.makeSlice t x y,ty,pos,af,gd⟩=True:=by simp[fstO,strO]
end keep
attribute [go_sem] List.contains_cons List.contains_nil ne_eq false_imp_iff true_imp_iff forall_const
@[go_sem] theorem scalars_ints {k:IntKind}{l:List Int}:scalars (l.map (D.int k))=true:=by induction l with|nil=>rfl|cons x r ih=>simp[scalars,D.cells,D.scalar,ih]
@[go_sem] theorem qmd {l:List Bool}:scalars (l.map D.bool)=true:=by induction l with|nil=>rfl|cons x r ih=>simp[scalars,D.cells,D.scalar,ih]
@[go_sem] theorem scalars_dP {l:List (Int×Int)}:scalars (l.map dP)=true:=by induction l with|nil=>rfl|cons x r ih=>simp[scalars,D.cells,D.scalar,ih]
end Go.VL
namespace Go.VL
variable {E:Env}{Q:Post}{fr:Fr}{H:List R}{n:Nat}
def qiH (i j k:Nat) (dp:Bool) (H:List R):Option R→List R
 | some (.box cs)=>(H ++ [R.row 0 k dp []]).set i (.box (cs.set j (.sl H.length 0 k 0 0)))
 | _=>H
def qh5 (i j k:Nat):Option R→Prop
 | some (.box cs)=>cs.getD j .junk=.d .nil∧j<cs.length∧0<k
 | _=>False
def ownB:List (Nat×Nat×Nat×Bool)→List R→List R
 | [],H=>H
 | (i,j,k,dp)::r,H=>ownB r (qiH i j k dp H (qaj H i))
def qg6:List (Nat×Nat×Nat×Bool)→List R→Prop
 | [],_=>True
 | (i,j,k,dp)::r,H=>qh5 i j k (qaj H i)∧qg6 r (qiH i j k dp H (qaj H i))
theorem qdc : ∀ (l:List (Nat×Nat×Nat×Bool)) {fr:Fr}{H:List R},qg6 l H→Ghost n fr H fr (ownB l H)
 | [],fr,H,_=>Ghost.refl n fr H
 | (i,j,k,dp)::r,fr,H,h=>by
  obtain⟨h1,h2⟩:=h
  simp only[ownB]
  cases hr:qaj H i with
  | none=>rw[hr] at h1;exact h1.elim
  | some x=>
   rw[hr] at h1 h2
   cases x with
   | box cs=>
    simp only[qh5,qiH] at h1 h2 ⊢
    rw[←qam] at hr
    exact(Ghost.ownBox i j k dp hr h1.1 h1.2.1 h1.2.2).trans (qdc r h2)
   | _=>exact h1.elim
theorem qdd (hT:TOK E.P E.T) {σ : Type}(F : σ→List (Nat×I)) (Hp : σ→List R) (inv : σ→Prop) (mu : σ→Nat) (ob:List (Nat×Nat×Nat×Bool)) (own:List (Nat×Nat×Bool)) (f1 f2:Nat) {ks:List Item}{c:Code}
  (hbc:qg6 ob H) (hvc:qg1 own fr (ownB ob H)) (h0 : ∃ s,inv s∧fit E.n fr.n (qcF own fr (ownB ob H)).1 (qcF own fr (ownB ob H)).2 (F s) (Hp s))
  (hr : ∀ s,inv s→qaB E f1 c [] (qiD E ks Q f2 fr.n F Hp inv mu s) ⟨fr.n,F s⟩ (Hp s)):iwp E.P E.n (.loop c) (qaQ E ks Q) fr H:=
 qgS (qdc ob hbc) (qbb hT F Hp inv mu own f1 f2 hvc h0 hr)
theorem qj6 {Po:I→List R→Prop}{r:I}(ob:List (Nat×Nat×Nat×Bool)) (hbc:qg6 ob H) (h:endI n Po r (ownB ob H)):endI n Po r H:=by
 obtain⟨fr',H',g,h1,h2⟩:=h
 exact⟨fr',H',(qdc ob hbc).trans g,h1,h2⟩
section rules
@[go_sem] theorem ownB_nil:ownB [] H=H:=rfl
@[go_sem] theorem ownB_cons {i j k:Nat}{dp:Bool}{r:List (Nat×Nat×Nat×Bool)}:ownB ((i,j,k,dp)::r) H=ownB r (qiH i j k dp H (qaj H i)):=rfl
@[go_sem] theorem ownBC_nil:qg6 [] H=True:=rfl
@[go_sem] theorem ownBC_cons {i j k:Nat}{dp:Bool}{r:List (Nat×Nat×Nat×Bool)}:qg6 ((i,j,k,dp)::r) H=(qh5 i j k (qaj H i)∧qg6 r (qiH i j k dp H (qaj H i))):=rfl
@[go_sem] theorem ownBx_s {i j k:Nat}{dp:Bool}{cs:List I}:qiH i j k dp H (some (.box cs))=(H ++ [R.row 0 k dp []]).set i (.box (cs.set j (.sl H.length 0 k 0 0))):=rfl
@[go_sem] theorem ownBvc_s {i j k:Nat}{cs:List I}:qh5 i j k (some (.box cs))=(cs.getD j .junk=.d .nil∧j<cs.length∧0<k):=rfl
attribute [go_sem] List.set_cons_zero List.set_cons_succ List.getD_cons_zero List.getD_cons_succ List.cons_append List.nil_append
@[go_sem] theorem nmem_cons {a b:Nat}{l:List Nat}:(¬ a∈b::l)=(¬ a=b∧¬ a∈l):=by simp
end rules
end Go.VL
namespace Go.VL
theorem and_one (n:Nat):n &&& 1=n%2:=Nat.and_one_is_mod n
theorem land1 {l:Int}(h:0≤l):(((l.toNat &&& 1:Nat):Int)=1)=(l%2=1):=by
 rw[and_one]
 simp only[eq_iff_iff]
 omega
theorem qfS {l:Int}(h:0≤l):((l.toNat &&& 1:Nat):Int)=l%2:=by
 rw[and_one]
 omega
def litV (v:List Bool) (l:Int):Bool:=v.getD (l/2).toNat false != decide (l%2=1)
def qb7 (v:List Bool) (ls:List Int):List Bool:=ls.map (litV v)
theorem qdW {v:List Bool}{ls:List Int}:(qb7 v ls).length=ls.length:=by simp[qb7]
def qdD (c:Circ) (st ins:List Bool):Nat→List Bool
 | 0=>false::(ins++st)
 | i+1=>qdD c st ins i ++ [litV (qdD c st ins i) (c.gates.getD i (0,0)).1&&litV (qdD c st ins i) (c.gates.getD i (0,0)).2]
theorem qfk (c:Circ) (st ins:List Bool) : ∀ i,(qdD c st ins i).length=1+ins.length+st.length+i
 | 0=>by simp[qdD];omega
 | i+1=>by simp[qdD,qfk c st ins i];omega
def values (c:Circ) (st ins:List Bool):List Bool:=qdD c st ins c.gates.length
theorem qa4 {α : Type}{l r:List α}{i:Nat}{z : α}(h:i<l.length):(l++r).getD i z=l.getD i z:=by
 simp[List.getD,List.getElem?_append_left h]
theorem qh6 {v r:List Bool}{l:Int}(h0:0≤l) (h:l<2*v.length):litV (v++r) l=litV v l:=by
 unfold litV
 rw[qa4 (by omega)]
@[go_sem] theorem all_bools {l:List Bool}:(l.map D.bool).all D.scalar=true:=by simp[D.scalar]
@[go_sem] theorem all_ints {k:IntKind}{l:List Int}:(l.map (D.int k)).all D.scalar=true:=by simp[D.scalar]
attribute [go_sem] List.length_replicate
def splice {α : Type}(l:List α) (lo:Nat) (xs:List α):List α:=l.take lo++xs++l.drop (lo+xs.length)
@[go_sem] theorem qns {l xs:List Bool}{lo:Nat}:qaA (l.map D.bool) lo (xs.map D.bool)=(splice l lo xs).map D.bool:=by simp[qaA,splice]
@[go_sem] theorem splice_ints {k:IntKind}{l xs:List Int}{lo:Nat}:qaA (l.map (D.int k)) lo (xs.map (D.int k))=(splice l lo xs).map (D.int k):=by simp[qaA,splice]
theorem qiI {α : Type}{l xs:List α}{lo:Nat}(h:lo+xs.length≤l.length):(splice l lo xs).length=l.length:=by simp[splice];omega
theorem qiJ {α : Type}(z : α) (ins st:List α) (n:Nat) (hn:1+ins.length+st.length≤n) :
  splice (splice (List.replicate n z) 1 ins) (1+ins.length) st=z::(ins++st)++List.replicate (n-(1+ins.length+st.length)) z:=by
 obtain⟨m,rfl⟩ : ∃ m,n=m+1:=⟨n-1,by omega⟩
 have e1:splice (List.replicate (m+1) z) 1 ins=z::(ins++List.replicate (m-ins.length) z):=by
  simp[splice,List.replicate_succ,List.take_replicate,List.drop_replicate,Nat.add_comm 1 ins.length]
 rw[e1]
 simp only[splice,Nat.add_comm 1 ins.length,List.take_succ_cons,List.take_left',show ins.length+1+st.length=ins.length+st.length+1 by omega,List.drop_succ_cons,List.cons_append,List.append_assoc]
 simp[List.drop_append,List.drop_replicate]
 rw[List.drop_eq_nil_of_le (by omega),Nat.sub_sub]
 rfl
theorem qck {α : Type}{v:List α}{z x : α}{g i:Nat}(h:v.length=i) (hg:0<g):(v++List.replicate g z).set i x=v ++ [x]++List.replicate (g-1) z:=by
 obtain⟨m,rfl⟩ : ∃ m,g=m+1:=⟨g-1,by omega⟩
 rw[List.set_append_right _ _ (by omega)]
 simp[h,List.replicate_succ]
theorem qh7 {x:D}:wk1 x x:=by unfold wk1;split <;> simp_all
theorem qh8 : ∀ {l:List D},wkL l l
 | []=>trivial
 | x::r=>⟨qh7,qh8⟩
theorem qh9 {x:D}:wk2 x x:=by
 cases x with
 | agg cs=>exact qh8
 | _=>simp only[wk2];exact qh7
theorem qia : ∀ {l:List D},wkT l l
 | []=>trivial
 | x::r=>⟨qh9,qia⟩
@[go_sem] theorem wk_self {x:D}:wk x x=True:=by
 refine eq_true ?_
 cases x with
 | tup cs=>exact qia
 | _=>simp only[wk];exact qh9
theorem qae {rows:List (List Bool)}{i:Nat}(h:i<rows.length):(rows.map fun x=>dBs x).getD i .nil=dBs (rows.getD i []):=getD_lt _ _ _ _ _ h
theorem qah {rows:List (List Int)}{i:Nat}(h:i<rows.length):(rows.map fun x=>dIs x).getD i .nil=dIs (rows.getD i []):=getD_lt _ _ _ _ _ h
@[go_sem] theorem bss_inj {l l':List (List Bool)}:(l.map (fun x=>dBs x)=l'.map fun x=>dBs x)=(l=l'):=qff fun x y h=>by simpa [go_sem] using h
@[go_sem] theorem bss_push {l:List (List Bool)}{x:List Bool}:l.map (fun x=>dBs x) ++ [D.lst 1 (x.map D.bool)]=(l ++ [x]).map fun x=>dBs x:=by simp
@[go_sem] theorem bss_none {l:List (List Bool)}:(([]:List D)=l.map fun x=>dBs x)=(l=[]):=propext ⟨fun h=>by cases l with|nil=>rfl|cons x r=>simp at h,fun h=>by rw[h];rfl⟩
@[go_sem] theorem bss_take {l:List (List Bool)}{n:Nat}:(l.map fun x=>dBs x).take n=(l.take n).map fun x=>dBs x:=by simp
@[go_sem] theorem bss_drop {l:List (List Bool)}{n:Nat}:(l.map fun x=>dBs x).drop n=(l.drop n).map fun x=>dBs x:=by simp
theorem qiK {c:Circ}{st ins:List Bool}:qdD c st ins 0=false::(ins++st):=rfl
end Go.VL
namespace Go.VL
variable {E:Env}{Q:Post}{fr:Fr}{H:List R}{all rest:List Oper}{ks:List Item}
theorem qnt (hT:TOK E.P E.T) {o:Oper}(hg:o.guard=none) {vc:Prop}{x:I}(hp:sopP E.T fr H o.op=some (vc,x)) (hvc:vc) (h:opsW E all rest ks Q (fr.put o.dst x) H):opsW E all (o::rest) ks Q fr H:=by
 intro S φ a w Qr hn s hf hq
 refine wpList_plain hg fun Kr hKr=>?_
 obtain⟨v,hv,hr⟩:=qbi hT s hf hp hvc
 unfold Oper.wp
 rw[hr w (fun _=>Agree.refl w),Oper.upon_value]
 exact hKr _ _ (h S φ _ w Qr hn s (hf.put o.dst hv) hq)
theorem qme (hT:TOK E.P E.T) {dst:Option Tmp}{t t' ty:Nat}{y:Operand}{pos:String}{af:Array Edge}{k e:Nat}{l:List D}{ti:TI}(hti:E.T t=some ti) (hk:ti.ty=.slice e) (hc:evc fr y) (hx:evx fr y=.d (.lst k l))
  (h : ∀ b:Bool,(b=true→l=[])→opsW E all rest ks Q (fr.put dst (.d (.bool b))) H):opsW E all (⟨dst,.binOp .eql t y (.const (.slice none 0 0)) t',ty,pos,af,none⟩::rest) ks Q fr H:=by
 intro S φ a w Qr hn s hf hq
 refine wpList_plain rfl fun Kr hKr=>?_
 have hv:=hf.evx y hc
 rw[hx] at hv
 have hz:=hv.fz
 have hu:=(hT _ _ hti).und_slice hk
 have key : ∃ ad n cap,a.eval y=.slice ad n cap∧(ad.isNone=true→l=[]):=by
  generalize a.eval y=vx at hz
  cases hz with
  | lst0 _=>exact⟨_,_,_,rfl,fun _=>rfl⟩
  | lst _ _ _ _ _ _ _ _ _=>exact⟨_,_,_,rfl,fun h=>by simp at h⟩
 obtain⟨ad,n,cap,he,hb⟩:=key
 unfold Oper.wp
 have hr:(execOp a.eval ⟨dst,.binOp .eql t y (.const (.slice none 0 0)) t',ty,pos,af,none⟩).run E.P w=.ok (.value (.bool ad.isNone)) w:=by
  have hcn:a.eval (.const (.slice none 0 0))=.slice none 0 0:=rfl
  simp only[execOp,he,hcn,eqGuard_at_slice,Sem.run_bind,Sem.run_pure,Result.andThen_ok,run_eql_slice_nil' hu]
 rw[hr,Oper.upon_value]
 exact hKr _ _ (h ad.isNone hb S φ _ w Qr hn s (hf.put dst (.d .bool)) hq)
theorem qmf (hT:TOK E.P E.T) (f:Nat) (h:exec E f ks Q fr H):opsW E all [] ks Q fr H:=by
 intro S φ a w Qr hn s hf hq
 exact hq a w S φ fr H s hf (Ext.refl ..) (Tr.refl hn) (qeD hT f h)
theorem qj7 (h:qaQ E ks Q .normal fr H):opsW E all [] ks Q fr H:=by
 intro S φ a w Qr hn s hf hq
 exact hq a w S φ fr H s hf (Ext.refl ..) (Tr.refl hn) h
theorem qfT {id:Nat}{ops:Array Oper}(h:opsW E ops.toList ops.toList ks Q fr H):iwp E.P E.n (.region id ops false) (qaQ E ks Q) fr H:=
 qfB (by unfold opsW at h;simpa using h)
theorem qgp {x y:Code}(h:iwp E.P E.n x (qaQ E (.code y::ks) Q) fr H):iwp E.P E.n (.seq x y) (qaQ E ks Q) fr H:=qi2 h
end Go.VL
namespace Go.VL
variable {E:Env}{P:Program}{Q:Post}{S:Nat→Prop}{φ : List (List Nat)}{fr:Fr}{H:List R}{w:World}{n:Nat}
def fitL (K:List R):List I→List I→Prop
 | [],[]=>True
 | x::r,y::s=>fit1 K x y∧fitL K r s
 | _,_=>False
def qdE (K:List R):R→R→Prop
 | .box cs,.box cs'=>fitL K cs cs'
 | x,.dead g=>x.gen≤g
 | .row g k dp l,y=>dp.shut=true∧fitR (.row g k dp l) y
 | x,y=>fitR x y
def qez (K:List R):List R→List R→Prop
 | _,[]=>True
 | x::r,y::s=>qdE K x y∧qez K r s
 | [],_::_=>False
def fit2 (n nt:Nat) (fr:Fr) (H:List R) (m:List (Nat×I)) (H':List R):Prop:=
 fr.n=nt∧n≤H'.length∧fitF (qaZ H'.length H) fr m∧qez (qaZ H'.length H) H H'∧qeZ H'.length m∧qbL H'.length H'
theorem qib {K:List R} : ∀ {cs cs':List I},fitL K cs cs'→cs.length=cs'.length∧∀ j,j<cs.length→fit1 K (cs.getD j .junk) (cs'.getD j .junk)
 | [],[],_=>⟨rfl,fun j hj=>by simp at hj⟩
 | x::r,y::s,h=>by
  obtain⟨h1,h2⟩:=qib h.2
  refine⟨by simp[h1],fun j hj=>?_⟩
  cases j with
  | zero=>exact h.1
  | succ j=>simpa using h2 j (by simpa using hj)
 | [],_::_,h=>h.elim
 | _::_,[],h=>h.elim
theorem qfl {K:List R} : ∀ {H H':List R},qez K H H'→H'.length≤H.length∧∀ (i:Nat) (y:R),H'[i]?=some y→∃ x:R,H[i]?=some x∧qdE K x y
 | H,[],_=>by simp
 | x::r,y::s,h=>by
  obtain⟨h1,h2⟩:=qfl h.2
  refine⟨by simp;omega,fun i z hz=>?_⟩
  cases i with
  | zero=>simp at hz;subst hz;exact⟨x,rfl,h.1⟩
  | succ i=>simpa using h2 i z (by simpa using hz)
 | [],_::_,h=>h.elim
theorem qcl {K:List R}{x y:R}(h:qdE K x y):(∃ cs cs',x=.box cs∧y=.box cs'∧fitL K cs cs')∨(fitR x y∧(∀ cs,y≠.box cs)∧∀ g k dp l,x=.row g k dp l→dp.shut=true)∨(∃ g,y=.dead g∧x.gen≤g):=by
 cases y with
 | dead g=>exact .inr (.inr ⟨g,rfl,by cases x <;> exact h⟩)
 | _=>
  cases x with
  | box cs=>
   first
    | exact .inl ⟨_,_,rfl,rfl,h⟩
    | exact .inr (.inl ⟨h,by simp,by simp⟩)
  | row g k dp l=>
   refine .inr (.inl ⟨h.2,fun cs hy=>?_,fun g k dp l hx=>by cases hx;exact h.1⟩)
   cases hy
   all_goals (exfalso;revert h;simp[qdE,VL.fitR])
  | _=>
   refine .inr (.inl ⟨h,fun cs hy=>?_,by simp⟩)
   cases hy
   all_goals (exfalso;revert h;simp[qdE,VL.fitR])
def noBox:R→R
 | .box _=>.dead 0
 | .row g _ (.own (_::_)) _=>.dead g
 | r=>r
theorem qiL {g k:Nat}{dp:DP}{l:List D}(h:dp.shut=true):noBox (.row g k dp l)=.row g k dp l:=by
 match dp,h with
 | .fz,_=>rfl
 | .own [],_=>rfl
 | .own (_::_),h=>simp[DP.shut] at h
theorem qfm {S S':Nat→Prop}{φ φ':List (List Nat)}{H H':List R}{w:World}{fp:List Nat}{g k:Nat}{dp:DP}{l:List D}(hd:dp.shut=true) (hS : ∀ b,S b→S' b) (h:RRel S φ H w fp (.row g k dp l)):RRel S' φ' H' w fp (.row g k dp l):=by
 obtain⟨h1,h2,h3,h4,h5⟩:=h
 refine⟨h1,h2,h3,h4,?_⟩
 rcases h5 with h5|⟨b,rest,arr,ty,e1,e2,e3,e4⟩
 ·exact .inl h5
 ·refine .inr ⟨b,rest,arr,ty,e1,e2,e3,?_⟩
  match dp,hd with
  | .fz,_=>exact⟨e4.1,fun j hj=>(e4.2 j hj).mono hS fun _ _=>rfl⟩
  | .own [],_=>exact e4
  | .own (_::_),hd=>simp[DP.shut] at hd
theorem Sim.noBox (s:Sim S φ H w):Sim S φ (H.map noBox) w:=by
 refine⟨by rw[s.len,List.length_map],s.nd,s.dj,s.lt,s.off,s.slt,fun i r hr=>?_⟩
 simp only[List.getElem?_map,Option.map_eq_some_iff] at hr
 obtain⟨x,hx,rfl⟩:=hr
 have:=s.rel i x hx
 cases x with
 | box cs=>trivial
 | row g k dp l=>
  match dp,this with
  | .fz,this=>exact qfm rfl (fun _ h=>h) this
  | .own [],this=>exact qfm rfl (fun _ h=>h) this
  | .own (_::_),_=>trivial
 | map es=>exact this
 | val x=>exact this
 | dead g=>exact this
theorem qfn (m:Nat) : ∀ (H:List R),qbL m (H.map VL.noBox)
 | []=>trivial
 | r::l=>⟨by
   cases r with
   | row g k dp l=>match dp with|.fz=>trivial|.own []=>trivial|.own (_::_)=>trivial
   | _=>simp only[VL.noBox,R.idlt],qfn m l⟩
theorem qiM {nt:Nat}{m:List (Nat×I)}{H':List R}(h1:fr.n=nt) (h2:n≤H'.length)
  (h3 : ∀ S φ w a,Sim S φ H w→FrR S φ H w fr a→∀ t,V (fun b=>S b∨Foot (qbT H'.length φ) b) (φ.take H'.length) (H.take H'.length) w (look t m) (a.tmps.getD t undef))
  (h4:qez (qaZ H'.length H) H H') (h6:qbL H'.length H'):Ghost n fr H ⟨nt,m⟩ H':=by
 obtain⟨e2,e1⟩:=qfl h4
 intro S φ w a hn s hf
 have hl0:(H.map VL.noBox).length=H.length:=by simp
 obtain⟨s2,t2,x2⟩:=qfd s.noBox (n:=H'.length) (by rw[hl0];exact e2) (by rw[←List.map_take];exact qfn _ _)
 have hget : ∀ i,i<H'.length→(φ.take H'.length).getD i [] = φ.getD i []:=fun i hi=>getD_take _ _ _ _ hi
 have htr : ∀ (φ0:List (List Nat)) (G:List R),H'.length≤G.length→(∀ i,i<H'.length→G[i]?=H[i]?)→(∀ i,i<H'.length→φ0.getD i [] = φ.getD i [])→∀ S0:Nat→Prop,(∀ b,S0 b→S b∨Foot (qbT H'.length φ) b)→
   Tr H'.length S0 φ0 G w (fun b=>S b∨Foot (qbT H'.length φ) b) (φ.take H'.length) H' w:=by
  intro φ0 G hG hGe hφ0 S0 hS0
  refine⟨hS0,fun _ _=>rfl,hG,Nat.le_refl _,?_,?_,?_,?_,?_⟩
  ·intro i hi
   obtain⟨x,hx,hxy⟩:=e1 i (H'.getD i (.dead 0)) (by simp[List.getD,hi])
   have e:G.getD i (.dead 0)=x:=by simp[List.getD,hGe i hi,hx]
   rw[e]
   rcases qcl hxy with⟨cs,cs',h1,h2,_⟩|⟨hxy,_,_⟩|⟨g,h1,h2⟩
   rotate_left 2
   ·rw[h1];exact h2
   ·rw[h1,h2];exact Nat.le_refl _
   ·rcases qbf hxy with h1|⟨g,k,l,h1,h2,_⟩
    ·rw[h1];exact Nat.le_refl _
    ·rw[h1,h2];exact Nat.le_refl _
  ·intro i g k dp' l' hi hl'
   obtain⟨x,hx,hxy⟩:=e1 i _ hl'
   rcases qcl hxy with⟨cs,cs',h1,h2,_⟩|⟨hxy,_,_⟩|⟨g,h1,h2⟩
   rotate_left 2
   ·cases h1
   ·cases h2
   ·rcases qbf hxy with rfl|⟨g,k,l,rfl,h2,_⟩
    ·exact .inr ⟨dp',l',by rw[hGe i hi];exact hx,by rw[hget i hi,hφ0 i hi],Nat.le_refl _,fun b rest arr ty e1 e2=>⟨arr,ty,e2,Nat.le_refl _⟩⟩
    ·cases h2
     exact .inr ⟨true,_,by rw[hGe i hi];exact hx,by rw[hget i hi,hφ0 i hi],Nat.le_refl _,fun b rest arr ty e1 e2=>⟨arr,ty,e2,Nat.le_refl _⟩⟩
  ·intro i cs hi hl'
   obtain⟨x,hx,hxy⟩:=e1 i _ hl'
   rcases qcl hxy with⟨cs1,cs',h1,h2,_⟩|⟨_,hnb,_⟩|⟨g,h1,h2⟩
   rotate_left 2
   ·cases h1
   ·exact⟨cs1,by rw[hGe i hi,hx,h1],by rw[hget i hi,hφ0 i hi]⟩
   ·exact absurd rfl (hnb cs)
  ·intro i cs hi hl'
   obtain⟨x,hx,hxy⟩:=e1 i _ hl'
   rcases qcl hxy with⟨cs1,cs',h1,h2,_⟩|⟨hxy,_⟩|⟨g,h1,h2⟩
   rotate_left 2
   ·cases h1
   ·cases h2
   ·rcases qbf hxy with rfl|⟨g,k,l,rfl,h2,_⟩
    ·exact⟨cs,by rw[hGe i hi];exact hx,by rw[hget i hi,hφ0 i hi]⟩
    ·cases h2
  ·intro i z hi hl'
   obtain⟨x,hx,hxy⟩:=e1 i _ hl'
   rcases qcl hxy with⟨cs1,cs',h1,h2,_⟩|⟨hxy,_⟩|⟨g,h1,h2⟩
   rotate_left 2
   ·cases h1
   ·cases h2
   ·rcases qbf hxy with rfl|⟨g,k,l,rfl,h2,_⟩
    ·exact⟨by rw[hGe i hi];exact hx,by rw[hget i hi,hφ0 i hi],fun _ _=>rfl⟩
    ·cases h2
 have hlt:(H.take H'.length).length=H'.length:=by simp;omega
 have tA:=htr φ H e2 (fun _ _=>rfl) (fun _ _=>rfl) S (fun _ h=>.inl h)
 have tB:=htr (φ.take H'.length) (H.take H'.length) (by omega) (fun i hi=>qaD _ _ _ hi) hget (fun b=>S b∨Foot (qbT H'.length φ) b) (fun _ h=>h)
 have s3:Sim (fun b=>S b∨Foot (qbT H'.length φ) b) (φ.take H'.length) H' w:=by
  refine⟨by rw[s2.len];simp;omega,s2.nd,s2.dj,s2.lt,s2.off,s2.slt,fun i y hy=>?_⟩
  have hi:i<H'.length:=(List.getElem?_eq_some_iff.1 hy).1
  obtain⟨x,hx,hxy⟩:=e1 i y hy
  rw[hget i hi]
  rcases qcl hxy with⟨cs,cs',rfl,rfl,hfl⟩|⟨hxy,hnb,hshut⟩|⟨g,rfl,_⟩
  rotate_left 2
  ·trivial
  ·obtain⟨b,arr,ty,q1,q2,q3,q4⟩:=s.rel i _ hx
   obtain⟨l1,l2⟩:=qib hfl
   refine⟨b,arr,ty,q1,q2,by omega,fun j hj=>?_⟩
   obtain⟨o1,v1⟩:=q4 j (by omega)
   refine⟨o1,?_⟩
   have:=qni s e2 (l2 j (by omega)) (qaT (qcU h6 i _ hy) j hj) v1
   exact this.tr (by rw[hlt];exact tB)
  ·have hx2:((H.map VL.noBox).take H'.length)[i]?=some (VL.noBox x):=by rw[qaD _ _ _ hi,List.getElem?_map,hx];rfl
   have hrel:=s2.rel i _ hx2
   rw[hget i hi] at hrel
   rcases qbf hxy with rfl|⟨g,k,l,rfl,rfl,hsc⟩
   ·cases x with
    | box cs=>exact absurd rfl (hnb cs)
    | row g k dp l=>
     have hd:=hshut _ _ _ _ rfl
     rw[qiL hd] at hrel
     exact qfm hd (fun _ h=>h) hrel
    | map es=>exact hrel
    | val x=>exact hrel
    | dead g=>exact hrel
   ·obtain⟨h1,h2,h3,h4,h5⟩:=hrel
    refine⟨h1,h2,h3,h4,?_⟩
    rcases h5 with h5|⟨b,rest,arr,ty,e1,e2,e3,F,hF,_,hr⟩
    ·exact .inl h5
    ·have hall:=qdB hsc
     have hz : ∀ j,j<(flat l).length→F j=[]:=fun j hj=>qjS (hr j hj) (hall _ (getD_mem hj))
     refine .inr ⟨b,rest,arr,ty,e1,e2,e3,?_,fun j hj=>qeI (hr j hj) (hall _ (getD_mem hj)) _⟩
     rw[hF]
     refine List.flatMap_eq_nil_iff.2 fun j hj=>hz j (List.mem_range.1 hj)
 refine⟨_,_,s3,⟨hf.defers,hf.size.trans h1,fun t=>?_⟩,x2,tA.weaken h2⟩
 have:=h3 S φ w a s hf t
 exact this.tr (by rw[hlt];exact tB)
theorem qfU {nt:Nat}{m:List (Nat×I)}{H':List R}(h:fit2 n nt fr H m H'):Ghost n fr H ⟨nt,m⟩ H':=by
 obtain⟨h1,h2,h3,h4,h5,h6⟩:=h
 exact qiM h1 h2 (fun S φ w a s hf=>qfe s (qfl h4).1 hf m h3 h5) h4 h6
def qj8 (E:Env) (ks:List Item) (Q:Post) (f:Nat) {σ : Type}(nt:Nat) (F : σ→List (Nat×I)) (Hp : σ→List R) (inv : σ→Prop) (mu : σ→Nat) (s : σ):Post
 | .normal,fr,H=>∃ s',inv s'∧mu s'<mu s∧fit2 E.n nt fr H (F s') (Hp s')
 | .exit id,fr,H=>qbS E f (exK id ks) id ks Q fr H
 | e,fr,H=>qaQ E ks Q e fr H
structure Held (C:Prop):Prop where
 get:C
def fitE2 (n:Nat) (r:I) (H:List R) (r0:I) (H1:List R):Prop:=fit1 (qaZ H1.length H) r r0∧n≤H1.length∧qez (qaZ H1.length H) H H1∧r0.idlt H1.length∧qbL H1.length H1
def fitAll (f:I→I→Prop):List I→List I→Prop
 | [],[]=>True
 | x::r,y::s=>f x y∧fitAll f r s
 | _,_=>False
def fitV (K:List R):Nat→I→I→Prop
 | n+1,.agg xs,.agg ys=>fitAll (fitV K n) xs ys
 | n+1,.tup xs,.tup ys=>fitAll (fitV K n) xs ys
 | _,x,y=>fit1 K x y
def fitE3 (n:Nat) (r:I) (H:List R) (r0:I) (H1:List R):Prop:=fitV (qaZ H1.length H) 3 r r0∧n≤H1.length∧qez (qaZ H1.length H) H H1∧r0.idlt H1.length∧qbL H1.length H1
section rules
variable {σ : Type}{F : σ→List (Nat×I)}{Hp : σ→List R}{inv : σ→Prop}{mu : σ→Nat}{s : σ}{ks:List Item}{f nt:Nat}{K:List R}
@[go_sem] theorem qmg:qj8 E ks Q f nt F Hp inv mu s .normal fr H = ∃ s',inv s'∧mu s'<mu s∧fit2 E.n nt fr H (F s') (Hp s'):=rfl
@[go_sem] theorem loopQ3_exit {id:Nat}:qj8 E ks Q f nt F Hp inv mu s (.exit id) fr H=qbS E f (exK id ks) id ks Q fr H:=rfl
@[go_sem] theorem loopQ3_ret:qj8 E ks Q f nt F Hp inv mu s .ret fr H=qaQ E ks Q .ret fr H:=rfl
@[go_sem] theorem fit2_eq {m:List (Nat×I)}{H':List R}:fit2 n nt fr H m H'=(fr.n=nt∧n≤H'.length∧fitF (qaZ H'.length H) fr m∧qez (qaZ H'.length H) H H'∧qeZ H'.length m∧qbL H'.length H'):=rfl
@[go_sem] theorem fitE2_eq {r r0:I}{H':List R}:fitE2 n r H r0 H'=(fit1 (qaZ H'.length H) r r0∧n≤H'.length∧qez (qaZ H'.length H) H H'∧r0.idlt H'.length∧qbL H'.length H'):=rfl
@[go_sem] theorem fitE3_eq {r r0:I}{H':List R}:fitE3 n r H r0 H'=(fitV (qaZ H'.length H) 3 r r0∧n≤H'.length∧qez (qaZ H'.length H) H H'∧r0.idlt H'.length∧qbL H'.length H'):=rfl
@[go_sem] theorem fitAll_nil {f':I→I→Prop}:fitAll f' [] []=True:=rfl
@[go_sem] theorem fitAll_cons {f':I→I→Prop}{x y:I}{r q:List I}:fitAll f' (x::r) (y::q)=(f' x y∧fitAll f' r q):=rfl
@[go_sem] theorem fitV_agg3 {xs ys:List I}:fitV K 3 (.agg xs) (.agg ys)=fitAll (fitV K 2) xs ys:=rfl
@[go_sem] theorem fitV_tup3 {xs ys:List I}:fitV K 3 (.tup xs) (.tup ys)=fitAll (fitV K 2) xs ys:=rfl
@[go_sem] theorem fitV_agg2 {xs ys:List I}:fitV K 2 (.agg xs) (.agg ys)=fitAll (fitV K 1) xs ys:=rfl
@[go_sem] theorem fitV_d {m:Nat}{x:I}{d:D}:fitV K (m+1) x (.d d)=fit1 K x (.d d):=by cases x <;> rfl
@[go_sem] theorem fitV_sl {m i g k' a b:Nat}{x:I}:fitV K (m+1) x (.sl i g k' a b)=fit1 K x (.sl i g k' a b):=by cases x <;> rfl
@[go_sem] theorem fitH2_nil:qez K H []=True:=by cases H <;> rfl
@[go_sem] theorem fitH2_cons {x y:R}{r q:List R}:qez K (x::r) (y::q)=(qdE K x y∧qez K r q):=rfl
@[go_sem] theorem fitR2_box {cs cs':List I}:qdE K (.box cs) (.box cs')=fitL K cs cs':=rfl
@[go_sem] theorem fitR2_row {g k g' k':Nat}{dp dp':DP}{l l':List D}:qdE K (.row g k dp l) (.row g' k' dp' l')=(dp.shut=true∧fitR (.row g k dp l) (.row g' k' dp' l')):=rfl
@[go_sem] theorem fitR2_map {es es':List (D×D)}:qdE K (.map es) (.map es')=(es=es'):=by simp[qdE,fitR]
@[go_sem] theorem fitR2_dead {x:R}{g:Nat}:qdE K x (.dead g)=(x.gen≤g):=by cases x <;> rfl
@[go_sem] theorem fitR2_rb {g k:Nat}{dp:DP}{l:List D}{cs:List I}:qdE K (.row g k dp l) (.box cs)=False:=by simp[qdE,fitR]
@[go_sem] theorem fitR2_br {g k:Nat}{dp:DP}{l:List D}{cs:List I}:qdE K (.box cs) (.row g k dp l)=False:=by simp[qdE,fitR]
@[go_sem] theorem fitL_nil:fitL K [] []=True:=rfl
@[go_sem] theorem fitL_cons {x y:I}{r s:List I}:fitL K (x::r) (y::s)=(fit1 K x y∧fitL K r s):=rfl
@[go_sem] theorem fit1_map {i:Nat}{y:I}:fit1 K (.map i) y=fitS K (.map i) y:=qg2 nofun
@[go_sem] theorem fit1_junk {x:I}:fit1 K x .junk=(x=.junk):=by cases x <;> rfl
end rules
end Go.VL
namespace Go.VL
variable {E:Env}{P:Program}{Q:Post}{S:Nat→Prop}{φ : List (List Nat)}{fr:Fr}{H:List R}{w:World}{n:Nat}
def fzIt (i g k:Nat) (l:List D):I→I
 | .sl i' g' k' lo m=>if i'=i∧g'=g∧k'=k then .d (.lst k ((l.drop lo).take m)) else .sl i' g' k' lo m
 | x=>x
def fzLt (i g k:Nat) (l:List D):List I→List I
 | []=>[]
 | x::r=>fzIt i g k l x::fzLt i g k l r
def fzMt (i g k:Nat) (l:List D):List (Nat×I)→List (Nat×I)
 | []=>[]
 | (t,x)::r=>(t,fzIt i g k l x)::fzMt i g k l r
def fzRt (i g k:Nat) (l:List D):R→R
 | .box cs=>.box (fzLt i g k l cs)
 | r=>r
def fzHt (i g k:Nat) (l:List D):List R→List R
 | []=>[]
 | r::H=>fzRt i g k l r::fzHt i g k l H
section rules
variable {i g k:Nat}{l:List D}
@[go_sem] theorem fzMt_nil:fzMt i g k l []=[]:=rfl
@[go_sem] theorem fzMt_cons {t:Nat}{x:I}{r:List (Nat×I)}:fzMt i g k l ((t,x)::r)=(t,fzIt i g k l x)::fzMt i g k l r:=rfl
@[go_sem] theorem fzLt_nil:fzLt i g k l []=[]:=rfl
@[go_sem] theorem fzLt_cons {x:I}{r:List I}:fzLt i g k l (x::r)=fzIt i g k l x::fzLt i g k l r:=rfl
@[go_sem] theorem fzHt_nil:fzHt i g k l []=[]:=rfl
@[go_sem] theorem fzHt_cons {x:R}{r:List R}:fzHt i g k l (x::r)=fzRt i g k l x::fzHt i g k l r:=rfl
@[go_sem] theorem fzRt_box {cs:List I}:fzRt i g k l (.box cs)=.box (fzLt i g k l cs):=rfl
@[go_sem] theorem fzRt_row {g' k':Nat}{dp':DP}{l':List D}:fzRt i g k l (.row g' k' dp' l')=.row g' k' dp' l':=rfl
@[go_sem] theorem fzRt_map {es:List (D×D)}:fzRt i g k l (.map es)=.map es:=rfl
@[go_sem] theorem fzRt_dead {g':Nat}:fzRt i g k l (.dead g')=.dead g':=rfl
@[go_sem] theorem fzIt_sl {i' g' k' lo m:Nat}:fzIt i g k l (.sl i' g' k' lo m)=if i'=i∧g'=g∧k'=k then .d (.lst k ((l.drop lo).take m)) else .sl i' g' k' lo m:=rfl
@[go_sem] theorem fzIt_d {x:D}:fzIt i g k l (.d x)=.d x:=rfl
@[go_sem] theorem fzIt_ptr {a b:Nat}:fzIt i g k l (.ptr a b)=.ptr a b:=rfl
@[go_sem] theorem fzIt_agg {cs:List I}:fzIt i g k l (.agg cs)=.agg cs:=rfl
@[go_sem] theorem fzIt_tup {cs:List I}:fzIt i g k l (.tup cs)=.tup cs:=rfl
@[go_sem] theorem fzIt_map {a:Nat}:fzIt i g k l (.map a)=.map a:=rfl
@[go_sem] theorem fzIt_junk:fzIt i g k l .junk=.junk:=rfl
@[go_sem] theorem fzIt_cond {c:Bool}{x:I}:fzIt i g k l (.cond c x)=.cond c x:=rfl
end rules
end Go.VL
namespace Go.VL
abbrev Tri:=Int×Int×Int
abbrev dN (x:Tri):D:=.agg [dI x.1,dI x.2.1,dI x.2.2]
@[go_sem] theorem dN_get {l:List Tri}{i:Nat}:(l.map dN).getD i (.agg [.int .i64 0,.int .i64 0,.int .i64 0])=dN (l.getD i (0,0,0)):=qcX _ _ _ (0,0,0)
@[go_sem] theorem dN_inj {l l':List Tri}:(l.map dN=l'.map dN)=(l=l'):=qff fun x y h=>by
 obtain⟨a,b,c⟩:=x;obtain⟨d,e,f⟩:=y
 simpa [dN] using h
@[go_sem] theorem dN_ok {l:List Tri}:okL (l.map dN) = ∀ x∈l,InK .i64 x.1∧InK .i64 x.2.1∧InK .i64 x.2.2:=by
 rw[qgm]
 simp[dN,D.ok,okL]
@[go_sem] theorem dN_set' {l:List Tri}{i:Nat}{x y z:Int}:(l.map dN).set i (D.agg [.int .i64 x,.int .i64 y,.int .i64 z])=(l.set i (x,y,z)).map dN:=(List.map_set (f:=dN) (a:=(x,y,z))).symm
@[go_sem] theorem dN_rep {n:Nat}:List.replicate n (D.agg [.int .i64 0,.int .i64 0,.int .i64 0])=(List.replicate n ((0,0,0):Tri)).map dN:=by simp[dN]
@[go_sem] theorem dN_push {l:List Tri}{x y z:Int}:l.map dN ++ [D.agg [.int .i64 x,.int .i64 y,.int .i64 z]]=(l ++ [(x,y,z)]).map dN:=by simp
@[go_sem] theorem dN_push' {l:List Tri}{x:Tri}:l.map dN ++ [dN x]=(l ++ [x]).map dN:=by simp
@[go_sem] theorem dN_app {l l':List Tri}:l.map dN++l'.map dN=(l++l').map dN:=by simp
@[go_sem] theorem dN_none {l:List Tri}:(([]:List D)=l.map dN)=(l=[]):=propext ⟨fun h=>by cases l with|nil=>rfl|cons x r=>simp at h,fun h=>by rw[h];rfl⟩
@[go_sem] theorem dN_drop {l:List Tri}{n:Nat}:(l.map dN).drop n=(l.drop n).map dN:=by simp
@[go_sem] theorem dN_take {l:List Tri}{n:Nat}:(l.map dN).take n=(l.take n).map dN:=by simp
end Go.VL
namespace Go.VL
variable {E:Env}{P:Program}{Q:Post}{S:Nat→Prop}{φ : List (List Nat)}{fr:Fr}{H:List R}{w:World}{n:Nat}
theorem qfV (hvc:(shut H).1):Ghost n fr H fr (shut H).2:=by
 intro S φ w a hn s hf
 obtain⟨φ',s',t,e⟩:=qfK s hvc
 exact⟨S,φ',s',hf.tr t,e,t.weaken hn⟩
def shutQ (k:List R→Prop) (q:Prop×List R):Prop:=q.1∧k q.2
def qg7 (H:List R) (k:List R→Prop):Prop:=shutQ k (shut H)
@[go_sem] theorem shutP_eq {k:List R→Prop}:qg7 H k=shutQ k (shut H):=rfl
@[go_sem] theorem shutQ_s {k:List R→Prop}{c:Prop}:shutQ k (c,H)=(c∧k H):=rfl
def qg8 (E:Env) (ks:List Item) (Q:Post) (f:Nat) {σ : Type}(nt:Nat) (F : σ→List (Nat×I)) (Hp : σ→List R) (inv : σ→Prop) (mu : σ→Nat) (s : σ):Post
 | .normal,fr,H=>qg7 H (fun H'=>∃ s',inv s'∧mu s'<mu s∧fit2 E.n nt fr H' (F s') (Hp s'))
 | .exit id,fr,H=>qbS E f (exK id ks) id ks Q fr H
 | e,fr,H=>qaQ E ks Q e fr H
theorem qcz (hT:TOK E.P E.T) {σ : Type}(F : σ→List (Nat×I)) (Hp : σ→List R) (inv : σ→Prop) (mu : σ→Nat) (ob:List (Nat×Nat×Nat×Bool)) (own:List (Nat×Nat×Bool)) (f1 f2:Nat) {ks:List Item}{c:Code}
  (hs:qg7 H (fun H=>qg6 ob H∧qg1 own fr (ownB ob H)∧∃ s,inv s∧fit2 E.n fr.n (qcF own fr (ownB ob H)).1 (qcF own fr (ownB ob H)).2 (F s) (Hp s)))
  (hr : ∀ s,inv s→qaB E f1 c [] (qg8 E ks Q f2 fr.n F Hp inv mu s) ⟨fr.n,F s⟩ (Hp s)):iwp E.P E.n (.loop c) (qaQ E ks Q) fr H:=by
 obtain⟨hsv,hbc,hvc,s0,hi0,hf0⟩:=hs
 refine qgT (fun m fr' H'=>∃ s,inv s∧mu s=m∧fr'=⟨fr.n,F s⟩∧H'=Hp s) (mu s0) ⟨_,_,(((qfV hsv).trans (qdc ob hbc)).trans (qb3 own hvc)).trans (qfU hf0),s0,hi0,rfl,rfl,rfl⟩ ?_
 rintro m fr' H' ⟨s,hi,rfl,rfl,rfl⟩
 refine qf1 (qc9 hT f1 (hr s hi)) ?_
 intro e fr' H' hq
 cases e with
 | normal=>
  obtain⟨hsv,s',hi',hmu,hfit⟩:=hq
  exact⟨_,_,(qfV hsv).trans (qfU hfit),mu s',hmu,s',hi',rfl,rfl,rfl⟩
 | exit id=>
  simp only[qg8] at hq
  refine qcf id ks ?_
  generalize exK id ks=o at hq
  match f2,o with
  | 0,_=>simp only[qbS] at hq
  | f+1,some ks'=>
   simp only[qbS] at hq
   exact qeD hT f hq
  | f+1,none=>
   simp only[qbS] at hq
   exact hq
 | goto l=>exact hq
 | ret=>exact hq
 | panic ch=>exact hq
 | outgrown=>exact hq
section rules
variable {σ : Type}{F : σ→List (Nat×I)}{Hp : σ→List R}{inv : σ→Prop}{mu : σ→Nat}{s : σ}{ks:List Item}{f nt:Nat}
@[go_sem] theorem qmh:qg8 E ks Q f nt F Hp inv mu s .normal fr H=qg7 H (fun H'=>∃ s',inv s'∧mu s'<mu s∧fit2 E.n nt fr H' (F s') (Hp s')):=rfl
@[go_sem] theorem loopQ5_exit {id:Nat}:qg8 E ks Q f nt F Hp inv mu s (.exit id) fr H=qbS E f (exK id ks) id ks Q fr H:=rfl
@[go_sem] theorem loopQ5_ret:qg8 E ks Q f nt F Hp inv mu s .ret fr H=qaQ E ks Q .ret fr H:=rfl
end rules
@[go_sem] theorem qnu {α β : Type}{f : α→β}{l:List α}:(l.map f).take l.length=l.map f:=List.take_of_length_le (by simp)
def putE (one:Bool) (k:Nat) (x:D) (off:Nat) (c:D):D:=
 match one with
 | true=>c
 | false=>.agg (setD (qab x 0 k) off [c])
@[go_sem] theorem putE_t {k:Nat}{x c:D}{off:Nat}:putE true k x off c=c:=rfl
@[go_sem] theorem putE_f {k:Nat}{x c:D}{off:Nat}:putE false k x off c=.agg (setD (qab x 0 k) off [c]):=rfl
@[go_sem] theorem qmi {k:Nat}{l:List D}{x c:D}{off:Nat}:putC k (l ++ [x]) l.length off c=l ++ [putE (decide (k=1)) k x off c]:=by
 unfold putC putE
 cases decide (k=1) <;> simp[List.getD]
@[go_sem] theorem putC_endm {α : Type}{f : α→D}{k:Nat}{l:List α}{x c:D}{off:Nat}:putC k (l.map f ++ [x]) l.length off c=l.map f ++ [putE (decide (k=1)) k x off c]:=by
 have:=qmi (k:=k) (l:=l.map f) (x:=x) (c:=c) (off:=off)
 rwa [List.length_map] at this
@[go_sem] theorem putC_set {k:Nat}{l:List D}{idx off:Nat}{x c:D}:putC k (l.set idx x) idx off c=l.set idx (putE (decide (k=1)) k x off c):=by
 unfold putC putE
 cases decide (k=1)
 ·by_cases h:idx<l.length
  ·simp[List.getD,h]
  ·have e : ∀ y:D,l.set idx y=l:=fun y=>List.set_eq_of_length_le (by omega)
   simp only[e]
 ·simp
def qaU (fr:Fr) (o:Oper):Prop:=
 match o.op with
 | .load _ p=>(∃ d,evx fr p=.d d)∨∃ i o,evx fr p=.ptr i o
 | op=>qa5 op=false
def isPD:I→Prop
 | .d _=>True
 | .ptr _ _=>True
 | _=>False
def qbV:List R→List R→Prop
 | [],_=>True
 | .box _::r,.box _::q=>qbV r q
 | .box _::_,_=>False
 | _::r,_::q=>qbV r q
 | _::_,[]=>False
def qcJ (E:Env) (H0:List R) (fr:Fr) (H:List R) (o:Oper):Prop:=qbV H0 H∧(isApp o.op=true∨qaq E fr o)
section modeB
variable {a:Act}
def qbW (E:Env) (F:Nat) (l:List Oper) (tails:List Nat) (H0:List R) (K:Fr→List R→Prop):Sch→Fr→List R→Prop
 | .done,fr,H=>K fr H
 | .fst i t,fr,H=>qaU fr (opAt l i)∧fstO E (opAt l i)∧ops' E F l [opAt l i] [] (nQ (qbW E F l tails H0 K t)) fr H
 | .one i t,fr,H=>(tails.contains i=false→qcJ E H0 fr H (opAt l i))∧ops' E F l [opAt l i] [] (nQ (qbW E F l tails H0 K t)) fr H
 | .two i t j u,fr,H=>((tails.contains i=false→qcJ E H0 fr H (opAt l i))∧ops' E F l [opAt l i] [] (nQ (qbW E F l tails H0 K t)) fr H)∧
   ((tails.contains j=false→qcJ E H0 fr H (opAt l j))∧ops' E F l [opAt l j] [] (nQ (qbW E F l tails H0 K u)) fr H)
 | .three i t j u k v,fr,H=>((tails.contains i=false→qcJ E H0 fr H (opAt l i))∧ops' E F l [opAt l i] [] (nQ (qbW E F l tails H0 K t)) fr H)∧
   ((tails.contains j=false→qcJ E H0 fr H (opAt l j))∧ops' E F l [opAt l j] [] (nQ (qbW E F l tails H0 K u)) fr H)∧
   ((tails.contains k=false→qcJ E H0 fr H (opAt l k))∧ops' E F l [opAt l k] [] (nQ (qbW E F l tails H0 K v)) fr H)
 | .four i t j u k v m y,fr,H=>
   ((tails.contains i=false→qcJ E H0 fr H (opAt l i))∧ops' E F l [opAt l i] [] (nQ (qbW E F l tails H0 K t)) fr H)∧
   ((tails.contains j=false→qcJ E H0 fr H (opAt l j))∧ops' E F l [opAt l j] [] (nQ (qbW E F l tails H0 K u)) fr H)∧
   ((tails.contains k=false→qcJ E H0 fr H (opAt l k))∧ops' E F l [opAt l k] [] (nQ (qbW E F l tails H0 K v)) fr H)∧
   ((tails.contains m=false→qcJ E H0 fr H (opAt l m))∧ops' E F l [opAt l m] [] (nQ (qbW E F l tails H0 K y)) fr H)
end modeB
section rules
variable {F:Nat}{l:List Oper}{tails:List Nat}{H0:List R}{K:Fr→List R→Prop}{i j k m:Nat}{t u v y:Sch}
@[go_sem] theorem runSB_done:qbW E F l tails H0 K .done fr H=K fr H:=rfl
@[go_sem] theorem runSB_fst:qbW E F l tails H0 K (.fst i t) fr H=(qaU fr (opAt l i)∧fstO E (opAt l i)∧ops' E F l [opAt l i] [] (nQ (qbW E F l tails H0 K t)) fr H):=rfl
@[go_sem] theorem runSB_one:qbW E F l tails H0 K (.one i t) fr H=((tails.contains i=false→qcJ E H0 fr H (opAt l i))∧ops' E F l [opAt l i] [] (nQ (qbW E F l tails H0 K t)) fr H):=rfl
@[go_sem] theorem runSB_two:qbW E F l tails H0 K (.two i t j u) fr H=(((tails.contains i=false→qcJ E H0 fr H (opAt l i))∧ops' E F l [opAt l i] [] (nQ (qbW E F l tails H0 K t)) fr H)∧
   ((tails.contains j=false→qcJ E H0 fr H (opAt l j))∧ops' E F l [opAt l j] [] (nQ (qbW E F l tails H0 K u)) fr H)):=rfl
@[go_sem] theorem runSB_three:qbW E F l tails H0 K (.three i t j u k v) fr H=(((tails.contains i=false→qcJ E H0 fr H (opAt l i))∧ops' E F l [opAt l i] [] (nQ (qbW E F l tails H0 K t)) fr H)∧
   ((tails.contains j=false→qcJ E H0 fr H (opAt l j))∧ops' E F l [opAt l j] [] (nQ (qbW E F l tails H0 K u)) fr H)∧
   ((tails.contains k=false→qcJ E H0 fr H (opAt l k))∧ops' E F l [opAt l k] [] (nQ (qbW E F l tails H0 K v)) fr H)):=rfl
@[go_sem] theorem boxesIn_nil:qbV [] H=True:=rfl
@[go_sem] theorem boxesIn_box {cs cs':List I}{r q:List R}:qbV (.box cs::r) (.box cs'::q)=qbV r q:=rfl
@[go_sem] theorem boxesIn_row {g k':Nat}{dp:DP}{x:List D}{r q:List R}{z:R}:qbV (.row g k' dp x::r) (z::q)=qbV r q:=by cases z <;> rfl
@[go_sem] theorem qnv {g:Nat}{r q:List R}{z:R}:qbV (.dead g::r) (z::q)=qbV r q:=by cases z <;> rfl
variable {dst:Option Tmp}{ty:TypeId}{pos:String}{af:Array Edge}{gd:Option (Nat×Bool)}
def orP (b:Bool) (p:Prop):Prop:=match b with|true=>True|false=>p
@[go_sem] theorem orP_t {p:Prop}:orP true p=True:=rfl
@[go_sem] theorem orP_f {p:Prop}:orP false p=p:=rfl
@[go_sem] theorem keepB_eq {op:Op}:qcJ E H0 fr H ⟨dst,op,ty,pos,af,gd⟩=(qbV H0 H∧orP (isApp op) (qaq E fr ⟨dst,op,ty,pos,af,gd⟩)):=by
 unfold qcJ orP
 cases isApp op <;> simp
@[go_sem] theorem qnw {x:Array Operand}{ts:Array TypeId}:isApp (.call ⟨.builtin .append,x,ts⟩)=true:=rfl
@[go_sem] theorem isApp_value {g:Operand}{x:Array Operand}{ts:Array TypeId}:isApp (.call ⟨.value g,x,ts⟩)=false:=rfl
@[go_sem] theorem qiY {t' n:Nat}{p:Array (Nat×Operand)}:isApp (.buildSlice t' n p)=false:=rfl
@[go_sem] theorem qj9 {t':Nat}{x y:Operand}:isApp (.makeSlice t' x y)=false:=rfl
@[go_sem] theorem isApp_alloc {t':Nat}:isApp (.alloc t')=false:=rfl
@[go_sem] theorem isApp_load {t':Nat}{x:Operand}:isApp (.load t' x)=false:=rfl
@[go_sem] theorem isApp_store {t':Nat}{x y:Operand}:isApp (.store t' x y)=false:=rfl
@[go_sem] theorem ptrLd_load {t':Nat}{x:Operand}:qaU fr ⟨dst,.load t' x,ty,pos,af,gd⟩=isPD (evx fr x):=by
 show((∃ d,evx fr x=.d d)∨∃ i o,evx fr x=.ptr i o)=isPD (evx fr x)
 generalize evx fr x=y
 cases y <;> simp[isPD]
@[go_sem] theorem isPD_d {x:D}:isPD (.d x)=True:=rfl
@[go_sem] theorem isPD_ptr {a b:Nat}:isPD (.ptr a b)=True:=rfl
@[go_sem] theorem ptrLd_move {x:Operand}:qaU fr ⟨dst,.move x,ty,pos,af,gd⟩=True:=by simp[qaU,qa5]
@[go_sem] theorem qnx {x:Operand}:qaU fr ⟨dst,.assign x,ty,pos,af,gd⟩=True:=by simp[qaU,qa5]
@[go_sem] theorem ptrLd_build {t':Nat}{p:Array (Nat×Operand)}:qaU fr ⟨dst,.build t' p,ty,pos,af,gd⟩=True:=by simp[qaU,qa5]
@[go_sem] theorem qka {t':Nat}{x:Operand}{i:Nat}:qaU fr ⟨dst,.fieldAddr t' x i,ty,pos,af,gd⟩=True:=by simp[qaU,qa5]
@[go_sem] theorem ptrLd_field {t':Nat}{x:Operand}{i:Nat}:qaU fr ⟨dst,.field t' x i,ty,pos,af,gd⟩=True:=by simp[qaU,qa5]
@[go_sem] theorem qkb {t':Nat}{x y:Operand}:qaU fr ⟨dst,.indexAddr t' x y,ty,pos,af,gd⟩=True:=by simp[qaU,qa5]
@[go_sem] theorem ptrLd_binOp {op:BinOp}{t' yt:TypeId}{x y:Operand}:qaU fr ⟨dst,.binOp op t' x y yt,ty,pos,af,gd⟩=True:=by simp[qaU,qa5]
@[go_sem] theorem ptrLd_unOp {op:UnOp}{t':TypeId}{x:Operand}:qaU fr ⟨dst,.unOp op t' x,ty,pos,af,gd⟩=True:=by simp[qaU,qa5]
@[go_sem] theorem qkU {x:Operand}:qaU fr ⟨dst,.nilCheck x,ty,pos,af,gd⟩=True:=by simp[qaU,qa5]
@[go_sem] theorem ptrLd_len {x:Array Operand}{ts:Array TypeId}:qaU fr ⟨dst,.call ⟨.builtin .len,x,ts⟩,ty,pos,af,gd⟩=True:=by simp[qaU,qa5]
@[go_sem] theorem ptrLd_cap {x:Array Operand}{ts:Array TypeId}:qaU fr ⟨dst,.call ⟨.builtin .cap,x,ts⟩,ty,pos,af,gd⟩=True:=by simp[qaU,qa5]
end rules
end Go.VL
namespace Go.VL
variable {E:Env}{P:Program}{Q:Post}{S:Nat→Prop}{φ : List (List Nat)}{fr:Fr}{H:List R}{w:World}{n:Nat}
def endS (E:Env) (F2:Nat) (ks:List Item) (Q:Post) (fr:Fr) (H:List R):Prop:=qg7 H (fun H'=>exec E F2 ks Q fr H')
@[go_sem] theorem endS_eq {F2:Nat}{ks:List Item}{Q:Post}:endS E F2 ks Q fr H=qg7 H (fun H'=>exec E F2 ks Q fr H'):=rfl
def outQ (E:Env) (ks:List Item) (Q:Post) (id:Nat) (fr:Fr) (H:List R):Prop:=qaQ E ks Q (.exit id) fr H
def qkc (E:Env) (ks:List Item) (Q:Post) {σ : Type}(nt:Nat) (F : σ→List (Nat×I)) (Hp : σ→List R) (inv : σ→Prop) (mu : σ→Nat) (s : σ):Post
 | .normal,fr,H=>qg7 H (fun H'=>∃ s',inv s'∧mu s'<mu s∧fit2 E.n nt fr H' (F s') (Hp s'))
 | .exit id,fr,H=>outQ E ks Q id fr H
 | e,fr,H=>qaQ E ks Q e fr H
section rules6
variable {σ : Type}{F : σ→List (Nat×I)}{Hp : σ→List R}{inv : σ→Prop}{mu : σ→Nat}{s : σ}{ks:List Item}{nt:Nat}
@[go_sem] theorem qmj:qkc E ks Q nt F Hp inv mu s .normal fr H=qg7 H (fun H'=>∃ s',inv s'∧mu s'<mu s∧fit2 E.n nt fr H' (F s') (Hp s')):=rfl
@[go_sem] theorem loopQ6_exit {id:Nat}:qkc E ks Q nt F Hp inv mu s (.exit id) fr H=outQ E ks Q id fr H:=rfl
@[go_sem] theorem loopQ6_ret:qkc E ks Q nt F Hp inv mu s .ret fr H=qaQ E ks Q .ret fr H:=rfl
end rules6
inductive WK:D→D→Prop
 | refl (x:D):WK x x
 | nil {k:Nat}(hk:0<k):WK .nil (.lst k [])
 | lst {k:Nat}{l l':List D}(hl:l.length=l'.length) (h : ∀ j,j<l.length→WK (l.getD j .nil) (l'.getD j .nil)):WK (.lst k l) (.lst k l')
 | agg {l l':List D}(hl:l.length=l'.length) (h : ∀ j,j<l.length→WK (l.getD j .nil) (l'.getD j .nil)):WK (.agg l) (.agg l')
 | tup {l l':List D}(hl:l.length=l'.length) (h : ∀ j,j<l.length→WK (l.getD j .nil) (l'.getD j .nil)):WK (.tup l) (.tup l')
 | ptr {l l':List D}(hl:l.length=l'.length) (h : ∀ j,j<l.length→WK (l.getD j .nil) (l'.getD j .nil)):WK (.ptr l) (.ptr l')
theorem WK.one {x y:D}(h:WK x y):y.one=x.one:=by cases h <;> rfl
theorem WK.cells {x y:D}(h:WK x y):x.cells.length=y.cells.length∧∀ j,j<x.cells.length→WK (x.cells.getD j .nil) (y.cells.getD j .nil):=by
 cases h with
 | refl=>exact⟨rfl,fun _ _=>.refl _⟩
 | agg hl h=>exact⟨hl,h⟩
 | nil hk=>
  refine⟨rfl,fun j hj=>?_⟩
  obtain rfl:j=0:=by simpa [D.cells] using hj
  exact .nil hk
 | lst hl h=>
  refine⟨rfl,fun j hj=>?_⟩
  obtain rfl:j=0:=by simpa [D.cells] using hj
  exact .lst hl h
 | tup hl h=>
  refine⟨rfl,fun j hj=>?_⟩
  obtain rfl:j=0:=by simpa [D.cells] using hj
  exact .tup hl h
 | ptr hl h=>
  refine⟨rfl,fun j hj=>?_⟩
  obtain rfl:j=0:=by simpa [D.cells] using hj
  exact .ptr hl h
theorem qhD : ∀ {l l':List D},l.length=l'.length→(∀ j,j<l.length→WK (l.getD j .nil) (l'.getD j .nil))→(flat l).length=(flat l').length∧∀ j,j<(flat l).length→WK ((flat l).getD j .nil) ((flat l').getD j .nil)
 | [],[],_,_=>⟨rfl,fun j hj=>by simp[flat] at hj⟩
 | x::l,y::l',hl,h=>by
  obtain⟨c1,c2⟩:=(h 0 (by simp)).cells
  simp only[List.getD_cons_zero] at c1 c2
  obtain⟨i1,i2⟩:=qhD (l:=l) (l':=l') (by simpa using hl) (fun j hj=>by simpa using h (j+1) (by simpa using hj))
  have e1:flat (x::l)=x.cells++flat l:=by simp[flat]
  have e2:flat (y::l')=y.cells++flat l':=by simp[flat]
  rw[e1,e2]
  refine⟨by simp only[List.length_append];omega,fun j hj=>?_⟩
  rw[qbE,qbE,←c1]
  by_cases hjc:j<x.cells.length
  ·rw[if_pos hjc,if_pos hjc];exact c2 j hjc
  ·rw[if_neg hjc,if_neg hjc]
   exact i2 _ (by simp only[List.length_append] at hj;omega)
 | [],_::_,hl,_=>by simp at hl
 | _::_,[],hl,_=>by simp at hl
theorem qcm {l l':List D}(hl:l.length=l'.length) (h : ∀ j,j<l.length→WK (l.getD j .nil) (l'.getD j .nil)) (h1 : ∀ c∈l,c.one=true) : ∀ c∈l',c.one=true:=by
 intro c hc
 obtain⟨j,hj,rfl⟩:=List.getElem_of_mem hc
 rw[qak _ _ _ .nil,(h j (by omega)).one]
 exact h1 _ (getD_mem (by omega))
theorem qfW {k:Nat}{l l':List D}(hl:l.length=l'.length) (h : ∀ j,j<l.length→WK (l.getD j .nil) (l'.getD j .nil)) (h1 : ∀ x∈l,x.cells.length=k) : ∀ x∈l',x.cells.length=k:=by
 intro c hc
 obtain⟨j,hj,rfl⟩:=List.getElem_of_mem hc
 rw[qak _ _ _ .nil,←(h j (by omega)).cells.1]
 exact h1 _ (getD_mem (by omega))
theorem OW.weak {w:World}{x:D}{v:Value}{fp:List Nat}(h:OW w x v fp) : ∀ {y:D},WK x y→OW w y v fp:=by
 induction h with
 | int h=>intro y hy;cases hy;exact .int h
 | bool=>intro y hy;cases hy;exact .bool
 | raw h=>intro y hy;cases hy;exact .raw h
 | nil=>
  intro y hy
  cases hy with
  | refl=>exact .nil
  | nil hk=>exact .lst0 hk
 | lst0 hk=>
  intro y hy
  cases hy with
  | refl=>exact .lst0 hk
  | lst hl h=>
   rename_i l'
   obtain rfl:l'=[]:=List.length_eq_zero_iff.1 hl.symm
   exact .lst0 hk
 | agg F hl h1 h ih=>
  intro y hy
  cases hy with
  | refl=>exact .agg F hl h1 h
  | agg hl' hw=>
   rw[hl']
   exact .agg F (by omega) (qcm hl' hw h1) fun j hj=>ih j (by omega) (hw j (by omega))
 | tup F hl h ih=>
  intro y hy
  cases hy with
  | refl=>exact .tup F hl h
  | tup hl' hw=>
   rw[hl']
   exact .tup F (by omega) fun j hj=>ih j (by omega) (hw j (by omega))
 | lst F hk he h1 hn hcap hlim hb hfit hf ih=>
  intro y hy
  cases hy with
  | refl=>exact .lst F hk he h1 hn hcap hlim hb hfit hf
  | lst hl' hw=>
   obtain⟨q1,q2⟩:=qhD hl' hw
   rw[hl',q1]
   exact .lst F hk (qfW hl' hw he) (qcm q1 q2 h1) (by omega) hcap (by omega) hb hfit fun j hj=>ih j (by omega) (q2 j (by omega))
theorem FZ.weak {S:Nat→Prop}{w:World}{x:D}{v:Value}(h:FZ S w x v) : ∀ {y:D},WK x y→FZ S w y v:=by
 induction h with
 | int h=>intro y hy;cases hy;exact .int h
 | bool=>intro y hy;cases hy;exact .bool
 | raw h=>intro y hy;cases hy;exact .raw h
 | fn hl h ih=>intro y hy;cases hy;exact .fn hl h
 | ptr f hS h1 hc hf ih=>
  intro y hy
  cases hy with
  | refl=>exact .ptr f hS h1 hc hf
  | ptr hl' hw=>exact .ptr f hS (qcm hl' hw h1) (fun j hj=>hc j (by omega)) fun j hj=>ih j (by omega) (hw j (by omega))
 | nil=>
  intro y hy
  cases hy with
  | refl=>exact .nil
  | nil hk=>exact .lst0 hk
 | lst0 hk=>
  intro y hy
  cases hy with
  | refl=>exact .lst0 hk
  | lst hl h=>
   rename_i l'
   obtain rfl:l'=[]:=List.length_eq_zero_iff.1 hl.symm
   exact .lst0 hk
 | agg hl h1 h ih=>
  intro y hy
  cases hy with
  | refl=>exact .agg hl h1 h
  | agg hl' hw=>exact .agg (by omega) (qcm hl' hw h1) fun j hj=>ih j (by omega) (hw j (by omega))
 | tup hl h ih=>
  intro y hy
  cases hy with
  | refl=>exact .tup hl h
  | tup hl' hw=>exact .tup (by omega) fun j hj=>ih j (by omega) (hw j (by omega))
 | lst f hk he h1 hn hlim hS hc hf ih=>
  intro y hy
  cases hy with
  | refl=>exact .lst f hk he h1 hn hlim hS hc hf
  | lst hl' hw=>
   obtain⟨q1,q2⟩:=qhD hl' hw
   rw[hl']
   exact .lst f hk (qfW hl' hw he) (qcm q1 q2 h1) (by omega) (by omega) hS (fun j hj=>hc j (by omega)) fun j hj=>ih j (by omega) (q2 j (by omega))
theorem Pure.res {f:Nat}{ds:List D}{x y:D}(h:Pure P f ds x) (hw:WK x y):Pure P f ds y:=
 ⟨h.1,fun S vs w Rr hS ha hr=>h.2 S vs w Rr hS ha fun v w' fp how=>hr v w' fp (how.weak hw)⟩
theorem PureF.res {f:Nat}{ds:List D}{x y:D}(h:PureF P f ds x) (hw:WK x y):PureF P f ds y:=
 ⟨h.1,fun S vs w Rr hS ha hr=>h.2 S vs w Rr hS ha fun v w' S' h1 h2 h3 hz=>hr v w' S' h1 h2 h3 (hz.weak hw)⟩
def WKs:List D→List D→Prop
 | [],[]=>True
 | x::r,y::s=>WK x y∧WKs r s
 | _,_=>False
theorem qgq : ∀ {l l':List D},WKs l l'→l.length=l'.length∧∀ j,j<l.length→WK (l.getD j .nil) (l'.getD j .nil)
 | [],[],_=>⟨rfl,fun j hj=>by simp at hj⟩
 | x::r,y::s,h=>by
  obtain⟨i1,i2⟩:=qgq h.2
  refine⟨by simp[i1],fun j hj=>?_⟩
  cases j with
  | zero=>exact h.1
  | succ j=>simpa using i2 j (by simpa using hj)
 | [],_::_,h=>h.elim
 | _::_,[],h=>h.elim
theorem Pure.args {f:Nat}{ds ds':List D}{x:D}(h:Pure P f ds x) (hw:WKs ds' ds):Pure P f ds' x:=by
 obtain⟨hl,hg⟩:=qgq hw
 exact⟨h.1,fun S vs w Rr hS ha hr=>h.2 S vs w Rr hS ⟨ha.1.trans hl,fun j hj=>(ha.2 j (by omega)).weak (hg j (by omega))⟩ hr⟩
theorem PureF.args {f:Nat}{ds ds':List D}{x:D}(h:PureF P f ds x) (hw:WKs ds' ds):PureF P f ds' x:=by
 obtain⟨hl,hg⟩:=qgq hw
 exact⟨h.1,fun S vs w Rr hS ha hr=>h.2 S vs w Rr hS ⟨ha.1.trans hl,fun j hj=>(ha.2 j (by omega)).weak (hg j (by omega))⟩ hr⟩
section rulesP
variable {dst:Option Tmp}{ty:TypeId}{pos:String}{af:Array Edge}{gd:Option (Nat×Bool)}
@[go_sem] theorem qmk {x:Operand}{i:Nat}:qaU fr ⟨dst,.extract x i,ty,pos,af,gd⟩=True:=by simp[qaU,qa5]
@[go_sem] theorem qml {s t:TypeId}{x:Operand}:qaU fr ⟨dst,.convert s t x,ty,pos,af,gd⟩=True:=by simp[qaU,qa5]
@[go_sem] theorem ptrLd_slice {t:TypeId}{x:Operand}{lo hi mx:Option Operand}:qaU fr ⟨dst,.slice t x lo hi mx,ty,pos,af,gd⟩=True:=by simp[qaU,qa5]
@[go_sem] theorem ptrLd_pick {a b c:Operand}:qaU fr ⟨dst,.pick a b c,ty,pos,af,gd⟩=True:=by simp[qaU,qa5]
@[go_sem] theorem ptrLd_index {t:TypeId}{x y:Operand}:qaU fr ⟨dst,.index t x y,ty,pos,af,gd⟩=True:=by simp[qaU,qa5]
@[go_sem] theorem qkV {f:Fn}{ts cs:Array Operand}:qaU fr ⟨dst,.makeFunc f ts cs,ty,pos,af,gd⟩=True:=by simp[qaU,qa5]
@[go_sem] theorem ptrLd_min {x:Array Operand}{ts:Array TypeId}:qaU fr ⟨dst,.call ⟨.builtin .min,x,ts⟩,ty,pos,af,gd⟩=True:=by simp[qaU,qa5]
@[go_sem] theorem ptrLd_max {x:Array Operand}{ts:Array TypeId}:qaU fr ⟨dst,.call ⟨.builtin .max,x,ts⟩,ty,pos,af,gd⟩=True:=by simp[qaU,qa5]
end rulesP
end Go.VL
set_option maxRecDepth 20000
namespace Go.VL
variable {E:Env}{P:Program}{Q:Post}{fr:Fr}{H:List R}{n:Nat}
def unrQ (E:Env) (ks:List Item) (Q:Post) (f:Nat) (K:Fr→List R→Prop):Post
 | .normal,fr,H=>K fr H
 | .exit id,fr,H=>qbS E f (exK id ks) id ks Q fr H
 | e,fr,H=>qaQ E ks Q e fr H
section rules7
variable {ks:List Item}{f:Nat}{K:Fr→List R→Prop}
@[go_sem] theorem unrQ_normal:unrQ E ks Q f K .normal fr H=K fr H:=rfl
@[go_sem] theorem unrQ_exit {id:Nat}:unrQ E ks Q f K (.exit id) fr H=qbS E f (exK id ks) id ks Q fr H:=rfl
@[go_sem] theorem unrQ_ret:unrQ E ks Q f K .ret fr H=qaQ E ks Q .ret fr H:=rfl
end rules7
end Go.VL
namespace Go.VL
open Go
theorem lexT {m:Region.Mode}{a:Array Oper}(h:Region.lexB m a=true:=by kernel_rfl):Region.lexB m a=true:=h
theorem qai {p:I→Prop}(h:p (I.d D.nil)) : ∃ x,p x:=⟨_,h⟩
def fsts:List Nat→Sch→Sch
 | [],t=>t
 | i::r,t=>.fst i (fsts r t)
@[go_sem] theorem runS_fsts0 {E:Env}{fr:Fr}{H:List R}{F:Nat}{l:List Oper}{tails:List Nat}{K:Fr→List R→Prop}{t:Sch}:runS E F l tails K (fsts [] t) fr H=runS E F l tails K t fr H:=rfl
@[go_sem] theorem runS_fsts {E:Env}{fr:Fr}{H:List R}{F:Nat}{l:List Oper}{tails:List Nat}{K:Fr→List R→Prop}{i:Nat}{r:List Nat}{t:Sch}:runS E F l tails K (fsts (i::r) t) fr H=runS E F l tails K (.fst i (fsts r t)) fr H:=rfl
end Go.VL
