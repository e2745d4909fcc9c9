/- Part 32: circuits as data. Conditions: none; plain definitions and lemmas. -/
import Derived.Test.YteikeianenfhaaaGreatVM7
import Derived.OrdersHeld
import Derived.KernelRfl
set_option linter.unusedVariables false
set_option linter.unusedSimpArgs false
set_option maxHeartbeats 2000000
namespace Go.VL
set_option linter.defProp false
variable {l l':List (Int×Int)}{i n f:Nat}{x y:Int}{α:Type}{P:Program}{ds ds':List D}
abbrev dP (p:Int×Int):D:=.agg [dI p.1,dI p.2]
abbrev dPs (l:List (Int×Int)):D:=.lst 2 (l.map dP)
@[go_sem] def zpn:(l.map dP).getD i (.agg [.int .i64 0,.int .i64 0])=dP (l.getD i (0,0)):=qei _ _ _ (0,0)
@[go_sem] def zpo:(l.map dP=l'.map dP)=(l=l'):=qks fun x y h=>by
 obtain⟨a,b⟩:=x;obtain⟨c,d⟩:=y;simpa [dP] using h
@[go_sem] def zpp:okL (l.map dP) = ∀ x∈l,InK .i64 x.1/\InK .i64 x.2:=by
 rw[qmv];simp[dP,D.ok,okL]
@[go_sem] def zpq:(l.map dP).set i (D.agg [.int .i64 x,.int .i64 y])=(l.set i (x,y)).map dP:=(List.map_set (f:=dP) (a:=(x,y))).symm
@[go_sem] def zpr:List.replicate n (D.agg [.int .i64 0,.int .i64 0])=(List.replicate n ((0,0):Int×Int)).map dP:=by simp[dP]
@[go_sem] def zps:l.map dP ++ [D.agg [.int .i64 x,.int .i64 y]]=(l ++ [(x,y)]).map dP:=by simp
@[go_sem] def zpt:l.map dP++l'.map dP=(l++l').map dP:=by simp
@[go_sem] def zpu:(([]:List D)=l.map dP)=(l=[]):=propext ⟨fun h=>by cases l with|nil=>rfl|cons x r=>simp at h,fun h=>by rw[h];rfl⟩
@[go_sem] def zpv:([D.agg [.int .i64 x,.int .i64 y]]=l.map dP)=(l=[(x,y)]):=propext ⟨fun h=>by
  cases l with
  | nil=>simp at h
  | cons z r=>
   cases r with
   | nil=>obtain⟨u,v⟩:=z;simp[dP] at h;simp[h]
   | cons y r=>simp at h,fun h=>by rw[h];rfl⟩
@[go_sem] def zpw:(l.map dP).take n=(l.take n).map dP:=by simp
attribute [go_sem] List.drop_zero
def qad {l:List α}{z : α}(h:i<l.length):l.getD i z∈l:=by simp[List.getD,h]
def qaV {l:List α}{x : α}(z : α) (h:x∈l) : ∃ i,i<l.length/\l.getD i z=x:=by
 obtain⟨i,hi,rfl⟩:=yal h;exact⟨i,hi,by simp[List.getD,hi]⟩
def qhY {P : α->Prop}{l:List α}(z : α):(∀ x∈l,P x)↔∀ j,j<l.length->P (l.getD j z):=
 ⟨fun h j hj=>h _ (qad hj),fun h x hx=>by obtain⟨i,hi,rfl⟩:=qaV z hx;exact h i hi⟩
def Pure.wk {x:D}(h:Pure P f ds x) (hw:wkT ds' ds):Pure P f ds' x:=by
 obtain⟨hl,hg⟩:=qis hw;exact⟨h.1,fun S vs w Rr hS ha hr=>h.2 S vs w Rr hS ⟨ha.1.trans hl,fun j hj=>qm9 (hg j (by omega)) (ha.2 j (by omega))⟩ hr⟩
def PureF.wk {x:D}(h:PureF P f ds x) (hw:wkT ds' ds):PureF P f ds' x:=by
 obtain⟨hl,hg⟩:=qis hw;exact⟨h.1,fun S vs w Rr hS ha hr=>h.2 S vs w Rr hS ⟨ha.1.trans hl,fun j hj=>qm9 (hg j (by omega)) (ha.2 j (by omega))⟩ hr⟩
structure Circ where
 inputs:Int
 next:List Int
 gates:List (Int×Int)
 outs:List Int
variable {c:Circ}
abbrev dC (c:Circ):D:=.agg [dI c.inputs,dIs c.next,dPs c.gates,dIs c.outs]
abbrev pC (c:Circ):D:=.ptr [dI c.inputs,dIs c.next,dPs c.gates,dIs c.outs]
def Circ.zero:Circ:=⟨0,[],[],[]⟩
def Circ.first (c:Circ):Int:=1+c.inputs+(c.next.length:Int)
def Circ.vars (c:Circ):Int:=c.first+(c.gates.length:Int)
def Circ.roots (c:Circ):List Int:=c.next++c.outs
def qaY (l n:Int):Prop:=0<=l/\l<2*n
instance (l n:Int):Decidable (qaY l n):=by unfold qaY;infer_instance
structure Circ.Valid (c:Circ):Prop where
 i0:0<=c.inputs
 i1:c.inputs<=4
 ln:c.next.length<=3
 lg:c.gates.length<=14
 lo:c.outs.length<=3
 g : ∀ i,i<c.gates.length->qaY (c.gates.getD i (0,0)).1 (c.first+(i:Int))/\qaY (c.gates.getD i (0,0)).2 (c.first+(i:Int))
 n : ∀ x∈c.next,qaY x c.vars
 o : ∀ x∈c.outs,qaY x c.vars
noncomputable instance (c:Circ):Decidable c.Valid:=Classical.propDecidable _
def Circ.Valid.first_bd (h:c.Valid):1<=c.first/\c.first<=8:=by
 have:=h.i0;have:=h.i1;have:=h.ln;unfold Circ.first;omega
def Circ.Valid.vars_bd (h:c.Valid):c.first<=c.vars/\c.vars<=22:=by
 have:=h.first_bd;have:=h.lg;unfold Circ.vars;omega
def Circ.zero_valid:Circ.zero.Valid:=⟨by decide,by decide,by decide,by decide,by decide,by simp[Circ.zero],by simp[Circ.zero],by simp[Circ.zero]⟩
def Circ.Valid.roots {c:Circ}(h:c.Valid) : ∀ x∈c.roots,qaY x c.vars:=by
 intro x hx;rcases List.mem_append.1 hx with h1|h1
 ·exact h.n x h1
 ·exact h.o x h1
end Go.VL
namespace Go.VL
set_option linter.defProp false
variable {listed:Array Bool}{i F j:Nat}{v:Value}{K:Fr->List R->Prop}{vc:Prop}{x y:Operand}{H':List R}{o:Oper}{Qr:Exit->Act->World->Prop}{Kr:Act->World->Prop}{all l:List Oper}{tails:List Nat}{ks:List Item}{t:TypeId}{k:IntKind}{p:Array (Nat×Operand)}{b:Array TypeId}
variable {P:Program}{ops:Array Oper}{Q:Exit->Act->World->Prop}{S0:World->Prop}{T0:Nat->Bool}
def qbW (P:Program) (ops:Array Oper) (Q:Exit->Act->World->Prop) (S0:World->Prop) (T0:Nat->Bool):Nat->Array Bool->Act->World->Prop
 | 0,listed,a,w=>Region.ready .any ops listed=[]/\Q .normal a w
 | fuel+1,listed,a,w=>
  (Region.ready .any ops listed=[]->Q .normal a w)/\
  ∀ i∈Region.ready .any ops listed,wpOp P ops Q i (fun a' w'=>(T0 i=true->S0 w->S0 w')/\qbW P ops Q S0 T0 fuel (listed.setIfInBounds i true) a' w') a w
def qg7 : ∀ (fuel:Nat) (listed:Array Bool) (a:Act) (w:World),qbW P ops Q S0 T0 fuel listed a w->wpAny P .any ops Q fuel listed a w
 | 0,_,_,_,h=>h
 | fuel+1,_,_,_,h=>⟨h.1,fun i hi=>wpOp_mono (fun a' w' h'=>qg7 fuel _ a' w' h'.2) (h.2 i hi)⟩
def Closed (ops:Array Oper) (listed:Array Bool):Prop:=∀ j o,ops[j]?=some o->listed.getD j false=true->∀ e∈o.after,Region.binds .any e=true->listed.getD e.on false=true
def Closed.set (hc:Closed ops listed) (hi:i∈Region.ready .any ops listed):Closed ops (listed.setIfInBounds i true):=by
 intro j o ho hj e he hb;by_cases hij:i=j
 ·subst hij;obtain⟨_,o',ho',hall⟩:=mem_ready.1 hi;rw[ho] at ho';cases ho';exact getD_set_true (hall e he hb)
 ·rw[getD_set_ne false hij] at hj;exact getD_set_true (hc j o ho hj e he hb)
def waits (ops:Array Oper) (i:Nat):Nat->Nat->Bool
 | 0,_=>false
 | f+1,j=>match ops[j]? with
  | some o=>o.after.any fun e=>Region.binds .any e&&(e.on == i || waits ops i f e.on)
  | none=>false
def qhH {listed:Array Bool}(hc:Closed ops listed) {i:Nat} : ∀ (f j:Nat),waits ops i f j=true->listed.getD j false=true->listed.getD i false=true
 | 0,j,h,_=>by simp[waits] at h
 | f+1,j,h,hj=>by
  simp only[waits] at h;split at h
  ·rename_i o ho;obtain⟨e,he,hb⟩:=Array.any_eq_true'.1 h;simp only[yap,ybe,beq_iff_eq] at hb;have hl:=hc j o ho hj e he hb.1;rcases hb.2 with h1|h1
   ·rw[<-h1];exact hl
   ·exact qhH hc f e.on h1 hl
  ·simp at h
def qmy (hc:Closed ops listed) (f j:Nat) (h:waits ops i f j=true) (hj:j∈Region.ready .any ops listed):listed.getD i false=true:=by
 cases f with
 | zero=>simp[waits] at h
 | succ f=>
  simp only[waits] at h;obtain⟨_,o,ho,hall⟩:=mem_ready.1 hj;simp only[ho] at h;obtain⟨e,he,hb⟩:=Array.any_eq_true'.1 h;simp only[yap,ybe,beq_iff_eq] at hb;have hl:=hall e he hb.1;rcases hb.2 with h1|h1
  ·rw[<-h1];exact hl
  ·exact qhH hc f e.on h1 hl
def qpD (h:listed.getD i true=false):listed.getD i false=false:=by
 rcases Nat.lt_or_ge i listed.size with h'|h'
 ·simp[h'] at h ⊢;exact h
 ·simp[Array.getElem?_eq_none h'] at h
def qd1 {S1:World->Prop}{oi:Oper}(hi:ops[i]?=some oi) (hsel : ∀ (j:Nat) (o:Oper) cs b,ops[j]?=some o->o.op≠.select cs b)
  (hQ : ∀ c a w,Q (.panic c) (a.put oi.dst v) w->Q (.panic c) a w) (hS1:(∀ w,S1 w)∨S1=S0) :
  ∀ (fuel:Nat) (listed:Array Bool) (a:Act) (w:World),
   (∀ j oj,ops[j]?=some oj->j≠i->listed.getD j true=false->(∀ e∈oj.after,Region.binds .any e=true->e.on≠i)->oi.apart ops oj=true)->
   ((∀ w,S1 w)∨∀ j,T0 j=false->listed.getD j true=true∨∃ f,waits ops i f j=true)->Closed ops listed->
   i∈Region.ready .any ops listed->YieldsIf P ops S1 oi v a->S1 w->
   qbW P ops Q S0 T0 fuel (listed.setIfInBounds i true) (a.put oi.dst v) w->qbW P ops Q S0 T0 (fuel+1) listed a w:=by
 intro fuel;induction fuel with
 | zero=>
  intro listed a w _ _ _ hr hy hS H;refine⟨fun h=>(by rw[h] at hr;cases hr),fun j hj=>?_⟩;by_cases hji:j=i
  ·subst hji;exact hy.wpOp hi hS ⟨fun _ h=>h,H⟩
  ·have:=ready_mono hj hji;rw[H.1] at this;cases this
 | succ fuel ih=>
  intro listed a w hfree hwait hcl hr hy hS H;refine⟨fun h=>(by rw[h] at hr;cases hr),fun j hj=>?_⟩;by_cases hji:j=i
  ·subst hji;exact hy.wpOp hi hS ⟨fun _ h=>h,H⟩
  ·have h1:=H.2 j (ready_mono hj hji);obtain⟨hjun,oj,hoj,hall⟩:=mem_ready.1 hj;have hnot : ∀ e∈oj.after,Region.binds .any e=true->e.on≠i:=fun e he hb heq=>by
    have h1:=hall e he hb;have h0:=qpD (mem_ready.1 hr).1;rw[heq] at h1;rw[h1] at h0;cases h0
   have h2:=wpOp_putIf hoj (hfree j oj hoj hji hjun hnot) (fun cs b=>hsel i oi cs b hi) (fun cs b=>hsel j oj cs b hoj) hQ hy h1;have hfree' : ∀ k ok,ops[k]?=some ok->k≠i->(listed.setIfInBounds j true).getD k true=false->
     (∀ e∈ok.after,Region.binds .any e=true->e.on≠i)->oi.apart ops ok=true:=fun k ok hk hki hun hno=>by
    refine hfree k ok hk hki ?_ hno;by_cases hjk:j=k
    ·subst hjk;exact hjun
    ·rw[getD_set_ne true hjk] at hun;exact hun
   have hwait':(∀ w,S1 w)∨∀ k,T0 k=false->(listed.setIfInBounds j true).getD k true=true∨∃ f,waits ops i f k=true:=by
    refine hwait.imp id fun h k hk=>(h k hk).imp (fun h=>?_) id
    by_cases hjk:j=k
    ·subst hjk;rw[h] at hjun;cases hjun
    ·rw[getD_set_ne true hjk];exact h
   have hkeep : ∀ w',(T0 j=true->S0 w->S0 w')->S1 w':=by
    intro w' hw';rcases hwait with h|h
    ·exact h w'
    ·rcases hS1 with h3|rfl
     ·exact h3 w'
     cases hT:T0 j with
     | true=>exact hw' hT hS
     | false=>
      rcases h j hT with h3|⟨f,h3⟩
      ·rw[h3] at hjun;cases hjun
      ·have h0:=qpD (mem_ready.1 hr).1;rw[qmy hcl f j h3 hj] at h0;cases h0
   refine wpOp_mono (fun a' w' h3=>⟨h3.2.1,ih (listed.setIfInBounds j true) a' w' hfree' hwait' (hcl.set hj) (ready_mono hr (Ne.symm hji)) h3.1 (hkeep w' h3.2.1) ?_⟩) h2;rw[Array.setIfInBounds_comm _ _ hji];exact h3.2.2
def memO:Op->Bool
 | .box _ _|.alloc _|.buildSlice _ _ _|.makeSlice _ _ _|.makeMap _ _=>false
 | _=>true
def qiE (E:Env) (fn:Option (Nat×List I)):Prop:=
 match fn with
 | some (f,_)=>E.pf f≠.proc
 | none=>True
def qbD (E:Env) (fr:Fr) (o:Oper):Prop:=
 match qbh o.op with
 | some (g,_)=>qiE E (fnOf (evx fr g))
 | none=>qdc o.op=true∨memO o.op=false
def nQ (K:Fr->List R->Prop):Post:=fun e fr H=>match e with|.normal=>K fr H|_=>False
@[go_sem] def zpx {fr:Fr}{H:List R}:nQ K .normal fr H=K fr H:=rfl
variable {E:Env}{S:Nat->Prop}{φ : List (List Nat)}{H:List R}{w:World}{fr:Fr}{a:Act}{n:Nat}
def qpE {T:Nat->Option TI}{fr:Fr}{H:List R}{op:Op}{x:I}(h:sopI T fr H op=some (vc,x,H')) (hm:memO op=false) :
  ∃ H'',sopI T fr (qct H.length H) op=some (vc,x,H''):=by
 have hl:(qct H.length H).length=H.length:=qdd _ _;cases op with
 | box e y=>
  simp only[sopI,sBox] at h ⊢;cases hT:T e with
  | none=>simp[hT,qbP] at h
  | some ti=>
   simp only[hT] at h ⊢;cases hc:qbM ti (evx fr y) with
   | none=>simp[hc,qbP] at h
   | some p=>
    simp only[hc,qbP,yab,yac,hl] at h ⊢;exact⟨_,h.1,h.2.1,rfl⟩
 | alloc e=>
  simp only[sopI,qii] at h ⊢;cases hT:T e with
  | none=>simp[hT] at h
  | some ti=>
   simp only[hT,yab,yac,hl] at h ⊢;exact⟨_,h.1,h.2.1,rfl⟩
 | buildSlice t len parts=>
  simp only[sopI,sLit] at h ⊢;cases hT:T t with
  | none=>simp[hT,qbP] at h
  | some ti=>
   simp only[hT] at h ⊢;cases hy:ti.ty with
   | slice e=>
    simp only[hy] at h ⊢;cases he:T e with
    | none=>simp[he,qbP] at h
    | some ei=>
     simp only[he] at h ⊢;cases hp:qbA ei.size 0 (qbN fr parts.toList) with
     | none=>simp[hp,qbP] at h
     | some p=>
      simp only[hp,qbP,yab,yac,hl] at h ⊢;exact⟨_,h.1,h.2.1,rfl⟩
   | _=>simp[hy,qbP] at h
 | makeSlice t l c=>
  simp only[sopI,qmd] at h ⊢;split at h
  ·rename_i ti x y hT hx hy;cases hy:ti.ty with
   | slice e=>
    simp only[hy] at h ⊢;cases he:T e with
    | none=>simp[he,qbP] at h
    | some ei=>
     simp only[he,qbP,yab,yac,hl] at h ⊢;exact⟨_,h.1,h.2.1,rfl⟩
   | _=>simp[hy,qbP] at h
  ·simp[qbP] at h
 | makeMap t r=>
  cases r with
  | some r=>simp[sopI] at h
  | none=>
   simp only[sopI,qeH] at h ⊢;split at h
   ·simp only[yab,yac,hl] at h ⊢;exact⟨_,h.1,h.2.1,rfl⟩
   ·simp at h
 | _=>simp[memO] at hm
def qpF (φ : List (List Nat)) (hl : φ.length=H.length) (b:Nat) : ¬ Foot (qdN H.length φ) b:=by
 rintro⟨i,hi⟩;rw[qce] at hi;split at hi
 ·simp at hi
 ·simp[List.getD,List.getElem?_eq_none (show φ.length<=i by omega)] at hi
def qej (hT:TOK E.P E.T) (s:Sim S φ H w) (hf:FrR S φ H w fr a) (hnc:qbh o.op=none) {x:I}(hp:sopI E.T fr H o.op=some (vc,x,H')) (hvc:vc) {w':World}
  (hr:(execOp a.eval o).run E.P w=.ok (.value v) w'∨((execOp a.eval o).run E.P w=.ok .skip w'/\v=undef)):qbD E fr o->Agree w w':=by
 intro hko;simp only[qbD,hnc] at hko;rcases hko with hq|hmem
 ·exfalso;obtain⟨dst,op,ty,pos,after,guard⟩:=o;simp only at hp hq hnc;cases op with
  | call c=>
   obtain⟨callee,cargs,tys⟩:=c;cases callee with
   | builtin b=>cases b <;> simp[qdc] at hq <;> simp[sopI] at hp
   | value g=>simp[qbh] at hnc
   | _=>simp[qdc] at hq
  | _=>first|(simp[qdc] at hq;done)|(simp[sopI] at hp;done)
 ·obtain⟨H'',hp2⟩:=qpE hp hmem;obtain⟨s1,t1⟩:=s.kill H.length;obtain⟨v2,w2,φ2,hr2,s2,_,he2,_⟩:=qb6 hT s1 (hf.tr t1) hp2 hvc;have hww:w2=w':=by
   rcases hr with h1|⟨h1,_⟩ <;> rcases hr2 with h2|⟨h2,_⟩ <;> rw[h1] at h2 <;> injection h2 with _ h3 <;> exact h3.symm
  rw[<-hww];exact fun b hb=>he2.keep b hb (qpF φ s.len b)
def Left (E:Env) (S:Nat->Prop) (φ : List (List Nat)) (H:List R) (w:World) (K:Fr->List R->Prop) (a':Act) (w':World):Prop:=
 ∃ S' φ' fr' H',Sim S' φ' H' w'/\FrR S' φ' H' w' fr' a'/\Ext S φ w S' φ' w'/\Tr E.n S φ H w S' φ' H' w'/\K fr' H'
def qcx {f:Operand}{args:List Operand}(ho:qbh o.op=some (f,args)) (s:Sim S φ H w) (hf:FrR S φ H w fr a)
  {Kc:I->List R->Prop}(h:qfd E (evc fr f/\evcs fr args) (fnOf (evx fr f)) (evs fr args) H Kc) 
  (hK : ∀ S' φ' H' w' r v,Sim S' φ' H' w'->FrR S' φ' H' w' fr a->V S' φ' H' w' r v->Ext S φ w S' φ' w'->Tr H.length S φ H w S' φ' H' w'->(qiE E (fnOf (evx fr f))->Agree w w')->Kc r H'->Kr (a.put o.dst v) w'):o.wp E.P a w Kr Qr:=by
 unfold qfd at h;split at h
 ·rename_i g caps hfn;have common:(evc fr f/\evcs fr args)->∃ vs,a.eval f=.func (.func g) #[] vs/\((args.map a.eval).toArray++vs).size=(evs fr args++caps).length/\
    ∀ j,j<(evs fr args++caps).length->V S φ H w ((evs fr args++caps).getD j .junk) (((args.map a.eval).toArray++vs).getD j undef):=by
   rintro⟨hc1,hc2⟩;obtain⟨vs,e1,e2,e3⟩:=qg0 (hf.evx f hc1) hfn;obtain⟨l1,l2⟩:=qe5 hf args hc2;obtain⟨m1,m2⟩:=qg1 (va:=(args.map a.eval).toArray) (by simp[l1]) (fun j hj=>l2 j (by omega)) e2 e3;exact⟨vs,e1,m1,m2⟩
  split at h
  ·split at h
   ·rename_i vc ds hv;obtain⟨hc,hvc,ψ,hp,hk⟩:=h;obtain⟨vs,e1,e2,e3⟩:=common hc;refine qci (qeJ ho e1 hp.1 w) (hp.2 (Lent S φ) _ w _ (fun b hb=>hb.elim (s.slt b) (s.lt b)) (qee (fun x v vc d h1 h2 h3=>qcW s 3 h1 h2 h3) e2 e3 hv hvc) ?_);intro x v w' fp hx how hnd hfp hg;rcases hk x hx with hk|⟨r,H',hu,hk⟩
    ·obtain⟨s1,s2,s3⟩:=qdY s hg (fun b=>S b∨b∈fp) (fun b h=>.inl h) (fun b h=>h.imp id (hfp b)) (fun b h=>h.elim (fun h=>yaq (s.slt b h) hg.size) (how.lt b));exact hK _ _ _ _ _ _ s1 (hf.tr s2) (.d (how.fz fun b hb=>.inr hb)) s3 s2 (fun _=>hg.keep) hk
    ·obtain⟨S',φ',s1,s2,s3,hv⟩:=hu S φ w w' v fp s how hnd hfp hg;exact hK _ _ _ _ _ _ s1 (hf.tr s2) hv s3 s2 (fun _=>hg.keep) hk
   ·exact h.elim
  ·split at h
   ·rename_i vc ds hv;obtain⟨hc,hvc,ψ,hp,hk⟩:=h;obtain⟨vs,e1,e2,e3⟩:=common hc;refine qci (qeJ ho e1 hp.1 w) (hp.2 S _ w _ s.slt (qee qm5 e2 e3 hv hvc) ?_);intro x v w' S' hx h1 h2 h3 hz hg;obtain⟨s1,s2,s3⟩:=qdY s hg S' h1 h2 h3;exact hK _ _ _ _ _ _ s1 (hf.tr s2) (.d hz) s3 s2 (fun _=>hg.keep) (hk x hx)
   ·exact h.elim
  ·rename_i hpf;obtain⟨hc,hp⟩:=h;obtain⟨vs,e1,e2,e3⟩:=common hc;refine qci (qeJ ho e1 hp.1 w) (hp.2 S φ _ w _ s e2 e3 ?_);intro v w' S' φ' r H' s1 hv s3 s2 hk;exact hK _ _ _ _ _ _ s1 (hf.tr s2) hv s3 s2 (fun hne=>by simp only[hfn,qiE] at hne;exact absurd hpf hne) hk
 ·exact h.elim
def qcn (hT:TOK E.P E.T) (F:Nat) (hn:E.n<=H.length) (s:Sim S φ H w) (hf:FrR S φ H w fr a)
  (h:ops' E F all [o] [] (nQ K) fr H) (hK : ∀ a' w',(qbD E fr o->Agree w w')->Left E S φ H w K a' w'->Kr a' w') :
  if Region.wanted o (yielded all.toArray a.tmps) then o.wp E.P a w Kr Qr∨(o.asks E.P a w/\LetsOut Qr) else Kr (a.put o.dst undef) w:=by
 have fin : ∀ (f:Nat) {fr':Fr}{H':List R},ops' E f all [] [] (nQ K) fr' H'->K fr' H':=by
  intro f fr' H' h;match f with
  | 0=>simp only[ops'] at h
  | 1=>simp only[ops',exec] at h
  | f+2=>simpa only[ops',exec,nQ] using h
 have same : ∀ {fr':Fr}{a':Act},FrR S φ H w fr' a'->K fr' H->Kr a' w:=fun hf' hk=>hK _ _ (fun _=>Agree.refl w) ⟨S,φ,_,H,s,hf',Ext.refl ..,Tr.refl hn,hk⟩
 match F with
 | 0=>simp only[ops'] at h
 | F+1=>
 simp only[ops'] at h;split at h
 ·rename_i hgd;have hw:Region.wanted o (yielded all.toArray a.tmps)=true:=by simp only[Region.wanted,hgd]
  simp only[hw,if_true];left;split at h
  ·rename_i g args ho;refine qcx ho s hf h fun S' φ' H' w' r v s' hf' hv he ht hag hk=>hK _ _ (fun hk=>hag (by simpa only[qbD,ho] using hk)) ?_
   match F with
   | 0=>simp only[opsK] at hk
   | f+1=>
    simp only[opsK] at hk;exact⟨S',φ',_,H',s',hf'.put o.dst hv,he,ht.weaken hn,fin _ hk⟩
  ·rename_i hnc;split at h
   ·rename_i vc x hp;obtain⟨hvc,hk⟩:=h;obtain⟨v,hv,hr⟩:=qbO hT s hf hp hvc;unfold Oper.wp;rw[hr w (fun _=>Agree.refl w),Oper.upon_value];exact same (hf.put o.dst hv) (fin _ hk)
   ·rename_i hnP;split at h
    ·rename_i vc x H' hp;obtain⟨hvc,hk⟩:=h;obtain⟨v,w',φ',hr,s',ht,he,hv⟩:=qb6 hT s hf hp hvc;have hag:qbD E fr o->Agree w w':=qej hT s hf hnc hp hvc hr;have fin2:Kr (a.put o.dst v) w':=hK _ _ hag ⟨S,φ',_,H',s',(hf.tr ht).put o.dst hv,he,ht.weaken hn,fin _ hk⟩;unfold Oper.wp;rcases hr with hr|⟨hr,rfl⟩
     ·rw[hr,Oper.upon_value];exact fin2
     ·rw[hr,Oper.upon_skip];exact fin2
    ·split at h
     ·rename_i vc x H' hp;obtain⟨hvc,hk⟩:=h;obtain⟨v,w',φ',hr,hag,s',ht,he,hv,_⟩:=qeK hT s hf hp hvc;have fin2:Kr (a.put o.dst v) w':=hK _ _ (fun _=>hag) ⟨S,φ',_,H',s',(hf.tr ht).put o.dst hv,he,ht.weaken hn,fin _ hk⟩;unfold Oper.wp;rw[hr,Oper.upon_value];exact fin2
     split at h
     ·rename_i fc fr1 H1 hfz;split at h
      ·rename_i vc x H' hp;obtain⟨hfc,hvc,hk⟩:=h;obtain⟨S1,φ1,s1,hf1,e1,t1⟩:=qf2 s hf hfz hfc;obtain⟨v,w',φ',hr,s',ht,he,hv⟩:=qb6 hT s1 hf1 hp hvc;have hn1:=yaD hn t1.len;have hag:qbD E fr o->Agree w w':=fun _=>qej hT s1 hf1 hnc hp hvc hr (by
        obtain⟨_,_,_,hop⟩:=qdL hfz;simp[qbD,hop,qbh,memO])
       have fin2:Kr (a.put o.dst v) w':=hK _ _ hag ⟨S1,φ',_,H',s',(hf1.tr ht).put o.dst hv,e1.trans he,(t1.weaken hn).trans (ht.weaken hn1),fin _ hk⟩;unfold Oper.wp;rcases hr with hr|⟨hr,rfl⟩
       ·rw[hr,Oper.upon_value];exact fin2
       ·rw[hr,Oper.upon_skip];exact fin2
      ·exact h.elim
     ·exact h.elim
 ·rename_i j want hgd;split at h
  ·rename_i gc e hg;have wanted:gc->Region.wanted o (yielded all.toArray a.tmps)=e:=by
    intro hgc;exact qcj hf hgd hg hgc
   split at h
   ·rename_i g args ho;obtain⟨hgc,h⟩:=h;rw[wanted hgc];unfold qlg at h;split at h
    ·rename_i g' caps hfn;split at h
     ·rename_i hpf;split at h
      ·rename_i vc ds hv;obtain⟨hc,x,hp,hk⟩:=h;match F with
       | 0=>simp only[opsG] at hk
       | F+1=>
       simp only[opsG] at hk;cases e with
       | false=>
        simp only[yah,if_false];exact same (hf.skip o.dst rfl _) (fin _ hk)
       | true=>
        simp only[if_true];left;obtain⟨hc,hvc⟩:=hc rfl;have hp:=hp rfl;refine qcx (E:=E) ho s hf (Kc:=fun r H'=>H'=H/\r=.d x) ?_ ?_
        ·simp only[qfd,hfn,hpf,hv];exact⟨hc,hvc,fun y=>y=x,hp.toE,fun y hy=>.inl ⟨rfl,by rw[hy]⟩⟩
        ·rintro S' φ' H' w' r v s' hf' hv' he ht hag ⟨rfl,rfl⟩;exact hK _ _ (fun hk=>hag (by simpa only[qbD,ho] using hk)) ⟨S',φ',_,_,s',hf'.put o.dst (.cond (fun _=>hv') fun h=>by cases h),he,ht.weaken hn,fin _ hk⟩
      ·exact h.elim
     ·rename_i hpf;cases e with
      | false=>
       obtain⟨x,hk⟩:=h.1 rfl;match F with
       | 0=>simp only[opsG] at hk
       | F+1=>
       simp only[opsG] at hk;simp only[yah,if_false];exact same (hf.skip o.dst rfl _) (fin _ hk)
      | true=>
       simp only[if_true];left;obtain⟨hc,hp⟩:=h.2 rfl;refine qcx (E:=E) ho s hf (Kc:=fun r H'=>opsG E F all [] [] (nQ K) fr o.dst H' (.cond true r)) ?_ ?_
       ·simp only[qfd,hfn,hpf];exact⟨hc,hp⟩
       ·intro S' φ' H' w' r v s' hf' hv' he ht hag hk;match F with
        | 0=>simp only[opsG] at hk
        | F+1=>
        simp only[opsG] at hk;exact hK _ _ (fun hk=>hag (by simpa only[qbD,ho] using hk)) ⟨S',φ',_,_,s',hf'.put o.dst (.cond (fun _=>hv') fun h=>by cases h),he,ht.weaken hn,fin _ hk⟩
     ·rename_i hpf;cases e with
      | false=>
       obtain⟨x,hk⟩:=h.1 rfl;match F with
       | 0=>simp only[opsG] at hk
       | F+1=>
       simp only[opsG] at hk;simp only[yah,if_false];exact same (hf.skip o.dst rfl _) (fin _ hk)
      | true=>
       simp only[if_true];left;have hp:=h.2 rfl;refine qcx (E:=E) ho s hf (Kc:=fun r H'=>opsG E F all [] [] (nQ K) fr o.dst H' (.cond true r)) ?_ ?_
       ·simp only[qfd,hfn,hpf];exact hp
       ·intro S' φ' H' w' r v s' hf' hv' he ht hag hk;match F with
        | 0=>simp only[opsG] at hk
        | F+1=>
        simp only[opsG] at hk;exact hK _ _ (fun hk=>hag (by simpa only[qbD,ho] using hk)) ⟨S',φ',_,_,s',hf'.put o.dst (.cond (fun _=>hv') fun h=>by cases h),he,ht.weaken hn,fin _ hk⟩
    ·exact h.elim
   ·split at h
    ·rename_i vc x hp;obtain⟨hgc,hvc,hk⟩:=h;rw[wanted hgc];cases e with
     | false=>
      simp only[yah,if_false];exact same (hf.skip o.dst rfl _) (fin _ hk)
     | true=>
      simp only[if_true];left;obtain⟨v,hv,hr⟩:=qbO hT s hf hp (hvc rfl);unfold Oper.wp;rw[hr w (fun _=>Agree.refl w),Oper.upon_value];exact same (hf.put o.dst (.cond (fun _=>hv) fun h=>by cases h)) (fin _ hk)
    ·rename_i hnP;split at h
     ·rename_i vc x H' hp;obtain⟨hgc,hk0,hk1⟩:=h;rw[wanted hgc];cases e with
      | false=>
       obtain⟨y,hk⟩:=hk0 rfl;simp only[yah,if_false];exact same (hf.skip o.dst rfl _) (fin _ hk)
      | true=>
       obtain⟨hvc,hk⟩:=hk1 rfl;simp only[if_true];left;obtain⟨v,w',φ',hr,s',ht,he,hv⟩:=qb6 hT s hf hp hvc;have fin2:Kr (a.put o.dst v) w':=hK _ _ (qej hT s hf (by assumption) hp hvc hr) ⟨S,φ',_,H',s',(hf.tr ht).put o.dst (.cond (fun _=>hv) fun h=>by cases h),he,ht.weaken hn,fin _ hk⟩;unfold Oper.wp;rcases hr with hr|⟨hr,rfl⟩
       ·rw[hr,Oper.upon_value];exact fin2
       ·rw[hr,Oper.upon_skip];exact fin2
     ·exact h.elim
  ·exact h.elim
def fstO (E:Env) (o:Oper):Prop:=strO E.T o.op=false
def plainO (o:Oper):Bool:=qdc o.op&&(qbh o.op).isNone
def qrN (hT:TOK E.P E.T) (F:Nat) (hn:E.n<=H.length) (s:Sim S φ H w) (hf:FrR S φ H w fr a) (hq:plainO o=true) (hst:strO E.T o.op=false)
  (h:ops' E F all [o] [] (nQ K) fr H) : ∃ v fr' φ' H',Sim S φ' H' w/\Ext S φ w S φ' w/\Tr E.n S φ H w S φ' H' w/\FrR S φ' H' w fr' (a.put o.dst v)/\K fr' H'/\YieldsIf E.P all.toArray (fun w'=>qe6 o.op=true->Agree w w') o v a:=by
 have fin : ∀ (f:Nat) {fr':Fr}{H':List R},ops' E f all [] [] (nQ K) fr' H'->K fr' H':=by
  intro f fr' H' h;match f with
  | 0=>simp only[ops'] at h
  | 1=>simp only[ops',exec] at h
  | f+2=>simpa only[ops',exec,nQ] using h
 simp only[plainO,yap,Option.isNone_iff_eq_none] at hq;have noI : ∀ {vc:Prop}{x:I}{H':List R},sopI E.T fr H o.op=some (vc,x,H')->False:=by
  intro vc x H' hp;obtain⟨dst,op,ty,pos,after,guard⟩:=o;simp only at hp hq;cases op with
  | call c=>
   obtain⟨callee,cargs,tys⟩:=c;cases callee with
   | builtin b=>cases b <;> simp[qdc] at hq <;> simp[sopI] at hp
   | value g=>simp[qbh] at hq
   | _=>simp[qdc] at hq
  | _=>first|(simp[qdc] at hq;done)|(simp[sopI] at hp;done)
 match F with
 | 0=>simp only[ops'] at h
 | F+1=>
 simp only[ops',hq.2] at h;split at h
 ·rename_i hgd;have hw:Region.wanted o (yielded all.toArray a.tmps)=true:=by simp only[Region.wanted,hgd]
  split at h
  ·rename_i vc x hp;obtain⟨hvc,hk⟩:=h;obtain⟨v,hv,hr⟩:=qbO hT s hf hp hvc;exact⟨v,_,φ,H,s,Ext.refl ..,Tr.refl hn,hf.put o.dst hv,fin _ hk,.inl ⟨hw,fun w' hw'=>hr w' fun h=>hw' (h.resolve_right (by rw[hst];simp))⟩⟩
  ·split at h
   ·rename_i vc x H' hp;exact(noI hp).elim
   ·split at h
    ·rename_i vc x H' hp;obtain⟨hvc,hk⟩:=h;obtain⟨v,w',φ',hr,hag,s',ht,he,hv,hl⟩:=qeK hT s hf hp hvc;have hld : ∃ t q,o.op=.load t q:=by
      rcases qli hp with⟨t,n,q,h⟩|h
      ·rw[h] at hq;simp[qdc] at hq
      ·exact h
     obtain⟨rfl,hl⟩:=hl hld;exact⟨v,_,φ',H',s',he,ht.weaken hn,(hf.tr ht).put o.dst hv,fin _ hk,.inl ⟨hw,fun w2 hw2=>hl w2 (hw2 (by obtain⟨t,q,h⟩:=hld;rw[h];rfl))⟩⟩
    split at h
    ·rename_i fc fr1 H1 hfz;obtain⟨_,_,_,hop⟩:=qdL hfz;rw[hop] at hq;simp[qdc] at hq
    ·exact h.elim
 ·rename_i j want hgd;split at h
  ·rename_i gc e hg;have wanted:gc->Region.wanted o (yielded all.toArray a.tmps)=e:=by
    intro hgc;exact qcj hf hgd hg hgc
   split at h
   ·rename_i vc x hp;obtain⟨hgc,hvc,hk⟩:=h;have hw:=wanted hgc;cases e with
    | false=>exact⟨undef,_,φ,H,s,Ext.refl ..,Tr.refl hn,hf.skip o.dst rfl _,fin _ hk,.inr ⟨hw,rfl⟩⟩
    | true=>
     obtain⟨v,hv,hr⟩:=qbO hT s hf hp (hvc rfl);exact⟨v,_,φ,H,s,Ext.refl ..,Tr.refl hn,hf.put o.dst (.cond (fun _=>hv) fun h=>by cases h),fin _ hk,.inl ⟨hw,fun w' hw'=>hr w' fun h=>hw' (h.resolve_right (by rw[hst];simp))⟩⟩
   ·split at h
    ·rename_i vc x H' hp;exact(noI hp).elim
    ·exact h.elim
  ·exact h.elim
inductive Sch where
 | done
 | fst (i:Nat) (t:Sch)
 | one (i:Nat) (t:Sch)
 | two (i:Nat) (t:Sch) (j:Nat) (u:Sch)
 | three (i:Nat) (t:Sch) (j:Nat) (u:Sch) (k:Nat) (v:Sch)
 | four (i:Nat) (t:Sch) (j:Nat) (u:Sch) (k:Nat) (v:Sch) (m:Nat) (y:Sch)
variable {u:Sch}
def chkS (ops:Array Oper) (tails:List Nat):Array Bool->Bool->Sch->Bool
 | listed,_,.done=>(Region.ready .any ops listed).isEmpty
 | listed,ph,.fst i t=>
  (Region.ready .any ops listed).contains i&&Region.free .any ops listed i&&(match ops[i]? with|some o=>plainO o&&(!qe6 o.op || (ph&&tails.all fun j=>listed.getD j true || waits ops i ops.size j))|none=>false) &&
   chkS ops tails (listed.setIfInBounds i true) ph t
 | listed,ph,.one i t=>Region.ready .any ops listed == [i]&&(ops[i]?).isSome&&chkS ops tails (listed.setIfInBounds i true) false t
 | listed,ph,.two i t j u=>Region.ready .any ops listed == [i,j]&&(ops[i]?).isSome&&(ops[j]?).isSome&&chkS ops tails (listed.setIfInBounds i true) false t&&chkS ops tails (listed.setIfInBounds j true) false u
 | listed,ph,.three i t j u k v=>Region.ready .any ops listed == [i,j,k]&&(ops[i]?).isSome&&(ops[j]?).isSome&&(ops[k]?).isSome&&chkS ops tails (listed.setIfInBounds i true) false t&&chkS ops tails (listed.setIfInBounds j true) false u&&chkS ops tails (listed.setIfInBounds k true) false v
 | listed,ph,.four i t j u k v m y=>Region.ready .any ops listed == [i,j,k,m]&&(ops[i]?).isSome&&(ops[j]?).isSome&&(ops[k]?).isSome&&(ops[m]?).isSome&&chkS ops tails (listed.setIfInBounds i true) false t&&chkS ops tails (listed.setIfInBounds j true) false u&&chkS ops tails (listed.setIfInBounds k true) false v&&chkS ops tails (listed.setIfInBounds m true) false y
def opAt (l : List Oper) (i : Nat) : Oper := l.getD i ⟨none, .move (.const undef), 0, "", #[], none⟩
def runS (E:Env) (F:Nat) (l:List Oper) (tails:List Nat) (K:Fr->List R->Prop):Sch->Fr->List R->Prop
 | .done,fr,H=>K fr H
 | .fst i t,fr,H=>fstO E (opAt l i)/\ops' E F l [opAt l i] [] (nQ (runS E F l tails K t)) fr H
 | .one i t,fr,H=>(tails.contains i=false->qbD E fr (opAt l i))/\ops' E F l [opAt l i] [] (nQ (runS E F l tails K t)) fr H
 | .two i t j u,fr,H=>((tails.contains i=false->qbD E fr (opAt l i))/\ops' E F l [opAt l i] [] (nQ (runS E F l tails K t)) fr H)/\
   ((tails.contains j=false->qbD E fr (opAt l j))/\ops' E F l [opAt l j] [] (nQ (runS E F l tails K u)) fr H)
 | .three i t j u k v,fr,H=>((tails.contains i=false->qbD E fr (opAt l i))/\ops' E F l [opAt l i] [] (nQ (runS E F l tails K t)) fr H)/\
   ((tails.contains j=false->qbD E fr (opAt l j))/\ops' E F l [opAt l j] [] (nQ (runS E F l tails K u)) fr H)/\
   ((tails.contains k=false->qbD E fr (opAt l k))/\ops' E F l [opAt l k] [] (nQ (runS E F l tails K v)) fr H)
 | .four i t j u k v m y,fr,H=>
   ((tails.contains i=false->qbD E fr (opAt l i))/\ops' E F l [opAt l i] [] (nQ (runS E F l tails K t)) fr H)/\
   ((tails.contains j=false->qbD E fr (opAt l j))/\ops' E F l [opAt l j] [] (nQ (runS E F l tails K u)) fr H)/\
   ((tails.contains k=false->qbD E fr (opAt l k))/\ops' E F l [opAt l k] [] (nQ (runS E F l tails K v)) fr H)/\
   ((tails.contains m=false->qbD E fr (opAt l m))/\ops' E F l [opAt l m] [] (nQ (runS E F l tails K y)) fr H)
def qbc (h:l.toArray[i]?=some o):opAt l i=o:=by
 have:l[i]?=some o:=by simpa using h
 simp[opAt,List.getD,this]
def Sch.depth:Sch->Nat
 | .done=>0
 | .fst _ t=>t.depth+1
 | .one _ t=>t.depth+1
 | .two _ t _ u=>max t.depth u.depth+1
 | .three _ t _ u _ v=>max t.depth (max u.depth v.depth)+1
 | .four _ t _ u _ v _ y=>max (max t.depth y.depth) (max u.depth v.depth)+1
def Left.trans {S0:Nat->Prop}{φ0:List (List Nat)}{H0:List R}{w0:World}{K:Fr->List R->Prop}{a':Act}{w':World}(he:Ext S0 φ0 w0 S φ w) (ht:Tr E.n S0 φ0 H0 w0 S φ H w) (h:Left E S φ H w K a' w'):Left E S0 φ0 H0 w0 K a' w':=by
 obtain⟨S',φ',fr',H',a1,a2,a3,a4,a5⟩:=h;exact⟨S',φ',fr',H',a1,a2,he.trans a3,ht.trans a4,a5⟩
def qoe (hT:TOK E.P E.T) {Qr:Act->World->Prop}{w0:World}{S0:Nat->Prop}{φ0:List (List Nat)}{H0:List R}
  (hs:Region.noSelect l.toArray=true) (hq : ∀ a' w',Left E S0 φ0 H0 w0 K a' w'->Qr a' w') :
  ∀ (t:Sch) (fuel:Nat) (listed:Array Bool) (ph:Bool) (S:Nat->Prop) (φ : List (List Nat)) (H:List R) (w:World) (fr:Fr) (a:Act),
   Sim S φ H w->FrR S φ H w fr a->Ext S0 φ0 w0 S φ w->Tr E.n S0 φ0 H0 w0 S φ H w->(ph=true->w=w0)->Closed l.toArray listed->chkS l.toArray tails listed ph t=true->t.depth<=fuel->runS E F l tails K t fr H->
   qbW E.P l.toArray (fun e a w=>match e with|.normal=>Qr a w|_=>False) (Agree w0) (fun i=>!tails.contains i) fuel listed a w:=by
 have agtr : ∀ {w w':World},Agree w w'->Agree w0 w->w0.heap.size<=w.heap.size->Agree w0 w':=fun h1 h2 h3 b hb=>(h1 b (yaq hb h3)).trans (h2 b hb)
 intro t;induction t with
 | done=>
  intro fuel listed ph S φ H w fr a s hf he ht hph hcl hc hd h;simp only[chkS,List.isEmpty_iff] at hc;have hQ:Qr a w:=hq _ _ ⟨S,φ,fr,H,s,hf,he,ht,h⟩;cases fuel with
  | zero=>exact⟨hc,hQ⟩
  | succ f=>exact⟨fun _=>hQ,by rw[hc];simp⟩
 | fst i t ih=>
  intro fuel listed ph S φ H w fr a s hf he ht hph hcl hc hd h;match fuel with
  | 0=>simp[Sch.depth] at hd
  | fuel+1=>
  simp only[chkS,yap,List.contains_iff_mem] at hc;obtain⟨⟨⟨hr,hfree⟩,hop⟩,hc⟩:=hc;split at hop
  case h_2=>simp at hop
  rename_i o ho;simp only[yap,ybe,Bool.not_eq_true'] at hop;obtain⟨hpl,hrd⟩:=hop;simp only[runS,qbc ho] at h;obtain⟨v,fr',φ',H',s',he',ht',hf',hk,hy⟩:=qrN hT F ht.len s hf hpl h.1 h.2;have next:=ih fuel (listed.setIfInBounds i true) ph S φ' H' w fr' (a.put o.dst v) s' hf' (he.trans he') (ht.trans ht') hph (hcl.set hr) hc (by simpa [Sch.depth] using hd) hk;have hfr:=Region.free_spec ho hfree;cases hro:qe6 o.op with
  | false=>
   refine qd1 (S1:=fun _=>True) ho (Region.noSelect_spec hs) (fun _ _ _ h=>h) (.inl fun _=>trivial) fuel listed a w hfr (.inl fun _=>trivial) hcl hr ?_ trivial next;exact hy.imp (fun⟨h1,h2⟩=>⟨h1,fun w' _=>h2 w' (by simp[hro])⟩) id
  | true=>
   rcases hrd with h0|⟨h1,h2⟩
   ·rw[hro] at h0;cases h0
   ·obtain rfl:=hph h1;refine qd1 (S1:=Agree w) ho (Region.noSelect_spec hs) (fun _ _ _ h=>h) (.inr rfl) fuel listed a w hfr (.inr fun j hj=>?_) hcl hr ?_ (Agree.refl w) next
    ·simp only[Bool.not_eq_false',List.contains_iff_mem] at hj;have:=List.all_eq_true.1 h2 j hj;simp only[ybe] at this;exact this.imp id fun h=>⟨_,h⟩
    ·exact hy.imp (fun⟨h1,h2⟩=>⟨h1,fun w' hw'=>h2 w' fun _=>hw'⟩) id
 | one i t ih=>
  intro fuel listed ph S φ H w fr a s hf he ht hph hcl hc hd h;match fuel with
  | 0=>simp[Sch.depth] at hd
  | fuel+1=>
  simp only[chkS,yap,beq_iff_eq] at hc;obtain⟨⟨hr,hop⟩,hc⟩:=hc;obtain⟨o,ho⟩:=Option.isSome_iff_exists.1 hop;simp only[runS,qbc ho] at h;have hmem:i∈Region.ready .any l.toArray listed:=by rw[hr];simp
  refine⟨fun h0=>(by rw[hr] at h0;cases h0),fun k hk=>?_⟩;rw[hr,yaF] at hk;subst hk;have:=qcn hT (Qr:=fun e a w=>match e with|.normal=>Qr a w|_=>False) (Kr:=fun a' w'=>((!tails.contains k)=true->Agree w0 w->Agree w0 w')/\qbW E.P l.toArray (fun e a w=>match e with|.normal=>Qr a w|_=>False) (Agree w0) (fun i=>!tails.contains i) fuel (listed.setIfInBounds k true) a' w') F ht.len s hf h.2 (fun a' w' hag hl=>?_)
  ·unfold wpOp;simp only[ho];exact this
  ·obtain⟨S',φ',fr',H',b1,b2,b3,b4,b5⟩:=hl;refine⟨fun h1 h2=>agtr (hag (h.1 (by simpa using h1))) h2 he.size,?_⟩;exact ih fuel _ false S' φ' H' w' fr' a' b1 b2 (he.trans b3) (ht.trans b4) (by simp) (hcl.set hmem) hc (by simpa [Sch.depth] using hd) b5
 | two i t j u ih1 ih2=>
  intro fuel listed ph S φ H w fr a s hf he ht hph hcl hc hd h;match fuel with
  | 0=>simp[Sch.depth] at hd
  | fuel+1=>
  simp only[chkS,yap,beq_iff_eq] at hc;obtain⟨⟨⟨⟨hr,hop1⟩,hop2⟩,hc1⟩,hc2⟩:=hc;obtain⟨o1,ho1⟩:=Option.isSome_iff_exists.1 hop1;obtain⟨o2,ho2⟩:=Option.isSome_iff_exists.1 hop2;simp only[runS,qbc ho1,qbc ho2] at h;have hd':t.depth<=fuel/\u.depth<=fuel:=by simp[Sch.depth] at hd;omega
  refine⟨fun h0=>(by rw[hr] at h0;cases h0),fun k hk=>?_⟩;have hmem:=hk;rw[hr,yaE,yaF] at hk;rcases hk with rfl|rfl
  ·have:=qcn hT (Qr:=fun e a w=>match e with|.normal=>Qr a w|_=>False) (Kr:=fun a' w'=>((!tails.contains k)=true->Agree w0 w->Agree w0 w')/\qbW E.P l.toArray (fun e a w=>match e with|.normal=>Qr a w|_=>False) (Agree w0) (fun i=>!tails.contains i) fuel (listed.setIfInBounds k true) a' w') F ht.len s hf h.1.2 (fun a' w' hag hl=>?_)
   ·unfold wpOp;simp only[ho1];exact this
   ·obtain⟨S',φ',fr',H',b1,b2,b3,b4,b5⟩:=hl;refine⟨fun h1 h2=>agtr (hag (h.1.1 (by simpa using h1))) h2 he.size,?_⟩;exact ih1 fuel _ false S' φ' H' w' fr' a' b1 b2 (he.trans b3) (ht.trans b4) (by simp) (hcl.set hmem) hc1 hd'.1 b5
  ·have:=qcn hT (Qr:=fun e a w=>match e with|.normal=>Qr a w|_=>False) (Kr:=fun a' w'=>((!tails.contains k)=true->Agree w0 w->Agree w0 w')/\qbW E.P l.toArray (fun e a w=>match e with|.normal=>Qr a w|_=>False) (Agree w0) (fun i=>!tails.contains i) fuel (listed.setIfInBounds k true) a' w') F ht.len s hf h.2.2 (fun a' w' hag hl=>?_)
   ·unfold wpOp;simp only[ho2];exact this
   ·obtain⟨S',φ',fr',H',b1,b2,b3,b4,b5⟩:=hl;refine⟨fun h1 h2=>agtr (hag (h.2.1 (by simpa using h1))) h2 he.size,?_⟩;exact ih2 fuel _ false S' φ' H' w' fr' a' b1 b2 (he.trans b3) (ht.trans b4) (by simp) (hcl.set hmem) hc2 hd'.2 b5
 | three i t j u m v ih1 ih2 ih3=>
  intro fuel listed ph S φ H w fr a s hf he ht hph hcl hc hd h;match fuel with
  | 0=>simp[Sch.depth] at hd
  | fuel+1=>
  simp only[chkS,yap,beq_iff_eq] at hc;obtain⟨⟨⟨⟨⟨⟨hr,hop1⟩,hop2⟩,hop3⟩,hc1⟩,hc2⟩,hc3⟩:=hc;obtain⟨o1,ho1⟩:=Option.isSome_iff_exists.1 hop1;obtain⟨o2,ho2⟩:=Option.isSome_iff_exists.1 hop2;obtain⟨o3,ho3⟩:=Option.isSome_iff_exists.1 hop3;simp only[runS,qbc ho1,qbc ho2,qbc ho3] at h;have hd':t.depth<=fuel/\u.depth<=fuel/\v.depth<=fuel:=by simp[Sch.depth] at hd;omega
  refine⟨fun h0=>(by rw[hr] at h0;cases h0),fun k hk=>?_⟩;have hmem:=hk;rw[hr,yaE,yaE,yaF] at hk;rcases hk with rfl|rfl|rfl
  ·have:=qcn hT (Qr:=fun e a w=>match e with|.normal=>Qr a w|_=>False) (Kr:=fun a' w'=>((!tails.contains k)=true->Agree w0 w->Agree w0 w')/\qbW E.P l.toArray (fun e a w=>match e with|.normal=>Qr a w|_=>False) (Agree w0) (fun i=>!tails.contains i) fuel (listed.setIfInBounds k true) a' w') F ht.len s hf h.1.2 (fun a' w' hag hl=>?_)
   ·unfold wpOp;simp only[ho1];exact this
   ·obtain⟨S',φ',fr',H',b1,b2,b3,b4,b5⟩:=hl;refine⟨fun h1 h2=>agtr (hag (h.1.1 (by simpa using h1))) h2 he.size,?_⟩;exact ih1 fuel _ false S' φ' H' w' fr' a' b1 b2 (he.trans b3) (ht.trans b4) (by simp) (hcl.set hmem) hc1 hd'.1 b5
  ·have:=qcn hT (Qr:=fun e a w=>match e with|.normal=>Qr a w|_=>False) (Kr:=fun a' w'=>((!tails.contains k)=true->Agree w0 w->Agree w0 w')/\qbW E.P l.toArray (fun e a w=>match e with|.normal=>Qr a w|_=>False) (Agree w0) (fun i=>!tails.contains i) fuel (listed.setIfInBounds k true) a' w') F ht.len s hf h.2.1.2 (fun a' w' hag hl=>?_)
   ·unfold wpOp;simp only[ho2];exact this
   ·obtain⟨S',φ',fr',H',b1,b2,b3,b4,b5⟩:=hl;refine⟨fun h1 h2=>agtr (hag (h.2.1.1 (by simpa using h1))) h2 he.size,?_⟩;exact ih2 fuel _ false S' φ' H' w' fr' a' b1 b2 (he.trans b3) (ht.trans b4) (by simp) (hcl.set hmem) hc2 hd'.2.1 b5
  ·have:=qcn hT (Qr:=fun e a w=>match e with|.normal=>Qr a w|_=>False) (Kr:=fun a' w'=>((!tails.contains k)=true->Agree w0 w->Agree w0 w')/\qbW E.P l.toArray (fun e a w=>match e with|.normal=>Qr a w|_=>False) (Agree w0) (fun i=>!tails.contains i) fuel (listed.setIfInBounds k true) a' w') F ht.len s hf h.2.2.2 (fun a' w' hag hl=>?_)
   ·unfold wpOp;simp only[ho3];exact this
   ·obtain⟨S',φ',fr',H',b1,b2,b3,b4,b5⟩:=hl;refine⟨fun h1 h2=>agtr (hag (h.2.2.1 (by simpa using h1))) h2 he.size,?_⟩;exact ih3 fuel _ false S' φ' H' w' fr' a' b1 b2 (he.trans b3) (ht.trans b4) (by simp) (hcl.set hmem) hc3 hd'.2.2 b5
 | four i t j u m v q y ih1 ih2 ih3 ih4=>
  intro fuel listed ph S φ H w fr a s hf he ht hph hcl hc hd h;match fuel with
  | 0=>simp[Sch.depth] at hd
  | fuel+1=>
  simp only[chkS,yap,beq_iff_eq] at hc;obtain⟨⟨⟨⟨⟨⟨⟨⟨hr,hop1⟩,hop2⟩,hop3⟩,hop4⟩,hc1⟩,hc2⟩,hc3⟩,hc4⟩:=hc;obtain⟨o1,ho1⟩:=Option.isSome_iff_exists.1 hop1;obtain⟨o2,ho2⟩:=Option.isSome_iff_exists.1 hop2;obtain⟨o3,ho3⟩:=Option.isSome_iff_exists.1 hop3;obtain⟨o4,ho4⟩:=Option.isSome_iff_exists.1 hop4;simp only[runS,qbc ho1,qbc ho2,qbc ho3,qbc ho4] at h;have hd':t.depth<=fuel/\u.depth<=fuel/\v.depth<=fuel/\y.depth<=fuel:=by simp[Sch.depth] at hd;omega
  refine⟨fun h0=>(by rw[hr] at h0;cases h0),fun k hk=>?_⟩;have hmem:=hk;rw[hr,yaE,yaE,yaE,yaF] at hk;rcases hk with rfl|rfl|rfl|rfl
  ·have:=qcn hT (Qr:=fun e a w=>match e with|.normal=>Qr a w|_=>False) (Kr:=fun a' w'=>((!tails.contains k)=true->Agree w0 w->Agree w0 w')/\qbW E.P l.toArray (fun e a w=>match e with|.normal=>Qr a w|_=>False) (Agree w0) (fun i=>!tails.contains i) fuel (listed.setIfInBounds k true) a' w') F ht.len s hf h.1.2 (fun a' w' hag hl=>?_)
   ·unfold wpOp;simp only[ho1];exact this
   ·obtain⟨S',φ',fr',H',b1,b2,b3,b4,b5⟩:=hl;refine⟨fun h1 h2=>agtr (hag (h.1.1 (by simpa using h1))) h2 he.size,?_⟩;exact ih1 fuel _ false S' φ' H' w' fr' a' b1 b2 (he.trans b3) (ht.trans b4) (by simp) (hcl.set hmem) hc1 hd'.1 b5
  ·have:=qcn hT (Qr:=fun e a w=>match e with|.normal=>Qr a w|_=>False) (Kr:=fun a' w'=>((!tails.contains k)=true->Agree w0 w->Agree w0 w')/\qbW E.P l.toArray (fun e a w=>match e with|.normal=>Qr a w|_=>False) (Agree w0) (fun i=>!tails.contains i) fuel (listed.setIfInBounds k true) a' w') F ht.len s hf h.2.1.2 (fun a' w' hag hl=>?_)
   ·unfold wpOp;simp only[ho2];exact this
   ·obtain⟨S',φ',fr',H',b1,b2,b3,b4,b5⟩:=hl;refine⟨fun h1 h2=>agtr (hag (h.2.1.1 (by simpa using h1))) h2 he.size,?_⟩;exact ih2 fuel _ false S' φ' H' w' fr' a' b1 b2 (he.trans b3) (ht.trans b4) (by simp) (hcl.set hmem) hc2 hd'.2.1 b5
  ·have:=qcn hT (Qr:=fun e a w=>match e with|.normal=>Qr a w|_=>False) (Kr:=fun a' w'=>((!tails.contains k)=true->Agree w0 w->Agree w0 w')/\qbW E.P l.toArray (fun e a w=>match e with|.normal=>Qr a w|_=>False) (Agree w0) (fun i=>!tails.contains i) fuel (listed.setIfInBounds k true) a' w') F ht.len s hf h.2.2.1.2 (fun a' w' hag hl=>?_)
   ·unfold wpOp;simp only[ho3];exact this
   ·obtain⟨S',φ',fr',H',b1,b2,b3,b4,b5⟩:=hl;refine⟨fun h1 h2=>agtr (hag (h.2.2.1.1 (by simpa using h1))) h2 he.size,?_⟩;exact ih3 fuel _ false S' φ' H' w' fr' a' b1 b2 (he.trans b3) (ht.trans b4) (by simp) (hcl.set hmem) hc3 hd'.2.2.1 b5
  ·have:=qcn hT (Qr:=fun e a w=>match e with|.normal=>Qr a w|_=>False) (Kr:=fun a' w'=>((!tails.contains k)=true->Agree w0 w->Agree w0 w')/\qbW E.P l.toArray (fun e a w=>match e with|.normal=>Qr a w|_=>False) (Agree w0) (fun i=>!tails.contains i) fuel (listed.setIfInBounds k true) a' w') F ht.len s hf h.2.2.2.2 (fun a' w' hag hl=>?_)
   ·unfold wpOp;simp only[ho4];exact this
   ·obtain⟨S',φ',fr',H',b1,b2,b3,b4,b5⟩:=hl;refine⟨fun h1 h2=>agtr (hag (h.2.2.2.1 (by simpa using h1))) h2 he.size,?_⟩;exact ih4 fuel _ false S' φ' H' w' fr' a' b1 b2 (he.trans b3) (ht.trans b4) (by simp) (hcl.set hmem) hc4 hd'.2.2.2 b5
def chkT (ops:Array Oper) (tails:List Nat) (t:Sch):Bool:=
 Region.noSelect ops&&chkS ops tails (Array.replicate ops.size false) true t&&decide (t.depth<=ops.size)
def endK (E:Env) (F2:Nat) (ks:List Item) (Q:Post) (fr:Fr) (H:List R):Prop:=exec E F2 ks Q fr H
@[go_sem] def zpy {F2:Nat}{Q:Post}:endK E F2 ks Q fr H=exec E F2 ks Q fr H:=rfl
def qeO (hT:TOK E.P E.T) (hm:E.P.follows .mixedOrders=true) (F F2:Nat) {id:Nat}{Q:Post}(tails:List Nat) (t:Sch) (hc:chkT l.toArray tails t=true)
  (h:runS E F l tails (endK E F2 ks Q) t fr H):iwp E.P E.n (.region id l.toArray true) (qbR E ks Q) fr H:=by
 intro S φ a w Qr hn s hf hq;simp only[chkT,yap,decide_eq_true_eq] at hc;obtain⟨⟨h1,h2⟩,h3⟩:=hc;obtain⟨s1,s2,s3⟩:=qdY s (Grow.draw w) S (fun b h=>h) (fun b h=>.inl h) (fun b h=>s.slt b h);have main:=qoe (E:=E) hT (F:=F) (l:=l) (tails:=tails) (K:=endK E F2 ks Q) (Qr:=fun a' w'=>Qr .normal a' w') (w0:={ w with drawn:=w.drawn+1 }) (S0:=S) (φ0:=φ) (H0:=H) h1
  (fun a' w' hl=>by
   obtain⟨S',φ',fr',H',b1,b2,b3,b4,b5⟩:=hl;exact hq _ a' w' S' φ' fr' H' b1 b2 (s3.trans b3) ((s2.weaken hn).trans b4) (qfy hT F2 b5))
  t l.toArray.size (Array.replicate l.toArray.size false) true S φ H _ fr a s1 (hf.tr s2) (Ext.refl ..) (Tr.refl hn) (fun _=>rfl) (fun j o ho hj=>?_) h2 h3 h
 ·refine wp_mono (wp_region_any hm (qg7 _ _ _ _ main)) ?_;intro e a' w' he;cases e with
  | normal=>exact he
  | _=>exact he.elim
 ·have hlt:j<l.toArray.size:=(Array.getElem?_eq_some_iff.1 ho).1;simp only[Array.getD_eq_getD_getElem?,Array.getElem?_replicate] at hj;split at hj <;> simp at hj
@[go_sem] def zpz:runS E F l tails K .done fr H=K fr H:=rfl
@[go_sem] def zpA {t:Sch}:runS E F l tails K (.fst i t) fr H=(fstO E (opAt l i)/\ops' E F l [opAt l i] [] (nQ (runS E F l tails K t)) fr H):=rfl
@[go_sem] def zpB {t:Sch}:runS E F l tails K (.one i t) fr H =
  ((tails.contains i=false->qbD E fr (opAt l i))/\ops' E F l [opAt l i] [] (nQ (runS E F l tails K t)) fr H):=rfl
@[go_sem] def zpC {t:Sch}:runS E F l tails K (.two i t j u) fr H =
  ((
   (tails.contains i=false->qbD E fr (opAt l i))/\ops' E F l [opAt l i] [] (nQ (runS E F l tails K t)) fr H)/\
   ((tails.contains j=false->qbD E fr (opAt l j))/\ops' E F l [opAt l j] [] (nQ (runS E F l tails K u)) fr H)):=rfl
@[go_sem] def zpD {k:Nat}{t v:Sch}:runS E F l tails K (.three i t j u k v) fr H =
  ((
   (tails.contains i=false->qbD E fr (opAt l i))/\ops' E F l [opAt l i] [] (nQ (runS E F l tails K t)) fr H)/\
   ((tails.contains j=false->qbD E fr (opAt l j))/\ops' E F l [opAt l j] [] (nQ (runS E F l tails K u)) fr H)/\
   ((tails.contains k=false->qbD E fr (opAt l k))/\ops' E F l [opAt l k] [] (nQ (runS E F l tails K v)) fr H)):=rfl
@[go_sem] def zpE:opAt (o::l) 0=o:=rfl
@[go_sem] def zpF {n:Nat}:opAt (o::l) (n+1)=opAt l n:=rfl
section keep
variable {dst:Option Tmp}{ty:TypeId}{pos:String}{af:Array Edge}{gd:Option (Nat×Bool)}
@[go_sem] def zpG:qbD E fr ⟨dst,.load t x,ty,pos,af,gd⟩=True:=by simp[qbD,qbh,qdc]
@[go_sem] def zpH:qbD E fr ⟨dst,.alloc t,ty,pos,af,gd⟩=True:=by simp[qbD,qbh,memO]
@[go_sem] def qoI {n:Nat}:qbD E fr ⟨dst,.buildSlice t n p,ty,pos,af,gd⟩=True:=by simp[qbD,qbh,memO]
@[go_sem] def zpI {g:Operand}{args:Array Operand}{ts:Array TypeId}:qbD E fr ⟨dst,.call ⟨.value g,args,ts⟩,ty,pos,af,gd⟩=qiE E (fnOf (evx fr g)):=rfl
@[go_sem] def qs4 {f:Nat}{c:List I}:qiE E (some (f,c))=(E.pf f≠.proc):=rfl
def fstT (o:Option TI):Prop:=strT o=false
@[go_sem] def zpJ {sz b:Nat}{z:D}:fstT (some ⟨.int k,sz,b,z⟩)=True:=by simp[fstT,strT]
@[go_sem] def zpK:fstO E ⟨dst,.move x,ty,pos,af,gd⟩=True:=by simp[fstO,strO]
@[go_sem] def zpL:fstO E ⟨dst,.assign x,ty,pos,af,gd⟩=True:=by simp[fstO,strO]
@[go_sem] def zpM {c:Operand}:fstO E ⟨dst,.pick c x y,ty,pos,af,gd⟩=True:=by simp[fstO,strO]
@[go_sem] def zpN:fstO E ⟨dst,.build t p,ty,pos,af,gd⟩=True:=by simp[fstO,strO]
@[go_sem] def zpO:fstO E ⟨dst,.load t x,ty,pos,af,gd⟩=True:=by simp[fstO,strO]
@[go_sem] def zpP {ok:Bool}:fstO E ⟨dst,.lookup t x y ok,ty,pos,af,gd⟩=True:=by simp[fstO,strO]
@[go_sem] def qrO:fstO E ⟨dst,.nilCheck x,ty,pos,af,gd⟩=True:=by simp[fstO,strO]
@[go_sem] def zpQ {op:BinOp}{yt:TypeId}:fstO E ⟨dst,.binOp op t x y yt,ty,pos,af,gd⟩=True:=by simp[fstO,strO]
@[go_sem] def zpR {op:UnOp}:fstO E ⟨dst,.unOp op t x,ty,pos,af,gd⟩=True:=by simp[fstO,strO]
@[go_sem] def qs5 {u:TypeId}:fstO E ⟨dst,.convert t u x,ty,pos,af,gd⟩=fstT (E.T u):=rfl
@[go_sem] def zpS {lo hi mx:Option Operand}:fstO E ⟨dst,.slice t x lo hi mx,ty,pos,af,gd⟩=True:=by simp[fstO,strO]
@[go_sem] def qqE:fstO E ⟨dst,.fieldAddr t x i,ty,pos,af,gd⟩=True:=by simp[fstO,strO]
@[go_sem] def qqF:fstO E ⟨dst,.indexAddr t x y,ty,pos,af,gd⟩=True:=by simp[fstO,strO]
@[go_sem] def zpT:fstO E ⟨dst,.index t x y,ty,pos,af,gd⟩=True:=by simp[fstO,strO]
@[go_sem] def qs6:fstO E ⟨dst,.extract x i,ty,pos,af,gd⟩=True:=by simp[fstO,strO]
@[go_sem] def zpU {a:Array Operand}:fstO E ⟨dst,.call ⟨.builtin .len,a,b⟩,ty,pos,af,gd⟩=True:=by simp[fstO,strO]
@[go_sem] def zpV {a:Array Operand}:fstO E ⟨dst,.call ⟨.builtin .min,a,b⟩,ty,pos,af,gd⟩=True:=by simp[fstO,strO]
end keep
attribute [go_sem] List.contains_cons List.contains_nil ne_eq false_imp_iff true_imp_iff forall_const
@[go_sem] def zpW {l:List Int}:scalars (l.map (D.int k))=true:=by induction l with|nil=>rfl|cons x r ih=>simp[scalars,D.cells,D.scalar,ih]
@[go_sem] def qrP {l:List Bool}:scalars (l.map D.bool)=true:=by induction l with|nil=>rfl|cons x r ih=>simp[scalars,D.cells,D.scalar,ih]
@[go_sem] def zpX {l:List (Int×Int)}:scalars (l.map dP)=true:=by induction l with|nil=>rfl|cons x r ih=>simp[scalars,D.cells,D.scalar,ih]
end Go.VL
namespace Go.VL
set_option linter.defProp false
variable {i j k:Nat}{dp:Bool}{r:List (Nat×Nat×Nat×Bool)}{cs:List I}
variable {E:Env}{Q:Post}{fr:Fr}{H:List R}{n:Nat}
def qof (i j k:Nat) (dp:Bool) (H:List R):Option R->List R
 | some (.box cs)=>(H ++ [R.row 0 k dp []]).set i (.box (cs.set j (.sl H.length 0 k 0 0)))
 | _=>H
def qng (i j k:Nat):Option R->Prop
 | some (.box cs)=>cs.getD j .junk=.d .nil/\j<cs.length/\0<k
 | _=>False
def ownB:List (Nat×Nat×Nat×Bool)->List R->List R
 | [],H=>H
 | (i,j,k,dp)::r,H=>ownB r (qof i j k dp H (qat H i))
def qmz:List (Nat×Nat×Nat×Bool)->List R->Prop
 | [],_=>True
 | (i,j,k,dp)::r,H=>qng i j k (qat H i)/\qmz r (qof i j k dp H (qat H i))
def qg8 : ∀ (l:List (Nat×Nat×Nat×Bool)) {fr:Fr}{H:List R},qmz l H->Ghost n fr H fr (ownB l H)
 | [],fr,H,_=>Ghost.refl n fr H
 | (i,j,k,dp)::r,fr,H,h=>by
  obtain⟨h1,h2⟩:=h;simp only[ownB];cases hr:qat H i with
  | none=>rw[hr] at h1;exact h1.elim
  | some x=>
   rw[hr] at h1 h2;cases x with
   | box cs=>
    simp only[qng,qof] at h1 h2 ⊢;rw[<-qaC] at hr;exact(Ghost.ownBox i j k dp hr h1.1 h1.2.1 h1.2.2).trans (qg8 r h2)
   | _=>exact h1.elim
def qkv (hT:TOK E.P E.T) {σ : Type}(F : σ->List (Nat×I)) (Hp : σ->List R) (inv : σ->Prop) (mu : σ->Nat) (ob:List (Nat×Nat×Nat×Bool)) (own:List (Nat×Nat×Bool)) (f1 f2:Nat) {ks:List Item}{c:Code}
  (hbc:qmz ob H) (hvc:qlo own fr (ownB ob H)) (h0 : ∃ s,inv s/\fit E.n fr.n (qeW own fr (ownB ob H)).1 (qeW own fr (ownB ob H)).2 (F s) (Hp s))
  (hr : ∀ s,inv s->qaZ E f1 c [] (qoa E ks Q f2 fr.n F Hp inv mu s) ⟨fr.n,F s⟩ (Hp s)):iwp E.P E.n (.loop c) (qbR E ks Q) fr H:=
 qgl (qg8 ob hbc) (qaw hT F Hp inv mu own f1 f2 hvc h0 hr)
section rules
@[go_sem] def zpY:ownB [] H=H:=rfl
@[go_sem] def zpZ:ownB ((i,j,k,dp)::r) H=ownB r (qof i j k dp H (qat H i)):=rfl
@[go_sem] def zqa:qmz [] H=True:=rfl
@[go_sem] def zqb:qmz ((i,j,k,dp)::r) H=(qng i j k (qat H i)/\qmz r (qof i j k dp H (qat H i))):=rfl
@[go_sem] def zqc:qof i j k dp H (some (.box cs))=(H ++ [R.row 0 k dp []]).set i (.box (cs.set j (.sl H.length 0 k 0 0))):=rfl
@[go_sem] def zqd:qng i j k (some (.box cs))=(cs.getD j .junk=.d .nil/\j<cs.length/\0<k):=rfl
attribute [go_sem] List.set_cons_zero List.set_cons_succ yav yay List.cons_append List.nil_append
@[go_sem] def zqe {a b:Nat}{l:List Nat}:(¬ a∈b::l)=(¬ a=b/\¬ a∈l):=by simp
end rules
end Go.VL
namespace Go.VL
set_option linter.defProp false
variable {l:List (List Bool)}{v:List Bool}{α:Type}{i lo:Nat}{k:IntKind}
def and_one (n:Nat):n &&& 1=n%2:=Nat.and_one_is_mod n
def land1 {l:Int}(h:0<=l):(((l.toNat &&& 1:Nat):Int)=1)=(l%2=1):=by
 rw[and_one];simp only[eq_iff_iff];omega
def qs7 {l:Int}(h:0<=l):((l.toNat &&& 1:Nat):Int)=l%2:=by
 rw[and_one];omega
def litV (v:List Bool) (l:Int):Bool:=v.getD (l/2).toNat false != decide (l%2=1)
def qcG (v:List Bool) (ls:List Int):List Bool:=ls.map (litV v)
def qek {ls:List Int}:(qcG v ls).length=ls.length:=by simp[qcG]
def qdu (c:Circ) (st ins:List Bool):Nat->List Bool
 | 0=>false::(ins++st)
 | i+1=>qdu c st ins i ++ [litV (qdu c st ins i) (c.gates.getD i (0,0)).1&&litV (qdu c st ins i) (c.gates.getD i (0,0)).2]
def qff (c:Circ) (st ins:List Bool) : ∀ i,(qdu c st ins i).length=1+ins.length+st.length+i
 | 0=>by simp[qdu];omega
 | i+1=>by simp[qdu,qff c st ins i];omega
def values (c:Circ) (st ins:List Bool):List Bool:=qdu c st ins c.gates.length
def qls (c:Circ) (st ins:List Bool) {i:Nat} : ∀ k,∃ r,qdu c st ins (i+k)=qdu c st ins i++r
 | 0=>⟨[],by simp⟩
 | k+1=>by
  obtain⟨r,h⟩:=qls c st ins (i:=i) k;exact⟨r ++ [_],by rw[<-yaT,qdu,h,yar]⟩
def qaq {l r:List α}{z : α}(h:i<l.length):(l++r).getD i z=l.getD i z:=by
 simp[List.getD,List.getElem?_append_left h]
def qnh {r:List Bool}{l:Int}(h0:0<=l) (h:l<2*v.length):litV (v++r) l=litV v l:=by
 unfold litV;rw[qaq (by omega)]
@[go_sem] def zqf {l:List Bool}:(l.map D.bool).all D.scalar=true:=by simp[D.scalar]
@[go_sem] def zqg {l:List Int}:(l.map (D.int k)).all D.scalar=true:=by simp[D.scalar]
attribute [go_sem] yaK
def splice (l:List α) (lo:Nat) (xs:List α):List α:=l.take lo++xs++l.drop (lo+xs.length)
@[go_sem] def qs8 {l xs:List Bool}:qbb (l.map D.bool) lo (xs.map D.bool)=(splice l lo xs).map D.bool:=by simp[qbb,splice]
@[go_sem] def zqh {l xs:List Int}:qbb (l.map (D.int k)) lo (xs.map (D.int k))=(splice l lo xs).map (D.int k):=by simp[qbb,splice]
def qog {l xs:List α}(h:lo+xs.length<=l.length):(splice l lo xs).length=l.length:=by simp[splice];omega
def qoh (z : α) (ins st:List α) (n:Nat) (hn:1+ins.length+st.length<=n) :
  splice (splice (List.replicate n z) 1 ins) (1+ins.length) st=z::(ins++st)++List.replicate (n-(1+ins.length+st.length)) z:=by
 obtain⟨m,rfl⟩ : ∃ m,n=m+1:=⟨n-1,by omega⟩;have e1:splice (List.replicate (m+1) z) 1 ins=z::(ins++List.replicate (m-ins.length) z):=by
  simp[splice,List.replicate_succ,List.take_replicate,List.drop_replicate,Nat.add_comm 1 ins.length]
 rw[e1];simp only[splice,Nat.add_comm 1 ins.length,List.take_succ_cons,List.take_left',show ins.length+1+st.length=ins.length+st.length+1 by omega,List.drop_succ_cons,List.cons_append,yar];simp[List.drop_append,List.drop_replicate];rw[yaS (by omega),Nat.sub_sub];rfl
def qel {v:List α}{z x : α}{g:Nat}(h:v.length=i) (hg:0<g):(v++List.replicate g z).set i x=v ++ [x]++List.replicate (g-1) z:=by
 obtain⟨m,rfl⟩ : ∃ m,g=m+1:=⟨g-1,by omega⟩;rw[List.set_append_right _ _ (by omega)];simp[h,List.replicate_succ]
def qni {x:D}:wk1 x x:=by unfold wk1;split <;> simp_all
def qnj : ∀ {l:List D},wkL l l
 | []=>trivial
 | x::r=>⟨qni,qnj⟩
def qnk {x:D}:wk2 x x:=by
 cases x with
 | agg cs=>exact qnj
 | _=>simp only[wk2];exact qni
def qnl : ∀ {l:List D},wkT l l
 | []=>trivial
 | x::r=>⟨qnk,qnl⟩
@[go_sem] def wk_self {x:D}:wk x x=True:=by
 refine eq_true ?_;cases x with
 | tup cs=>exact qnl
 | _=>simp only[wk];exact qnk
def qag {rows:List (List Bool)}(h:i<rows.length):(rows.map fun x=>dBs x).getD i .nil=dBs (rows.getD i []):=getD_lt _ _ _ _ _ h
@[go_sem] def zqi {l':List (List Bool)}:(l.map (fun x=>dBs x)=l'.map fun x=>dBs x)=(l=l'):=qks fun x y h=>by simpa [go_sem] using h
@[go_sem] def zqj {x:List Bool}:l.map (fun x=>dBs x) ++ [D.lst 1 (x.map D.bool)]=(l ++ [x]).map fun x=>dBs x:=by simp
@[go_sem] def zqk:(([]:List D)=l.map fun x=>dBs x)=(l=[]):=propext ⟨fun h=>by cases l with|nil=>rfl|cons x r=>simp at h,fun h=>by rw[h];rfl⟩
@[go_sem] def zql {n:Nat}:(l.map fun x=>dBs x).take n=(l.take n).map fun x=>dBs x:=by simp
def qg9 {c:Circ}{st ins:List Bool}:qdu c st ins 0=false::(ins++st):=rfl
end Go.VL
namespace Go.VL
set_option linter.defProp false
variable {E:Env}{Q:Post}{fr:Fr}{H:List R}{all rest:List Oper}{ks:List Item}
def qjH (hT:TOK E.P E.T) {o:Oper}(hg:o.guard=none) {vc:Prop}{x:I}(hp:sopP E.T fr H o.op=some (vc,x)) (hvc:vc) (h:opsW E all rest ks Q (fr.put o.dst x) H):opsW E all (o::rest) ks Q fr H:=by
 intro S φ a w Qr hn s hf hq;refine wpList_plain hg fun Kr hKr=>?_
 obtain⟨v,hv,hr⟩:=qbO hT s hf hp hvc;unfold Oper.wp;rw[hr w (fun _=>Agree.refl w),Oper.upon_value];exact hKr _ _ (h S φ _ w Qr hn s (hf.put o.dst hv) hq)
def qkw (hT:TOK E.P E.T) {dst:Option Tmp}{t t' ty:Nat}{y:Operand}{pos:String}{af:Array Edge}{k e:Nat}{l:List D}{ti:TI}(hti:E.T t=some ti) (hk:ti.ty=.slice e) (hc:evc fr y) (hx:evx fr y=.d (.lst k l))
  (h : ∀ b:Bool,(b=true->l=[])->opsW E all rest ks Q (fr.put dst (.d (.bool b))) H):opsW E all (⟨dst,.binOp .eql t y (.const (.slice none 0 0)) t',ty,pos,af,none⟩::rest) ks Q fr H:=by
 intro S φ a w Qr hn s hf hq;refine wpList_plain rfl fun Kr hKr=>?_
 have hv:=hf.evx y hc;rw[hx] at hv;have hz:=hv.fz;have hu:=(hT _ _ hti).und_slice hk;have key : ∃ ad n cap,a.eval y=.slice ad n cap/\(ad.isNone=true->l=[]):=by
  generalize a.eval y=vx at hz;cases hz with
  | lst0 _=>exact⟨_,_,_,rfl,fun _=>rfl⟩
  | lst _ _ _ _ _ _ _ _ _=>exact⟨_,_,_,rfl,fun h=>by simp at h⟩
 obtain⟨ad,n,cap,he,hb⟩:=key;unfold Oper.wp;have hr:(execOp a.eval ⟨dst,.binOp .eql t y (.const (.slice none 0 0)) t',ty,pos,af,none⟩).run E.P w=.ok (.value (.bool ad.isNone)) w:=by
  have hcn:a.eval (.const (.slice none 0 0))=.slice none 0 0:=rfl;simp only[execOp,he,hcn,eqGuard_at_slice,Sem.run_bind,Sem.run_pure,Result.andThen_ok,run_eql_slice_nil' hu]
 rw[hr,Oper.upon_value];exact hKr _ _ (h ad.isNone hb S φ _ w Qr hn s (hf.put dst (.d .bool)) hq)
def qkx (hT:TOK E.P E.T) (f:Nat) (h:exec E f ks Q fr H):opsW E all [] ks Q fr H:=by
 intro S φ a w Qr hn s hf hq;exact hq a w S φ fr H s hf (Ext.refl ..) (Tr.refl hn) (qfy hT f h)
def qiF (h:qbR E ks Q .normal fr H):opsW E all [] ks Q fr H:=by
 intro S φ a w Qr hn s hf hq;exact hq a w S φ fr H s hf (Ext.refl ..) (Tr.refl hn) h
def qdF {id:Nat}{ops:Array Oper}(h:opsW E ops.toList ops.toList ks Q fr H):iwp E.P E.n (.region id ops false) (qbR E ks Q) fr H:=
 qjs (by unfold opsW at h;simpa using h)
def qdv {x y:Code}(h:iwp E.P E.n x (qbR E (.code y::ks) Q) fr H):iwp E.P E.n (.seq x y) (qbR E ks Q) fr H:=qoN h
end Go.VL
namespace Go.VL
set_option linter.defProp false
variable {x y:R}{g k:Nat}{dp:DP}{l:List D}{H':List R}{m:List (Nat×I)}
variable {E:Env}{P:Program}{Q:Post}{S:Nat->Prop}{φ : List (List Nat)}{fr:Fr}{H:List R}{w:World}{n:Nat}
def fitL (K:List R):List I->List I->Prop
 | [],[]=>True
 | x::r,y::s=>fit1 K x y/\fitL K r s
 | _,_=>False
def qiG (K:List R):R->R->Prop
 | .box cs,.box cs'=>fitL K cs cs'
 | x,.dead g=>x.gen<=g
 | .row g k dp l,y=>dp.shut=true/\fitR (.row g k dp l) y
 | x,y=>fitR x y
def qlt (K:List R):List R->List R->Prop
 | _,[]=>True
 | x::r,y::s=>qiG K x y/\qlt K r s
 | [],_::_=>False
def fit2 (n nt:Nat) (fr:Fr) (H:List R) (m:List (Nat×I)) (H':List R):Prop:=
 fr.n=nt/\n<=H'.length/\fitF (qct H'.length H) fr m/\qlt (qct H'.length H) H H'/\qiq H'.length m/\qef H'.length H'
def qnm {K:List R} : ∀ {cs cs':List I},fitL K cs cs'->cs.length=cs'.length/\∀ j,j<cs.length->fit1 K (cs.getD j .junk) (cs'.getD j .junk)
 | [],[],_=>⟨rfl,fun j hj=>by simp at hj⟩
 | x::r,y::s,h=>by
  obtain⟨h1,h2⟩:=qnm h.2;refine⟨by simp[h1],fun j hj=>?_⟩;cases j with
  | zero=>exact h.1
  | succ j=>simpa using h2 j (by simpa using hj)
 | [],_::_,h=>h.elim
 | _::_,[],h=>h.elim
def qiH {K:List R} : ∀ {H H':List R},qlt K H H'->H'.length<=H.length/\∀ (i:Nat) (y:R),H'[i]?=some y->∃ x:R,H[i]?=some x/\qiG K x y
 | H,[],_=>by simp
 | x::r,y::s,h=>by
  obtain⟨h1,h2⟩:=qiH h.2;refine⟨by simp;omega,fun i z hz=>?_⟩;cases i with
  | zero=>simp at hz;subst hz;exact⟨x,rfl,h.1⟩
  | succ i=>simpa using h2 i z (by simpa using hz)
 | [],_::_,h=>h.elim
def qem {K:List R}(h:qiG K x y):(∃ cs cs',x=.box cs/\y=.box cs'/\fitL K cs cs')∨(fitR x y/\(∀ cs,y≠.box cs)/\∀ g k dp l,x=.row g k dp l->dp.shut=true)∨(∃ g,y=.dead g/\x.gen<=g):=by
 cases y with
 | dead g=>exact .inr (.inr ⟨g,rfl,by cases x <;> exact h⟩)
 | _=>
  cases x with
  | box cs=>
   first
    | exact .inl ⟨_,_,rfl,rfl,h⟩
    | exact .inr (.inl ⟨h,by simp,by simp⟩)
  | row g k dp l=>
   refine .inr (.inl ⟨h.2,fun cs hy=>?_,fun g k dp l hx=>by cases hx;exact h.1⟩);cases hy;all_goals (exfalso;revert h;simp[qiG,VL.fitR])
  | _=>
   refine .inr (.inl ⟨h,fun cs hy=>?_,by simp⟩);cases hy;all_goals (exfalso;revert h;simp[qiG,VL.fitR])
def noBox:R->R
 | .box _=>.dead 0
 | .row g _ (.own (_::_)) _=>.dead g
 | r=>r
def qoi (h:dp.shut=true):noBox (.row g k dp l)=.row g k dp l:=by
 match dp,h with
 | .fz,_=>rfl
 | .own [],_=>rfl
 | .own (_::_),h=>simp[DP.shut] at h
def qiI {S S':Nat->Prop}{φ φ':List (List Nat)}{H:List R}{w:World}{fp:List Nat}(hd:dp.shut=true) (hS : ∀ b,S b->S' b) (h:RRel S φ H w fp (.row g k dp l)):RRel S' φ' H' w fp (.row g k dp l):=by
 obtain⟨h1,h2,h3,h4,h5⟩:=h;refine⟨h1,h2,h3,h4,?_⟩;rcases h5 with h5|⟨b,rest,arr,ty,e1,e2,e3,e4⟩
 ·exact .inl h5
 ·refine .inr ⟨b,rest,arr,ty,e1,e2,e3,?_⟩;match dp,hd with
  | .fz,_=>exact⟨e4.1,fun j hj=>(e4.2 j hj).mono hS fun _ _=>rfl⟩
  | .own [],_=>exact e4
  | .own (_::_),hd=>simp[DP.shut] at hd
def Sim.noBox (s:Sim S φ H w):Sim S φ (H.map noBox) w:=by
 refine⟨by rw[s.len,yaw],s.nd,s.dj,s.lt,s.off,s.slt,fun i r hr=>?_⟩;simp only[List.getElem?_map,Option.map_eq_some_iff] at hr;obtain⟨x,hx,rfl⟩:=hr;have:=s.rel i x hx;cases x with
 | box cs=>trivial
 | row g k dp l=>
  match dp,this with
  | .fz,this=>exact qiI rfl (fun _ h=>h) this
  | .own [],this=>exact qiI rfl (fun _ h=>h) this
  | .own (_::_),_=>trivial
 | map es=>exact this
 | val x=>exact this
 | dead g=>exact this
def qiJ (m:Nat) : ∀ (H:List R),qef m (H.map VL.noBox)
 | []=>trivial
 | r::l=>⟨by
   cases r with
   | row g k dp l=>match dp with|.fz=>trivial|.own []=>trivial|.own (_::_)=>trivial
   | _=>simp only[VL.noBox,R.idlt],qiJ m l⟩
def qoj {nt:Nat}(h1:fr.n=nt) (h2:n<=H'.length)
  (h3 : ∀ S φ w a,Sim S φ H w->FrR S φ H w fr a->∀ t,V (fun b=>S b∨Foot (qdN H'.length φ) b) (φ.take H'.length) (H.take H'.length) w (look t m) (a.tmps.getD t undef))
  (h4:qlt (qct H'.length H) H H') (h6:qef H'.length H'):Ghost n fr H ⟨nt,m⟩ H':=by
 obtain⟨e2,e1⟩:=qiH h4;intro S φ w a hn s hf;have hl0:(H.map VL.noBox).length=H.length:=by simp
 obtain⟨s2,t2,x2⟩:=qiz s.noBox (n:=H'.length) (by rw[hl0];exact e2) (by rw[<-List.map_take];exact qiJ _ _);have hget : ∀ i,i<H'.length->(φ.take H'.length).getD i [] = φ.getD i []:=fun i hi=>getD_take _ _ _ _ hi
 have htr : ∀ (φ0:List (List Nat)) (G:List R),H'.length<=G.length->(∀ i,i<H'.length->G[i]?=H[i]?)->(∀ i,i<H'.length->φ0.getD i [] = φ.getD i [])->∀ S0:Nat->Prop,(∀ b,S0 b->S b∨Foot (qdN H'.length φ) b)->
   Tr H'.length S0 φ0 G w (fun b=>S b∨Foot (qdN H'.length φ) b) (φ.take H'.length) H' w:=by
  intro φ0 G hG hGe hφ0 S0 hS0;refine⟨hS0,fun _ _=>rfl,hG,yad _,?_,?_,?_,?_,?_⟩
  ·intro i hi;obtain⟨x,hx,hxy⟩:=e1 i (H'.getD i (.dead 0)) (by simp[List.getD,hi]);have e:G.getD i (.dead 0)=x:=by simp[List.getD,hGe i hi,hx]
   rw[e];rcases qem hxy with⟨cs,cs',h1,h2,_⟩|⟨hxy,_,_⟩|⟨g,h1,h2⟩
   rotate_left 2
   ·rw[h1];exact h2
   ·rw[h1,h2];exact yad _
   ·rcases qcq hxy with h1|⟨g,k,l,h1,h2,_⟩
    ·rw[h1];exact yad _
    ·rw[h1,h2];exact yad _
  ·intro i g k dp' l' hi hl';obtain⟨x,hx,hxy⟩:=e1 i _ hl';rcases qem hxy with⟨cs,cs',h1,h2,_⟩|⟨hxy,_,_⟩|⟨g,h1,h2⟩
   rotate_left 2
   ·cases h1
   ·cases h2
   ·rcases qcq hxy with rfl|⟨g,k,l,rfl,h2,_⟩
    ·exact .inr ⟨dp',l',by rw[hGe i hi];exact hx,by rw[hget i hi,hφ0 i hi],yad _,fun b rest arr ty e1 e2=>⟨arr,ty,e2,yad _⟩⟩
    ·cases h2;exact .inr ⟨true,_,by rw[hGe i hi];exact hx,by rw[hget i hi,hφ0 i hi],yad _,fun b rest arr ty e1 e2=>⟨arr,ty,e2,yad _⟩⟩
  ·intro i cs hi hl';obtain⟨x,hx,hxy⟩:=e1 i _ hl';rcases qem hxy with⟨cs1,cs',h1,h2,_⟩|⟨_,hnb,_⟩|⟨g,h1,h2⟩
   rotate_left 2
   ·cases h1
   ·exact⟨cs1,by rw[hGe i hi,hx,h1],by rw[hget i hi,hφ0 i hi]⟩
   ·exact absurd rfl (hnb cs)
  ·intro i cs hi hl';obtain⟨x,hx,hxy⟩:=e1 i _ hl';rcases qem hxy with⟨cs1,cs',h1,h2,_⟩|⟨hxy,_⟩|⟨g,h1,h2⟩
   rotate_left 2
   ·cases h1
   ·cases h2
   ·rcases qcq hxy with rfl|⟨g,k,l,rfl,h2,_⟩
    ·exact⟨cs,by rw[hGe i hi];exact hx,by rw[hget i hi,hφ0 i hi]⟩
    ·cases h2
  ·intro i z hi hl';obtain⟨x,hx,hxy⟩:=e1 i _ hl';rcases qem hxy with⟨cs1,cs',h1,h2,_⟩|⟨hxy,_⟩|⟨g,h1,h2⟩
   rotate_left 2
   ·cases h1
   ·cases h2
   ·rcases qcq hxy with rfl|⟨g,k,l,rfl,h2,_⟩
    ·exact⟨by rw[hGe i hi];exact hx,by rw[hget i hi,hφ0 i hi],fun _ _=>rfl⟩
    ·cases h2
 have hlt:(H.take H'.length).length=H'.length:=by simp;omega
 have tA:=htr φ H e2 (fun _ _=>rfl) (fun _ _=>rfl) S (fun _ h=>.inl h);have tB:=htr (φ.take H'.length) (H.take H'.length) (by omega) (fun i hi=>qbu _ _ _ hi) hget (fun b=>S b∨Foot (qdN H'.length φ) b) (fun _ h=>h);have s3:Sim (fun b=>S b∨Foot (qdN H'.length φ) b) (φ.take H'.length) H' w:=by
  refine⟨by rw[s2.len];simp;omega,s2.nd,s2.dj,s2.lt,s2.off,s2.slt,fun i y hy=>?_⟩;have hi:i<H'.length:=(List.getElem?_eq_some_iff.1 hy).1;obtain⟨x,hx,hxy⟩:=e1 i y hy;rw[hget i hi];rcases qem hxy with⟨cs,cs',rfl,rfl,hfl⟩|⟨hxy,hnb,hshut⟩|⟨g,rfl,_⟩
  rotate_left 2
  ·trivial
  ·obtain⟨b,arr,ty,q1,q2,q3,q4⟩:=s.rel i _ hx;obtain⟨l1,l2⟩:=qnm hfl;refine⟨b,arr,ty,q1,q2,by omega,fun j hj=>?_⟩;obtain⟨o1,v1⟩:=q4 j (by omega);refine⟨o1,?_⟩;have:=qs1 s e2 (l2 j (by omega)) (qbQ (qfc h6 i _ hy) j hj) v1;exact this.tr (by rw[hlt];exact tB)
  ·have hx2:((H.map VL.noBox).take H'.length)[i]?=some (VL.noBox x):=by rw[qbu _ _ _ hi,List.getElem?_map,hx];rfl
   have hrel:=s2.rel i _ hx2;rw[hget i hi] at hrel;rcases qcq hxy with rfl|⟨g,k,l,rfl,rfl,hsc⟩
   ·cases x with
    | box cs=>exact absurd rfl (hnb cs)
    | row g k dp l=>
     have hd:=hshut _ _ _ _ rfl;rw[qoi hd] at hrel;exact qiI hd (fun _ h=>h) hrel
    | map es=>exact hrel
    | val x=>exact hrel
    | dead g=>exact hrel
   ·obtain⟨h1,h2,h3,h4,h5⟩:=hrel;refine⟨h1,h2,h3,h4,?_⟩;rcases h5 with h5|⟨b,rest,arr,ty,e1,e2,e3,F,hF,_,hr⟩
    ·exact .inl h5
    ·have hall:=qf5 hsc;have hz : ∀ j,j<(flat l).length->F j=[]:=fun j hj=>qpu (hr j hj) (hall _ (getD_mem hj))
     refine .inr ⟨b,rest,arr,ty,e1,e2,e3,?_,fun j hj=>qh6 (hr j hj) (hall _ (getD_mem hj)) _⟩;rw[hF];refine List.flatMap_eq_nil_iff.2 fun j hj=>hz j (List.mem_range.1 hj)
 refine⟨_,_,s3,⟨hf.defers,hf.size.trans h1,fun t=>?_⟩,x2,tA.weaken h2⟩;have:=h3 S φ w a s hf t;exact this.tr (by rw[hlt];exact tB)
def qha {nt:Nat}(h:fit2 n nt fr H m H'):Ghost n fr H ⟨nt,m⟩ H':=by
 obtain⟨h1,h2,h3,h4,h5,h6⟩:=h;exact qoj h1 h2 (fun S φ w a s hf=>qiA s (qiH h4).1 hf m h3 h5) h4 h6
def iwp_fit {c:Code}{nt:Nat}(m:List (Nat×I)) (H':List R) (hn:fr.n=nt) (h:fit2 E.n nt fr H m H') (hr:iwp E.P E.n c Q ⟨nt,m⟩ H'):iwp E.P E.n c Q fr H:=qgl (qha h) hr
structure Held (C:Prop):Prop where
 get:C
def cutP {C Q:Prop}(f:Held C->Q) (h:C):Q:=f ⟨h⟩
section rules
variable {σ : Type}{F : σ->List (Nat×I)}{Hp : σ->List R}{inv : σ->Prop}{mu : σ->Nat}{s : σ}{ks:List Item}{f nt:Nat}{K:List R}
@[go_sem] def zqm:fit2 n nt fr H m H'=(fr.n=nt/\n<=H'.length/\fitF (qct H'.length H) fr m/\qlt (qct H'.length H) H H'/\qiq H'.length m/\qef H'.length H'):=rfl
@[go_sem] def zqn:qlt K H []=True:=by cases H <;> rfl
@[go_sem] def zqo {r q:List R}:qlt K (x::r) (y::q)=(qiG K x y/\qlt K r q):=rfl
@[go_sem] def zqp {cs cs':List I}:qiG K (.box cs) (.box cs')=fitL K cs cs':=rfl
@[go_sem] def zqq {g' k':Nat}{dp':DP}{l':List D}:qiG K (.row g k dp l) (.row g' k' dp' l')=(dp.shut=true/\fitR (.row g k dp l) (.row g' k' dp' l')):=rfl
@[go_sem] def zqr {es es':List (D×D)}:qiG K (.map es) (.map es')=(es=es'):=by simp[qiG,fitR]
@[go_sem] def zqs:qiG K x (.dead g)=(x.gen<=g):=by cases x <;> rfl
@[go_sem] def zqt:fitL K [] []=True:=rfl
@[go_sem] def zqu {x y:I}{r s:List I}:fitL K (x::r) (y::s)=(fit1 K x y/\fitL K r s):=rfl
@[go_sem] def zqv {i:Nat}{y:I}:fit1 K (.map i) y=fitS K (.map i) y:=qiB nofun
end rules
end Go.VL
namespace Go.VL
set_option linter.defProp false
variable {E:Env}{P:Program}{Q:Post}{S:Nat->Prop}{φ : List (List Nat)}{fr:Fr}{H:List R}{w:World}{n:Nat}
section rules
variable {i g k:Nat}{l:List D}
end rules
end Go.VL
namespace Go.VL
set_option linter.defProp false
end Go.VL
namespace Go.VL
set_option linter.defProp false
variable {c:D}{r q:List R}{α:Type}{idx off t':Nat}{x:Array Operand}{op:Op}{S0:Nat->Prop}{φ0:List (List Nat)}{w0:World}{o:Oper}{all:List Oper}{ts:Array TypeId}
variable {E:Env}{P:Program}{Q:Post}{S:Nat->Prop}{φ : List (List Nat)}{fr:Fr}{H:List R}{w:World}{n:Nat}
def qhb (hvc:(shut H).1):Ghost n fr H fr (shut H).2:=by
 intro S φ w a hn s hf;obtain⟨φ',s',t,e⟩:=qg3 s hvc;exact⟨S,φ',s',hf.tr t,e,t.weaken hn⟩
def shutQ (k:List R->Prop) (q:Prop×List R):Prop:=q.1/\k q.2
def qlu (H:List R) (k:List R->Prop):Prop:=shutQ k (shut H)
@[go_sem] def zqw {k:List R->Prop}:qlu H k=shutQ k (shut H):=rfl
@[go_sem] def zqx {k:List R->Prop}{c:Prop}:shutQ k (c,H)=(c/\k H):=rfl
def qpG {Po:I->List R->Prop}{r:I}(h:qlu H (fun H'=>endI n Po r H')):endI n Po r H:=by
 obtain⟨fr',H',g,h1,h2⟩:=h.2;exact⟨fr',H',(qhb h.1).trans g,h1,h2⟩
def qlv (E:Env) (ks:List Item) (Q:Post) (f:Nat) {σ : Type}(nt:Nat) (F : σ->List (Nat×I)) (Hp : σ->List R) (inv : σ->Prop) (mu : σ->Nat) (s : σ):Post
 | .normal,fr,H=>qlu H (fun H'=>∃ s',inv s'/\mu s'<mu s/\fit2 E.n nt fr H' (F s') (Hp s'))
 | .exit id,fr,H=>qds E f (exK id ks) id ks Q fr H
 | e,fr,H=>qbR E ks Q e fr H
def qaf (hT:TOK E.P E.T) {σ : Type}(F : σ->List (Nat×I)) (Hp : σ->List R) (inv : σ->Prop) (mu : σ->Nat) (ob:List (Nat×Nat×Nat×Bool)) (own:List (Nat×Nat×Bool)) (f1 f2:Nat) {ks:List Item}{c:Code}
  (hs:qlu H (fun H=>qmz ob H/\qlo own fr (ownB ob H)/\∃ s,inv s/\fit2 E.n fr.n (qeW own fr (ownB ob H)).1 (qeW own fr (ownB ob H)).2 (F s) (Hp s)))
  (hr : ∀ s,inv s->qaZ E f1 c [] (qlv E ks Q f2 fr.n F Hp inv mu s) ⟨fr.n,F s⟩ (Hp s)):iwp E.P E.n (.loop c) (qbR E ks Q) fr H:=by
 obtain⟨hsv,hbc,hvc,s0,hi0,hf0⟩:=hs;refine qle (fun m fr' H'=>∃ s,inv s/\mu s=m/\fr'=⟨fr.n,F s⟩/\H'=Hp s) (mu s0) ⟨_,_,(((qhb hsv).trans (qg8 ob hbc)).trans (qd0 own hvc)).trans (qha hf0),s0,hi0,rfl,rfl,rfl⟩ ?_;rintro m fr' H' ⟨s,hi,rfl,rfl,rfl⟩;refine qhV (qc9 hT f1 (hr s hi)) ?_;intro e fr' H' hq;cases e with
 | normal=>
  obtain⟨hsv,s',hi',hmu,hfit⟩:=hq;exact⟨_,_,(qhb hsv).trans (qha hfit),mu s',hmu,s',hi',rfl,rfl,rfl⟩
 | exit id=>
  simp only[qlv] at hq;refine qdD id ks ?_;generalize exK id ks=o at hq;match f2,o with
  | 0,_=>simp only[qds] at hq
  | f+1,some ks'=>
   simp only[qds] at hq;exact qfy hT f hq
  | f+1,none=>
   simp only[qds] at hq;exact hq
 | goto l=>exact hq
 | ret=>exact hq
 | panic ch=>exact hq
 | outgrown=>exact hq
section rules
variable {σ : Type}{F : σ->List (Nat×I)}{Hp : σ->List R}{inv : σ->Prop}{mu : σ->Nat}{s : σ}{ks:List Item}{f nt:Nat}
@[go_sem] def qrQ:qlv E ks Q f nt F Hp inv mu s .normal fr H=qlu H (fun H'=>∃ s',inv s'/\mu s'<mu s/\fit2 E.n nt fr H' (F s') (Hp s')):=rfl
@[go_sem] def zqy {id:Nat}:qlv E ks Q f nt F Hp inv mu s (.exit id) fr H=qds E f (exK id ks) id ks Q fr H:=rfl
@[go_sem] def zqz:qlv E ks Q f nt F Hp inv mu s .ret fr H=qbR E ks Q .ret fr H:=rfl
end rules
@[go_sem] def qs9 {β:Type}{f : α->β}{l:List α}:(l.map f).take l.length=l.map f:=yaa (by simp)
def putC1 {l:List D}:putC 1 l idx off c=l.set idx c:=rfl
def qgr {f : α->D}{l:List α}{y : α}:putC 1 (l.map f) idx off (f y)=(l.set idx y).map f:=by
 rw[putC1,List.map_set]
def qhZ {f : α->D}{k:Nat}(hk:k≠1) {l:List α}{z : α}{y : α}(hi:idx<l.length) (h:D.agg (setD (qai (f (l.getD idx z)) 0 k) off [c])=f y):putC k (l.map f) idx off c=(l.set idx y).map f:=by
 unfold putC;rw[show decide (k=1)=false by simp[hk]];simp only;have e:(l.map f).getD idx .nil=f (l.getD idx z):=by simp[List.getD,hi]
 rw[e,h,List.map_set]
def qiK {k:Nat}{l:List D}:(putC k l idx off c).length=l.length:=by
 unfold putC;split <;> simp
def putE (one:Bool) (k:Nat) (x:D) (off:Nat) (c:D):D:=
 match one with
 | true=>c
 | false=>.agg (setD (qai x 0 k) off [c])
@[go_sem] def zqA {k:Nat}{x:D}:putE true k x off c=c:=rfl
@[go_sem] def zqB {k:Nat}{x:D}:putE false k x off c=.agg (setD (qai x 0 k) off [c]):=rfl
@[go_sem] def qnn {k:Nat}{l:List D}{x:D}:putC k (l ++ [x]) l.length off c=l ++ [putE (decide (k=1)) k x off c]:=by
 unfold putC putE;cases decide (k=1) <;> simp[List.getD]
@[go_sem] def qpH {f : α->D}{k:Nat}{l:List α}{x:D}:putC k (l.map f ++ [x]) l.length off c=l.map f ++ [putE (decide (k=1)) k x off c]:=by
 have:=qnn (k:=k) (l:=l.map f) (x:=x) (c:=c) (off:=off)
 rwa [yaw] at this
@[go_sem] def zqC {k:Nat}{l:List D}{x:D}:putC k (l.set idx x) idx off c=l.set idx (putE (decide (k=1)) k x off c):=by
 unfold putC putE;cases decide (k=1)
 ·by_cases h:idx<l.length
  ·simp[List.getD,h]
  ·have e : ∀ y:D,l.set idx y=l:=fun y=>yaY (by omega)
   simp only[e]
 ·simp
def LeftB (m:Nat) (S:Nat->Prop) (φ : List (List Nat)) (H:List R) (w:World) (K:Fr->List R->Prop) (a':Act) (w':World):Prop:=
 ∃ S' φ' fr' H',Sim S' φ' H' w'/\FrR S' φ' H' w' fr' a'/\Ext S φ w S' φ' w'/\Tr m S φ H w S' φ' H' w'/\K fr' H'
def qfA {p:Operand×List Operand}(h:qbh op=some p):isApp op=false:=by
 unfold qbh at h;unfold isApp;split at h
 ·rfl
 ·cases h
def qky (fr:Fr) (o:Oper):Prop:=
 match o.op with
 | .load _ p=>(∃ d,evx fr p=.d d)∨∃ i o,evx fr p=.ptr i o
 | op=>qe6 op=false
def isPD:I->Prop
 | .d _=>True
 | .ptr _ _=>True
 | _=>False
def qdO:List R->List R->Prop
 | [],_=>True
 | .box _::r,.box _::q=>qdO r q
 | .box _::_,_=>False
 | _::r,_::q=>qdO r q
 | _::_,[]=>False
def qiL : ∀ {H0 H:List R},qdO H0 H->∀ {j:Nat}{cs:List I},H0[j]?=some (.box cs)->∃ cs',H[j]?=some (.box cs')
 | [],H,_,j,cs,e=>by simp at e
 | x::r,[],h,j,cs,e=>by cases x <;> exact h.elim
 | x::r,y::q,h,0,cs,e=>by
  simp only[List.getElem?_cons_zero,yab] at e;subst e;cases y <;> first|exact⟨_,rfl⟩|exact h.elim
 | x::r,y::q,h,j+1,cs,e=>by
  have h':qdO r q:=by
   cases x <;> cases y <;> first|exact h|exact h.elim
  simpa using qiL h' (j:=j) (by simpa using e)
def qgs (E:Env) (H0:List R) (fr:Fr) (H:List R) (o:Oper):Prop:=qdO H0 H/\(isApp o.op=true∨qbD E fr o)
def qb7 {E:Env}{S:Nat->Prop}{φ:List (List Nat)}{H0 H:List R}{w w':World}{fr:Fr}(s:Sim S φ H w) (hag:(qbD E fr o->Agree w w')/\(isApp o.op=true->qbv S φ H w w')) (hk:qgs E H0 fr H o)
  (h:qbv S0 φ0 H0 w0 w) (he:Ext S0 φ0 w0 S φ w) (ht:Tr H0.length S0 φ0 H0 w0 S φ H w):qbv S0 φ0 H0 w0 w':=by
 have hb:qbv S φ H w w':=by
  rcases hk.2 with h1|h1
  ·exact hag.2 h1
  ·exact qcs s (hag.1 h1)
 refine⟨fun b hS=>(hb.1 b (he.sub b hS)).trans (h.1 b hS),fun j cs b hj hm=>?_⟩;obtain⟨cs',hj'⟩:=qiL hk.1 hj;obtain⟨_,_,e⟩:=ht.box j cs' (List.getElem?_eq_some_iff.1 hj).1 hj';exact(hb.2 j cs' b hj' (by rw[e];exact hm)).trans (h.2 j cs b hj hm)
section modeB
variable {a:Act}
def qb8 (hT:TOK E.P E.T) {K:Fr->List R->Prop}(m:Nat) (F:Nat) (hn:m<=H.length) (s:Sim S φ H w) (hf:FrR S φ H w fr a)
  (h:ops' E F all [o] [] (nQ K) fr H) {Kr:Act->World->Prop}{Qr:Exit->Act->World->Prop}(hK : ∀ a' w',((qbD E fr o->Agree w w')/\(isApp o.op=true->qbv S φ H w w'))->LeftB m S φ H w K a' w'->Kr a' w') :
  if Region.wanted o (yielded all.toArray a.tmps) then o.wp E.P a w Kr Qr∨(o.asks E.P a w/\LetsOut Qr) else Kr (a.put o.dst undef) w:=by
 have fin : ∀ (f:Nat) {fr':Fr}{H':List R},ops' E f all [] [] (nQ K) fr' H'->K fr' H':=by
  intro f fr' H' h;match f with
  | 0=>simp only[ops'] at h
  | 1=>simp only[ops',exec] at h
  | f+2=>simpa only[ops',exec,nQ] using h
 have same : ∀ {fr':Fr}{a':Act},FrR S φ H w fr' a'->K fr' H->Kr a' w:=fun hf' hk=>hK _ _ ⟨fun _=>Agree.refl w,fun _=>qcs s (Agree.refl w)⟩ ⟨S,φ,_,H,s,hf',Ext.refl ..,Tr.refl hn,hk⟩
 match F with
 | 0=>simp only[ops'] at h
 | F+1=>
 simp only[ops'] at h;split at h
 ·rename_i hgd;have hw:Region.wanted o (yielded all.toArray a.tmps)=true:=by simp only[Region.wanted,hgd]
  simp only[hw,if_true];left;split at h
  ·rename_i g args ho;refine qcx ho s hf h fun S' φ' H' w' r v s' hf' hv he ht hag hk=>hK _ _ ⟨fun hk=>hag (by simpa only[qbD,ho] using hk),fun ha=>by rw[qfA ho] at ha;cases ha⟩ ?_
   match F with
   | 0=>simp only[opsK] at hk
   | f+1=>
    simp only[opsK] at hk;exact⟨S',φ',_,H',s',hf'.put o.dst hv,he,ht.weaken hn,fin _ hk⟩
  ·rename_i hnc;split at h
   ·rename_i vc x hp;obtain⟨hvc,hk⟩:=h;obtain⟨v,hv,hr⟩:=qbO hT s hf hp hvc;unfold Oper.wp;rw[hr w (fun _=>Agree.refl w),Oper.upon_value];exact same (hf.put o.dst hv) (fin _ hk)
   ·rename_i hnP;split at h
    ·rename_i vc x H' hp;obtain⟨hvc,hk⟩:=h;obtain⟨v,w',φ',hr,s',ht,he,hv⟩:=qb6 hT s hf hp hvc;have hag:qbD E fr o->Agree w w':=qej hT s hf hnc hp hvc hr;have hbx:isApp o.op=true->qbv S φ H w w':=fun ha=>by
      obtain⟨v2,w2,hr2,hb2⟩:=qm4 hT s hf hp hvc ha;have hww:w2=w':=by
       rcases hr with h1|⟨h1,_⟩ <;> rw[h1] at hr2 <;> injection hr2 with _ h3 <;> exact h3.symm
      exact hww▸hb2
     have fin2:Kr (a.put o.dst v) w':=hK _ _ ⟨hag,hbx⟩ ⟨S,φ',_,H',s',(hf.tr ht).put o.dst hv,he,ht.weaken hn,fin _ hk⟩;unfold Oper.wp;rcases hr with hr|⟨hr,rfl⟩
     ·rw[hr,Oper.upon_value];exact fin2
     ·rw[hr,Oper.upon_skip];exact fin2
    ·split at h
     ·rename_i vc x H' hp;obtain⟨hvc,hk⟩:=h;obtain⟨v,w',φ',hr,hag,s',ht,he,hv,_⟩:=qeK hT s hf hp hvc;have fin2:Kr (a.put o.dst v) w':=hK _ _ ⟨fun _=>hag,fun _=>qcs s hag⟩ ⟨S,φ',_,H',s',(hf.tr ht).put o.dst hv,he,ht.weaken hn,fin _ hk⟩;unfold Oper.wp;rw[hr,Oper.upon_value];exact fin2
     split at h
     ·rename_i fc fr1 H1 hfz;split at h
      ·rename_i vc x H' hp;obtain⟨hfc,hvc,hk⟩:=h;obtain⟨S1,φ1,s1,hf1,e1,t1⟩:=qf2 s hf hfz hfc;obtain⟨v,w',φ',hr,s',ht,he,hv⟩:=qb6 hT s1 hf1 hp hvc;have hn1:=yaD hn t1.len;have hag:qbD E fr o->Agree w w':=fun _=>qej hT s1 hf1 hnc hp hvc hr (by
        obtain⟨_,_,_,hop⟩:=qdL hfz;simp[qbD,hop,qbh,memO])
       have fin2:Kr (a.put o.dst v) w':=hK _ _ ⟨hag,fun ha=>by
        obtain⟨_,_,_,hop⟩:=qdL hfz;rw[hop] at ha;cases ha⟩ ⟨S1,φ',_,H',s',(hf1.tr ht).put o.dst hv,e1.trans he,(t1.weaken hn).trans (ht.weaken hn1),fin _ hk⟩
       unfold Oper.wp;rcases hr with hr|⟨hr,rfl⟩
       ·rw[hr,Oper.upon_value];exact fin2
       ·rw[hr,Oper.upon_skip];exact fin2
      ·exact h.elim
     ·exact h.elim
 ·rename_i j want hgd;split at h
  ·rename_i gc e hg;have wanted:gc->Region.wanted o (yielded all.toArray a.tmps)=e:=by
    intro hgc;exact qcj hf hgd hg hgc
   split at h
   ·rename_i g args ho;obtain⟨hgc,h⟩:=h;rw[wanted hgc];unfold qlg at h;split at h
    ·rename_i g' caps hfn;split at h
     ·rename_i hpf;split at h
      ·rename_i vc ds hv;obtain⟨hc,x,hp,hk⟩:=h;match F with
       | 0=>simp only[opsG] at hk
       | F+1=>
       simp only[opsG] at hk;cases e with
       | false=>
        simp only[yah,if_false];exact same (hf.skip o.dst rfl _) (fin _ hk)
       | true=>
        simp only[if_true];left;obtain⟨hc,hvc⟩:=hc rfl;have hp:=hp rfl;refine qcx (E:=E) ho s hf (Kc:=fun r H'=>H'=H/\r=.d x) ?_ ?_
        ·simp only[qfd,hfn,hpf,hv];exact⟨hc,hvc,fun y=>y=x,hp.toE,fun y hy=>.inl ⟨rfl,by rw[hy]⟩⟩
        ·rintro S' φ' H' w' r v s' hf' hv' he ht hag ⟨rfl,rfl⟩;exact hK _ _ ⟨fun hk=>hag (by simpa only[qbD,ho] using hk),fun ha=>by rw[qfA ho] at ha;cases ha⟩ ⟨S',φ',_,_,s',hf'.put o.dst (.cond (fun _=>hv') fun h=>by cases h),he,ht.weaken hn,fin _ hk⟩
      ·exact h.elim
     ·rename_i hpf;cases e with
      | false=>
       obtain⟨x,hk⟩:=h.1 rfl;match F with
       | 0=>simp only[opsG] at hk
       | F+1=>
       simp only[opsG] at hk;simp only[yah,if_false];exact same (hf.skip o.dst rfl _) (fin _ hk)
      | true=>
       simp only[if_true];left;obtain⟨hc,hp⟩:=h.2 rfl;refine qcx (E:=E) ho s hf (Kc:=fun r H'=>opsG E F all [] [] (nQ K) fr o.dst H' (.cond true r)) ?_ ?_
       ·simp only[qfd,hfn,hpf];exact⟨hc,hp⟩
       ·intro S' φ' H' w' r v s' hf' hv' he ht hag hk;match F with
        | 0=>simp only[opsG] at hk
        | F+1=>
        simp only[opsG] at hk;exact hK _ _ ⟨fun hk=>hag (by simpa only[qbD,ho] using hk),fun ha=>by rw[qfA ho] at ha;cases ha⟩ ⟨S',φ',_,_,s',hf'.put o.dst (.cond (fun _=>hv') fun h=>by cases h),he,ht.weaken hn,fin _ hk⟩
     ·rename_i hpf;cases e with
      | false=>
       obtain⟨x,hk⟩:=h.1 rfl;match F with
       | 0=>simp only[opsG] at hk
       | F+1=>
       simp only[opsG] at hk;simp only[yah,if_false];exact same (hf.skip o.dst rfl _) (fin _ hk)
      | true=>
       simp only[if_true];left;have hp:=h.2 rfl;refine qcx (E:=E) ho s hf (Kc:=fun r H'=>opsG E F all [] [] (nQ K) fr o.dst H' (.cond true r)) ?_ ?_
       ·simp only[qfd,hfn,hpf];exact hp
       ·intro S' φ' H' w' r v s' hf' hv' he ht hag hk;match F with
        | 0=>simp only[opsG] at hk
        | F+1=>
        simp only[opsG] at hk;exact hK _ _ ⟨fun hk=>hag (by simpa only[qbD,ho] using hk),fun ha=>by rw[qfA ho] at ha;cases ha⟩ ⟨S',φ',_,_,s',hf'.put o.dst (.cond (fun _=>hv') fun h=>by cases h),he,ht.weaken hn,fin _ hk⟩
    ·exact h.elim
   ·split at h
    ·rename_i vc x hp;obtain⟨hgc,hvc,hk⟩:=h;rw[wanted hgc];cases e with
     | false=>
      simp only[yah,if_false];exact same (hf.skip o.dst rfl _) (fin _ hk)
     | true=>
      simp only[if_true];left;obtain⟨v,hv,hr⟩:=qbO hT s hf hp (hvc rfl);unfold Oper.wp;rw[hr w (fun _=>Agree.refl w),Oper.upon_value];exact same (hf.put o.dst (.cond (fun _=>hv) fun h=>by cases h)) (fin _ hk)
    ·rename_i hnP;split at h
     ·rename_i vc x H' hp;obtain⟨hgc,hk0,hk1⟩:=h;rw[wanted hgc];cases e with
      | false=>
       obtain⟨y,hk⟩:=hk0 rfl;simp only[yah,if_false];exact same (hf.skip o.dst rfl _) (fin _ hk)
      | true=>
       obtain⟨hvc,hk⟩:=hk1 rfl;simp only[if_true];left;obtain⟨v,w',φ',hr,s',ht,he,hv⟩:=qb6 hT s hf hp hvc;have fin2:Kr (a.put o.dst v) w':=hK _ _ ⟨qej hT s hf (by assumption) hp hvc hr,fun ha=>by
        obtain⟨v2,w2,hr2,hb2⟩:=qm4 hT s hf hp hvc ha;have hww:w2=w':=by
         rcases hr with h1|⟨h1,_⟩ <;> rw[h1] at hr2 <;> injection hr2 with _ h3 <;> exact h3.symm
        exact hww▸hb2⟩ ⟨S,φ',_,H',s',(hf.tr ht).put o.dst (.cond (fun _=>hv) fun h=>by cases h),he,ht.weaken hn,fin _ hk⟩
       unfold Oper.wp;rcases hr with hr|⟨hr,rfl⟩
       ·rw[hr,Oper.upon_value];exact fin2
       ·rw[hr,Oper.upon_skip];exact fin2
     ·exact h.elim
  ·exact h.elim
def qpI (hT:TOK E.P E.T) {K:Fr->List R->Prop}(F:Nat) (s:Sim S φ H w) (hf:FrR S φ H w fr a) (hq:plainO o=true) (hpt:qky fr o) (hst:strO E.T o.op=false)
  (h:ops' E F all [o] [] (nQ K) fr H) : ∃ v fr',FrR S φ H w fr' (a.put o.dst v)/\K fr' H/\YieldsIf E.P all.toArray (fun w'=>qe6 o.op=true->qbv S φ H w w') o v a:=by
 have fin : ∀ (f:Nat) {fr':Fr}{H':List R},ops' E f all [] [] (nQ K) fr' H'->K fr' H':=by
  intro f fr' H' h;match f with
  | 0=>simp only[ops'] at h
  | 1=>simp only[ops',exec] at h
  | f+2=>simpa only[ops',exec,nQ] using h
 simp only[plainO,yap,Option.isNone_iff_eq_none] at hq;have noI : ∀ {vc:Prop}{x:I}{H':List R},sopI E.T fr H o.op=some (vc,x,H')->False:=by
  intro vc x H' hp;obtain⟨dst,op,ty,pos,after,guard⟩:=o;simp only at hp hq;cases op with
  | call c=>
   obtain⟨callee,cargs,tys⟩:=c;cases callee with
   | builtin b=>cases b <;> simp[qdc] at hq <;> simp[sopI] at hp
   | value g=>simp[qbh] at hq
   | _=>simp[qdc] at hq
  | _=>first|(simp[qdc] at hq;done)|(simp[sopI] at hp;done)
 have noO : ∀ {vc:Prop}{x:I}{H':List R},sopO E.deep E.T fr H o.op=some (vc,x,H')->False:=by
  intro vc x H' hp;rcases qli hp with⟨t,n,q,h⟩|⟨t,q,h⟩
  ·rw[h] at hq;simp[qdc] at hq
  ·rw[h] at hp;simp only[qky,h] at hpt;simp only[sopO,qhQ] at hp;rcases hpt with⟨d,e⟩|⟨i,o,e⟩ <;> rw[e] at hp <;> cases E.T t <;> simp[qbP] at hp
 have plain : ∀ {vc:Prop}{x:I},sopP E.T fr H o.op=some (vc,x)->vc->∃ v,V S φ H w x v/\∀ w',(qe6 o.op=true->qbv S φ H w w')->(execOp a.eval o).run E.P w'=.ok (.value v) w':=by
  intro vc x hp hvc;by_cases hl : ∃ t q,o.op=.load t q
  ·obtain⟨t,q,hl⟩:=hl;simp only[qky,hl] at hpt;obtain⟨dst,op,ty,pos,after,guard⟩:=o;simp only at hl;subst hl;obtain⟨hc,vc',hp,hvc⟩:=qbn hp hvc;obtain⟨v,hv,hr⟩:=qmk hT s (hf.evx q hc) hpt hp hvc;exact⟨v,hv,fun w' hw'=>by simp[execOp,hr w' (hw' rfl)]⟩
  ·obtain⟨v,hv,hr⟩:=qbO hT s hf hp hvc;refine⟨v,hv,fun w' hw'=>hr w' fun hrd0=>?_⟩;have hrd:qe6 o.op=true:=hrd0.resolve_right (by rw[hst];simp);have:qe6 o.op=false:=by
    simp only[qky] at hpt;split at hpt
    ·rename_i t q e;exact absurd ⟨t,q,e⟩ hl
    ·exact hpt
   rw[this] at hrd;cases hrd
 match F with
 | 0=>simp only[ops'] at h
 | F+1=>
 simp only[ops',hq.2] at h;split at h
 ·rename_i hgd;have hw:Region.wanted o (yielded all.toArray a.tmps)=true:=by simp only[Region.wanted,hgd]
  split at h
  ·rename_i vc x hp;obtain⟨hvc,hk⟩:=h;obtain⟨v,hv,hr⟩:=plain hp hvc;exact⟨v,_,hf.put o.dst hv,fin _ hk,.inl ⟨hw,fun w' hw'=>hr w' hw'⟩⟩
  ·split at h
   ·rename_i vc x H' hp;exact(noI hp).elim
   ·split at h
    ·rename_i vc x H' hp;exact(noO hp).elim
    split at h
    ·rename_i fc fr1 H1 hfz;obtain⟨_,_,_,hop⟩:=qdL hfz;rw[hop] at hq;simp[qdc] at hq
    ·exact h.elim
 ·rename_i j want hgd;split at h
  ·rename_i gc e hg;have wanted:gc->Region.wanted o (yielded all.toArray a.tmps)=e:=by
    intro hgc;exact qcj hf hgd hg hgc
   split at h
   ·rename_i vc x hp;obtain⟨hgc,hvc,hk⟩:=h;have hw:=wanted hgc;cases e with
    | false=>exact⟨undef,_,hf.skip o.dst rfl _,fin _ hk,.inr ⟨hw,rfl⟩⟩
    | true=>
     obtain⟨v,hv,hr⟩:=plain hp (hvc rfl);exact⟨v,_,hf.put o.dst (.cond (fun _=>hv) fun h=>by cases h),fin _ hk,.inl ⟨hw,fun w' hw'=>hr w' hw'⟩⟩
   ·split at h
    ·rename_i vc x H' hp;exact(noI hp).elim
    ·exact h.elim
  ·exact h.elim
def qdP (E:Env) (F:Nat) (l:List Oper) (tails:List Nat) (H0:List R) (K:Fr->List R->Prop):Sch->Fr->List R->Prop
 | .done,fr,H=>K fr H
 | .fst i t,fr,H=>qky fr (opAt l i)/\fstO E (opAt l i)/\ops' E F l [opAt l i] [] (nQ (qdP E F l tails H0 K t)) fr H
 | .one i t,fr,H=>(tails.contains i=false->qgs E H0 fr H (opAt l i))/\ops' E F l [opAt l i] [] (nQ (qdP E F l tails H0 K t)) fr H
 | .two i t j u,fr,H=>((tails.contains i=false->qgs E H0 fr H (opAt l i))/\ops' E F l [opAt l i] [] (nQ (qdP E F l tails H0 K t)) fr H)/\
   ((tails.contains j=false->qgs E H0 fr H (opAt l j))/\ops' E F l [opAt l j] [] (nQ (qdP E F l tails H0 K u)) fr H)
 | .three i t j u k v,fr,H=>((tails.contains i=false->qgs E H0 fr H (opAt l i))/\ops' E F l [opAt l i] [] (nQ (qdP E F l tails H0 K t)) fr H)/\
   ((tails.contains j=false->qgs E H0 fr H (opAt l j))/\ops' E F l [opAt l j] [] (nQ (qdP E F l tails H0 K u)) fr H)/\
   ((tails.contains k=false->qgs E H0 fr H (opAt l k))/\ops' E F l [opAt l k] [] (nQ (qdP E F l tails H0 K v)) fr H)
 | .four i t j u k v m y,fr,H=>
   ((tails.contains i=false->qgs E H0 fr H (opAt l i))/\ops' E F l [opAt l i] [] (nQ (qdP E F l tails H0 K t)) fr H)/\
   ((tails.contains j=false->qgs E H0 fr H (opAt l j))/\ops' E F l [opAt l j] [] (nQ (qdP E F l tails H0 K u)) fr H)/\
   ((tails.contains k=false->qgs E H0 fr H (opAt l k))/\ops' E F l [opAt l k] [] (nQ (qdP E F l tails H0 K v)) fr H)/\
   ((tails.contains m=false->qgs E H0 fr H (opAt l m))/\ops' E F l [opAt l m] [] (nQ (qdP E F l tails H0 K y)) fr H)
def qmA (hT:TOK E.P E.T) {F:Nat}{l:List Oper}{tails:List Nat}{K:Fr->List R->Prop}{Qr:Act->World->Prop}{H0:List R}
  (hs:Region.noSelect l.toArray=true) (hq : ∀ a' w',LeftB H0.length S0 φ0 H0 w0 K a' w'->Qr a' w') :
  ∀ (t:Sch) (fuel:Nat) (listed:Array Bool) (ph:Bool) (S:Nat->Prop) (φ : List (List Nat)) (H:List R) (w:World) (fr:Fr) (a:Act),
   Sim S φ H w->FrR S φ H w fr a->Ext S0 φ0 w0 S φ w->Tr H0.length S0 φ0 H0 w0 S φ H w->(ph=true->S=S0/\φ = φ0/\H=H0/\w=w0)->Closed l.toArray listed->chkS l.toArray tails listed ph t=true->t.depth<=fuel->qdP E F l tails H0 K t fr H->
   qbW E.P l.toArray (fun e a w=>match e with|.normal=>Qr a w|_=>False) (qbv S0 φ0 H0 w0) (fun i=>!tails.contains i) fuel listed a w:=by
 intro t;induction t with
 | done=>
  intro fuel listed ph S φ H w fr a s hf he ht hph hcl hc hd h;simp only[chkS,List.isEmpty_iff] at hc;have hQ:Qr a w:=hq _ _ ⟨S,φ,fr,H,s,hf,he,ht,h⟩;cases fuel with
  | zero=>exact⟨hc,hQ⟩
  | succ f=>exact⟨fun _=>hQ,by rw[hc];simp⟩
 | fst i t ih=>
  intro fuel listed ph S φ H w fr a s hf he ht hph hcl hc hd h;match fuel with
  | 0=>simp[Sch.depth] at hd
  | fuel+1=>
  simp only[chkS,yap,List.contains_iff_mem] at hc;obtain⟨⟨⟨hr,hfree⟩,hop⟩,hc⟩:=hc;split at hop
  case h_2=>simp at hop
  rename_i o ho;simp only[yap,ybe,Bool.not_eq_true'] at hop;obtain⟨hpl,hrd⟩:=hop;simp only[qdP,qbc ho] at h;obtain⟨v,fr',hf',hk,hy⟩:=qpI hT F s hf hpl h.1 h.2.1 h.2.2;have next:=ih fuel (listed.setIfInBounds i true) ph S φ H w fr' (a.put o.dst v) s hf' he ht hph (hcl.set hr) hc (by simpa [Sch.depth] using hd) hk;have hfr:=Region.free_spec ho hfree;cases hro:qe6 o.op with
  | false=>
   refine qd1 (S1:=fun _=>True) ho (Region.noSelect_spec hs) (fun _ _ _ h=>h) (.inl fun _=>trivial) fuel listed a w hfr (.inl fun _=>trivial) hcl hr ?_ trivial next;exact hy.imp (fun⟨h1,h2⟩=>⟨h1,fun w' _=>h2 w' (by simp[hro])⟩) id
  | true=>
   rcases hrd with h0|⟨h1,h2⟩
   ·rw[hro] at h0;cases h0
   ·obtain⟨rfl,rfl,rfl,rfl⟩:=hph h1;refine qd1 (S1:=qbv S φ H w) ho (Region.noSelect_spec hs) (fun _ _ _ h=>h) (.inr rfl) fuel listed a w hfr (.inr fun j hj=>?_) hcl hr ?_ (qcs s (Agree.refl w)) next
    ·simp only[Bool.not_eq_false',List.contains_iff_mem] at hj;have:=List.all_eq_true.1 h2 j hj;simp only[ybe] at this;exact this.imp id fun h=>⟨_,h⟩
    ·exact hy.imp (fun⟨h1,h2⟩=>⟨h1,fun w' hw'=>h2 w' fun _=>hw'⟩) id
 | one i t ih=>
  intro fuel listed ph S φ H w fr a s hf he ht hph hcl hc hd h;match fuel with
  | 0=>simp[Sch.depth] at hd
  | fuel+1=>
  simp only[chkS,yap,beq_iff_eq] at hc;obtain⟨⟨hr,hop⟩,hc⟩:=hc;obtain⟨o,ho⟩:=Option.isSome_iff_exists.1 hop;simp only[qdP,qbc ho] at h;have hmem:i∈Region.ready .any l.toArray listed:=by rw[hr];simp
  refine⟨fun h0=>(by rw[hr] at h0;cases h0),fun k hk=>?_⟩;rw[hr,yaF] at hk;subst hk;have:=qb8 hT (Qr:=fun e a w=>match e with|.normal=>Qr a w|_=>False) (Kr:=fun a' w'=>((!tails.contains k)=true->qbv S0 φ0 H0 w0 w->qbv S0 φ0 H0 w0 w')/\qbW E.P l.toArray (fun e a w=>match e with|.normal=>Qr a w|_=>False) (qbv S0 φ0 H0 w0) (fun i=>!tails.contains i) fuel (listed.setIfInBounds k true) a' w') H0.length F ht.len s hf h.2 (fun a' w' hag hl=>?_)
  ·unfold wpOp;simp only[ho];exact this
  ·obtain⟨S',φ',fr',H',b1,b2,b3,b4,b5⟩:=hl;refine⟨fun h1 h2=>qb7 s hag (h.1 (by simpa using h1)) h2 he ht,?_⟩;exact ih fuel _ false S' φ' H' w' fr' a' b1 b2 (he.trans b3) (ht.trans b4) (by simp) (hcl.set hmem) hc (by simpa [Sch.depth] using hd) b5
 | two i t j u ih1 ih2=>
  intro fuel listed ph S φ H w fr a s hf he ht hph hcl hc hd h;match fuel with
  | 0=>simp[Sch.depth] at hd
  | fuel+1=>
  simp only[chkS,yap,beq_iff_eq] at hc;obtain⟨⟨⟨⟨hr,hop1⟩,hop2⟩,hc1⟩,hc2⟩:=hc;obtain⟨o1,ho1⟩:=Option.isSome_iff_exists.1 hop1;obtain⟨o2,ho2⟩:=Option.isSome_iff_exists.1 hop2;simp only[qdP,qbc ho1,qbc ho2] at h;have hd':t.depth<=fuel/\u.depth<=fuel:=by simp[Sch.depth] at hd;omega
  refine⟨fun h0=>(by rw[hr] at h0;cases h0),fun k hk=>?_⟩;have hmem:=hk;rw[hr,yaE,yaF] at hk;rcases hk with rfl|rfl
  ·have:=qb8 hT (Qr:=fun e a w=>match e with|.normal=>Qr a w|_=>False) (Kr:=fun a' w'=>((!tails.contains k)=true->qbv S0 φ0 H0 w0 w->qbv S0 φ0 H0 w0 w')/\qbW E.P l.toArray (fun e a w=>match e with|.normal=>Qr a w|_=>False) (qbv S0 φ0 H0 w0) (fun i=>!tails.contains i) fuel (listed.setIfInBounds k true) a' w') H0.length F ht.len s hf h.1.2 (fun a' w' hag hl=>?_)
   ·unfold wpOp;simp only[ho1];exact this
   ·obtain⟨S',φ',fr',H',b1,b2,b3,b4,b5⟩:=hl;refine⟨fun h1 h2=>qb7 s hag (h.1.1 (by simpa using h1)) h2 he ht,?_⟩;exact ih1 fuel _ false S' φ' H' w' fr' a' b1 b2 (he.trans b3) (ht.trans b4) (by simp) (hcl.set hmem) hc1 hd'.1 b5
  ·have:=qb8 hT (Qr:=fun e a w=>match e with|.normal=>Qr a w|_=>False) (Kr:=fun a' w'=>((!tails.contains k)=true->qbv S0 φ0 H0 w0 w->qbv S0 φ0 H0 w0 w')/\qbW E.P l.toArray (fun e a w=>match e with|.normal=>Qr a w|_=>False) (qbv S0 φ0 H0 w0) (fun i=>!tails.contains i) fuel (listed.setIfInBounds k true) a' w') H0.length F ht.len s hf h.2.2 (fun a' w' hag hl=>?_)
   ·unfold wpOp;simp only[ho2];exact this
   ·obtain⟨S',φ',fr',H',b1,b2,b3,b4,b5⟩:=hl;refine⟨fun h1 h2=>qb7 s hag (h.2.1 (by simpa using h1)) h2 he ht,?_⟩;exact ih2 fuel _ false S' φ' H' w' fr' a' b1 b2 (he.trans b3) (ht.trans b4) (by simp) (hcl.set hmem) hc2 hd'.2 b5
 | three i t j u m v ih1 ih2 ih3=>
  intro fuel listed ph S φ H w fr a s hf he ht hph hcl hc hd h;match fuel with
  | 0=>simp[Sch.depth] at hd
  | fuel+1=>
  simp only[chkS,yap,beq_iff_eq] at hc;obtain⟨⟨⟨⟨⟨⟨hr,hop1⟩,hop2⟩,hop3⟩,hc1⟩,hc2⟩,hc3⟩:=hc;obtain⟨o1,ho1⟩:=Option.isSome_iff_exists.1 hop1;obtain⟨o2,ho2⟩:=Option.isSome_iff_exists.1 hop2;obtain⟨o3,ho3⟩:=Option.isSome_iff_exists.1 hop3;simp only[qdP,qbc ho1,qbc ho2,qbc ho3] at h;have hd':t.depth<=fuel/\u.depth<=fuel/\v.depth<=fuel:=by simp[Sch.depth] at hd;omega
  refine⟨fun h0=>(by rw[hr] at h0;cases h0),fun k hk=>?_⟩;have hmem:=hk;rw[hr,yaE,yaE,yaF] at hk;rcases hk with rfl|rfl|rfl
  ·have:=qb8 hT (Qr:=fun e a w=>match e with|.normal=>Qr a w|_=>False) (Kr:=fun a' w'=>((!tails.contains k)=true->qbv S0 φ0 H0 w0 w->qbv S0 φ0 H0 w0 w')/\qbW E.P l.toArray (fun e a w=>match e with|.normal=>Qr a w|_=>False) (qbv S0 φ0 H0 w0) (fun i=>!tails.contains i) fuel (listed.setIfInBounds k true) a' w') H0.length F ht.len s hf h.1.2 (fun a' w' hag hl=>?_)
   ·unfold wpOp;simp only[ho1];exact this
   ·obtain⟨S',φ',fr',H',b1,b2,b3,b4,b5⟩:=hl;refine⟨fun h1 h2=>qb7 s hag (h.1.1 (by simpa using h1)) h2 he ht,?_⟩;exact ih1 fuel _ false S' φ' H' w' fr' a' b1 b2 (he.trans b3) (ht.trans b4) (by simp) (hcl.set hmem) hc1 hd'.1 b5
  ·have:=qb8 hT (Qr:=fun e a w=>match e with|.normal=>Qr a w|_=>False) (Kr:=fun a' w'=>((!tails.contains k)=true->qbv S0 φ0 H0 w0 w->qbv S0 φ0 H0 w0 w')/\qbW E.P l.toArray (fun e a w=>match e with|.normal=>Qr a w|_=>False) (qbv S0 φ0 H0 w0) (fun i=>!tails.contains i) fuel (listed.setIfInBounds k true) a' w') H0.length F ht.len s hf h.2.1.2 (fun a' w' hag hl=>?_)
   ·unfold wpOp;simp only[ho2];exact this
   ·obtain⟨S',φ',fr',H',b1,b2,b3,b4,b5⟩:=hl;refine⟨fun h1 h2=>qb7 s hag (h.2.1.1 (by simpa using h1)) h2 he ht,?_⟩;exact ih2 fuel _ false S' φ' H' w' fr' a' b1 b2 (he.trans b3) (ht.trans b4) (by simp) (hcl.set hmem) hc2 hd'.2.1 b5
  ·have:=qb8 hT (Qr:=fun e a w=>match e with|.normal=>Qr a w|_=>False) (Kr:=fun a' w'=>((!tails.contains k)=true->qbv S0 φ0 H0 w0 w->qbv S0 φ0 H0 w0 w')/\qbW E.P l.toArray (fun e a w=>match e with|.normal=>Qr a w|_=>False) (qbv S0 φ0 H0 w0) (fun i=>!tails.contains i) fuel (listed.setIfInBounds k true) a' w') H0.length F ht.len s hf h.2.2.2 (fun a' w' hag hl=>?_)
   ·unfold wpOp;simp only[ho3];exact this
   ·obtain⟨S',φ',fr',H',b1,b2,b3,b4,b5⟩:=hl;refine⟨fun h1 h2=>qb7 s hag (h.2.2.1 (by simpa using h1)) h2 he ht,?_⟩;exact ih3 fuel _ false S' φ' H' w' fr' a' b1 b2 (he.trans b3) (ht.trans b4) (by simp) (hcl.set hmem) hc3 hd'.2.2 b5
 | four i t j u m v q y ih1 ih2 ih3 ih4=>
  intro fuel listed ph S φ H w fr a s hf he ht hph hcl hc hd h;match fuel with
  | 0=>simp[Sch.depth] at hd
  | fuel+1=>
  simp only[chkS,yap,beq_iff_eq] at hc;obtain⟨⟨⟨⟨⟨⟨⟨⟨hr,hop1⟩,hop2⟩,hop3⟩,hop4⟩,hc1⟩,hc2⟩,hc3⟩,hc4⟩:=hc;obtain⟨o1,ho1⟩:=Option.isSome_iff_exists.1 hop1;obtain⟨o2,ho2⟩:=Option.isSome_iff_exists.1 hop2;obtain⟨o3,ho3⟩:=Option.isSome_iff_exists.1 hop3;obtain⟨o4,ho4⟩:=Option.isSome_iff_exists.1 hop4;simp only[qdP,qbc ho1,qbc ho2,qbc ho3,qbc ho4] at h;have hd':t.depth<=fuel/\u.depth<=fuel/\v.depth<=fuel/\y.depth<=fuel:=by simp[Sch.depth] at hd;omega
  refine⟨fun h0=>(by rw[hr] at h0;cases h0),fun k hk=>?_⟩;have hmem:=hk;rw[hr,yaE,yaE,yaE,yaF] at hk;rcases hk with rfl|rfl|rfl|rfl
  ·have:=qb8 hT (Qr:=fun e a w=>match e with|.normal=>Qr a w|_=>False) (Kr:=fun a' w'=>((!tails.contains k)=true->qbv S0 φ0 H0 w0 w->qbv S0 φ0 H0 w0 w')/\qbW E.P l.toArray (fun e a w=>match e with|.normal=>Qr a w|_=>False) (qbv S0 φ0 H0 w0) (fun i=>!tails.contains i) fuel (listed.setIfInBounds k true) a' w') H0.length F ht.len s hf h.1.2 (fun a' w' hag hl=>?_)
   ·unfold wpOp;simp only[ho1];exact this
   ·obtain⟨S',φ',fr',H',b1,b2,b3,b4,b5⟩:=hl;refine⟨fun h1 h2=>qb7 s hag (h.1.1 (by simpa using h1)) h2 he ht,?_⟩;exact ih1 fuel _ false S' φ' H' w' fr' a' b1 b2 (he.trans b3) (ht.trans b4) (by simp) (hcl.set hmem) hc1 hd'.1 b5
  ·have:=qb8 hT (Qr:=fun e a w=>match e with|.normal=>Qr a w|_=>False) (Kr:=fun a' w'=>((!tails.contains k)=true->qbv S0 φ0 H0 w0 w->qbv S0 φ0 H0 w0 w')/\qbW E.P l.toArray (fun e a w=>match e with|.normal=>Qr a w|_=>False) (qbv S0 φ0 H0 w0) (fun i=>!tails.contains i) fuel (listed.setIfInBounds k true) a' w') H0.length F ht.len s hf h.2.1.2 (fun a' w' hag hl=>?_)
   ·unfold wpOp;simp only[ho2];exact this
   ·obtain⟨S',φ',fr',H',b1,b2,b3,b4,b5⟩:=hl;refine⟨fun h1 h2=>qb7 s hag (h.2.1.1 (by simpa using h1)) h2 he ht,?_⟩;exact ih2 fuel _ false S' φ' H' w' fr' a' b1 b2 (he.trans b3) (ht.trans b4) (by simp) (hcl.set hmem) hc2 hd'.2.1 b5
  ·have:=qb8 hT (Qr:=fun e a w=>match e with|.normal=>Qr a w|_=>False) (Kr:=fun a' w'=>((!tails.contains k)=true->qbv S0 φ0 H0 w0 w->qbv S0 φ0 H0 w0 w')/\qbW E.P l.toArray (fun e a w=>match e with|.normal=>Qr a w|_=>False) (qbv S0 φ0 H0 w0) (fun i=>!tails.contains i) fuel (listed.setIfInBounds k true) a' w') H0.length F ht.len s hf h.2.2.1.2 (fun a' w' hag hl=>?_)
   ·unfold wpOp;simp only[ho3];exact this
   ·obtain⟨S',φ',fr',H',b1,b2,b3,b4,b5⟩:=hl;refine⟨fun h1 h2=>qb7 s hag (h.2.2.1.1 (by simpa using h1)) h2 he ht,?_⟩;exact ih3 fuel _ false S' φ' H' w' fr' a' b1 b2 (he.trans b3) (ht.trans b4) (by simp) (hcl.set hmem) hc3 hd'.2.2.1 b5
  ·have:=qb8 hT (Qr:=fun e a w=>match e with|.normal=>Qr a w|_=>False) (Kr:=fun a' w'=>((!tails.contains k)=true->qbv S0 φ0 H0 w0 w->qbv S0 φ0 H0 w0 w')/\qbW E.P l.toArray (fun e a w=>match e with|.normal=>Qr a w|_=>False) (qbv S0 φ0 H0 w0) (fun i=>!tails.contains i) fuel (listed.setIfInBounds k true) a' w') H0.length F ht.len s hf h.2.2.2.2 (fun a' w' hag hl=>?_)
   ·unfold wpOp;simp only[ho4];exact this
   ·obtain⟨S',φ',fr',H',b1,b2,b3,b4,b5⟩:=hl;refine⟨fun h1 h2=>qb7 s hag (h.2.2.2.1 (by simpa using h1)) h2 he ht,?_⟩;exact ih4 fuel _ false S' φ' H' w' fr' a' b1 b2 (he.trans b3) (ht.trans b4) (by simp) (hcl.set hmem) hc4 hd'.2.2.2 b5
def qpJ (hT:TOK E.P E.T) (hm:E.P.follows .mixedOrders=true) (F F2:Nat) {id:Nat}{l:List Oper}{ks:List Item}{Q:Post}(tails:List Nat) (t:Sch) (hc:chkT l.toArray tails t=true)
  (h:qdP E F l tails H (endK E F2 ks Q) t fr H):iwp E.P E.n (.region id l.toArray true) (qbR E ks Q) fr H:=by
 intro S φ a w Qr hn s hf hq;simp only[chkT,yap,decide_eq_true_eq] at hc;obtain⟨⟨h1,h2⟩,h3⟩:=hc;obtain⟨s1,s2,s3⟩:=qdY s (Grow.draw w) S (fun b h=>h) (fun b h=>.inl h) (fun b h=>s.slt b h);have main:=qmA (E:=E) hT (F:=F) (l:=l) (tails:=tails) (K:=endK E F2 ks Q) (Qr:=fun a' w'=>Qr .normal a' w') (w0:={ w with drawn:=w.drawn+1 }) (S0:=S) (φ0:=φ) (H0:=H) h1
  (fun a' w' hl=>by
   obtain⟨S',φ',fr',H',b1,b2,b3,b4,b5⟩:=hl;exact hq _ a' w' S' φ' fr' H' b1 b2 (s3.trans b3) ((s2.trans b4).weaken hn) (qfy hT F2 b5))
  t l.toArray.size (Array.replicate l.toArray.size false) true S φ H _ fr a s1 (hf.tr s2) (Ext.refl ..) (Tr.refl (yad _)) (fun _=>⟨rfl,rfl,rfl,rfl⟩) (fun j o ho hj=>?_) h2 h3 h
 ·refine wp_mono (wp_region_any hm (qg7 _ _ _ _ main)) ?_;intro e a' w' he;cases e with
  | normal=>exact he
  | _=>exact he.elim
 ·have hlt:j<l.toArray.size:=(Array.getElem?_eq_some_iff.1 ho).1;simp only[Array.getD_eq_getD_getElem?,Array.getElem?_replicate] at hj;split at hj <;> simp at hj
end modeB
section rules
variable {F:Nat}{l:List Oper}{tails:List Nat}{H0:List R}{K:Fr->List R->Prop}{i j k m:Nat}{t u v y:Sch}
@[go_sem] def zqD:qdP E F l tails H0 K .done fr H=K fr H:=rfl
@[go_sem] def zqE:qdP E F l tails H0 K (.fst i t) fr H=(qky fr (opAt l i)/\fstO E (opAt l i)/\ops' E F l [opAt l i] [] (nQ (qdP E F l tails H0 K t)) fr H):=rfl
@[go_sem] def zqF:qdP E F l tails H0 K (.one i t) fr H=((tails.contains i=false->qgs E H0 fr H (opAt l i))/\ops' E F l [opAt l i] [] (nQ (qdP E F l tails H0 K t)) fr H):=rfl
@[go_sem] def zqG:qdO [] H=True:=rfl
@[go_sem] def zqH {cs cs':List I}:qdO (.box cs::r) (.box cs'::q)=qdO r q:=rfl
@[go_sem] def zqI {g k':Nat}{dp:DP}{x:List D}{z:R}:qdO (.row g k' dp x::r) (z::q)=qdO r q:=by cases z <;> rfl
variable {dst:Option Tmp}{ty:TypeId}{pos:String}{af:Array Edge}{gd:Option (Nat×Bool)}
def orP (b:Bool) (p:Prop):Prop:=match b with|true=>True|false=>p
@[go_sem] def zqJ {p:Prop}:orP true p=True:=rfl
@[go_sem] def zqK {p:Prop}:orP false p=p:=rfl
@[go_sem] def zqL:qgs E H0 fr H ⟨dst,op,ty,pos,af,gd⟩=(qdO H0 H/\orP (isApp op) (qbD E fr ⟨dst,op,ty,pos,af,gd⟩)):=by
 unfold qgs orP;cases isApp op <;> simp
@[go_sem] def qta:isApp (.call ⟨.builtin .append,x,ts⟩)=true:=rfl
@[go_sem] def zqM {g:Operand}:isApp (.call ⟨.value g,x,ts⟩)=false:=rfl
@[go_sem] def qoJ {n:Nat}{p:Array (Nat×Operand)}:isApp (.buildSlice t' n p)=false:=rfl
@[go_sem] def zqN {x y:Operand}:isApp (.store t' x y)=false:=rfl
@[go_sem] def zqO {x:Operand}:qky fr ⟨dst,.load t' x,ty,pos,af,gd⟩=isPD (evx fr x):=by
 show((∃ d,evx fr x=.d d)∨∃ i o,evx fr x=.ptr i o)=isPD (evx fr x)
 generalize evx fr x=y;cases y <;> simp[isPD]
@[go_sem] def zqP {a b:Nat}:isPD (.ptr a b)=True:=rfl
@[go_sem] def qpK {x:Operand}{i:Nat}:qky fr ⟨dst,.fieldAddr t' x i,ty,pos,af,gd⟩=True:=by simp[qky,qe6]
end rules
end Go.VL
namespace Go.VL
set_option linter.defProp false
variable {g k f:Nat}{dp:DP}{l ds l' ds':List D}{c:Code}{fn:Func}{x y:D}{v:Value}
variable {E:Env}{P:Program}{Q:Post}{S:Nat->Prop}{φ : List (List Nat)}{fr:Fr}{H:List R}{w:World}{n:Nat}
def qok {i:Nat}(hi:H[i]?=some (.row g k dp l)) (hd:dp.shut=true) :
  Ghost n fr H fr (H.set i (.row g k .fz l)):=by
 intro S φ w a hn s hf;have hlt:i<H.length:=(List.getElem?_eq_some_iff.1 hi).1;have hiφ : i < φ.length:=by rw[s.len];exact hlt
 have hne : ∀ j,j≠i->(φ.set i ((φ.getD i []).take 1)).getD j [] = φ.getD j []:=fun j h=>by simp[List.getD,List.getElem?_set,Ne.symm h]
 have heq:(φ.set i ((φ.getD i []).take 1)).getD i []=(φ.getD i []).take 1:=by simp[List.getD,hiφ]
 have hsubm : ∀ j b,b∈(φ.set i ((φ.getD i []).take 1)).getD j []->b∈φ.getD j []:=by
  intro j b hb;by_cases h:j=i
  ·subst h;rw[heq] at hb;exact yau hb
  ·rwa [hne j h] at hb
 have hfoot : ∀ b,Foot (φ.set i ((φ.getD i []).take 1)) b->Foot φ b:=fun b ⟨j,hj⟩=>⟨j,hsubm j b hj⟩
 have hsome : ∀ j r,(H.set i (.row g k .fz l))[j]?=some r->(j=i/\r=.row g k .fz l)∨(j≠i/\H[j]?=some r):=by
  intro j r hr;rw[List.getElem?_set] at hr;split at hr
  ·rename_i h;simp at hr;exact .inl ⟨h.symm,hr.symm⟩
  ·rename_i h;exact .inr ⟨fun h2=>h h2.symm,hr⟩
 have htail : ∀ b,b∈(φ.getD i []).tail->b∈φ.getD i []:=fun b hb=>List.mem_of_mem_tail hb
 have htr:Tr H.length S φ H w (fun b=>S b∨b∈(φ.getD i []).tail) (φ.set i ((φ.getD i []).take 1)) (H.set i (.row g k .fz l)) w:=by
  refine⟨fun _ h=>.inl h,fun _ _=>rfl,yad _,by simp,?_,?_,?_,?_,?_⟩
  ·intro j hj;by_cases h:j=i
   ·subst h;have e1:H.getD j (.dead 0)=.row g k dp l:=by simp only[List.getD,hi,yag]
    have e2:(H.set j (.row g k .fz l)).getD j (.dead 0)=.row g k .fz l:=by simp[List.getD,hlt]
    rw[e1,e2];exact yad _
   ·have e1:(H.set i (.row g k .fz l)).getD j (.dead 0)=H.getD j (.dead 0):=by simp[List.getD,List.getElem?_set,Ne.symm h]
    rw[e1];exact yad _
  ·intro j g2 k2 dp' l' hj hl';rcases hsome j _ hl' with⟨rfl,h⟩|⟨h,h2⟩
   ·cases h;refine .inr ⟨dp,l,hi,?_,yad _,fun b rest arr ty e1 e2=>⟨arr,ty,e2,yad _⟩⟩;rw[heq];cases φ.getD j [] <;> rfl
   ·exact .inr ⟨dp',l',h2,by rw[hne j h],yad _,fun b rest arr ty e1 e2=>⟨arr,ty,e2,yad _⟩⟩
  ·intro j cs hj hl';rcases hsome j _ hl' with⟨_,h⟩|⟨h,h2⟩
   ·cases h
   ·exact⟨cs,h2,hne j h⟩
  ·intro j cs hj hl';rcases hsome j _ hl' with⟨_,h⟩|⟨h,h2⟩
   ·cases h
   ·exact⟨cs,h2,hne j h⟩
  ·intro j x hj hl';rcases hsome j _ hl' with⟨_,h⟩|⟨h,h2⟩
   ·cases h
   ·exact⟨h2,hne j h,fun _ _=>rfl⟩
 have hsim:Sim (fun b=>S b∨b∈(φ.getD i []).tail) (φ.set i ((φ.getD i []).take 1)) (H.set i (.row g k .fz l)) w:=by
  refine⟨by simp[s.len],?_,fun j m b hb hb'=>s.dj j m b (hsubm j b hb) (hsubm m b hb'),fun b hb=>s.lt b (hfoot b hb),?_,?_,?_⟩
  ·intro j;by_cases h:j=i
   ·subst h;rw[heq];exact(List.take_sublist _ _).nodup (s.nd j)
   ·rw[hne j h];exact s.nd j
  ·rintro b ⟨j,hj⟩ (h|h)
   ·exact s.off b ⟨j,hsubm j b hj⟩ h
   ·have hji:=s.dj j i b (hsubm j b hj) (htail b h);subst hji;rw[heq] at hj;have hnd:=s.nd j;cases hc : φ.getD j [] with
    | nil=>rw[hc] at h;simp at h
    | cons x r=>
     rw[hc] at hj h hnd;simp at hj h;subst hj;exact(List.nodup_cons.1 hnd).1 h
  ·rintro b (h|h)
   ·exact s.slt b h
   ·exact s.lt b ⟨i,htail b h⟩
  ·intro j r hr;rcases hsome j r hr with⟨rfl,rfl⟩|⟨h,h2⟩
   ·rw[heq];obtain⟨hk,he,ho,hlim,hr⟩:=s.rel j _ hi;refine⟨hk,he,ho,hlim,?_⟩;rcases hr with⟨e,e2⟩|⟨b,rest,arr,ty,e,hb,hsz,hrr⟩
    ·exact .inl ⟨by rw[e];rfl,e2⟩
    ·refine .inr ⟨b,[],arr,ty,by rw[e];rfl,hb,hsz,rfl,fun j' hj'=>?_⟩;match dp,hd with
     | .fz,_=>exact(hrr.2 j' hj').mono (fun b hb=>.inl hb) (fun _ _=>rfl)
     | .own [],_=>
      obtain⟨F,hF0,_,hF⟩:=hrr;exact OW.fz (hF j' hj') fun b2 hb2=>.inr (by rw[e];show b2∈rest;rw[hF0];exact qav hj' hb2)
     | .own (_::_),hd=>simp[DP.shut] at hd
   ·rw[hne j h];exact(s.rel j r h2).tr htr fun _ _=>rfl
 exact⟨_,_,hsim,hf.tr htr,⟨rfl,rfl,rfl,yad _,fun _ _ _=>rfl,fun b hb=>.inl (hfoot b hb),fun _ h=>.inl h,fun b h=>h.elim .inl fun h=>.inr (.inl ⟨i,htail b h⟩)⟩,htr.weaken hn⟩
def qrR (i:Nat) (hi:H[i]?=some (.row g k dp l)) (hd:dp.shut=true:=by rfl) (h:iwp P n c Q fr (H.set i (.row g k .fz l))):iwp P n c Q fr H:=qgl (qok hi hd) h
def qmB {T : Nat -> Option TI} (hT : TOK P T)      (hf : P.funcs[f]? = some fn) (hb : fn.body = some c) (hnm : (fn.name == "runtime.NumGoroutine") = false) (hn : ds.length <= fn.ntmps)
  (h:iwp P 0 c (endsWith T fn (fun fr r H'=>qlu H' (fun H''=>pkR x (pk H'' 3 r)))) ⟨fn.ntmps,qdq 0 (ds.map .d)⟩ []):Pure P f ds x:=by
 refine⟨qfa hf hb hnm,fun S vs w Rr hS ha hr=>calls_of_wp hf hb ?_⟩;have s:=qiu hS;refine h S [] _ w _ (yad _) s (qcX (by simpa using ha.1) (fun j hj=>?_) (by simpa using hn)) ?_
 ·simp only[yaw] at hj;have e:(ds.map I.d).getD j .junk=.d (ds.getD j .nil):=by simp[List.getD,hj]
  rw[e];exact .d (ha.2 j hj)
 intro e a' w' S' φ' fr' H' s' hf' he ht hq;have fin : ∀ vc r,resI T H' fr' fn.results.toList=some (vc,r)->vc/\qlu H' (fun H''=>pkR x (pk H'' 3 r))->a'.defers=[]/\∃ v,(results fn a'.tmps).run P w'=.ok v w'/\Rr (.returned v) w':=by
  rintro vc0 r hres ⟨hvc0,hsv,hp⟩;obtain⟨v,hrun,hv⟩:=qdC hT s' hf' hres hvc0;obtain⟨φ2,s2,t2,e2⟩:=qg3 s' hsv;have hv2:=hv.tr t2;have he2:=he.trans e2;refine⟨hf'.defers,v,hrun,?_⟩;unfold pkR at hp;split at hp
  ·rename_i vc x' ids hpk;obtain⟨hvc,hnd,hw⟩:=hp;have how:=ow_wk hw (qkm s2 3 hv2 hpk hvc);refine hr v w' _ how (qiv s2 hnd) ?_ (qdK he2);intro b hb;obtain⟨i,_,hb⟩:=List.mem_flatMap.1 hb;rcases he2.fp b ⟨i,hb⟩ with⟨j,hj⟩|h
   ·simp[List.getD] at hj
   ·exact h
  ·exact hp.elim
 cases e <;> simp only[endsWith] at hq
 ·split at hq
  ·exact fin _ _ (by assumption) hq
  ·exact hq.elim
 all_goals first
  | exact hq.elim
  | (
    split at hq
    ·exact fin _ _ (by assumption) hq
    ·exact hq.elim)
def qcf {E : Env} (hT : TOK E.P E.T) (hn : E.n = 0)    {nt : Nat}   (fuel : Nat) (hf : E.P.funcs[f]? = some fn) (hb : fn.body = some c) (hnm : (fn.name == "runtime.NumGoroutine") = false) (hnt : fn.ntmps = nt) (hl : ds.length <= nt)
  (h:okL ds->qaZ E fuel c [] (endsWith E.T fn (fun fr r H'=>qlu H' (fun H''=>pkR x (pk H'' 3 r)))) ⟨nt,qdq 0 (ds.map .d)⟩ []):Pure E.P f ds x:=by
 subst hnt;refine pure_ok (qfa hf hb hnm) fun ho=>qmB hT hf hb hnm hl ?_
 have:=qc9 hT fuel (h ho);rw[hn] at this;exact this
section rules6
variable {σ : Type}{F : σ->List (Nat×I)}{Hp : σ->List R}{inv : σ->Prop}{mu : σ->Nat}{s : σ}{ks:List Item}{nt:Nat}
end rules6
inductive WK:D->D->Prop
 | refl (x:D):WK x x
 | nil {k:Nat}(hk:0<k):WK .nil (.lst k [])
 | lst {k:Nat}{l l':List D}(hl:l.length=l'.length) (h : ∀ j,j<l.length->WK (l.getD j .nil) (l'.getD j .nil)):WK (.lst k l) (.lst k l')
 | agg {l l':List D}(hl:l.length=l'.length) (h : ∀ j,j<l.length->WK (l.getD j .nil) (l'.getD j .nil)):WK (.agg l) (.agg l')
 | tup {l l':List D}(hl:l.length=l'.length) (h : ∀ j,j<l.length->WK (l.getD j .nil) (l'.getD j .nil)):WK (.tup l) (.tup l')
 | ptr {l l':List D}(hl:l.length=l'.length) (h : ∀ j,j<l.length->WK (l.getD j .nil) (l'.getD j .nil)):WK (.ptr l) (.ptr l')
def WK.one {x y:D}(h:WK x y):y.one=x.one:=by cases h <;> rfl
def WK.cells {x y:D}(h:WK x y):x.cells.length=y.cells.length/\∀ j,j<x.cells.length->WK (x.cells.getD j .nil) (y.cells.getD j .nil):=by
 cases h with
 | refl=>exact⟨rfl,fun _ _=>.refl _⟩
 | agg hl h=>exact⟨hl,h⟩
 | nil hk=>
  refine⟨rfl,fun j hj=>?_⟩;obtain rfl:j=0:=by simpa [D.cells] using hj
  exact .nil hk
 | lst hl h=>
  refine⟨rfl,fun j hj=>?_⟩;obtain rfl:j=0:=by simpa [D.cells] using hj
  exact .lst hl h
 | tup hl h=>
  refine⟨rfl,fun j hj=>?_⟩;obtain rfl:j=0:=by simpa [D.cells] using hj
  exact .tup hl h
 | ptr hl h=>
  refine⟨rfl,fun j hj=>?_⟩;obtain rfl:j=0:=by simpa [D.cells] using hj
  exact .ptr hl h
def qmC : ∀ {l l':List D},l.length=l'.length->(∀ j,j<l.length->WK (l.getD j .nil) (l'.getD j .nil))->(flat l).length=(flat l').length/\∀ j,j<(flat l).length->WK ((flat l).getD j .nil) ((flat l').getD j .nil)
 | [],[],_,_=>⟨rfl,fun j hj=>by simp[flat] at hj⟩
 | x::l,y::l',hl,h=>by
  obtain⟨c1,c2⟩:=(h 0 (by simp)).cells;simp only[yav] at c1 c2;obtain⟨i1,i2⟩:=qmC (l:=l) (l':=l') (by simpa using hl) (fun j hj=>by simpa using h (j+1) (by simpa using hj));have e1:flat (x::l)=x.cells++flat l:=by simp[flat]
  have e2:flat (y::l')=y.cells++flat l':=by simp[flat]
  rw[e1,e2];refine⟨by simp only[yae];omega,fun j hj=>?_⟩;rw[qdf,qdf,<-c1];by_cases hjc:j<x.cells.length
  ·rw[if_pos hjc,if_pos hjc];exact c2 j hjc
  ·rw[if_neg hjc,if_neg hjc];exact i2 _ (by simp only[yae] at hj;omega)
 | [],_::_,hl,_=>by simp at hl
 | _::_,[],hl,_=>by simp at hl
def qen (hl:l.length=l'.length) (h : ∀ j,j<l.length->WK (l.getD j .nil) (l'.getD j .nil)) (h1 : ∀ c∈l,c.one=true) : ∀ c∈l',c.one=true:=by
 intro c hc;obtain⟨j,hj,rfl⟩:=yal hc;rw[qas _ _ _ .nil,(h j (by omega)).one];exact h1 _ (getD_mem (by omega))
def qjI (hl:l.length=l'.length) (h : ∀ j,j<l.length->WK (l.getD j .nil) (l'.getD j .nil)) (h1 : ∀ x∈l,x.cells.length=k) : ∀ x∈l',x.cells.length=k:=by
 intro c hc;obtain⟨j,hj,rfl⟩:=yal hc;rw[qas _ _ _ .nil,<-(h j (by omega)).cells.1];exact h1 _ (getD_mem (by omega))
def OW.weak {w:World}{fp:List Nat}(h:OW w x v fp) : ∀ {y:D},WK x y->OW w y v fp:=by
 induction h with
 | int h=>intro y hy;cases hy;exact .int h
 | bool=>intro y hy;cases hy;exact .bool
 | raw h=>intro y hy;cases hy;exact .raw h
 | nil=>
  intro y hy;cases hy with
  | refl=>exact .nil
  | nil hk=>exact .lst0 hk
 | lst0 hk=>
  intro y hy;cases hy with
  | refl=>exact .lst0 hk
  | lst hl h=>
   rename_i l';obtain rfl:l'=[]:=List.length_eq_zero_iff.1 hl.symm;exact .lst0 hk
 | agg F hl h1 h ih=>
  intro y hy;cases hy with
  | refl=>exact .agg F hl h1 h
  | agg hl' hw=>
   rw[hl'];exact .agg F (by omega) (qen hl' hw h1) fun j hj=>ih j (by omega) (hw j (by omega))
 | tup F hl h ih=>
  intro y hy;cases hy with
  | refl=>exact .tup F hl h
  | tup hl' hw=>
   rw[hl'];exact .tup F (by omega) fun j hj=>ih j (by omega) (hw j (by omega))
 | lst F hk he h1 hn hcap hlim hb hfit hf ih=>
  intro y hy;cases hy with
  | refl=>exact .lst F hk he h1 hn hcap hlim hb hfit hf
  | lst hl' hw=>
   obtain⟨q1,q2⟩:=qmC hl' hw;rw[hl',q1];exact .lst F hk (qjI hl' hw he) (qen q1 q2 h1) (by omega) hcap (by omega) hb hfit fun j hj=>ih j (by omega) (q2 j (by omega))
def FZ.weak {S:Nat->Prop}{w:World}(h:FZ S w x v) : ∀ {y:D},WK x y->FZ S w y v:=by
 induction h with
 | int h=>intro y hy;cases hy;exact .int h
 | bool=>intro y hy;cases hy;exact .bool
 | raw h=>intro y hy;cases hy;exact .raw h
 | fn hl h ih=>intro y hy;cases hy;exact .fn hl h
 | ptr f hS h1 hc hf ih=>
  intro y hy;cases hy with
  | refl=>exact .ptr f hS h1 hc hf
  | ptr hl' hw=>exact .ptr f hS (qen hl' hw h1) (fun j hj=>hc j (by omega)) fun j hj=>ih j (by omega) (hw j (by omega))
 | nil=>
  intro y hy;cases hy with
  | refl=>exact .nil
  | nil hk=>exact .lst0 hk
 | lst0 hk=>
  intro y hy;cases hy with
  | refl=>exact .lst0 hk
  | lst hl h=>
   rename_i l';obtain rfl:l'=[]:=List.length_eq_zero_iff.1 hl.symm;exact .lst0 hk
 | agg hl h1 h ih=>
  intro y hy;cases hy with
  | refl=>exact .agg hl h1 h
  | agg hl' hw=>exact .agg (by omega) (qen hl' hw h1) fun j hj=>ih j (by omega) (hw j (by omega))
 | tup hl h ih=>
  intro y hy;cases hy with
  | refl=>exact .tup hl h
  | tup hl' hw=>exact .tup (by omega) fun j hj=>ih j (by omega) (hw j (by omega))
 | lst f hk he h1 hn hlim hS hc hf ih=>
  intro y hy;cases hy with
  | refl=>exact .lst f hk he h1 hn hlim hS hc hf
  | lst hl' hw=>
   obtain⟨q1,q2⟩:=qmC hl' hw;rw[hl'];exact .lst f hk (qjI hl' hw he) (qen q1 q2 h1) (by omega) (by omega) hS (fun j hj=>hc j (by omega)) fun j hj=>ih j (by omega) (q2 j (by omega))
def Pure.res (h:Pure P f ds x) (hw:WK x y):Pure P f ds y:=
 ⟨h.1,fun S vs w Rr hS ha hr=>h.2 S vs w Rr hS ha fun v w' fp how=>hr v w' fp (how.weak hw)⟩
def PureF.res (h:PureF P f ds x) (hw:WK x y):PureF P f ds y:=
 ⟨h.1,fun S vs w Rr hS ha hr=>h.2 S vs w Rr hS ha fun v w' S' h1 h2 h3 hz=>hr v w' S' h1 h2 h3 (hz.weak hw)⟩
def WKs:List D->List D->Prop
 | [],[]=>True
 | x::r,y::s=>WK x y/\WKs r s
 | _,_=>False
def qiM : ∀ {l l':List D},WKs l l'->l.length=l'.length/\∀ j,j<l.length->WK (l.getD j .nil) (l'.getD j .nil)
 | [],[],_=>⟨rfl,fun j hj=>by simp at hj⟩
 | x::r,y::s,h=>by
  obtain⟨i1,i2⟩:=qiM h.2;refine⟨by simp[i1],fun j hj=>?_⟩;cases j with
  | zero=>exact h.1
  | succ j=>simpa using i2 j (by simpa using hj)
 | [],_::_,h=>h.elim
 | _::_,[],h=>h.elim
def Pure.args (h:Pure P f ds x) (hw:WKs ds' ds):Pure P f ds' x:=by
 obtain⟨hl,hg⟩:=qiM hw;exact⟨h.1,fun S vs w Rr hS ha hr=>h.2 S vs w Rr hS ⟨ha.1.trans hl,fun j hj=>(ha.2 j (by omega)).weak (hg j (by omega))⟩ hr⟩
def PureF.args (h:PureF P f ds x) (hw:WKs ds' ds):PureF P f ds' x:=by
 obtain⟨hl,hg⟩:=qiM hw;exact⟨h.1,fun S vs w Rr hS ha hr=>h.2 S vs w Rr hS ⟨ha.1.trans hl,fun j hj=>(ha.2 j (by omega)).weak (hg j (by omega))⟩ hr⟩
def WK.aggs (h:WKs l l'):WK (.agg l) (.agg l'):=.agg (qiM h).1 (qiM h).2
section rulesP
variable {dst:Option Tmp}{ty:TypeId}{pos:String}{af:Array Edge}{gd:Option (Nat×Bool)}
end rulesP
end Go.VL
set_option maxRecDepth 20000
namespace Go.VL
set_option linter.defProp false
variable {c:Code}
variable {E:Env}{P:Program}{Q:Post}{fr:Fr}{H:List R}{n:Nat}
def unrQ (E:Env) (ks:List Item) (Q:Post) (f:Nat) (K:Fr->List R->Prop):Post
 | .normal,fr,H=>K fr H
 | .exit id,fr,H=>qds E f (exK id ks) id ks Q fr H
 | e,fr,H=>qbR E ks Q e fr H
def rnds (E:Env) (ks:List Item) (Q:Post) (f1 f2:Nat) (c:Code):Nat->Fr->List R->Prop
 | 0,_,_=>False
 | N+1,fr,H=>qaZ E f1 c [] (unrQ E ks Q f2 (rnds E ks Q f1 f2 c N)) fr H
def qgt (hT:TOK E.P E.T) (N f1 f2:Nat) {ks:List Item}(h:rnds E ks Q f1 f2 c N fr H):iwp E.P E.n (.loop c) (qbR E ks Q) fr H:=by
 refine qmX (fun m fr H=>rnds E ks Q f1 f2 c m fr H) N h ?_;intro m fr H hm;cases m with
 | zero=>exact hm.elim
 | succ N=>
  refine qhV (qc9 hT f1 hm) ?_;intro e fr' H' hq;cases e with
  | normal=>exact⟨N,ybp N,hq⟩
  | exit id=>
   simp only[unrQ] at hq;refine qdD id ks ?_;generalize exK id ks=o at hq;match f2,o with
   | 0,_=>simp only[qds] at hq
   | f+1,some ks'=>
    simp only[qds] at hq;exact qfy hT f hq
   | f+1,none=>
    simp only[qds] at hq;exact hq
  | goto l=>exact hq
  | ret=>exact hq
  | panic ch=>exact hq
  | outgrown=>exact hq
def qa4 {ks:List Item}{f1 f2 N:Nat}(h:qaZ E f1 c [] (unrQ E ks Q f2 (rnds E ks Q f1 f2 c N)) fr H):rnds E ks Q f1 f2 c (N+1) fr H:=h
section rules7
variable {ks:List Item}{f:Nat}{K:Fr->List R->Prop}
@[go_sem] def zqQ:unrQ E ks Q f K .normal fr H=K fr H:=rfl
@[go_sem] def zqR {id:Nat}:unrQ E ks Q f K (.exit id) fr H=qds E f (exK id ks) id ks Q fr H:=rfl
@[go_sem] def zqS:unrQ E ks Q f K .ret fr H=qbR E ks Q .ret fr H:=rfl
end rules7
end Go.VL
namespace Go.VL
set_option linter.defProp false
open Go
variable {k n i g F:Nat}{l:List D}{t:Sch}{dp:DP}{fr:Fr}{H:List R}{E:Env}{tails:List Nat}{K:Fr->List R->Prop}
def flat_tk (he : ∀ x∈l,x.cells.length=k) (m:Nat):flat (l.take m)=(flat l).take (m*k):=by
 induction l generalizing m with
 | nil=>simp[flat]
 | cons x r ih=>
  cases m with
  | zero=>simp[flat]
  | succ m=>
   have h1:=he x (yaC ..);have h2:=ih (fun y hy=>he y (yaj _ hy)) m;simp only[flat,List.take_succ_cons,yaO] at h2 ⊢;have h4:x.cells.take ((m+1)*k)=x.cells:=yaa (by rw[h1,yaQ];omega);rw[h2,List.take_append,h1,h4,show(m+1)*k-k=m*k by rw[yaQ];omega]
def qlw {α β : Type}(F : α->List β) {a b:List α}(h:a.Sublist b):(a.flatMap F).Sublist (b.flatMap F):=by
 induction h with
 | slnil=>simp
 | cons x _ ih=>simp only[yaO];exact ih.trans (List.sublist_append_right ..)
 | cons_cons x _ ih=>simp only[yaO];exact List.Sublist.append (List.Sublist.refl _) ih
def qmD {t m:Nat}(ht:fr.get t=.sl i g k 0 m) (hi:H[i]?=some (.row g k dp l)) (hd:dp.shut=true) :
  Ghost n fr H (fr.put (some t) (.sl i (g+1) k 0 m)) (H.set i (.row (g+1) k dp (l.take m))):=by
 intro S φ w a hn s hf;have hlt:i<H.length:=(List.getElem?_eq_some_iff.1 hi).1;have hiφ : i < φ.length:=by rw[s.len];exact hlt
 obtain⟨hk,he,ho,hlim,hr⟩:=s.rel i _ hi;have hv:=hf.val t;rw[ht] at hv;have hml:m<=l.length:=by
  cases hv with
  | sl h1 h2 h3 h4=>have:=(h3 dp l hi).2;omega
 have hft:=flat_tk he m;have hfl:(flat (l.take m)).length<=(flat l).length:=by rw[hft,yaP];exact Nat.min_le_right ..
 have hfg : ∀ j,j<(flat (l.take m)).length->(flat (l.take m)).getD j .nil=(flat l).getD j .nil:=fun j hj=>by
  have hj2:j<(flat l).length:=by omega
  have h3:j<m*k:=by rw[hft,yaP] at hj;omega
  simp[List.getD,hft,List.getElem?_take,h3]
 obtain⟨fp',hhead,hsub,hnd',hrel⟩ : ∃ fp':List Nat,fp'.head?=(φ.getD i []).head?/\(∀ b∈fp',b∈φ.getD i [])/\fp'.Nodup/\((fp'=[]/\l.take m=[])∨∃ b rest arr ty,fp'=b::rest/\w.heap[b]?=some (.cells arr ty (0,0))/\(l.take m).length*k<=arr.size/\RowRel S φ H w k dp (flat (l.take m)) arr rest):=by
  rcases hr with⟨e,e2⟩|⟨b,rest,arr,ty,e,hb,hsz,hrr⟩
  ·exact⟨[],by rw[e],by simp,by simp,.inl ⟨rfl,by rw[e2];simp⟩⟩
  ·have hszm:(l.take m).length*k<=arr.size:=yaD (yat k (by rw[yaP];exact Nat.min_le_right ..)) hsz;have hnd:=s.nd i;rw[e] at hnd;match dp,hd with
   | .fz,_=>
    obtain⟨hre,hc⟩:=hrr;exact⟨[b],by rw[e];rfl,by rw[e];simp,by simp,.inr ⟨b,[],arr,ty,rfl,hb,hszm,rfl,fun j hj=>by rw[hfg j hj];exact hc j (by omega)⟩⟩
   | .own [],_=>
    obtain⟨F,hF0,_,hF⟩:=hrr;have hpre:(List.range (flat (l.take m)).length).Sublist (List.range (flat l).length):=List.range_sublist.2 hfl;have hsl:((List.range (flat (l.take m)).length).flatMap F).Sublist rest:=by
     rw[hF0];exact qlw F hpre
    refine⟨b::(List.range (flat (l.take m)).length).flatMap F,by rw[e];rfl,?_,?_,.inr ⟨b,_,arr,ty,rfl,hb,hszm,F,rfl,by simp,fun j hj=>by rw[hfg j hj];exact hF j (by omega)⟩⟩
    ·intro b' hb';rw[e];rcases List.mem_cons.1 hb' with rfl|hb'
     ·exact yaC ..
     ·exact yaj _ (hsl.subset hb')
    ·exact(List.Sublist.cons_cons b hsl).nodup hnd
   | .own (_::_),hd=>simp[DP.shut] at hd
 have hne : ∀ j,j≠i->(φ.set i fp').getD j [] = φ.getD j []:=fun j h=>by simp[List.getD,List.getElem?_set,Ne.symm h]
 have heq:(φ.set i fp').getD i []=fp':=by simp[List.getD,hiφ]
 have hsubm : ∀ j b,b∈(φ.set i fp').getD j []->b∈φ.getD j []:=by
  intro j b hb;by_cases h:j=i
  ·subst h;rw[heq] at hb;exact hsub b hb
  ·rwa [hne j h] at hb
 have hfoot : ∀ b,Foot (φ.set i fp') b->Foot φ b:=fun b ⟨j,hj⟩=>⟨j,hsubm j b hj⟩
 have hsome : ∀ j r,(H.set i (.row (g+1) k dp (l.take m)))[j]?=some r->(j=i/\r=.row (g+1) k dp (l.take m))∨(j≠i/\H[j]?=some r):=by
  intro j r hr;rw[List.getElem?_set] at hr;split at hr
  ·rename_i h;simp at hr;first|exact .inl ⟨h.symm,hr.2.symm⟩|exact .inl ⟨h.symm,hr.symm⟩
  ·rename_i h;exact .inr ⟨fun h2=>h h2.symm,hr⟩
 have e1:H.getD i (.dead 0)=.row g k dp l:=by simp only[List.getD,hi,yag]
 have e2:(H.set i (.row (g+1) k dp (l.take m))).getD i (.dead 0)=.row (g+1) k dp (l.take m):=by simp[List.getD,hlt]
 have htr:Tr H.length S φ H w S (φ.set i fp') (H.set i (.row (g+1) k dp (l.take m))) w:=by
  refine⟨fun _ h=>h,fun _ _=>rfl,yad _,by simp,?_,?_,?_,?_,?_⟩
  ·intro j hj;by_cases h:j=i
   ·subst h;rw[e1,e2];exact Nat.le_succ _
   ·have e3:(H.set i (.row (g+1) k dp (l.take m))).getD j (.dead 0)=H.getD j (.dead 0):=by simp[List.getD,List.getElem?_set,Ne.symm h]
    rw[e3];exact yad _
  ·intro j g2 k2 dp' l' hj hl';rcases hsome j _ hl' with⟨rfl,h⟩|⟨h,h2⟩
   ·cases h;left;rw[e1];exact ybp _
   ·exact .inr ⟨dp',l',h2,by rw[hne j h],yad _,fun b rest arr ty e1 e2=>⟨arr,ty,e2,yad _⟩⟩
  ·intro j cs hj hl';rcases hsome j _ hl' with⟨_,h⟩|⟨h,h2⟩
   ·cases h
   ·exact⟨cs,h2,hne j h⟩
  ·intro j cs hj hl';rcases hsome j _ hl' with⟨_,h⟩|⟨h,h2⟩
   ·cases h
   ·exact⟨cs,h2,hne j h⟩
  ·intro j x hj hl';rcases hsome j _ hl' with⟨_,h⟩|⟨h,h2⟩
   ·cases h
   ·exact⟨h2,hne j h,fun _ _=>rfl⟩
 have hsim:Sim S (φ.set i fp') (H.set i (.row (g+1) k dp (l.take m))) w:=by
  refine⟨by simp[s.len],?_,fun j m b hb hb'=>s.dj j m b (hsubm j b hb) (hsubm m b hb'),fun b hb=>s.lt b (hfoot b hb),fun b hb=>s.off b (hfoot b hb),s.slt,?_⟩
  ·intro j;by_cases h:j=i
   ·subst h;rw[heq];exact hnd'
   ·rw[hne j h];exact s.nd j
  ·intro j r hr;rcases hsome j r hr with⟨rfl,rfl⟩|⟨h,h2⟩
   ·rw[heq];refine⟨hk,fun x hx=>he x (yau hx),fun c hc=>ho c ?_,?_,?_⟩
    ·rw[hft] at hc;exact yau hc
    ·rw[yaP];exact yaD (Nat.min_le_right ..) hlim
    ·rcases hrel with h|⟨b,rest,arr,ty,h1,h2,h3,h4⟩
     ·exact .inl h
     ·refine .inr ⟨b,rest,arr,ty,h1,h2,h3,?_⟩;match dp,hd,h4 with
      | .fz,_,h4=>exact h4
      | .own [],_,⟨F,q1,q2,q3⟩=>exact⟨F,q1,q2,q3⟩
      | .own (_::_),hd,_=>simp[DP.shut] at hd
   ·rw[hne j h];exact(s.rel j r h2).tr htr fun _ _=>rfl
 have hfr:=hf.tr htr;have hvn:V S (φ.set i fp') (H.set i (.row (g+1) k dp (l.take m))) w (.sl i (g+1) k 0 m) (a.tmps.getD t undef):=by
  cases hv with
  | sl h1 h2 h3 h4=>
   refine .sl (by simpa using hlt) (by rw[e2];exact yad _) (fun dp' l' hl'=>?_) h4;rcases hsome i _ hl' with⟨_,h⟩|⟨h,_⟩
   ·cases h;obtain⟨hsr,hle⟩:=h3 dp l hi;refine⟨?_,by rw[yaP];omega⟩;rw[heq];rcases hsr with⟨q1,q2,q3,q4⟩|⟨b,rest,cap,arr,ty,ad,q1,q⟩
    ·exact .inl ⟨qmW hhead q1,q2,q3,q4⟩
    ·obtain⟨r',hr'⟩:=qge hhead q1;exact .inr ⟨b,r',cap,arr,ty,ad,hr',q⟩
   ·exact absurd rfl h
 have hput:=hfr.put (some t) hvn;have hact:a.put (some t) (a.tmps.getD t undef)=a:=by
  unfold Act.put;have e:a.tmps.setIfInBounds t (a.tmps.getD t undef)=a.tmps:=by
   apply Array.ext
   ·simp
   ·intro j h1 h2;rw[Array.getElem_setIfInBounds];split
    ·rename_i h;subst h;simp[Array.getD,h2]
    ·rfl
  simp only[e]
 rw[hact] at hput;exact⟨_,_,hsim,hput,⟨rfl,rfl,rfl,yad _,fun _ _ _=>rfl,fun b hb=>.inl (hfoot b hb),fun _ h=>h,fun b h=>.inl h⟩,htr.weaken hn⟩
def qjJ {m:Nat}{Po:I->List R->Prop}(hi:H[i]?=some (.row g k dp l)) (hd:dp.shut=true)
  (h:endI n Po (.sl i (g+1) k 0 m) (H.set i (.row (g+1) k dp (l.take m)))):endI n Po (.sl i g k 0 m) H:=by
 obtain⟨fr',H'',gg,e,q⟩:=h;refine⟨fr',H'',Ghost.trans (qmD (t:=0) (m:=m) (fr:=⟨1,[(0,.sl i g k 0 m)]⟩) (by simp[Fr.get,look]) hi hd) ?_,e,q⟩;intro S φ w a hn s hf;refine gg S φ w a hn s ⟨hf.defers,hf.size,fun t=>?_⟩;have:=hf.val t;by_cases h0:t=0
 ·subst h0;simpa [Fr.get,Fr.put,look] using this
 ·have e:(Fr.get ⟨1,[(0,.sl i (g+1) k 0 m)]⟩ t)=.junk:=by simp[Fr.get,look,Ne.symm h0]
  rw[e];exact .junk
def lexT {m:Region.Mode}{a:Array Oper}(h:Region.lexB m a=true:=by kernel_rfl):Region.lexB m a=true:=h
def qb9 {p:I->Prop}(h:p (I.d D.nil)) : ∃ x,p x:=⟨_,h⟩
def fsts:List Nat->Sch->Sch
 | [],t=>t
 | i::r,t=>.fst i (fsts r t)
@[go_sem] def zqT {l:List Oper}:runS E F l tails K (fsts [] t) fr H=runS E F l tails K t fr H:=rfl
@[go_sem] def zqU {l:List Oper}{r:List Nat}:runS E F l tails K (fsts (i::r) t) fr H=runS E F l tails K (.fst i (fsts r t)) fr H:=rfl
end Go.VL
