/- Part 32: circuits as data. Conditions: none; plain definitions and lemmas. -/
import Derived.Test.YteikeianenfhaaaGreatVM7
import Derived.OrdersHeld
import Derived.KernelRfl
set_option linter.unusedVariables false
set_option linter.unusedSimpArgs false
set_option maxHeartbeats 2000000
namespace Go.VL
set_option linter.defProp false
variable {l l':List (Int×Int)}{i n f:Nat}{x y:Int}{α:Type}{P:Program}{ds ds':List D}
abbrev dP (p:Int×Int):D:=.agg [dI p.1,dI p.2]
abbrev aO (l:List (Int×Int)):D:=.lst 2 (l.map dP)
@[go_sem] def zpa:(l.map dP).getD i (.agg [.int .i64 0,.int .i64 0])=dP (l.getD i (0,0)):=BG _ _ _ (0,0)
@[go_sem] def Vj:(l.map dP=l'.map dP)=(l=l'):=A1 fun x y h=>by
 obtain⟨a,b⟩:=x;obtain⟨c,d⟩:=y;simpa [dP] using h
@[go_sem] def UJ:eC (l.map dP) = ∀ x∈l,cp .i64 x.1/\cp .i64 x.2:=by
 rw[Ei];simp[dP,D.ok,eC]
@[go_sem] def Q5:(l.map dP).set i (D.agg [.int .i64 x,.int .i64 y])=(l.set i (x,y)).map dP:=(List.map_set (f:=dP) (a:=(x,y))).symm
@[go_sem] def zpe:List.replicate n (D.agg [.int .i64 0,.int .i64 0])=(List.replicate n ((0,0):Int×Int)).map dP:=by simp[dP]
@[go_sem] def zpf:l.map dP ++ [D.agg [.int .i64 x,.int .i64 y]]=(l ++ [(x,y)]).map dP:=by simp
@[go_sem] def QH:l.map dP++l'.map dP=(l++l').map dP:=by simp
@[go_sem] def zph:(([]:List D)=l.map dP)=(l=[]):=propext ⟨fun h=>by cases l with|nil=>rfl|cons x r=>simp at h,fun h=>by rw[h];rfl⟩
@[go_sem] def zpi:([D.agg [.int .i64 x,.int .i64 y]]=l.map dP)=(l=[(x,y)]):=propext ⟨fun h=>by
  cases l with
  | nil=>simp at h
  | cons z r=>
   cases r with
   | nil=>obtain⟨u,v⟩:=z;simp[dP] at h;simp[h]
   | cons y r=>simp at h,fun h=>by rw[h];rfl⟩
@[go_sem] def zpj:(l.map dP).take n=(l.take n).map dP:=by simp
attribute [go_sem] List.drop_zero
def aP {l:List α}{z : α}(h:i<l.length):l.getD i z∈l:=by simp[List.getD,h]
def fO {l:List α}{x : α}(z : α) (h:x∈l) : ∃ i,i<l.length/\l.getD i z=x:=by
 obtain⟨i,hi,rfl⟩:=fM h;exact⟨i,hi,by simp[List.getD,hi]⟩
def KE {P : α->Prop}{l:List α}(z : α):(∀ x∈l,P x)↔∀ j,j<l.length->P (l.getD j z):=
 ⟨fun h j hj=>h _ (aP hj),fun h x hx=>by obtain⟨i,hi,rfl⟩:=fO z hx;exact h i hi⟩
def Pure.wk {x:D}(h:Pure P f ds x) (hw:og ds' ds):Pure P f ds' x:=by
 obtain⟨hl,hg⟩:=zu hw;exact⟨h.1,fun S vs w Rr hS ha hr=>h.2 S vs w Rr hS ⟨ha.1.trans hl,fun j hj=>Bu (hg j (by omega)) (ha.2 j (by omega))⟩ hr⟩
def bk.wk {x:D}(h:bk P f ds x) (hw:og ds' ds):bk P f ds' x:=by
 obtain⟨hl,hg⟩:=zu hw;exact⟨h.1,fun S vs w Rr hS ha hr=>h.2 S vs w Rr hS ⟨ha.1.trans hl,fun j hj=>Bu (hg j (by omega)) (ha.2 j (by omega))⟩ hr⟩
structure ac where
 inputs:Int
 next:List Int
 gates:List (Int×Int)
 outs:List Int
variable {c:ac}
abbrev dC (c:ac):D:=.agg [dI c.inputs,ai c.next,aO c.gates,ai c.outs]
abbrev pC (c:ac):D:=.ptr [dI c.inputs,ai c.next,aO c.gates,ai c.outs]
def ac.zero:ac:=⟨0,[],[],[]⟩
def ac.first (c:ac):Int:=1+c.inputs+(c.next.length:Int)
def ac.vars (c:ac):Int:=c.first+(c.gates.length:Int)
def ac.roots (c:ac):List Int:=c.next++c.outs
def bj (l n:Int):Prop:=0<=l/\l<2*n
instance (l n:Int):Decidable (bj l n):=by unfold bj;infer_instance
structure ac.Valid (c:ac):Prop where
 i0:0<=c.inputs
 i1:c.inputs<=4
 ln:c.next.length<=3
 lg:c.gates.length<=14
 lo:c.outs.length<=3
 g : ∀ i,i<c.gates.length->bj (c.gates.getD i (0,0)).1 (c.first+(i:Int))/\bj (c.gates.getD i (0,0)).2 (c.first+(i:Int))
 n : ∀ x∈c.next,bj x c.vars
 o : ∀ x∈c.outs,bj x c.vars
noncomputable instance (c:ac):Decidable c.Valid:=Classical.propDecidable _
def ac.Valid.am (h:c.Valid):1<=c.first/\c.first<=8:=by
 have:=h.i0;have:=h.i1;have:=h.ln;unfold ac.first;omega
def ac.Valid.aM (h:c.Valid):c.first<=c.vars/\c.vars<=22:=by
 have:=h.am;have:=h.lg;unfold ac.vars;omega
def ac.Valid.roots {c:ac}(h:c.Valid) : ∀ x∈c.roots,bj x c.vars:=by
 intro x hx;rcases List.mem_append.1 hx with h1|h1
 ·exact h.n x h1
 ·exact h.o x h1
end Go.VL
namespace Go.VL
set_option linter.defProp false
variable {listed:Array Bool}{i F j:Nat}{v:Value}{K:Fr->List R->Prop}{vc:Prop}{x y:Operand}{H':List R}{o:Oper}{Qr:Exit->Act->World->Prop}{Kr:Act->World->Prop}{all l:List Oper}{tails:List Nat}{ks:List Item}{t:TypeId}{k:IntKind}{p:Array (Nat×Operand)}{b:Array TypeId}
variable {P:Program}{ops:Array Oper}{Q:Exit->Act->World->Prop}{S0:World->Prop}{T0:Nat->Bool}
def nC (P:Program) (ops:Array Oper) (Q:Exit->Act->World->Prop) (S0:World->Prop) (T0:Nat->Bool):Nat->Array Bool->Act->World->Prop
 | 0,listed,a,w=>Region.ready .any ops listed=[]/\Q .normal a w
 | fuel+1,listed,a,w=>
  (Region.ready .any ops listed=[]->Q .normal a w)/\
  ∀ i∈Region.ready .any ops listed,wpOp P ops Q i (fun a' w'=>(T0 i=true->S0 w->S0 w')/\nC P ops Q S0 T0 fuel (listed.setIfInBounds i true) a' w') a w
def Hj : ∀ (fuel:Nat) (listed:Array Bool) (a:Act) (w:World),nC P ops Q S0 T0 fuel listed a w->wpAny P .any ops Q fuel listed a w
 | 0,_,_,_,h=>h
 | fuel+1,_,_,_,h=>⟨h.1,fun i hi=>wpOp_mono (fun a' w' h'=>Hj fuel _ a' w' h'.2) (h.2 i hi)⟩
def dg (ops:Array Oper) (listed:Array Bool):Prop:=∀ j o,ops[j]?=some o->listed.getD j false=true->∀ e∈o.after,Region.binds .any e=true->listed.getD e.on false=true
def dg.set (hc:dg ops listed) (hi:i∈Region.ready .any ops listed):dg ops (listed.setIfInBounds i true):=by
 intro j o ho hj e he hb;by_cases hij:i=j
 ·subst hij;obtain⟨_,o',ho',hall⟩:=mem_ready.1 hi;rw[ho] at ho';cases ho';exact getD_set_true (hall e he hb)
 ·rw[getD_set_ne false hij] at hj;exact getD_set_true (hc j o ho hj e he hb)
def waits (ops:Array Oper) (i:Nat):Nat->Nat->Bool
 | 0,_=>false
 | f+1,j=>match ops[j]? with
  | some o=>o.after.any fun e=>Region.binds .any e&&(e.on == i || waits ops i f e.on)
  | none=>false
def Gs {listed:Array Bool}(hc:dg ops listed) {i:Nat} : ∀ (f j:Nat),waits ops i f j=true->listed.getD j false=true->listed.getD i false=true
 | 0,j,h,_=>by simp[waits] at h
 | f+1,j,h,hj=>by
  simp only[waits] at h;split at h
  ·rename_i o ho;obtain⟨e,he,hb⟩:=Array.any_eq_true'.1 h;simp only[gN,oD,beq_iff_eq] at hb;have hl:=hc j o ho hj e he hb.1;rcases hb.2 with h1|h1
   ·rw[<-h1];exact hl
   ·exact Gs hc f e.on h1 hl
  ·simp at h
def OE (hc:dg ops listed) (f j:Nat) (h:waits ops i f j=true) (hj:j∈Region.ready .any ops listed):listed.getD i false=true:=by
 cases f with
 | zero=>simp[waits] at h
 | succ f=>
  simp only[waits] at h;obtain⟨_,o,ho,hall⟩:=mem_ready.1 hj;simp only[ho] at h;obtain⟨e,he,hb⟩:=Array.any_eq_true'.1 h;simp only[gN,oD,beq_iff_eq] at hb;have hl:=hall e he hb.1;rcases hb.2 with h1|h1
  ·rw[<-h1];exact hl
  ·exact Gs hc f e.on h1 hl
def I8 (h:listed.getD i true=false):listed.getD i false=false:=by
 rcases Nat.lt_or_ge i listed.size with h'|h'
 ·simp[h'] at h ⊢;exact h
 ·simp[Array.getElem?_eq_none h'] at h
def EY {S1:World->Prop}{oi:Oper}(hi:ops[i]?=some oi) (hsel : ∀ (j:Nat) (o:Oper) cs b,ops[j]?=some o->o.op≠.select cs b)
  (hQ : ∀ c a w,Q (.panic c) (a.put oi.dst v) w->Q (.panic c) a w) (hS1:(∀ w,S1 w)∨S1=S0) :
  ∀ (fuel:Nat) (listed:Array Bool) (a:Act) (w:World),
   (∀ j oj,ops[j]?=some oj->j≠i->listed.getD j true=false->(∀ e∈oj.after,Region.binds .any e=true->e.on≠i)->oi.apart ops oj=true)->
   ((∀ w,S1 w)∨∀ j,T0 j=false->listed.getD j true=true∨∃ f,waits ops i f j=true)->dg ops listed->
   i∈Region.ready .any ops listed->YieldsIf P ops S1 oi v a->S1 w->
   nC P ops Q S0 T0 fuel (listed.setIfInBounds i true) (a.put oi.dst v) w->nC P ops Q S0 T0 (fuel+1) listed a w:=by
 intro fuel;induction fuel with
 | zero=>
  intro listed a w _ _ _ hr hy hS H;refine⟨fun h=>(by rw[h] at hr;cases hr),fun j hj=>?_⟩;by_cases hji:j=i
  ·subst hji;exact hy.wpOp hi hS ⟨fun _ h=>h,H⟩
  ·have:=ready_mono hj hji;rw[H.1] at this;cases this
 | succ fuel ih=>
  intro listed a w hfree hwait hcl hr hy hS H;refine⟨fun h=>(by rw[h] at hr;cases hr),fun j hj=>?_⟩;by_cases hji:j=i
  ·subst hji;exact hy.wpOp hi hS ⟨fun _ h=>h,H⟩
  ·have h1:=H.2 j (ready_mono hj hji);obtain⟨hjun,oj,hoj,hall⟩:=mem_ready.1 hj;have hnot : ∀ e∈oj.after,Region.binds .any e=true->e.on≠i:=fun e he hb heq=>by
    have h1:=hall e he hb;have h0:=I8 (mem_ready.1 hr).1;rw[heq] at h1;rw[h1] at h0;cases h0
   have h2:=wpOp_putIf hoj (hfree j oj hoj hji hjun hnot) (fun cs b=>hsel i oi cs b hi) (fun cs b=>hsel j oj cs b hoj) hQ hy h1;have hfree' : ∀ k ok,ops[k]?=some ok->k≠i->(listed.setIfInBounds j true).getD k true=false->
     (∀ e∈ok.after,Region.binds .any e=true->e.on≠i)->oi.apart ops ok=true:=fun k ok hk hki hun hno=>by
    refine hfree k ok hk hki ?_ hno;by_cases hjk:j=k
    ·subst hjk;exact hjun
    ·rw[getD_set_ne true hjk] at hun;exact hun
   have hwait':(∀ w,S1 w)∨∀ k,T0 k=false->(listed.setIfInBounds j true).getD k true=true∨∃ f,waits ops i f k=true:=by
    refine hwait.imp id fun h k hk=>(h k hk).imp (fun h=>?_) id
    by_cases hjk:j=k
    ·subst hjk;rw[h] at hjun;cases hjun
    ·rw[getD_set_ne true hjk];exact h
   have hkeep : ∀ w',(T0 j=true->S0 w->S0 w')->S1 w':=by
    intro w' hw';rcases hwait with h|h
    ·exact h w'
    ·rcases hS1 with h3|rfl
     ·exact h3 w'
     cases hT:T0 j with
     | true=>exact hw' hT hS
     | false=>
      rcases h j hT with h3|⟨f,h3⟩
      ·rw[h3] at hjun;cases hjun
      ·have h0:=I8 (mem_ready.1 hr).1;rw[OE hcl f j h3 hj] at h0;cases h0
   refine wpOp_mono (fun a' w' h3=>⟨h3.2.1,ih (listed.setIfInBounds j true) a' w' hfree' hwait' (hcl.set hj) (ready_mono hr (Ne.symm hji)) h3.1 (hkeep w' h3.2.1) ?_⟩) h2;rw[Array.setIfInBounds_comm _ _ hji];exact h3.2.2
def m0:Op->Bool
 | .box _ _|.alloc _|.buildSlice _ _ _|.makeSlice _ _ _|.makeMap _ _=>false
 | _=>true
def zF (E:Env) (fn:Option (Nat×List I)):Prop:=
 match fn with
 | some (f,_)=>E.pf f≠.proc
 | none=>True
def eJ (E:Env) (fr:Fr) (o:Oper):Prop:=
 match fI o.op with
 | some (g,_)=>zF E (eE (ap fr g))
 | none=>pw o.op=true∨m0 o.op=false
def nQ (K:Fr->List R->Prop):aX:=fun e fr H=>match e with|.normal=>K fr H|_=>False
@[go_sem] def zpk {fr:Fr}{H:List R}:nQ K .normal fr H=K fr H:=rfl
variable {E:Env}{S:Nat->Prop}{φ : List (List Nat)}{H:List R}{w:World}{fr:Fr}{a:Act}{n:Nat}
def Oz {T:Nat->Option TI}{fr:Fr}{H:List R}{op:Op}{x:I}(h:bS T fr H op=some (vc,x,H')) (hm:m0 op=false) :
  ∃ H'',bS T fr (eR H.length H) op=some (vc,x,H''):=by
 have hl:(eR H.length H).length=H.length:=z3 _ _;cases op with
 | box e y=>
  simp only[bS,nj] at h ⊢;cases hT:T e with
  | none=>simp[hT,dU] at h
  | some ti=>
   simp only[hT] at h ⊢;cases hc:g9 ti (ap fr y) with
   | none=>simp[hc,dU] at h
   | some p=>
    simp only[hc,dU,aD,aH,hl] at h ⊢;exact⟨_,h.1,h.2.1,rfl⟩
 | alloc e=>
  simp only[bS,vK] at h ⊢;cases hT:T e with
  | none=>simp[hT] at h
  | some ti=>
   simp only[hT,aD,aH,hl] at h ⊢;exact⟨_,h.1,h.2.1,rfl⟩
 | buildSlice t len parts=>
  simp only[bS,jg] at h ⊢;cases hT:T t with
  | none=>simp[hT,dU] at h
  | some ti=>
   simp only[hT] at h ⊢;cases hy:ti.ty with
   | slice e=>
    simp only[hy] at h ⊢;cases he:T e with
    | none=>simp[he,dU] at h
    | some ei=>
     simp only[he] at h ⊢;cases hp:mi ei.size 0 (k7 fr parts.toList) with
     | none=>simp[hp,dU] at h
     | some p=>
      simp only[hp,dU,aD,aH,hl] at h ⊢;exact⟨_,h.1,h.2.1,rfl⟩
   | _=>simp[hy,dU] at h
 | makeSlice t l c=>
  simp only[bS,wY] at h ⊢;split at h
  ·rename_i ti x y hT hx hy;cases hy:ti.ty with
   | slice e=>
    simp only[hy] at h ⊢;cases he:T e with
    | none=>simp[he,dU] at h
    | some ei=>
     simp only[he,dU,aD,aH,hl] at h ⊢;exact⟨_,h.1,h.2.1,rfl⟩
   | _=>simp[hy,dU] at h
  ·simp[dU] at h
 | makeMap t r=>
  cases r with
  | some r=>simp[bS] at h
  | none=>
   simp only[bS,wy] at h ⊢;split at h
   ·simp only[aD,aH,hl] at h ⊢;exact⟨_,h.1,h.2.1,rfl⟩
   ·simp at h
 | _=>simp[m0] at hm
def M4 (φ : List (List Nat)) (hl : φ.length=H.length) (b:Nat) : ¬ aR (iV H.length φ) b:=by
 rintro⟨i,hi⟩;rw[qH] at hi;split at hi
 ·simp at hi
 ·simp[List.getD,List.getElem?_eq_none (show φ.length<=i by omega)] at hi
def C6 (hT:bO E.P E.T) (s:aK S φ H w) (hf:c7 S φ H w fr a) (hnc:fI o.op=none) {x:I}(hp:bS E.T fr H o.op=some (vc,x,H')) (hvc:vc) {w':World}
  (hr:(execOp a.eval o).run E.P w=.ok (.value v) w'∨((execOp a.eval o).run E.P w=.ok .skip w'/\v=undef)):eJ E fr o->au w w':=by
 intro hko;simp only[eJ,hnc] at hko;rcases hko with hq|hmem
 ·exfalso;obtain⟨dst,op,ty,pos,after,guard⟩:=o;simp only at hp hq hnc;cases op with
  | call c=>
   obtain⟨callee,cargs,tys⟩:=c;cases callee with
   | builtin b=>cases b <;> simp[pw] at hq <;> simp[bS] at hp
   | value g=>simp[fI] at hnc
   | _=>simp[pw] at hq
  | _=>first|(simp[pw] at hq;done)|(simp[bS] at hp;done)
 ·obtain⟨H'',hp2⟩:=Oz hp hmem;obtain⟨s1,t1⟩:=s.kill H.length;obtain⟨v2,w2,φ2,hr2,s2,_,he2,_⟩:=wz hT s1 (hf.tr t1) hp2 hvc;have hww:w2=w':=by
   rcases hr with h1|⟨h1,_⟩ <;> rcases hr2 with h2|⟨h2,_⟩ <;> rw[h1] at h2 <;> injection h2 with _ h3 <;> exact h3.symm
  rw[<-hww];exact fun b hb=>he2.bi b hb (M4 φ s.len b)
def Left (E:Env) (S:Nat->Prop) (φ : List (List Nat)) (H:List R) (w:World) (K:Fr->List R->Prop) (a':Act) (w':World):Prop:=
 ∃ S' φ' fr' H',aK S' φ' H' w'/\c7 S' φ' H' w' fr' a'/\Ext S φ w S' φ' w'/\Tr E.n S φ H w S' φ' H' w'/\K fr' H'
def BL {f:Operand}{args:List Operand}(ho:fI o.op=some (f,args)) (s:aK S φ H w) (hf:c7 S φ H w fr a)
  {Kc:I->List R->Prop}(h:nE E (aE fr f/\dJ fr args) (eE (ap fr f)) (gM fr args) H Kc) 
  (hK : ∀ S' φ' H' w' r v,aK S' φ' H' w'->c7 S' φ' H' w' fr a->V S' φ' H' w' r v->Ext S φ w S' φ' w'->Tr H.length S φ H w S' φ' H' w'->(zF E (eE (ap fr f))->au w w')->Kc r H'->Kr (a.put o.dst v) w'):o.wp E.P a w Kr Qr:=by
 unfold nE at h;split at h
 ·rename_i g caps hfn;have common:(aE fr f/\dJ fr args)->∃ vs,a.eval f=.func (.func g) #[] vs/\((args.map a.eval).toArray++vs).size=(gM fr args++caps).length/\
    ∀ j,j<(gM fr args++caps).length->V S φ H w ((gM fr args++caps).getD j .junk) (((args.map a.eval).toArray++vs).getD j undef):=by
   rintro⟨hc1,hc2⟩;obtain⟨vs,e1,e2,e3⟩:=D5 (hf.ap f hc1) hfn;obtain⟨l1,l2⟩:=za hf args hc2;obtain⟨m1,m2⟩:=CY (va:=(args.map a.eval).toArray) (by simp[l1]) (fun j hj=>l2 j (by omega)) e2 e3;exact⟨vs,e1,m1,m2⟩
  split at h
  ·split at h
   ·rename_i vc ds hv;obtain⟨hc,hvc,ψ,hp,hk⟩:=h;obtain⟨vs,e1,e2,e3⟩:=common hc;refine xR (wP ho e1 hp.1 w) (hp.2 (jJ S φ) _ w _ (fun b hb=>hb.elim (s.slt b) (s.lt b)) (zO (fun x v vc d h1 h2 h3=>xu s 3 h1 h2 h3) e2 e3 hv hvc) ?_);intro x v w' fp hx how hnd hfp hg;rcases hk x hx with hk|⟨r,H',hu,hk⟩
    ·obtain⟨s1,s2,s3⟩:=wQ s hg (fun b=>S b∨b∈fp) (fun b h=>.inl h) (fun b h=>h.imp id (hfp b)) (fun b h=>h.elim (fun h=>hC (s.slt b h) hg.size) (how.lt b));exact hK _ _ _ _ _ _ s1 (hf.tr s2) (.d (how.fz fun b hb=>.inr hb)) s3 s2 (fun _=>hg.bi) hk
    ·obtain⟨S',φ',s1,s2,s3,hv⟩:=hu S φ w w' v fp s how hnd hfp hg;exact hK _ _ _ _ _ _ s1 (hf.tr s2) hv s3 s2 (fun _=>hg.bi) hk
   ·exact h.elim
  ·split at h
   ·rename_i vc ds hv;obtain⟨hc,hvc,ψ,hp,hk⟩:=h;obtain⟨vs,e1,e2,e3⟩:=common hc;refine xR (wP ho e1 hp.1 w) (hp.2 S _ w _ s.slt (zO HE e2 e3 hv hvc) ?_);intro x v w' S' hx h1 h2 h3 hz hg;obtain⟨s1,s2,s3⟩:=wQ s hg S' h1 h2 h3;exact hK _ _ _ _ _ _ s1 (hf.tr s2) (.d hz) s3 s2 (fun _=>hg.bi) (hk x hx)
   ·exact h.elim
  ·rename_i hpf;obtain⟨hc,hp⟩:=h;obtain⟨vs,e1,e2,e3⟩:=common hc;refine xR (wP ho e1 hp.1 w) (hp.2 S φ _ w _ s e2 e3 ?_);intro v w' S' φ' r H' s1 hv s3 s2 hk;exact hK _ _ _ _ _ _ s1 (hf.tr s2) hv s3 s2 (fun hne=>by simp only[hfn,zF] at hne;exact absurd hpf hne) hk
 ·exact h.elim
def ry (hT:bO E.P E.T) (F:Nat) (hn:E.n<=H.length) (s:aK S φ H w) (hf:c7 S φ H w fr a)
  (h:an E F all [o] [] (nQ K) fr H) (hK : ∀ a' w',(eJ E fr o->au w w')->Left E S φ H w K a' w'->Kr a' w') :
  if Region.wanted o (yielded all.toArray a.tmps) then o.wp E.P a w Kr Qr∨(o.asks E.P a w/\LetsOut Qr) else Kr (a.put o.dst undef) w:=by
 have fin : ∀ (f:Nat) {fr':Fr}{H':List R},an E f all [] [] (nQ K) fr' H'->K fr' H':=by
  intro f fr' H' h;match f with
  | 0=>simp only[an] at h
  | 1=>simp only[an,exec] at h
  | f+2=>simpa only[an,exec,nQ] using h
 have same : ∀ {fr':Fr}{a':Act},c7 S φ H w fr' a'->K fr' H->Kr a' w:=fun hf' hk=>hK _ _ (fun _=>au.refl w) ⟨S,φ,_,H,s,hf',Ext.refl ..,Tr.refl hn,hk⟩
 match F with
 | 0=>simp only[an] at h
 | F+1=>
 simp only[an] at h;split at h
 ·rename_i hgd;have hw:Region.wanted o (yielded all.toArray a.tmps)=true:=by simp only[Region.wanted,hgd]
  simp only[hw,if_true];left;split at h
  ·rename_i g args ho;refine BL ho s hf h fun S' φ' H' w' r v s' hf' hv he ht hag hk=>hK _ _ (fun hk=>hag (by simpa only[eJ,ho] using hk)) ?_
   match F with
   | 0=>simp only[lB] at hk
   | f+1=>
    simp only[lB] at hk;exact⟨S',φ',_,H',s',hf'.put o.dst hv,he,ht.weaken hn,fin _ hk⟩
  ·rename_i hnc;split at h
   ·rename_i vc x hp;obtain⟨hvc,hk⟩:=h;obtain⟨v,hv,hr⟩:=ux hT s hf hp hvc;unfold Oper.wp;rw[hr w (fun _=>au.refl w),Oper.upon_value];exact same (hf.put o.dst hv) (fin _ hk)
   ·rename_i hnP;split at h
    ·rename_i vc x H' hp;obtain⟨hvc,hk⟩:=h;obtain⟨v,w',φ',hr,s',ht,he,hv⟩:=wz hT s hf hp hvc;have hag:eJ E fr o->au w w':=C6 hT s hf hnc hp hvc hr;have fin2:Kr (a.put o.dst v) w':=hK _ _ hag ⟨S,φ',_,H',s',(hf.tr ht).put o.dst hv,he,ht.weaken hn,fin _ hk⟩;unfold Oper.wp;rcases hr with hr|⟨hr,rfl⟩
     ·rw[hr,Oper.upon_value];exact fin2
     ·rw[hr,Oper.upon_skip];exact fin2
    ·split at h
     ·rename_i vc x H' hp;obtain⟨hvc,hk⟩:=h;obtain⟨v,w',φ',hr,hag,s',ht,he,hv,_⟩:=Cz hT s hf hp hvc;have fin2:Kr (a.put o.dst v) w':=hK _ _ (fun _=>hag) ⟨S,φ',_,H',s',(hf.tr ht).put o.dst hv,he,ht.weaken hn,fin _ hk⟩;unfold Oper.wp;rw[hr,Oper.upon_value];exact fin2
     split at h
     ·rename_i fc fr1 H1 hfz;split at h
      ·rename_i vc x H' hp;obtain⟨hfc,hvc,hk⟩:=h;obtain⟨S1,φ1,s1,hf1,e1,t1⟩:=JU s hf hfz hfc;obtain⟨v,w',φ',hr,s',ht,he,hv⟩:=wz hT s1 hf1 hp hvc;have hn1:=hM hn t1.len;have hag:eJ E fr o->au w w':=fun _=>C6 hT s1 hf1 hnc hp hvc hr (by
        obtain⟨_,_,_,k8⟩:=Gx hfz;simp[eJ,k8,fI,m0])
       have fin2:Kr (a.put o.dst v) w':=hK _ _ hag ⟨S1,φ',_,H',s',(hf1.tr ht).put o.dst hv,e1.trans he,(t1.weaken hn).trans (ht.weaken hn1),fin _ hk⟩;unfold Oper.wp;rcases hr with hr|⟨hr,rfl⟩
       ·rw[hr,Oper.upon_value];exact fin2
       ·rw[hr,Oper.upon_skip];exact fin2
      ·exact h.elim
     ·exact h.elim
 ·rename_i j want hgd;split at h
  ·rename_i gc e hg;have wanted:gc->Region.wanted o (yielded all.toArray a.tmps)=e:=by
    intro hgc;exact Bx hf hgd hg hgc
   split at h
   ·rename_i g args ho;obtain⟨hgc,h⟩:=h;rw[wanted hgc];unfold u7 at h;split at h
    ·rename_i g' caps hfn;split at h
     ·rename_i hpf;split at h
      ·rename_i vc ds hv;obtain⟨hc,x,hp,hk⟩:=h;match F with
       | 0=>simp only[cx] at hk
       | F+1=>
       simp only[cx] at hk;cases e with
       | false=>
        simp only[eV,if_false];exact same (hf.skip o.dst rfl _) (fin _ hk)
       | true=>
        simp only[if_true];left;obtain⟨hc,hvc⟩:=hc rfl;have hp:=hp rfl;refine BL (E:=E) ho s hf (Kc:=fun r H'=>H'=H/\r=.d x) ?_ ?_
        ·simp only[nE,hfn,hpf,hv];exact⟨hc,hvc,fun y=>y=x,hp.xB,fun y hy=>.inl ⟨rfl,by rw[hy]⟩⟩
        ·rintro S' φ' H' w' r v s' hf' hv' he ht hag ⟨rfl,rfl⟩;exact hK _ _ (fun hk=>hag (by simpa only[eJ,ho] using hk)) ⟨S',φ',_,_,s',hf'.put o.dst (.cond (fun _=>hv') fun h=>by cases h),he,ht.weaken hn,fin _ hk⟩
      ·exact h.elim
     ·rename_i hpf;cases e with
      | false=>
       obtain⟨x,hk⟩:=h.1 rfl;match F with
       | 0=>simp only[cx] at hk
       | F+1=>
       simp only[cx] at hk;simp only[eV,if_false];exact same (hf.skip o.dst rfl _) (fin _ hk)
      | true=>
       simp only[if_true];left;obtain⟨hc,hp⟩:=h.2 rfl;refine BL (E:=E) ho s hf (Kc:=fun r H'=>cx E F all [] [] (nQ K) fr o.dst H' (.cond true r)) ?_ ?_
       ·simp only[nE,hfn,hpf];exact⟨hc,hp⟩
       ·intro S' φ' H' w' r v s' hf' hv' he ht hag hk;match F with
        | 0=>simp only[cx] at hk
        | F+1=>
        simp only[cx] at hk;exact hK _ _ (fun hk=>hag (by simpa only[eJ,ho] using hk)) ⟨S',φ',_,_,s',hf'.put o.dst (.cond (fun _=>hv') fun h=>by cases h),he,ht.weaken hn,fin _ hk⟩
     ·rename_i hpf;cases e with
      | false=>
       obtain⟨x,hk⟩:=h.1 rfl;match F with
       | 0=>simp only[cx] at hk
       | F+1=>
       simp only[cx] at hk;simp only[eV,if_false];exact same (hf.skip o.dst rfl _) (fin _ hk)
      | true=>
       simp only[if_true];left;have hp:=h.2 rfl;refine BL (E:=E) ho s hf (Kc:=fun r H'=>cx E F all [] [] (nQ K) fr o.dst H' (.cond true r)) ?_ ?_
       ·simp only[nE,hfn,hpf];exact hp
       ·intro S' φ' H' w' r v s' hf' hv' he ht hag hk;match F with
        | 0=>simp only[cx] at hk
        | F+1=>
        simp only[cx] at hk;exact hK _ _ (fun hk=>hag (by simpa only[eJ,ho] using hk)) ⟨S',φ',_,_,s',hf'.put o.dst (.cond (fun _=>hv') fun h=>by cases h),he,ht.weaken hn,fin _ hk⟩
    ·exact h.elim
   ·split at h
    ·rename_i vc x hp;obtain⟨hgc,hvc,hk⟩:=h;rw[wanted hgc];cases e with
     | false=>
      simp only[eV,if_false];exact same (hf.skip o.dst rfl _) (fin _ hk)
     | true=>
      simp only[if_true];left;obtain⟨v,hv,hr⟩:=ux hT s hf hp (hvc rfl);unfold Oper.wp;rw[hr w (fun _=>au.refl w),Oper.upon_value];exact same (hf.put o.dst (.cond (fun _=>hv) fun h=>by cases h)) (fin _ hk)
    ·rename_i hnP;split at h
     ·rename_i vc x H' hp;obtain⟨hgc,hk0,hk1⟩:=h;rw[wanted hgc];cases e with
      | false=>
       obtain⟨y,hk⟩:=hk0 rfl;simp only[eV,if_false];exact same (hf.skip o.dst rfl _) (fin _ hk)
      | true=>
       obtain⟨hvc,hk⟩:=hk1 rfl;simp only[if_true];left;obtain⟨v,w',φ',hr,s',ht,he,hv⟩:=wz hT s hf hp hvc;have fin2:Kr (a.put o.dst v) w':=hK _ _ (C6 hT s hf (by assumption) hp hvc hr) ⟨S,φ',_,H',s',(hf.tr ht).put o.dst (.cond (fun _=>hv) fun h=>by cases h),he,ht.weaken hn,fin _ hk⟩;unfold Oper.wp;rcases hr with hr|⟨hr,rfl⟩
       ·rw[hr,Oper.upon_value];exact fin2
       ·rw[hr,Oper.upon_skip];exact fin2
     ·exact h.elim
  ·exact h.elim
def bJ (E:Env) (o:Oper):Prop:=dN E.T o.op=false
def na (o:Oper):Bool:=pw o.op&&(fI o.op).isNone
def Ol (hT:bO E.P E.T) (F:Nat) (hn:E.n<=H.length) (s:aK S φ H w) (hf:c7 S φ H w fr a) (hq:na o=true) (hst:dN E.T o.op=false)
  (h:an E F all [o] [] (nQ K) fr H) : ∃ v fr' φ' H',aK S φ' H' w/\Ext S φ w S φ' w/\Tr E.n S φ H w S φ' H' w/\c7 S φ' H' w fr' (a.put o.dst v)/\K fr' H'/\YieldsIf E.P all.toArray (fun w'=>xy o.op=true->au w w') o v a:=by
 have fin : ∀ (f:Nat) {fr':Fr}{H':List R},an E f all [] [] (nQ K) fr' H'->K fr' H':=by
  intro f fr' H' h;match f with
  | 0=>simp only[an] at h
  | 1=>simp only[an,exec] at h
  | f+2=>simpa only[an,exec,nQ] using h
 simp only[na,gN,Option.isNone_iff_eq_none] at hq;have noI : ∀ {vc:Prop}{x:I}{H':List R},bS E.T fr H o.op=some (vc,x,H')->False:=by
  intro vc x H' hp;obtain⟨dst,op,ty,pos,after,guard⟩:=o;simp only at hp hq;cases op with
  | call c=>
   obtain⟨callee,cargs,tys⟩:=c;cases callee with
   | builtin b=>cases b <;> simp[pw] at hq <;> simp[bS] at hp
   | value g=>simp[fI] at hq
   | _=>simp[pw] at hq
  | _=>first|(simp[pw] at hq;done)|(simp[bS] at hp;done)
 match F with
 | 0=>simp only[an] at h
 | F+1=>
 simp only[an,hq.2] at h;split at h
 ·rename_i hgd;have hw:Region.wanted o (yielded all.toArray a.tmps)=true:=by simp only[Region.wanted,hgd]
  split at h
  ·rename_i vc x hp;obtain⟨hvc,hk⟩:=h;obtain⟨v,hv,hr⟩:=ux hT s hf hp hvc;exact⟨v,_,φ,H,s,Ext.refl ..,Tr.refl hn,hf.put o.dst hv,fin _ hk,.inl ⟨hw,fun w' hw'=>hr w' fun h=>hw' (h.resolve_right (by rw[hst];simp))⟩⟩
  ·split at h
   ·rename_i vc x H' hp;exact(noI hp).elim
   ·split at h
    ·rename_i vc x H' hp;obtain⟨hvc,hk⟩:=h;obtain⟨v,w',φ',hr,hag,s',ht,he,hv,hl⟩:=Cz hT s hf hp hvc;have hld : ∃ t q,o.op=.load t q:=by
      rcases Ow hp with⟨t,n,q,h⟩|h
      ·rw[h] at hq;simp[pw] at hq
      ·exact h
     obtain⟨rfl,hl⟩:=hl hld;exact⟨v,_,φ',H',s',he,ht.weaken hn,(hf.tr ht).put o.dst hv,fin _ hk,.inl ⟨hw,fun w2 hw2=>hl w2 (hw2 (by obtain⟨t,q,h⟩:=hld;rw[h];rfl))⟩⟩
    split at h
    ·rename_i fc fr1 H1 hfz;obtain⟨_,_,_,k8⟩:=Gx hfz;rw[k8] at hq;simp[pw] at hq
    ·exact h.elim
 ·rename_i j want hgd;split at h
  ·rename_i gc e hg;have wanted:gc->Region.wanted o (yielded all.toArray a.tmps)=e:=by
    intro hgc;exact Bx hf hgd hg hgc
   split at h
   ·rename_i vc x hp;obtain⟨hgc,hvc,hk⟩:=h;have hw:=wanted hgc;cases e with
    | false=>exact⟨undef,_,φ,H,s,Ext.refl ..,Tr.refl hn,hf.skip o.dst rfl _,fin _ hk,.inr ⟨hw,rfl⟩⟩
    | true=>
     obtain⟨v,hv,hr⟩:=ux hT s hf hp (hvc rfl);exact⟨v,_,φ,H,s,Ext.refl ..,Tr.refl hn,hf.put o.dst (.cond (fun _=>hv) fun h=>by cases h),fin _ hk,.inl ⟨hw,fun w' hw'=>hr w' fun h=>hw' (h.resolve_right (by rw[hst];simp))⟩⟩
   ·split at h
    ·rename_i vc x H' hp;exact(noI hp).elim
    ·exact h.elim
  ·exact h.elim
inductive dV where
 | done
 | fst (i:Nat) (t:dV)
 | one (i:Nat) (t:dV)
 | two (i:Nat) (t:dV) (j:Nat) (u:dV)
 | three (i:Nat) (t:dV) (j:Nat) (u:dV) (k:Nat) (v:dV)
 | four (i:Nat) (t:dV) (j:Nat) (u:dV) (k:Nat) (v:dV) (m:Nat) (y:dV)
variable {u:dV}
def ey (ops:Array Oper) (tails:List Nat):Array Bool->Bool->dV->Bool
 | listed,_,.done=>(Region.ready .any ops listed).isEmpty
 | listed,ph,.fst i t=>
  (Region.ready .any ops listed).contains i&&Region.free .any ops listed i&&(match ops[i]? with|some o=>na o&&(!xy o.op || (ph&&tails.all fun j=>listed.getD j true || waits ops i ops.size j))|none=>false) &&
   ey ops tails (listed.setIfInBounds i true) ph t
 | listed,ph,.one i t=>Region.ready .any ops listed == [i]&&(ops[i]?).isSome&&ey ops tails (listed.setIfInBounds i true) false t
 | listed,ph,.two i t j u=>Region.ready .any ops listed == [i,j]&&(ops[i]?).isSome&&(ops[j]?).isSome&&ey ops tails (listed.setIfInBounds i true) false t&&ey ops tails (listed.setIfInBounds j true) false u
 | listed,ph,.three i t j u k v=>Region.ready .any ops listed == [i,j,k]&&(ops[i]?).isSome&&(ops[j]?).isSome&&(ops[k]?).isSome&&ey ops tails (listed.setIfInBounds i true) false t&&ey ops tails (listed.setIfInBounds j true) false u&&ey ops tails (listed.setIfInBounds k true) false v
 | listed,ph,.four i t j u k v m y=>Region.ready .any ops listed == [i,j,k,m]&&(ops[i]?).isSome&&(ops[j]?).isSome&&(ops[k]?).isSome&&(ops[m]?).isSome&&ey ops tails (listed.setIfInBounds i true) false t&&ey ops tails (listed.setIfInBounds j true) false u&&ey ops tails (listed.setIfInBounds k true) false v&&ey ops tails (listed.setIfInBounds m true) false y
def aL (l : List Oper) (i : Nat) : Oper := l.getD i ⟨none, .move (.const undef), 0, "", #[], none⟩
def bY (E:Env) (F:Nat) (l:List Oper) (tails:List Nat) (K:Fr->List R->Prop):dV->Fr->List R->Prop
 | .done,fr,H=>K fr H
 | .fst i t,fr,H=>bJ E (aL l i)/\an E F l [aL l i] [] (nQ (bY E F l tails K t)) fr H
 | .one i t,fr,H=>(tails.contains i=false->eJ E fr (aL l i))/\an E F l [aL l i] [] (nQ (bY E F l tails K t)) fr H
 | .two i t j u,fr,H=>((tails.contains i=false->eJ E fr (aL l i))/\an E F l [aL l i] [] (nQ (bY E F l tails K t)) fr H)/\
   ((tails.contains j=false->eJ E fr (aL l j))/\an E F l [aL l j] [] (nQ (bY E F l tails K u)) fr H)
 | .three i t j u k v,fr,H=>((tails.contains i=false->eJ E fr (aL l i))/\an E F l [aL l i] [] (nQ (bY E F l tails K t)) fr H)/\
   ((tails.contains j=false->eJ E fr (aL l j))/\an E F l [aL l j] [] (nQ (bY E F l tails K u)) fr H)/\
   ((tails.contains k=false->eJ E fr (aL l k))/\an E F l [aL l k] [] (nQ (bY E F l tails K v)) fr H)
 | .four i t j u k v m y,fr,H=>
   ((tails.contains i=false->eJ E fr (aL l i))/\an E F l [aL l i] [] (nQ (bY E F l tails K t)) fr H)/\
   ((tails.contains j=false->eJ E fr (aL l j))/\an E F l [aL l j] [] (nQ (bY E F l tails K u)) fr H)/\
   ((tails.contains k=false->eJ E fr (aL l k))/\an E F l [aL l k] [] (nQ (bY E F l tails K v)) fr H)/\
   ((tails.contains m=false->eJ E fr (aL l m))/\an E F l [aL l m] [] (nQ (bY E F l tails K y)) fr H)
def p5 (h:l.toArray[i]?=some o):aL l i=o:=by
 have:l[i]?=some o:=by simpa using h
 simp[aL,List.getD,this]
def dV.depth:dV->Nat
 | .done=>0
 | .fst _ t=>t.depth+1
 | .one _ t=>t.depth+1
 | .two _ t _ u=>max t.depth u.depth+1
 | .three _ t _ u _ v=>max t.depth (max u.depth v.depth)+1
 | .four _ t _ u _ v _ y=>max (max t.depth y.depth) (max u.depth v.depth)+1
def Left.trans {S0:Nat->Prop}{φ0:List (List Nat)}{H0:List R}{w0:World}{K:Fr->List R->Prop}{a':Act}{w':World}(he:Ext S0 φ0 w0 S φ w) (ht:Tr E.n S0 φ0 H0 w0 S φ H w) (h:Left E S φ H w K a' w'):Left E S0 φ0 H0 w0 K a' w':=by
 obtain⟨S',φ',fr',H',a1,a2,a3,a4,a5⟩:=h;exact⟨S',φ',fr',H',a1,a2,he.trans a3,ht.trans a4,a5⟩
def O9 (hT:bO E.P E.T) {Qr:Act->World->Prop}{w0:World}{S0:Nat->Prop}{φ0:List (List Nat)}{H0:List R}
  (hs:Region.noSelect l.toArray=true) (hq : ∀ a' w',Left E S0 φ0 H0 w0 K a' w'->Qr a' w') :
  ∀ (t:dV) (fuel:Nat) (listed:Array Bool) (ph:Bool) (S:Nat->Prop) (φ : List (List Nat)) (H:List R) (w:World) (fr:Fr) (a:Act),
   aK S φ H w->c7 S φ H w fr a->Ext S0 φ0 w0 S φ w->Tr E.n S0 φ0 H0 w0 S φ H w->(ph=true->w=w0)->dg l.toArray listed->ey l.toArray tails listed ph t=true->t.depth<=fuel->bY E F l tails K t fr H->
   nC E.P l.toArray (fun e a w=>match e with|.normal=>Qr a w|_=>False) (au w0) (fun i=>!tails.contains i) fuel listed a w:=by
 have agtr : ∀ {w w':World},au w w'->au w0 w->w0.heap.size<=w.heap.size->au w0 w':=fun h1 h2 h3 b hb=>(h1 b (hC hb h3)).trans (h2 b hb)
 intro t;induction t with
 | done=>
  intro fuel listed ph S φ H w fr a s hf he ht hph hcl hc hd h;simp only[ey,List.isEmpty_iff] at hc;have hQ:Qr a w:=hq _ _ ⟨S,φ,fr,H,s,hf,he,ht,h⟩;cases fuel with
  | zero=>exact⟨hc,hQ⟩
  | succ f=>exact⟨fun _=>hQ,by rw[hc];simp⟩
 | fst i t ih=>
  intro fuel listed ph S φ H w fr a s hf he ht hph hcl hc hd h;match fuel with
  | 0=>simp[dV.depth] at hd
  | fuel+1=>
  simp only[ey,gN,List.contains_iff_mem] at hc;obtain⟨⟨⟨hr,hfree⟩,k8⟩,hc⟩:=hc;split at k8
  case h_2=>simp at k8
  rename_i o ho;simp only[gN,oD,Bool.not_eq_true'] at k8;obtain⟨hpl,hrd⟩:=k8;simp only[bY,p5 ho] at h;obtain⟨v,fr',φ',H',s',he',ht',hf',hk,hy⟩:=Ol hT F ht.len s hf hpl h.1 h.2;have next:=ih fuel (listed.setIfInBounds i true) ph S φ' H' w fr' (a.put o.dst v) s' hf' (he.trans he') (ht.trans ht') hph (hcl.set hr) hc (by simpa [dV.depth] using hd) hk;have hfr:=Region.free_spec ho hfree;cases hro:xy o.op with
  | false=>
   refine EY (S1:=fun _=>True) ho (Region.noSelect_spec hs) (fun _ _ _ h=>h) (.inl fun _=>trivial) fuel listed a w hfr (.inl fun _=>trivial) hcl hr ?_ trivial next;exact hy.imp (fun⟨h1,h2⟩=>⟨h1,fun w' _=>h2 w' (by simp[hro])⟩) id
  | true=>
   rcases hrd with h0|⟨h1,h2⟩
   ·rw[hro] at h0;cases h0
   ·obtain rfl:=hph h1;refine EY (S1:=au w) ho (Region.noSelect_spec hs) (fun _ _ _ h=>h) (.inr rfl) fuel listed a w hfr (.inr fun j hj=>?_) hcl hr ?_ (au.refl w) next
    ·simp only[Bool.not_eq_false',List.contains_iff_mem] at hj;have:=List.all_eq_true.1 h2 j hj;simp only[oD] at this;exact this.imp id fun h=>⟨_,h⟩
    ·exact hy.imp (fun⟨h1,h2⟩=>⟨h1,fun w' hw'=>h2 w' fun _=>hw'⟩) id
 | one i t ih=>
  intro fuel listed ph S φ H w fr a s hf he ht hph hcl hc hd h;match fuel with
  | 0=>simp[dV.depth] at hd
  | fuel+1=>
  simp only[ey,gN,beq_iff_eq] at hc;obtain⟨⟨hr,k8⟩,hc⟩:=hc;obtain⟨o,ho⟩:=Option.isSome_iff_exists.1 k8;simp only[bY,p5 ho] at h;have hmem:i∈Region.ready .any l.toArray listed:=by rw[hr];simp
  refine⟨fun h0=>(by rw[hr] at h0;cases h0),fun k hk=>?_⟩;rw[hr,mv] at hk;subst hk;have:=ry hT (Qr:=fun e a w=>match e with|.normal=>Qr a w|_=>False) (Kr:=fun a' w'=>((!tails.contains k)=true->au w0 w->au w0 w')/\nC E.P l.toArray (fun e a w=>match e with|.normal=>Qr a w|_=>False) (au w0) (fun i=>!tails.contains i) fuel (listed.setIfInBounds k true) a' w') F ht.len s hf h.2 (fun a' w' hag hl=>?_)
  ·unfold wpOp;simp only[ho];exact this
  ·obtain⟨S',φ',fr',H',b1,b2,b3,b4,b5⟩:=hl;refine⟨fun h1 h2=>agtr (hag (h.1 (by simpa using h1))) h2 he.size,?_⟩;exact ih fuel _ false S' φ' H' w' fr' a' b1 b2 (he.trans b3) (ht.trans b4) (by simp) (hcl.set hmem) hc (by simpa [dV.depth] using hd) b5
 | two i t j u ih1 ih2=>
  intro fuel listed ph S φ H w fr a s hf he ht hph hcl hc hd h;match fuel with
  | 0=>simp[dV.depth] at hd
  | fuel+1=>
  simp only[ey,gN,beq_iff_eq] at hc;obtain⟨⟨⟨⟨hr,hop1⟩,hop2⟩,hc1⟩,hc2⟩:=hc;obtain⟨o1,ho1⟩:=Option.isSome_iff_exists.1 hop1;obtain⟨o2,ho2⟩:=Option.isSome_iff_exists.1 hop2;simp only[bY,p5 ho1,p5 ho2] at h;have hd':t.depth<=fuel/\u.depth<=fuel:=by simp[dV.depth] at hd;omega
  refine⟨fun h0=>(by rw[hr] at h0;cases h0),fun k hk=>?_⟩;have hmem:=hk;rw[hr,jP,mv] at hk;rcases hk with rfl|rfl
  ·have:=ry hT (Qr:=fun e a w=>match e with|.normal=>Qr a w|_=>False) (Kr:=fun a' w'=>((!tails.contains k)=true->au w0 w->au w0 w')/\nC E.P l.toArray (fun e a w=>match e with|.normal=>Qr a w|_=>False) (au w0) (fun i=>!tails.contains i) fuel (listed.setIfInBounds k true) a' w') F ht.len s hf h.1.2 (fun a' w' hag hl=>?_)
   ·unfold wpOp;simp only[ho1];exact this
   ·obtain⟨S',φ',fr',H',b1,b2,b3,b4,b5⟩:=hl;refine⟨fun h1 h2=>agtr (hag (h.1.1 (by simpa using h1))) h2 he.size,?_⟩;exact ih1 fuel _ false S' φ' H' w' fr' a' b1 b2 (he.trans b3) (ht.trans b4) (by simp) (hcl.set hmem) hc1 hd'.1 b5
  ·have:=ry hT (Qr:=fun e a w=>match e with|.normal=>Qr a w|_=>False) (Kr:=fun a' w'=>((!tails.contains k)=true->au w0 w->au w0 w')/\nC E.P l.toArray (fun e a w=>match e with|.normal=>Qr a w|_=>False) (au w0) (fun i=>!tails.contains i) fuel (listed.setIfInBounds k true) a' w') F ht.len s hf h.2.2 (fun a' w' hag hl=>?_)
   ·unfold wpOp;simp only[ho2];exact this
   ·obtain⟨S',φ',fr',H',b1,b2,b3,b4,b5⟩:=hl;refine⟨fun h1 h2=>agtr (hag (h.2.1 (by simpa using h1))) h2 he.size,?_⟩;exact ih2 fuel _ false S' φ' H' w' fr' a' b1 b2 (he.trans b3) (ht.trans b4) (by simp) (hcl.set hmem) hc2 hd'.2 b5
 | three i t j u m v ih1 ih2 ih3=>
  intro fuel listed ph S φ H w fr a s hf he ht hph hcl hc hd h;match fuel with
  | 0=>simp[dV.depth] at hd
  | fuel+1=>
  simp only[ey,gN,beq_iff_eq] at hc;obtain⟨⟨⟨⟨⟨⟨hr,hop1⟩,hop2⟩,hop3⟩,hc1⟩,hc2⟩,hc3⟩:=hc;obtain⟨o1,ho1⟩:=Option.isSome_iff_exists.1 hop1;obtain⟨o2,ho2⟩:=Option.isSome_iff_exists.1 hop2;obtain⟨o3,ho3⟩:=Option.isSome_iff_exists.1 hop3;simp only[bY,p5 ho1,p5 ho2,p5 ho3] at h;have hd':t.depth<=fuel/\u.depth<=fuel/\v.depth<=fuel:=by simp[dV.depth] at hd;omega
  refine⟨fun h0=>(by rw[hr] at h0;cases h0),fun k hk=>?_⟩;have hmem:=hk;rw[hr,jP,jP,mv] at hk;rcases hk with rfl|rfl|rfl
  ·have:=ry hT (Qr:=fun e a w=>match e with|.normal=>Qr a w|_=>False) (Kr:=fun a' w'=>((!tails.contains k)=true->au w0 w->au w0 w')/\nC E.P l.toArray (fun e a w=>match e with|.normal=>Qr a w|_=>False) (au w0) (fun i=>!tails.contains i) fuel (listed.setIfInBounds k true) a' w') F ht.len s hf h.1.2 (fun a' w' hag hl=>?_)
   ·unfold wpOp;simp only[ho1];exact this
   ·obtain⟨S',φ',fr',H',b1,b2,b3,b4,b5⟩:=hl;refine⟨fun h1 h2=>agtr (hag (h.1.1 (by simpa using h1))) h2 he.size,?_⟩;exact ih1 fuel _ false S' φ' H' w' fr' a' b1 b2 (he.trans b3) (ht.trans b4) (by simp) (hcl.set hmem) hc1 hd'.1 b5
  ·have:=ry hT (Qr:=fun e a w=>match e with|.normal=>Qr a w|_=>False) (Kr:=fun a' w'=>((!tails.contains k)=true->au w0 w->au w0 w')/\nC E.P l.toArray (fun e a w=>match e with|.normal=>Qr a w|_=>False) (au w0) (fun i=>!tails.contains i) fuel (listed.setIfInBounds k true) a' w') F ht.len s hf h.2.1.2 (fun a' w' hag hl=>?_)
   ·unfold wpOp;simp only[ho2];exact this
   ·obtain⟨S',φ',fr',H',b1,b2,b3,b4,b5⟩:=hl;refine⟨fun h1 h2=>agtr (hag (h.2.1.1 (by simpa using h1))) h2 he.size,?_⟩;exact ih2 fuel _ false S' φ' H' w' fr' a' b1 b2 (he.trans b3) (ht.trans b4) (by simp) (hcl.set hmem) hc2 hd'.2.1 b5
  ·have:=ry hT (Qr:=fun e a w=>match e with|.normal=>Qr a w|_=>False) (Kr:=fun a' w'=>((!tails.contains k)=true->au w0 w->au w0 w')/\nC E.P l.toArray (fun e a w=>match e with|.normal=>Qr a w|_=>False) (au w0) (fun i=>!tails.contains i) fuel (listed.setIfInBounds k true) a' w') F ht.len s hf h.2.2.2 (fun a' w' hag hl=>?_)
   ·unfold wpOp;simp only[ho3];exact this
   ·obtain⟨S',φ',fr',H',b1,b2,b3,b4,b5⟩:=hl;refine⟨fun h1 h2=>agtr (hag (h.2.2.1 (by simpa using h1))) h2 he.size,?_⟩;exact ih3 fuel _ false S' φ' H' w' fr' a' b1 b2 (he.trans b3) (ht.trans b4) (by simp) (hcl.set hmem) hc3 hd'.2.2 b5
 | four i t j u m v q y ih1 ih2 ih3 ih4=>
  intro fuel listed ph S φ H w fr a s hf he ht hph hcl hc hd h;match fuel with
  | 0=>simp[dV.depth] at hd
  | fuel+1=>
  simp only[ey,gN,beq_iff_eq] at hc;obtain⟨⟨⟨⟨⟨⟨⟨⟨hr,hop1⟩,hop2⟩,hop3⟩,hop4⟩,hc1⟩,hc2⟩,hc3⟩,hc4⟩:=hc;obtain⟨o1,ho1⟩:=Option.isSome_iff_exists.1 hop1;obtain⟨o2,ho2⟩:=Option.isSome_iff_exists.1 hop2;obtain⟨o3,ho3⟩:=Option.isSome_iff_exists.1 hop3;obtain⟨o4,ho4⟩:=Option.isSome_iff_exists.1 hop4;simp only[bY,p5 ho1,p5 ho2,p5 ho3,p5 ho4] at h;have hd':t.depth<=fuel/\u.depth<=fuel/\v.depth<=fuel/\y.depth<=fuel:=by simp[dV.depth] at hd;omega
  refine⟨fun h0=>(by rw[hr] at h0;cases h0),fun k hk=>?_⟩;have hmem:=hk;rw[hr,jP,jP,jP,mv] at hk;rcases hk with rfl|rfl|rfl|rfl
  ·have:=ry hT (Qr:=fun e a w=>match e with|.normal=>Qr a w|_=>False) (Kr:=fun a' w'=>((!tails.contains k)=true->au w0 w->au w0 w')/\nC E.P l.toArray (fun e a w=>match e with|.normal=>Qr a w|_=>False) (au w0) (fun i=>!tails.contains i) fuel (listed.setIfInBounds k true) a' w') F ht.len s hf h.1.2 (fun a' w' hag hl=>?_)
   ·unfold wpOp;simp only[ho1];exact this
   ·obtain⟨S',φ',fr',H',b1,b2,b3,b4,b5⟩:=hl;refine⟨fun h1 h2=>agtr (hag (h.1.1 (by simpa using h1))) h2 he.size,?_⟩;exact ih1 fuel _ false S' φ' H' w' fr' a' b1 b2 (he.trans b3) (ht.trans b4) (by simp) (hcl.set hmem) hc1 hd'.1 b5
  ·have:=ry hT (Qr:=fun e a w=>match e with|.normal=>Qr a w|_=>False) (Kr:=fun a' w'=>((!tails.contains k)=true->au w0 w->au w0 w')/\nC E.P l.toArray (fun e a w=>match e with|.normal=>Qr a w|_=>False) (au w0) (fun i=>!tails.contains i) fuel (listed.setIfInBounds k true) a' w') F ht.len s hf h.2.1.2 (fun a' w' hag hl=>?_)
   ·unfold wpOp;simp only[ho2];exact this
   ·obtain⟨S',φ',fr',H',b1,b2,b3,b4,b5⟩:=hl;refine⟨fun h1 h2=>agtr (hag (h.2.1.1 (by simpa using h1))) h2 he.size,?_⟩;exact ih2 fuel _ false S' φ' H' w' fr' a' b1 b2 (he.trans b3) (ht.trans b4) (by simp) (hcl.set hmem) hc2 hd'.2.1 b5
  ·have:=ry hT (Qr:=fun e a w=>match e with|.normal=>Qr a w|_=>False) (Kr:=fun a' w'=>((!tails.contains k)=true->au w0 w->au w0 w')/\nC E.P l.toArray (fun e a w=>match e with|.normal=>Qr a w|_=>False) (au w0) (fun i=>!tails.contains i) fuel (listed.setIfInBounds k true) a' w') F ht.len s hf h.2.2.1.2 (fun a' w' hag hl=>?_)
   ·unfold wpOp;simp only[ho3];exact this
   ·obtain⟨S',φ',fr',H',b1,b2,b3,b4,b5⟩:=hl;refine⟨fun h1 h2=>agtr (hag (h.2.2.1.1 (by simpa using h1))) h2 he.size,?_⟩;exact ih3 fuel _ false S' φ' H' w' fr' a' b1 b2 (he.trans b3) (ht.trans b4) (by simp) (hcl.set hmem) hc3 hd'.2.2.1 b5
  ·have:=ry hT (Qr:=fun e a w=>match e with|.normal=>Qr a w|_=>False) (Kr:=fun a' w'=>((!tails.contains k)=true->au w0 w->au w0 w')/\nC E.P l.toArray (fun e a w=>match e with|.normal=>Qr a w|_=>False) (au w0) (fun i=>!tails.contains i) fuel (listed.setIfInBounds k true) a' w') F ht.len s hf h.2.2.2.2 (fun a' w' hag hl=>?_)
   ·unfold wpOp;simp only[ho4];exact this
   ·obtain⟨S',φ',fr',H',b1,b2,b3,b4,b5⟩:=hl;refine⟨fun h1 h2=>agtr (hag (h.2.2.2.1 (by simpa using h1))) h2 he.size,?_⟩;exact ih4 fuel _ false S' φ' H' w' fr' a' b1 b2 (he.trans b3) (ht.trans b4) (by simp) (hcl.set hmem) hc4 hd'.2.2.2 b5
def vE (ops:Array Oper) (tails:List Nat) (t:dV):Bool:=
 Region.noSelect ops&&ey ops tails (Array.replicate ops.size false) true t&&decide (t.depth<=ops.size)
def tJ (E:Env) (F2:Nat) (ks:List Item) (Q:aX) (fr:Fr) (H:List R):Prop:=exec E F2 ks Q fr H
@[go_sem] def Zi {F2:Nat}{Q:aX}:tJ E F2 ks Q fr H=exec E F2 ks Q fr H:=rfl
def xX (hT:bO E.P E.T) (hm:E.P.follows .mixedOrders=true) (F F2:Nat) {id:Nat}{Q:aX}(tails:List Nat) (t:dV) (hc:vE l.toArray tails t=true)
  (h:bY E F l tails (tJ E F2 ks Q) t fr H):cJ E.P E.n (.region id l.toArray true) (dG E ks Q) fr H:=by
 intro S φ a w Qr hn s hf hq;simp only[vE,gN,decide_eq_true_eq] at hc;obtain⟨⟨h1,h2⟩,h3⟩:=hc;obtain⟨s1,s2,s3⟩:=wQ s (b7.draw w) S (fun b h=>h) (fun b h=>.inl h) (fun b h=>s.slt b h);have main:=O9 (E:=E) hT (F:=F) (l:=l) (tails:=tails) (K:=tJ E F2 ks Q) (Qr:=fun a' w'=>Qr .normal a' w') (w0:={ w with drawn:=w.drawn+1 }) (S0:=S) (φ0:=φ) (H0:=H) h1
  (fun a' w' hl=>by
   obtain⟨S',φ',fr',H',b1,b2,b3,b4,b5⟩:=hl;exact hq _ a' w' S' φ' fr' H' b1 b2 (s3.trans b3) ((s2.weaken hn).trans b4) (xS hT F2 b5))
  t l.toArray.size (Array.replicate l.toArray.size false) true S φ H _ fr a s1 (hf.tr s2) (Ext.refl ..) (Tr.refl hn) (fun _=>rfl) (fun j o ho hj=>?_) h2 h3 h
 ·refine wp_mono (wp_region_any hm (Hj _ _ _ _ main)) ?_;intro e a' w' he;cases e with
  | normal=>exact he
  | _=>exact he.elim
 ·have hlt:j<l.toArray.size:=(Array.getElem?_eq_some_iff.1 ho).1;simp only[Array.getD_eq_getD_getElem?,Array.getElem?_replicate] at hj;split at hj <;> simp at hj
@[go_sem] def TK:bY E F l tails K .done fr H=K fr H:=rfl
@[go_sem] def SS {t:dV}:bY E F l tails K (.fst i t) fr H=(bJ E (aL l i)/\an E F l [aL l i] [] (nQ (bY E F l tails K t)) fr H):=rfl
@[go_sem] def Ws {t:dV}:bY E F l tails K (.one i t) fr H =
  ((tails.contains i=false->eJ E fr (aL l i))/\an E F l [aL l i] [] (nQ (bY E F l tails K t)) fr H):=rfl
@[go_sem] def zpp {t:dV}:bY E F l tails K (.two i t j u) fr H =
  ((
   (tails.contains i=false->eJ E fr (aL l i))/\an E F l [aL l i] [] (nQ (bY E F l tails K t)) fr H)/\
   ((tails.contains j=false->eJ E fr (aL l j))/\an E F l [aL l j] [] (nQ (bY E F l tails K u)) fr H)):=rfl
@[go_sem] def Y8 {k:Nat}{t v:dV}:bY E F l tails K (.three i t j u k v) fr H =
  ((
   (tails.contains i=false->eJ E fr (aL l i))/\an E F l [aL l i] [] (nQ (bY E F l tails K t)) fr H)/\
   ((tails.contains j=false->eJ E fr (aL l j))/\an E F l [aL l j] [] (nQ (bY E F l tails K u)) fr H)/\
   ((tails.contains k=false->eJ E fr (aL l k))/\an E F l [aL l k] [] (nQ (bY E F l tails K v)) fr H)):=rfl
@[go_sem] def Q0:aL (o::l) 0=o:=rfl
@[go_sem] def RS {n:Nat}:aL (o::l) (n+1)=aL l n:=rfl
section keep
variable {dst:Option Tmp}{ty:TypeId}{pos:String}{af:Array Edge}{gd:Option (Nat×Bool)}
@[go_sem] def UQ:eJ E fr ⟨dst,.load t x,ty,pos,af,gd⟩=True:=by simp[eJ,fI,pw]
@[go_sem] def zpu:eJ E fr ⟨dst,.box t x,ty,pos,af,gd⟩=True:=by simp[eJ,fI,m0]
@[go_sem] def SG:eJ E fr ⟨dst,.alloc t,ty,pos,af,gd⟩=True:=by simp[eJ,fI,m0]
@[go_sem] def Zu {n:Nat}:eJ E fr ⟨dst,.buildSlice t n p,ty,pos,af,gd⟩=True:=by simp[eJ,fI,m0]
@[go_sem] def zpw {g:Operand}{args:Array Operand}{ts:Array TypeId}:eJ E fr ⟨dst,.call ⟨.value g,args,ts⟩,ty,pos,af,gd⟩=zF E (eE (ap fr g)):=rfl
@[go_sem] def YI {f:Nat}{c:List I}:zF E (some (f,c))=(E.pf f≠.proc):=rfl
def wA (o:Option TI):Prop:=sc o=false
@[go_sem] def QD {sz b:Nat}{z:D}:wA (some ⟨.int k,sz,b,z⟩)=True:=by simp[wA,sc]
@[go_sem] def RE:bJ E ⟨dst,.move x,ty,pos,af,gd⟩=True:=by simp[bJ,dN]
@[go_sem] def Y0:bJ E ⟨dst,.assign x,ty,pos,af,gd⟩=True:=by simp[bJ,dN]
@[go_sem] def Q9 {c:Operand}:bJ E ⟨dst,.pick c x y,ty,pos,af,gd⟩=True:=by simp[bJ,dN]
@[go_sem] def WF:bJ E ⟨dst,.build t p,ty,pos,af,gd⟩=True:=by simp[bJ,dN]
@[go_sem] def PY:bJ E ⟨dst,.load t x,ty,pos,af,gd⟩=True:=by simp[bJ,dN]
@[go_sem] def Xz {ok:Bool}:bJ E ⟨dst,.lookup t x y ok,ty,pos,af,gd⟩=True:=by simp[bJ,dN]
@[go_sem] def Yq:bJ E ⟨dst,.nilCheck x,ty,pos,af,gd⟩=True:=by simp[bJ,dN]
@[go_sem] def zpE {op:BinOp}{yt:TypeId}:bJ E ⟨dst,.binOp op t x y yt,ty,pos,af,gd⟩=True:=by simp[bJ,dN]
@[go_sem] def TU {op:UnOp}:bJ E ⟨dst,.unOp op t x,ty,pos,af,gd⟩=True:=by simp[bJ,dN]
@[go_sem] def XR {u:TypeId}:bJ E ⟨dst,.convert t u x,ty,pos,af,gd⟩=wA (E.T u):=rfl
@[go_sem] def TB:bJ E ⟨dst,.fieldAddr t x i,ty,pos,af,gd⟩=True:=by simp[bJ,dN]
@[go_sem] def Sb:bJ E ⟨dst,.indexAddr t x y,ty,pos,af,gd⟩=True:=by simp[bJ,dN]
@[go_sem] def zpG:bJ E ⟨dst,.index t x y,ty,pos,af,gd⟩=True:=by simp[bJ,dN]
@[go_sem] def qtG:bJ E ⟨dst,.extract x i,ty,pos,af,gd⟩=True:=by simp[bJ,dN]
@[go_sem] def Xm {c:Fn}{a:Array Operand}{b:Array Operand}:bJ E ⟨dst,.makeFunc c a b,ty,pos,af,gd⟩=True:=by simp[bJ,dN]
@[go_sem] def U3 {a:Array Operand}:bJ E ⟨dst,.call ⟨.builtin .len,a,b⟩,ty,pos,af,gd⟩=True:=by simp[bJ,dN]
@[go_sem] def ZR {a:Array Operand}:bJ E ⟨dst,.call ⟨.builtin .min,a,b⟩,ty,pos,af,gd⟩=True:=by simp[bJ,dN]
@[go_sem] def Zz {a:Array Operand}:bJ E ⟨dst,.call ⟨.builtin .max,a,b⟩,ty,pos,af,gd⟩=True:=by simp[bJ,dN]
end keep
attribute [go_sem] List.contains_cons List.contains_nil ne_eq false_imp_iff true_imp_iff forall_const
@[go_sem] def TV {l:List Int}:ar (l.map (D.int k))=true:=by induction l with|nil=>rfl|cons x r ih=>simp[ar,D.cells,D.scalar,ih]
@[go_sem] def Wa {l:List (Int×Int)}:ar (l.map dP)=true:=by induction l with|nil=>rfl|cons x r ih=>simp[ar,D.cells,D.scalar,ih]
end Go.VL
namespace Go.VL
set_option linter.defProp false
variable {r:List (Nat×Nat×Nat×Bool)}{i j k:Nat}{dp:Bool}{cs:List I}
variable {E:Env}{Q:aX}{fr:Fr}{H:List R}{n:Nat}
def yc (i j k:Nat) (dp:Bool) (H:List R):Option R->List R
 | some (.box cs)=>(H ++ [R.row 0 k dp []]).set i (.box (cs.set j (.sl H.length 0 k 0 0)))
 | _=>H
def An (i j k:Nat):Option R->Prop
 | some (.box cs)=>cs.getD j .junk=.d .nil/\j<cs.length/\0<k
 | _=>False
def fo:List (Nat×Nat×Nat×Bool)->List R->List R
 | [],H=>H
 | (i,j,k,dp)::r,H=>fo r (yc i j k dp H (bD H i))
def tG:List (Nat×Nat×Nat×Bool)->List R->Prop
 | [],_=>True
 | (i,j,k,dp)::r,H=>An i j k (bD H i)/\tG r (yc i j k dp H (bD H i))
def y0 : ∀ (l:List (Nat×Nat×Nat×Bool)) {fr:Fr}{H:List R},tG l H->a0 n fr H fr (fo l H)
 | [],fr,H,_=>a0.refl n fr H
 | (i,j,k,dp)::r,fr,H,h=>by
  obtain⟨h1,h2⟩:=h;simp only[fo];cases hr:bD H i with
  | none=>rw[hr] at h1;exact h1.elim
  | some x=>
   rw[hr] at h1 h2;cases x with
   | box cs=>
    simp only[An,yc] at h1 h2 ⊢;rw[<-fD] at hr;exact(a0.wW i j k dp hr h1.1 h1.2.1 h1.2.2).trans (y0 r h2)
   | _=>exact h1.elim
def Bw (hT:bO E.P E.T) {σ : Type}(F : σ->List (Nat×I)) (Hp : σ->List R) (inv : σ->Prop) (mu : σ->Nat) (ob:List (Nat×Nat×Nat×Bool)) (own:List (Nat×Nat×Bool)) (f1 f2:Nat) {ks:List Item}{c:Code}
  (hbc:tG ob H) (hvc:sE own fr (fo ob H)) (h0 : ∃ s,inv s/\fit E.n fr.n (nN own fr (fo ob H)).1 (nN own fr (fo ob H)).2 (F s) (Hp s))
  (hr : ∀ s,inv s->ct E f1 c [] (yf E ks Q f2 fr.n F Hp inv mu s) ⟨fr.n,F s⟩ (Hp s)):cJ E.P E.n (.loop c) (dG E ks Q) fr H:=
 AS (y0 ob hbc) (ce hT F Hp inv mu own f1 f2 hvc h0 hr)
def OI {Po:I->List R->Prop}{r:I}(ob:List (Nat×Nat×Nat×Bool)) (hbc:tG ob H) (h:gP n Po r (fo ob H)):gP n Po r H:=by
 obtain⟨fr',H',g,h1,h2⟩:=h;exact⟨fr',H',(y0 ob hbc).trans g,h1,h2⟩
section rules
@[go_sem] def zpM:fo [] H=H:=rfl
@[go_sem] def zpN:fo ((i,j,k,dp)::r) H=fo r (yc i j k dp H (bD H i)):=rfl
@[go_sem] def ZK:tG [] H=True:=rfl
@[go_sem] def RX:tG ((i,j,k,dp)::r) H=(An i j k (bD H i)/\tG r (yc i j k dp H (bD H i))):=rfl
@[go_sem] def Xb:yc i j k dp H (some (.box cs))=(H ++ [R.row 0 k dp []]).set i (.box (cs.set j (.sl H.length 0 k 0 0))):=rfl
@[go_sem] def zpR:An i j k (some (.box cs))=(cs.getD j .junk=.d .nil/\j<cs.length/\0<k):=rfl
attribute [go_sem] List.set_cons_zero List.set_cons_succ jQ j5 List.cons_append List.nil_append
@[go_sem] def PB {a b:Nat}{l:List Nat}:(¬ a∈b::l)=(¬ a=b/\¬ a∈l):=by simp
end rules
end Go.VL
namespace Go.VL
set_option linter.defProp false
variable {l:List (List Bool)}{v:List Bool}{α:Type}{i lo:Nat}{k:IntKind}
def rF (n:Nat):n &&& 1=n%2:=Nat.and_one_is_mod n
def xe {l:Int}(h:0<=l):((l.toNat &&& 1:Nat):Int)=l%2:=by
 rw[rF];omega
def aY (v:List Bool) (l:Int):Bool:=v.getD (l/2).toNat false != decide (l%2=1)
def rj (v:List Bool) (ls:List Int):List Bool:=ls.map (aY v)
def EI {ls:List Int}:(rj v ls).length=ls.length:=by simp[rj]
def mf (c:ac) (st ins:List Bool):Nat->List Bool
 | 0=>false::(ins++st)
 | i+1=>mf c st ins i ++ [aY (mf c st ins i) (c.gates.getD i (0,0)).1&&aY (mf c st ins i) (c.gates.getD i (0,0)).2]
def BX (c:ac) (st ins:List Bool) : ∀ i,(mf c st ins i).length=1+ins.length+st.length+i
 | 0=>by simp[mf];omega
 | i+1=>by simp[mf,BX c st ins i];omega
def values (c:ac) (st ins:List Bool):List Bool:=mf c st ins c.gates.length
def Jy (c:ac) (st ins:List Bool) {i:Nat} : ∀ k,∃ r,mf c st ins (i+k)=mf c st ins i++r
 | 0=>⟨[],by simp⟩
 | k+1=>by
  obtain⟨r,h⟩:=Jy c st ins (i:=i) k;exact⟨r ++ [_],by rw[<-jy,mf,h,fS]⟩
def cZ {l r:List α}{z : α}(h:i<l.length):(l++r).getD i z=l.getD i z:=by
 simp[List.getD,List.getElem?_append_left h]
def Nu {r:List Bool}{l:Int}(h0:0<=l) (h:l<2*v.length):aY (v++r) l=aY v l:=by
 unfold aY;rw[cZ (by omega)]
@[go_sem] def Q1 {l:List Bool}:(l.map D.bool).all D.scalar=true:=by simp[D.scalar]
@[go_sem] def TQ {l:List Int}:(l.map (D.int k)).all D.scalar=true:=by simp[D.scalar]
attribute [go_sem] mB
def splice (l:List α) (lo:Nat) (xs:List α):List α:=l.take lo++xs++l.drop (lo+xs.length)
@[go_sem] def U7 {l xs:List Bool}:gF (l.map D.bool) lo (xs.map D.bool)=(splice l lo xs).map D.bool:=by simp[gF,splice]
@[go_sem] def PW {l xs:List Int}:gF (l.map (D.int k)) lo (xs.map (D.int k))=(splice l lo xs).map (D.int k):=by simp[gF,splice]
def OC {v:List α}{z x : α}{g:Nat}(h:v.length=i) (hg:0<g):(v++List.replicate g z).set i x=v ++ [x]++List.replicate (g-1) z:=by
 obtain⟨m,rfl⟩ : ∃ m,g=m+1:=⟨g-1,by omega⟩;rw[List.set_append_right _ _ (by omega)];simp[h,List.replicate_succ]
def Ha {x:D}:fQ x x:=by unfold fQ;split <;> simp_all
def IN : ∀ {l:List D},iW l l
 | []=>trivial
 | x::r=>⟨Ha,IN⟩
def Hr {x:D}:fY x x:=by
 cases x with
 | agg cs=>exact IN
 | _=>simp only[fY];exact Ha
def G1 : ∀ {l:List D},og l l
 | []=>trivial
 | x::r=>⟨Hr,G1⟩
@[go_sem] def Yg {x:D}:wk x x=True:=by
 refine eq_true ?_;cases x with
 | tup cs=>exact G1
 | _=>simp only[wk];exact Hr
def cV {rows:List (List Bool)}(h:i<rows.length):(rows.map fun x=>eZ x).getD i .nil=eZ (rows.getD i []):=ck _ _ _ _ _ h
@[go_sem] def Sm {l':List (List Bool)}:(l.map (fun x=>eZ x)=l'.map fun x=>eZ x)=(l=l'):=A1 fun x y h=>by simpa [go_sem] using h
@[go_sem] def zpY {x:List Bool}:l.map (fun x=>eZ x) ++ [D.lst 1 (x.map D.bool)]=(l ++ [x]).map fun x=>eZ x:=by simp
@[go_sem] def zpZ:(([]:List D)=l.map fun x=>eZ x)=(l=[]):=propext ⟨fun h=>by cases l with|nil=>rfl|cons x r=>simp at h,fun h=>by rw[h];rfl⟩
def J4 {c:ac}{st ins:List Bool}:mf c st ins 0=false::(ins++st):=rfl
end Go.VL
namespace Go.VL
set_option linter.defProp false
variable {E:Env}{Q:aX}{fr:Fr}{H:List R}{all rest:List Oper}{ks:List Item}
def GY (hT:bO E.P E.T) {o:Oper}(hg:o.guard=none) {vc:Prop}{x:I}(hp:dr E.T fr H o.op=some (vc,x)) (hvc:vc) (h:jY E all rest ks Q (fr.put o.dst x) H):jY E all (o::rest) ks Q fr H:=by
 intro S φ a w Qr hn s hf hq;refine wpList_plain hg fun Kr hKr=>?_
 obtain⟨v,hv,hr⟩:=ux hT s hf hp hvc;unfold Oper.wp;rw[hr w (fun _=>au.refl w),Oper.upon_value];exact hKr _ _ (h S φ _ w Qr hn s (hf.put o.dst hv) hq)
def Ng (hT:bO E.P E.T) {dst:Option Tmp}{t t' ty:Nat}{y:Operand}{pos:String}{af:Array Edge}{k e:Nat}{l:List D}{ti:TI}(hti:E.T t=some ti) (hk:ti.ty=.slice e) (hc:aE fr y) (hx:ap fr y=.d (.lst k l))
  (h : ∀ b:Bool,(b=true->l=[])->jY E all rest ks Q (fr.put dst (.d (.bool b))) H):jY E all (⟨dst,.binOp .eql t y (.const (.slice none 0 0)) t',ty,pos,af,none⟩::rest) ks Q fr H:=by
 intro S φ a w Qr hn s hf hq;refine wpList_plain rfl fun Kr hKr=>?_
 have hv:=hf.ap y hc;rw[hx] at hv;have hz:=hv.fz;have hu:=(hT _ _ hti).aF hk;have key : ∃ ad n cap,a.eval y=.slice ad n cap/\(ad.isNone=true->l=[]):=by
  generalize a.eval y=vx at hz;cases hz with
  | lst0 _=>exact⟨_,_,_,rfl,fun _=>rfl⟩
  | lst _ _ _ _ _ _ _ _ _=>exact⟨_,_,_,rfl,fun h=>by simp at h⟩
 obtain⟨ad,n,cap,he,hb⟩:=key;unfold Oper.wp;have hr:(execOp a.eval ⟨dst,.binOp .eql t y (.const (.slice none 0 0)) t',ty,pos,af,none⟩).run E.P w=.ok (.value (.bool ad.isNone)) w:=by
  have hcn:a.eval (.const (.slice none 0 0))=.slice none 0 0:=rfl;simp only[execOp,he,hcn,eqGuard_at_slice,Sem.run_bind,Sem.run_pure,Result.andThen_ok,cn hu]
 rw[hr,Oper.upon_value];exact hKr _ _ (h ad.isNone hb S φ _ w Qr hn s (hf.put dst (.d .bool)) hq)
def LC (hT:bO E.P E.T) (f:Nat) (h:exec E f ks Q fr H):jY E all [] ks Q fr H:=by
 intro S φ a w Qr hn s hf hq;exact hq a w S φ fr H s hf (Ext.refl ..) (Tr.refl hn) (xS hT f h)
def OA (h:dG E ks Q .normal fr H):jY E all [] ks Q fr H:=by
 intro S φ a w Qr hn s hf hq;exact hq a w S φ fr H s hf (Ext.refl ..) (Tr.refl hn) h
def Gw {id:Nat}{ops:Array Oper}(h:jY E ops.toList ops.toList ks Q fr H):cJ E.P E.n (.region id ops false) (dG E ks Q) fr H:=
 E7 (by unfold jY at h;simpa using h)
def C0 {x y:Code}(h:cJ E.P E.n x (dG E (.code y::ks) Q) fr H):cJ E.P E.n (.seq x y) (dG E ks Q) fr H:=FF h
end Go.VL
namespace Go.VL
set_option linter.defProp false
variable {x y r0:I}{g k i k':Nat}{dp:DP}{l:List D}{H':List R}{m:List (Nat×I)}{c:Code}{r xs ys:List I}{f':I->I->Prop}
variable {E:Env}{P:Program}{Q:aX}{S:Nat->Prop}{φ : List (List Nat)}{fr:Fr}{H:List R}{w:World}{n:Nat}
def j4 (K:List R):List I->List I->Prop
 | [],[]=>True
 | x::r,y::s=>cQ K x y/\j4 K r s
 | _,_=>False
def qv (K:List R):R->R->Prop
 | .box cs,.box cs'=>j4 K cs cs'
 | x,.dead g=>x.gen<=g
 | .row g k dp l,y=>dp.shut=true/\dl (.row g k dp l) y
 | x,y=>dl x y
def rr (K:List R):List R->List R->Prop
 | _,[]=>True
 | x::r,y::s=>qv K x y/\rr K r s
 | [],_::_=>False
def kO (n nt:Nat) (fr:Fr) (H:List R) (m:List (Nat×I)) (H':List R):Prop:=
 fr.n=nt/\n<=H'.length/\kD (eR H'.length H) fr m/\rr (eR H'.length H) H H'/\pV H'.length m/\jK H'.length H'
def H9 {K:List R} : ∀ {cs cs':List I},j4 K cs cs'->cs.length=cs'.length/\∀ j,j<cs.length->cQ K (cs.getD j .junk) (cs'.getD j .junk)
 | [],[],_=>⟨rfl,fun j hj=>by simp at hj⟩
 | x::r,y::s,h=>by
  obtain⟨h1,h2⟩:=H9 h.2;refine⟨by simp[h1],fun j hj=>?_⟩;cases j with
  | zero=>exact h.1
  | succ j=>simpa using h2 j (by simpa using hj)
 | [],_::_,h=>h.elim
 | _::_,[],h=>h.elim
def AR {K:List R} : ∀ {H H':List R},rr K H H'->H'.length<=H.length/\∀ (i:Nat) (y:R),H'[i]?=some y->∃ x:R,H[i]?=some x/\qv K x y
 | H,[],_=>by simp
 | x::r,y::s,h=>by
  obtain⟨h1,h2⟩:=AR h.2;refine⟨by simp;omega,fun i z hz=>?_⟩;cases i with
  | zero=>simp at hz;subst hz;exact⟨x,rfl,h.1⟩
  | succ i=>simpa using h2 i z (by simpa using hz)
 | [],_::_,h=>h.elim
def xH {K:List R}{x y:R}(h:qv K x y):(∃ cs cs',x=.box cs/\y=.box cs'/\j4 K cs cs')∨(dl x y/\(∀ cs,y≠.box cs)/\∀ g k dp l,x=.row g k dp l->dp.shut=true)∨(∃ g,y=.dead g/\x.gen<=g):=by
 cases y with
 | dead g=>exact .inr (.inr ⟨g,rfl,by cases x <;> exact h⟩)
 | _=>
  cases x with
  | box cs=>
   first
    | exact .inl ⟨_,_,rfl,rfl,h⟩
    | exact .inr (.inl ⟨h,by simp,by simp⟩)
  | row g k dp l=>
   refine .inr (.inl ⟨h.2,fun cs hy=>?_,fun g k dp l hx=>by cases hx;exact h.1⟩);cases hy;all_goals (exfalso;revert h;simp[qv,VL.dl])
  | _=>
   refine .inr (.inl ⟨h,fun cs hy=>?_,by simp⟩);cases hy;all_goals (exfalso;revert h;simp[qv,VL.dl])
def gq:R->R
 | .box _=>.dead 0
 | .row g _ (.own (_::_)) _=>.dead g
 | r=>r
def Oq (h:dp.shut=true):gq (.row g k dp l)=.row g k dp l:=by
 match dp,h with
 | .fz,_=>rfl
 | .own [],_=>rfl
 | .own (_::_),h=>simp[DP.shut] at h
def Dv {S S':Nat->Prop}{φ φ':List (List Nat)}{H:List R}{w:World}{fp:List Nat}(hd:dp.shut=true) (hS : ∀ b,S b->S' b) (h:eP S φ H w fp (.row g k dp l)):eP S' φ' H' w fp (.row g k dp l):=by
 obtain⟨h1,h2,h3,h4,h5⟩:=h;refine⟨h1,h2,h3,h4,?_⟩;rcases h5 with h5|⟨b,rest,arr,ty,e1,e2,e3,e4⟩
 ·exact .inl h5
 ·refine .inr ⟨b,rest,arr,ty,e1,e2,e3,?_⟩;match dp,hd with
  | .fz,_=>exact⟨e4.1,fun j hj=>(e4.2 j hj).mono hS fun _ _=>rfl⟩
  | .own [],_=>exact e4
  | .own (_::_),hd=>simp[DP.shut] at hd
def aK.gq (s:aK S φ H w):aK S φ (H.map gq) w:=by
 refine⟨by rw[s.len,ie],s.nd,s.dj,s.lt,s.off,s.slt,fun i r hr=>?_⟩;simp only[List.getElem?_map,Option.map_eq_some_iff] at hr;obtain⟨x,hx,rfl⟩:=hr;have:=s.rel i x hx;cases x with
 | box cs=>trivial
 | row g k dp l=>
  match dp,this with
  | .fz,this=>exact Dv rfl (fun _ h=>h) this
  | .own [],this=>exact Dv rfl (fun _ h=>h) this
  | .own (_::_),_=>trivial
 | map es=>exact this
 | val x=>exact this
 | dead g=>exact this
def HA (m:Nat) : ∀ (H:List R),jK m (H.map VL.gq)
 | []=>trivial
 | r::l=>⟨by
   cases r with
   | row g k dp l=>match dp with|.fz=>trivial|.own []=>trivial|.own (_::_)=>trivial
   | _=>simp only[VL.gq,R.aI],HA m l⟩
def HO {nt:Nat}(h1:fr.n=nt) (h2:n<=H'.length)
  (h3 : ∀ S φ w a,aK S φ H w->c7 S φ H w fr a->∀ t,V (fun b=>S b∨aR (iV H'.length φ) b) (φ.take H'.length) (H.take H'.length) w (look t m) (a.tmps.getD t undef))
  (h4:rr (eR H'.length H) H H') (h6:jK H'.length H'):a0 n fr H ⟨nt,m⟩ H':=by
 obtain⟨e2,e1⟩:=AR h4;intro S φ w a hn s hf;have hl0:(H.map VL.gq).length=H.length:=by simp
 obtain⟨s2,t2,x2⟩:=CO s.gq (n:=H'.length) (by rw[hl0];exact e2) (by rw[<-List.map_take];exact HA _ _);have hget : ∀ i,i<H'.length->(φ.take H'.length).getD i [] = φ.getD i []:=fun i hi=>aJ _ _ _ _ hi
 have htr : ∀ (φ0:List (List Nat)) (G:List R),H'.length<=G.length->(∀ i,i<H'.length->G[i]?=H[i]?)->(∀ i,i<H'.length->φ0.getD i [] = φ.getD i [])->∀ S0:Nat->Prop,(∀ b,S0 b->S b∨aR (iV H'.length φ) b)->
   Tr H'.length S0 φ0 G w (fun b=>S b∨aR (iV H'.length φ) b) (φ.take H'.length) H' w:=by
  intro φ0 G hG hGe hφ0 S0 hS0;refine⟨hS0,fun _ _=>rfl,hG,aC _,?_,?_,?_,?_,?_⟩
  ·intro i hi;obtain⟨x,hx,hxy⟩:=e1 i (H'.getD i (.dead 0)) (by simp[List.getD,hi]);have e:G.getD i (.dead 0)=x:=by simp[List.getD,hGe i hi,hx]
   rw[e];rcases xH hxy with⟨cs,cs',h1,h2,_⟩|⟨hxy,_,_⟩|⟨g,h1,h2⟩
   rotate_left 2
   ·rw[h1];exact h2
   ·rw[h1,h2];exact aC _
   ·rcases pA hxy with h1|⟨g,k,l,h1,h2,_⟩
    ·rw[h1];exact aC _
    ·rw[h1,h2];exact aC _
  ·intro i g k dp' l' hi hl';obtain⟨x,hx,hxy⟩:=e1 i _ hl';rcases xH hxy with⟨cs,cs',h1,h2,_⟩|⟨hxy,_,_⟩|⟨g,h1,h2⟩
   rotate_left 2
   ·cases h1
   ·cases h2
   ·rcases pA hxy with rfl|⟨g,k,l,rfl,h2,_⟩
    ·exact .inr ⟨dp',l',by rw[hGe i hi];exact hx,by rw[hget i hi,hφ0 i hi],aC _,fun b rest arr ty e1 e2=>⟨arr,ty,e2,aC _⟩⟩
    ·cases h2;exact .inr ⟨true,_,by rw[hGe i hi];exact hx,by rw[hget i hi,hφ0 i hi],aC _,fun b rest arr ty e1 e2=>⟨arr,ty,e2,aC _⟩⟩
  ·intro i cs hi hl';obtain⟨x,hx,hxy⟩:=e1 i _ hl';rcases xH hxy with⟨cs1,cs',h1,h2,_⟩|⟨_,hnb,_⟩|⟨g,h1,h2⟩
   rotate_left 2
   ·cases h1
   ·exact⟨cs1,by rw[hGe i hi,hx,h1],by rw[hget i hi,hφ0 i hi]⟩
   ·exact absurd rfl (hnb cs)
  ·intro i cs hi hl';obtain⟨x,hx,hxy⟩:=e1 i _ hl';rcases xH hxy with⟨cs1,cs',h1,h2,_⟩|⟨hxy,_⟩|⟨g,h1,h2⟩
   rotate_left 2
   ·cases h1
   ·cases h2
   ·rcases pA hxy with rfl|⟨g,k,l,rfl,h2,_⟩
    ·exact⟨cs,by rw[hGe i hi];exact hx,by rw[hget i hi,hφ0 i hi]⟩
    ·cases h2
  ·intro i z hi hl';obtain⟨x,hx,hxy⟩:=e1 i _ hl';rcases xH hxy with⟨cs1,cs',h1,h2,_⟩|⟨hxy,_⟩|⟨g,h1,h2⟩
   rotate_left 2
   ·cases h1
   ·cases h2
   ·rcases pA hxy with rfl|⟨g,k,l,rfl,h2,_⟩
    ·exact⟨by rw[hGe i hi];exact hx,by rw[hget i hi,hφ0 i hi],fun _ _=>rfl⟩
    ·cases h2
 have hlt:(H.take H'.length).length=H'.length:=by simp;omega
 have tA:=htr φ H e2 (fun _ _=>rfl) (fun _ _=>rfl) S (fun _ h=>.inl h);have tB:=htr (φ.take H'.length) (H.take H'.length) (by omega) (fun i hi=>ki _ _ _ hi) hget (fun b=>S b∨aR (iV H'.length φ) b) (fun _ h=>h);have s3:aK (fun b=>S b∨aR (iV H'.length φ) b) (φ.take H'.length) H' w:=by
  refine⟨by rw[s2.len];simp;omega,s2.nd,s2.dj,s2.lt,s2.off,s2.slt,fun i y hy=>?_⟩;have hi:i<H'.length:=(List.getElem?_eq_some_iff.1 hy).1;obtain⟨x,hx,hxy⟩:=e1 i y hy;rw[hget i hi];rcases xH hxy with⟨cs,cs',rfl,rfl,hfl⟩|⟨hxy,hnb,hshut⟩|⟨g,rfl,_⟩
  rotate_left 2
  ·trivial
  ·obtain⟨b,arr,ty,q1,q2,q3,q4⟩:=s.rel i _ hx;obtain⟨l1,l2⟩:=H9 hfl;refine⟨b,arr,ty,q1,q2,by omega,fun j hj=>?_⟩;obtain⟨o1,v1⟩:=q4 j (by omega);refine⟨o1,?_⟩;have:=Bg s e2 (l2 j (by omega)) (oo (zo h6 i _ hy) j hj) v1;exact this.tr (by rw[hlt];exact tB)
  ·have hx2:((H.map VL.gq).take H'.length)[i]?=some (VL.gq x):=by rw[ki _ _ _ hi,List.getElem?_map,hx];rfl
   have hrel:=s2.rel i _ hx2;rw[hget i hi] at hrel;rcases pA hxy with rfl|⟨g,k,l,rfl,rfl,hsc⟩
   ·cases x with
    | box cs=>exact absurd rfl (hnb cs)
    | row g k dp l=>
     have hd:=hshut _ _ _ _ rfl;rw[Oq hd] at hrel;exact Dv hd (fun _ h=>h) hrel
    | map es=>exact hrel
    | val x=>exact hrel
    | dead g=>exact hrel
   ·obtain⟨h1,h2,h3,h4,h5⟩:=hrel;refine⟨h1,h2,h3,h4,?_⟩;rcases h5 with h5|⟨b,rest,arr,ty,e1,e2,e3,F,hF,_,hr⟩
    ·exact .inl h5
    ·have hall:=Cy hsc;have hz : ∀ j,j<(flat l).length->F j=[]:=fun j hj=>HQ (hr j hj) (hall _ (av hj))
     refine .inr ⟨b,rest,arr,ty,e1,e2,e3,?_,fun j hj=>Co (hr j hj) (hall _ (av hj)) _⟩;rw[hF];refine List.flatMap_eq_nil_iff.2 fun j hj=>hz j (List.mem_range.1 hj)
 refine⟨_,_,s3,⟨hf.defers,hf.size.trans h1,fun t=>?_⟩,x2,tA.weaken h2⟩;have:=h3 S φ w a s hf t;exact this.tr (by rw[hlt];exact tB)
def zm {nt:Nat}(h:kO n nt fr H m H'):a0 n fr H ⟨nt,m⟩ H':=by
 obtain⟨h1,h2,h3,h4,h5,h6⟩:=h;exact HO h1 h2 (fun S φ w a s hf=>Dr s (AR h4).1 hf m h3 h5) h4 h6
def AI (E:Env) (ks:List Item) (Q:aX) (f:Nat) {σ : Type}(nt:Nat) (F : σ->List (Nat×I)) (Hp : σ->List R) (inv : σ->Prop) (mu : σ->Nat) (s : σ):aX
 | .normal,fr,H=>∃ s',inv s'/\mu s'<mu s/\kO E.n nt fr H (F s') (Hp s')
 | .exit id,fr,H=>gw E f (iR id ks) id ks Q fr H
 | e,fr,H=>dG E ks Q e fr H
def pn (hT:bO E.P E.T) {σ : Type}(F : σ->List (Nat×I)) (Hp : σ->List R) (inv : σ->Prop) (mu : σ->Nat) (ob:List (Nat×Nat×Nat×Bool)) (own:List (Nat×Nat×Bool)) (f1 f2:Nat) {ks:List Item}
  (hbc:tG ob H) (hvc:sE own fr (fo ob H)) (h0 : ∃ s,inv s/\kO E.n fr.n (nN own fr (fo ob H)).1 (nN own fr (fo ob H)).2 (F s) (Hp s))
  (hr : ∀ s,inv s->ct E f1 c [] (AI E ks Q f2 fr.n F Hp inv mu s) ⟨fr.n,F s⟩ (Hp s)):cJ E.P E.n (.loop c) (dG E ks Q) fr H:=by
 obtain⟨s0,hi0,hf0⟩:=h0;refine DI (fun m fr' H'=>∃ s,inv s/\mu s=m/\fr'=⟨fr.n,F s⟩/\H'=Hp s) (mu s0) ⟨_,_,((y0 ob hbc).trans (Aa own hvc)).trans (zm hf0),s0,hi0,rfl,rfl,rfl⟩ ?_;rintro m fr' H' ⟨s,hi,rfl,rfl,rfl⟩;refine zI (rl hT f1 (hr s hi)) ?_;intro e fr' H' hq;cases e with
 | normal=>
  obtain⟨s',hi',hmu,hfit⟩:=hq;exact⟨_,_,zm hfit,mu s',hmu,s',hi',rfl,rfl,rfl⟩
 | exit id=>
  simp only[AI] at hq;refine vD id ks ?_;generalize iR id ks=o at hq;match f2,o with
  | 0,_=>simp only[gw] at hq
  | f+1,some ks'=>
   simp only[gw] at hq;exact xS hT f hq
  | f+1,none=>
   simp only[gw] at hq;exact hq
 | goto l=>exact hq
 | ret=>exact hq
 | panic ch=>exact hq
 | outgrown=>exact hq
def yG {nt:Nat}(m:List (Nat×I)) (H':List R) (hn:fr.n=nt) (h:kO E.n nt fr H m H') (hr:cJ E.P E.n c Q ⟨nt,m⟩ H'):cJ E.P E.n c Q fr H:=AS (zm h) hr
structure DQ (C:Prop):Prop where
 get:C
def pQ {C Q:Prop}(f:DQ C->Q) (h:C):Q:=f ⟨h⟩
def fitAll (f:I->I->Prop):List I->List I->Prop
 | [],[]=>True
 | x::r,y::s=>f x y/\fitAll f r s
 | _,_=>False
def g0 (K:List R):Nat->I->I->Prop
 | n+1,.agg xs,.agg ys=>fitAll (g0 K n) xs ys
 | n+1,.tup xs,.tup ys=>fitAll (g0 K n) xs ys
 | _,x,y=>cQ K x y
def DZ {f:I->I->Prop} : ∀ {cs cs':List I},fitAll f cs cs'->cs.length=cs'.length/\∀ j,j<cs.length->f (cs.getD j .junk) (cs'.getD j .junk)
 | [],[],_=>⟨rfl,fun j hj=>by simp at hj⟩
 | x::r,y::s,h=>by
  obtain⟨h1,h2⟩:=DZ h.2;refine⟨by simp[h1],fun j hj=>?_⟩;cases j with
  | zero=>exact h.1
  | succ j=>simpa using h2 j (by simpa using hj)
 | [],_::_,h=>h.elim
 | _::_,[],h=>h.elim
def vJ {m:Nat}(s:aK S φ H w) (hm:m<=H.length) : ∀ (f:Nat) {x y:I}{v:Value},g0 (eR m H) f x y->y.aI m->V S φ H w x v->V (fun b=>S b∨aR (iV m φ) b) (φ.take m) (H.take m) w y v:=by
 intro f;induction f with
 | zero=>intro x y v h hy hv;exact Bg s hm (by unfold g0 at h;exact h) hy hv
 | succ f ih=>
  intro x y v h hy hv;unfold g0 at h;split at h
  ·rename_i heq;simp only[Nat.succ_eq_add_one,Nat.add_right_cancel_iff] at heq;subst heq;rename_i xs ys;obtain⟨l1,l2⟩:=DZ h;simp only[I.aI] at hy;cases hv with
   | agg hl h1 hj=>
    exact .agg (by omega) (fun j hj'=>h1 j (by omega)) fun j hj'=>ih (l2 j (by omega)) (oo hy j hj') (hj j (by omega))
  ·rename_i heq;simp only[Nat.succ_eq_add_one,Nat.add_right_cancel_iff] at heq;subst heq;rename_i xs ys;obtain⟨l1,l2⟩:=DZ h;simp only[I.aI] at hy;cases hv with
   | tup hl hj=>
    exact .tup (by omega) fun j hj'=>ih (l2 j (by omega)) (oo hy j hj') (hj j (by omega))
  ·exact Bg s hm h hy hv
def tX (n:Nat) (r:I) (H:List R) (r0:I) (H1:List R):Prop:=g0 (eR H1.length H) 3 r r0/\n<=H1.length/\rr (eR H1.length H) H H1/\r0.aI H1.length/\jK H1.length H1
def uK {Po:I->List R->Prop}{r:I}{H1:List R}(hf:tX n r H r0 H1) (h:Po r0 H1):gP n Po r H:=by
 obtain⟨h1,h2,h3,h4,h5⟩:=hf;refine⟨⟨1,[(0,r0)]⟩,H1,HO rfl h2 (fun S φ w a s hf t=>?_) h3 h5,rfl,?_⟩
 ·simp only[look];split
  ·rename_i h0;subst h0;have hv:=hf.val 0;have e:(⟨1,[(0,r)]⟩:Fr).get 0=r:=by simp[Fr.get,look]
   rw[e] at hv;exact vJ s (AR h3).1 3 h1 h4 hv
  ·exact .junk
 ·show Po (look 0 [(0,r0)]) H1
  simpa [look] using h
section rules
variable {σ : Type}{F : σ->List (Nat×I)}{Hp : σ->List R}{inv : σ->Prop}{mu : σ->Nat}{s : σ}{ks:List Item}{f nt:Nat}{K:List R}
@[go_sem] def Q3:AI E ks Q f nt F Hp inv mu s .normal fr H = ∃ s',inv s'/\mu s'<mu s/\kO E.n nt fr H (F s') (Hp s'):=rfl
@[go_sem] def WP {id:Nat}:AI E ks Q f nt F Hp inv mu s (.exit id) fr H=gw E f (iR id ks) id ks Q fr H:=rfl
@[go_sem] def RL:kO n nt fr H m H'=(fr.n=nt/\n<=H'.length/\kD (eR H'.length H) fr m/\rr (eR H'.length H) H H'/\pV H'.length m/\jK H'.length H'):=rfl
@[go_sem] def zqc {r:I}:tX n r H r0 H'=(g0 (eR H'.length H) 3 r r0/\n<=H'.length/\rr (eR H'.length H) H H'/\r0.aI H'.length/\jK H'.length H'):=rfl
@[go_sem] def zqd:fitAll f' [] []=True:=rfl
@[go_sem] def Ve {q:List I}:fitAll f' (x::r) (y::q)=(f' x y/\fitAll f' r q):=rfl
@[go_sem] def zqf:g0 K 3 (.tup xs) (.tup ys)=fitAll (g0 K 2) xs ys:=rfl
@[go_sem] def TG:g0 K 2 (.agg xs) (.agg ys)=fitAll (g0 K 1) xs ys:=rfl
@[go_sem] def zqh {m:Nat}{d:D}:g0 K (m+1) x (.d d)=cQ K x (.d d):=by cases x <;> rfl
@[go_sem] def zqi {m a b:Nat}:g0 K (m+1) x (.sl i g k' a b)=cQ K x (.sl i g k' a b):=by cases x <;> rfl
@[go_sem] def TC:rr K H []=True:=by cases H <;> rfl
@[go_sem] def YD {x y:R}{r q:List R}:rr K (x::r) (y::q)=(qv K x y/\rr K r q):=rfl
@[go_sem] def S6 {cs cs':List I}:qv K (.box cs) (.box cs')=j4 K cs cs':=rfl
@[go_sem] def Ut {g':Nat}{dp':DP}{l':List D}:qv K (.row g k dp l) (.row g' k' dp' l')=(dp.shut=true/\dl (.row g k dp l) (.row g' k' dp' l')):=rfl
@[go_sem] def Wm {es es':List (D×D)}:qv K (.map es) (.map es')=(es=es'):=by simp[qv,dl]
@[go_sem] def Tl {x:R}:qv K x (.dead g)=(x.gen<=g):=by cases x <;> rfl
@[go_sem] def Rx:j4 K [] []=True:=rfl
@[go_sem] def Yn {s:List I}:j4 K (x::r) (y::s)=(cQ K x y/\j4 K r s):=rfl
@[go_sem] def VX:cQ K (.map i) y=eU K (.map i) y:=vV nofun
end rules
end Go.VL
namespace Go.VL
set_option linter.defProp false
variable {E:Env}{P:Program}{Q:aX}{S:Nat->Prop}{φ : List (List Nat)}{fr:Fr}{H:List R}{w:World}{n:Nat}
section rules
variable {i g k:Nat}{l:List D}
end rules
end Go.VL
namespace Go.VL
set_option linter.defProp false
end Go.VL
namespace Go.VL
set_option linter.defProp false
variable {c:D}{r q:List R}{α:Type}{idx off t':Nat}{x:Array Operand}{ts:Array TypeId}
variable {E:Env}{P:Program}{Q:aX}{S:Nat->Prop}{φ : List (List Nat)}{fr:Fr}{H:List R}{w:World}{n:Nat}
def Ct (hvc:(shut H).1):a0 n fr H fr (shut H).2:=by
 intro S φ w a hn s hf;obtain⟨φ',s',t,e⟩:=BY s hvc;exact⟨S,φ',s',hf.tr t,e,t.weaken hn⟩
def qL (k:List R->Prop) (q:Prop×List R):Prop:=q.1/\k q.2
def uG (H:List R) (k:List R->Prop):Prop:=qL k (shut H)
@[go_sem] def zqs {k:List R->Prop}:uG H k=qL k (shut H):=rfl
@[go_sem] def Tq {k:List R->Prop}{c:Prop}:qL k (c,H)=(c/\k H):=rfl
def M6 {Po:I->List R->Prop}{r:I}(h:uG H (fun H'=>gP n Po r H')):gP n Po r H:=by
 obtain⟨fr',H',g,h1,h2⟩:=h.2;exact⟨fr',H',(Ct h.1).trans g,h1,h2⟩
def zn (E:Env) (ks:List Item) (Q:aX) (f:Nat) {σ : Type}(nt:Nat) (F : σ->List (Nat×I)) (Hp : σ->List R) (inv : σ->Prop) (mu : σ->Nat) (s : σ):aX
 | .normal,fr,H=>uG H (fun H'=>∃ s',inv s'/\mu s'<mu s/\kO E.n nt fr H' (F s') (Hp s'))
 | .exit id,fr,H=>gw E f (iR id ks) id ks Q fr H
 | e,fr,H=>dG E ks Q e fr H
def bt (hT:bO E.P E.T) {σ : Type}(F : σ->List (Nat×I)) (Hp : σ->List R) (inv : σ->Prop) (mu : σ->Nat) (ob:List (Nat×Nat×Nat×Bool)) (own:List (Nat×Nat×Bool)) (f1 f2:Nat) {ks:List Item}{c:Code}
  (hs:uG H (fun H=>tG ob H/\sE own fr (fo ob H)/\∃ s,inv s/\kO E.n fr.n (nN own fr (fo ob H)).1 (nN own fr (fo ob H)).2 (F s) (Hp s)))
  (hr : ∀ s,inv s->ct E f1 c [] (zn E ks Q f2 fr.n F Hp inv mu s) ⟨fr.n,F s⟩ (Hp s)):cJ E.P E.n (.loop c) (dG E ks Q) fr H:=by
 obtain⟨hsv,hbc,hvc,s0,hi0,hf0⟩:=hs;refine DI (fun m fr' H'=>∃ s,inv s/\mu s=m/\fr'=⟨fr.n,F s⟩/\H'=Hp s) (mu s0) ⟨_,_,(((Ct hsv).trans (y0 ob hbc)).trans (Aa own hvc)).trans (zm hf0),s0,hi0,rfl,rfl,rfl⟩ ?_;rintro m fr' H' ⟨s,hi,rfl,rfl,rfl⟩;refine zI (rl hT f1 (hr s hi)) ?_;intro e fr' H' hq;cases e with
 | normal=>
  obtain⟨hsv,s',hi',hmu,hfit⟩:=hq;exact⟨_,_,(Ct hsv).trans (zm hfit),mu s',hmu,s',hi',rfl,rfl,rfl⟩
 | exit id=>
  simp only[zn] at hq;refine vD id ks ?_;generalize iR id ks=o at hq;match f2,o with
  | 0,_=>simp only[gw] at hq
  | f+1,some ks'=>
   simp only[gw] at hq;exact xS hT f hq
  | f+1,none=>
   simp only[gw] at hq;exact hq
 | goto l=>exact hq
 | ret=>exact hq
 | panic ch=>exact hq
 | outgrown=>exact hq
section rules
variable {σ : Type}{F : σ->List (Nat×I)}{Hp : σ->List R}{inv : σ->Prop}{mu : σ->Nat}{s : σ}{ks:List Item}{f nt:Nat}
@[go_sem] def Wg:zn E ks Q f nt F Hp inv mu s .normal fr H=uG H (fun H'=>∃ s',inv s'/\mu s'<mu s/\kO E.n nt fr H' (F s') (Hp s')):=rfl
@[go_sem] def Ss {id:Nat}:zn E ks Q f nt F Hp inv mu s (.exit id) fr H=gw E f (iR id ks) id ks Q fr H:=rfl
@[go_sem] def WG:zn E ks Q f nt F Hp inv mu s .ret fr H=dG E ks Q .ret fr H:=rfl
end rules
@[go_sem] def SR {β:Type}{f : α->β}{l:List α}:(l.map f).take l.length=l.map f:=ag (by simp)
def zD {l:List D}:cY 1 l idx off c=l.set idx c:=rfl
def C3 {f : α->D}{l:List α}{y : α}:cY 1 (l.map f) idx off (f y)=(l.set idx y).map f:=by
 rw[zD,List.map_set]
def CM {f : α->D}{k:Nat}(hk:k≠1) {l:List α}{z : α}{y : α}(hi:idx<l.length) (h:D.agg (cX (bT (f (l.getD idx z)) 0 k) off [c])=f y):cY k (l.map f) idx off c=(l.set idx y).map f:=by
 unfold cY;rw[show decide (k=1)=false by simp[hk]];simp only;have e:(l.map f).getD idx .nil=f (l.getD idx z):=by simp[List.getD,hi]
 rw[e,h,List.map_set]
def H6 {k:Nat}{l:List D}:(cY k l idx off c).length=l.length:=by
 unfold cY;split <;> simp
def lU (one:Bool) (k:Nat) (x:D) (off:Nat) (c:D):D:=
 match one with
 | true=>c
 | false=>.agg (cX (bT x 0 k) off [c])
@[go_sem] def zqw {k:Nat}{x:D}:lU true k x off c=c:=rfl
@[go_sem] def zqx {k:Nat}{x:D}:lU false k x off c=.agg (cX (bT x 0 k) off [c]):=rfl
@[go_sem] def I0 {k:Nat}{l:List D}{x:D}:cY k (l ++ [x]) l.length off c=l ++ [lU (decide (k=1)) k x off c]:=by
 unfold cY lU;cases decide (k=1) <;> simp[List.getD]
@[go_sem] def K5 {f : α->D}{k:Nat}{l:List α}{x:D}:cY k (l.map f ++ [x]) l.length off c=l.map f ++ [lU (decide (k=1)) k x off c]:=by
 have:=I0 (k:=k) (l:=l.map f) (x:=x) (c:=c) (off:=off)
 rwa [ie] at this
@[go_sem] def Rz {k:Nat}{l:List D}{x:D}:cY k (l.set idx x) idx off c=l.set idx (lU (decide (k=1)) k x off c):=by
 unfold cY lU;cases decide (k=1)
 ·by_cases h:idx<l.length
  ·simp[List.getD,h]
  ·have e : ∀ y:D,l.set idx y=l:=fun y=>List.set_eq_of_length_le (by omega)
   simp only[e]
 ·simp
def yB (fr:Fr) (o:Oper):Prop:=
 match o.op with
 | .load _ p=>(∃ d,ap fr p=.d d)∨∃ i o,ap fr p=.ptr i o
 | op=>xy op=false
def rJ:I->Prop
 | .d _=>True
 | .ptr _ _=>True
 | _=>False
def tm:List R->List R->Prop
 | [],_=>True
 | .box _::r,.box _::q=>tm r q
 | .box _::_,_=>False
 | _::r,_::q=>tm r q
 | _::_,[]=>False
def oC (E:Env) (H0:List R) (fr:Fr) (H:List R) (o:Oper):Prop:=tm H0 H/\(isApp o.op=true∨eJ E fr o)
section modeB
variable {a:Act}
def mF (E:Env) (F:Nat) (l:List Oper) (tails:List Nat) (H0:List R) (K:Fr->List R->Prop):dV->Fr->List R->Prop
 | .done,fr,H=>K fr H
 | .fst i t,fr,H=>yB fr (aL l i)/\bJ E (aL l i)/\an E F l [aL l i] [] (nQ (mF E F l tails H0 K t)) fr H
 | .one i t,fr,H=>(tails.contains i=false->oC E H0 fr H (aL l i))/\an E F l [aL l i] [] (nQ (mF E F l tails H0 K t)) fr H
 | .two i t j u,fr,H=>((tails.contains i=false->oC E H0 fr H (aL l i))/\an E F l [aL l i] [] (nQ (mF E F l tails H0 K t)) fr H)/\
   ((tails.contains j=false->oC E H0 fr H (aL l j))/\an E F l [aL l j] [] (nQ (mF E F l tails H0 K u)) fr H)
 | .three i t j u k v,fr,H=>((tails.contains i=false->oC E H0 fr H (aL l i))/\an E F l [aL l i] [] (nQ (mF E F l tails H0 K t)) fr H)/\
   ((tails.contains j=false->oC E H0 fr H (aL l j))/\an E F l [aL l j] [] (nQ (mF E F l tails H0 K u)) fr H)/\
   ((tails.contains k=false->oC E H0 fr H (aL l k))/\an E F l [aL l k] [] (nQ (mF E F l tails H0 K v)) fr H)
 | .four i t j u k v m y,fr,H=>
   ((tails.contains i=false->oC E H0 fr H (aL l i))/\an E F l [aL l i] [] (nQ (mF E F l tails H0 K t)) fr H)/\
   ((tails.contains j=false->oC E H0 fr H (aL l j))/\an E F l [aL l j] [] (nQ (mF E F l tails H0 K u)) fr H)/\
   ((tails.contains k=false->oC E H0 fr H (aL l k))/\an E F l [aL l k] [] (nQ (mF E F l tails H0 K v)) fr H)/\
   ((tails.contains m=false->oC E H0 fr H (aL l m))/\an E F l [aL l m] [] (nQ (mF E F l tails H0 K y)) fr H)
end modeB
section rules
variable {F:Nat}{l:List Oper}{tails:List Nat}{H0:List R}{K:Fr->List R->Prop}{i j k m:Nat}{t u v y:dV}
@[go_sem] def Qh:mF E F l tails H0 K .done fr H=K fr H:=rfl
@[go_sem] def Z5:mF E F l tails H0 K (.fst i t) fr H=(yB fr (aL l i)/\bJ E (aL l i)/\an E F l [aL l i] [] (nQ (mF E F l tails H0 K t)) fr H):=rfl
@[go_sem] def R6:mF E F l tails H0 K (.one i t) fr H=((tails.contains i=false->oC E H0 fr H (aL l i))/\an E F l [aL l i] [] (nQ (mF E F l tails H0 K t)) fr H):=rfl
@[go_sem] def zqC:tm [] H=True:=rfl
@[go_sem] def zqD {cs cs':List I}:tm (.box cs::r) (.box cs'::q)=tm r q:=rfl
@[go_sem] def V3 {g k':Nat}{dp:DP}{x:List D}{z:R}:tm (.row g k' dp x::r) (z::q)=tm r q:=by cases z <;> rfl
variable {dst:Option Tmp}{ty:TypeId}{pos:String}{af:Array Edge}{gd:Option (Nat×Bool)}
def Bv (b:Bool) (p:Prop):Prop:=match b with|true=>True|false=>p
@[go_sem] def Z1 {p:Prop}:Bv true p=True:=rfl
@[go_sem] def XQ {p:Prop}:Bv false p=p:=rfl
@[go_sem] def zqH {op:Op}:oC E H0 fr H ⟨dst,op,ty,pos,af,gd⟩=(tm H0 H/\Bv (isApp op) (eJ E fr ⟨dst,op,ty,pos,af,gd⟩)):=by
 unfold oC Bv;cases isApp op <;> simp
@[go_sem] def W5:isApp (.call ⟨.builtin .append,x,ts⟩)=true:=rfl
@[go_sem] def Z0 {g:Operand}:isApp (.call ⟨.value g,x,ts⟩)=false:=rfl
@[go_sem] def RU {n:Nat}{p:Array (Nat×Operand)}:isApp (.buildSlice t' n p)=false:=rfl
@[go_sem] def Vx {x y:Operand}:isApp (.store t' x y)=false:=rfl
@[go_sem] def Tt {x:Operand}:yB fr ⟨dst,.load t' x,ty,pos,af,gd⟩=rJ (ap fr x):=by
 show((∃ d,ap fr x=.d d)∨∃ i o,ap fr x=.ptr i o)=rJ (ap fr x)
 generalize ap fr x=y;cases y <;> simp[rJ]
@[go_sem] def zqL {a b:Nat}:rJ (.ptr a b)=True:=rfl
@[go_sem] def XP {x:Operand}{i:Nat}:yB fr ⟨dst,.fieldAddr t' x i,ty,pos,af,gd⟩=True:=by simp[yB,xy]
end rules
end Go.VL
namespace Go.VL
set_option linter.defProp false
variable {g k f:Nat}{dp:DP}{l ds l' ds':List D}{c:Code}{fn:Func}{x y:D}{v:Value}
variable {E:Env}{P:Program}{Q:aX}{S:Nat->Prop}{φ : List (List Nat)}{fr:Fr}{H:List R}{w:World}{n:Nat}
def OZ {i:Nat}(hi:H[i]?=some (.row g k dp l)) (hd:dp.shut=true) :
  a0 n fr H fr (H.set i (.row g k .fz l)):=by
 intro S φ w a hn s hf;have hlt:i<H.length:=(List.getElem?_eq_some_iff.1 hi).1;have hiφ : i < φ.length:=by rw[s.len];exact hlt
 have hne : ∀ j,j≠i->(φ.set i ((φ.getD i []).take 1)).getD j [] = φ.getD j []:=fun j h=>by simp[List.getD,List.getElem?_set,Ne.symm h]
 have heq:(φ.set i ((φ.getD i []).take 1)).getD i []=(φ.getD i []).take 1:=by simp[List.getD,hiφ]
 have hsubm : ∀ j b,b∈(φ.set i ((φ.getD i []).take 1)).getD j []->b∈φ.getD j []:=by
  intro j b hb;by_cases h:j=i
  ·subst h;rw[heq] at hb;exact jX hb
  ·rwa [hne j h] at hb
 have hfoot : ∀ b,aR (φ.set i ((φ.getD i []).take 1)) b->aR φ b:=fun b ⟨j,hj⟩=>⟨j,hsubm j b hj⟩
 have hsome : ∀ j r,(H.set i (.row g k .fz l))[j]?=some r->(j=i/\r=.row g k .fz l)∨(j≠i/\H[j]?=some r):=by
  intro j r hr;rw[List.getElem?_set] at hr;split at hr
  ·rename_i h;simp at hr;exact .inl ⟨h.symm,hr.symm⟩
  ·rename_i h;exact .inr ⟨fun h2=>h h2.symm,hr⟩
 have htail : ∀ b,b∈(φ.getD i []).tail->b∈φ.getD i []:=fun b hb=>List.mem_of_mem_tail hb
 have htr:Tr H.length S φ H w (fun b=>S b∨b∈(φ.getD i []).tail) (φ.set i ((φ.getD i []).take 1)) (H.set i (.row g k .fz l)) w:=by
  refine⟨fun _ h=>.inl h,fun _ _=>rfl,aC _,by simp,?_,?_,?_,?_,?_⟩
  ·intro j hj;by_cases h:j=i
   ·subst h;have e1:H.getD j (.dead 0)=.row g k dp l:=by simp only[List.getD,hi,i9]
    have e2:(H.set j (.row g k .fz l)).getD j (.dead 0)=.row g k .fz l:=by simp[List.getD,hlt]
    rw[e1,e2];exact aC _
   ·have e1:(H.set i (.row g k .fz l)).getD j (.dead 0)=H.getD j (.dead 0):=by simp[List.getD,List.getElem?_set,Ne.symm h]
    rw[e1];exact aC _
  ·intro j g2 k2 dp' l' hj hl';rcases hsome j _ hl' with⟨rfl,h⟩|⟨h,h2⟩
   ·cases h;refine .inr ⟨dp,l,hi,?_,aC _,fun b rest arr ty e1 e2=>⟨arr,ty,e2,aC _⟩⟩;rw[heq];cases φ.getD j [] <;> rfl
   ·exact .inr ⟨dp',l',h2,by rw[hne j h],aC _,fun b rest arr ty e1 e2=>⟨arr,ty,e2,aC _⟩⟩
  ·intro j cs hj hl';rcases hsome j _ hl' with⟨_,h⟩|⟨h,h2⟩
   ·cases h
   ·exact⟨cs,h2,hne j h⟩
  ·intro j cs hj hl';rcases hsome j _ hl' with⟨_,h⟩|⟨h,h2⟩
   ·cases h
   ·exact⟨cs,h2,hne j h⟩
  ·intro j x hj hl';rcases hsome j _ hl' with⟨_,h⟩|⟨h,h2⟩
   ·cases h
   ·exact⟨h2,hne j h,fun _ _=>rfl⟩
 have hsim:aK (fun b=>S b∨b∈(φ.getD i []).tail) (φ.set i ((φ.getD i []).take 1)) (H.set i (.row g k .fz l)) w:=by
  refine⟨by simp[s.len],?_,fun j m b hb hb'=>s.dj j m b (hsubm j b hb) (hsubm m b hb'),fun b hb=>s.lt b (hfoot b hb),?_,?_,?_⟩
  ·intro j;by_cases h:j=i
   ·subst h;rw[heq];exact(List.take_sublist _ _).nodup (s.nd j)
   ·rw[hne j h];exact s.nd j
  ·rintro b ⟨j,hj⟩ (h|h)
   ·exact s.off b ⟨j,hsubm j b hj⟩ h
   ·have hji:=s.dj j i b (hsubm j b hj) (htail b h);subst hji;rw[heq] at hj;have hnd:=s.nd j;cases hc : φ.getD j [] with
    | nil=>rw[hc] at h;simp at h
    | cons x r=>
     rw[hc] at hj h hnd;simp at hj h;subst hj;exact(List.nodup_cons.1 hnd).1 h
  ·rintro b (h|h)
   ·exact s.slt b h
   ·exact s.lt b ⟨i,htail b h⟩
  ·intro j r hr;rcases hsome j r hr with⟨rfl,rfl⟩|⟨h,h2⟩
   ·rw[heq];obtain⟨hk,he,ho,hlim,hr⟩:=s.rel j _ hi;refine⟨hk,he,ho,hlim,?_⟩;rcases hr with⟨e,e2⟩|⟨b,rest,arr,ty,e,hb,hsz,hrr⟩
    ·exact .inl ⟨by rw[e];rfl,e2⟩
    ·refine .inr ⟨b,[],arr,ty,by rw[e];rfl,hb,hsz,rfl,fun j' hj'=>?_⟩;match dp,hd with
     | .fz,_=>exact(hrr.2 j' hj').mono (fun b hb=>.inl hb) (fun _ _=>rfl)
     | .own [],_=>
      obtain⟨F,hF0,_,hF⟩:=hrr;exact OW.fz (hF j' hj') fun b2 hb2=>.inr (by rw[e];show b2∈rest;rw[hF0];exact mK hj' hb2)
     | .own (_::_),hd=>simp[DP.shut] at hd
   ·rw[hne j h];exact(s.rel j r h2).tr htr fun _ _=>rfl
 exact⟨_,_,hsim,hf.tr htr,⟨rfl,rfl,rfl,aC _,fun _ _ _=>rfl,fun b hb=>.inl (hfoot b hb),fun _ h=>.inl h,fun b h=>h.elim .inl fun h=>.inr (.inl ⟨i,htail b h⟩)⟩,htr.weaken hn⟩
def NV (i:Nat) (hi:H[i]?=some (.row g k dp l)) (hd:dp.shut=true:=by rfl) (h:cJ P n c Q fr (H.set i (.row g k .fz l))):cJ P n c Q fr H:=AS (OZ hi hd) h
def OG {T : Nat -> Option TI} (hT : bO P T)      (hf : P.funcs[f]? = some fn) (hb : fn.body = some c) (hnm : (fn.name == "runtime.NumGoroutine") = false) (hn : ds.length <= fn.ntmps)
  (h:cJ P 0 c (endsWith T fn (fun fr r H'=>uG H' (fun H''=>qC x (pk H'' 3 r)))) ⟨fn.ntmps,jw 0 (ds.map .d)⟩ []):Pure P f ds x:=by
 refine⟨tP hf hb hnm,fun S vs w Rr hS ha hr=>calls_of_wp hf hb ?_⟩;have s:=Ba hS;refine h S [] _ w _ (aC _) s (zU (by simpa using ha.1) (fun j hj=>?_) (by simpa using hn)) ?_
 ·simp only[ie] at hj;have e:(ds.map I.d).getD j .junk=.d (ds.getD j .nil):=by simp[List.getD,hj]
  rw[e];exact .d (ha.2 j hj)
 intro e a' w' S' φ' fr' H' s' hf' he ht hq;have fin : ∀ vc r,eT T H' fr' fn.results.toList=some (vc,r)->vc/\uG H' (fun H''=>qC x (pk H'' 3 r))->a'.defers=[]/\∃ v,(results fn a'.tmps).run P w'=.ok v w'/\Rr (.returned v) w':=by
  rintro vc0 r hres ⟨hvc0,hsv,hp⟩;obtain⟨v,hrun,hv⟩:=zW hT s' hf' hres hvc0;obtain⟨φ2,s2,t2,e2⟩:=BY s' hsv;have hv2:=hv.tr t2;have he2:=he.trans e2;refine⟨hf'.defers,v,hrun,?_⟩;unfold qC at hp;split at hp
  ·rename_i vc x' ids hpk;obtain⟨hvc,hnd,hw⟩:=hp;have how:=rb hw (CJ s2 3 hv2 hpk hvc);refine hr v w' _ how (Cq s2 hnd) ?_ (Bz he2);intro b hb;obtain⟨i,_,hb⟩:=List.mem_flatMap.1 hb;rcases he2.fp b ⟨i,hb⟩ with⟨j,hj⟩|h
   ·simp[List.getD] at hj
   ·exact h
  ·exact hp.elim
 cases e <;> simp only[endsWith] at hq
 ·split at hq
  ·exact fin _ _ (by assumption) hq
  ·exact hq.elim
 all_goals first
  | exact hq.elim
  | (
    split at hq
    ·exact fin _ _ (by assumption) hq
    ·exact hq.elim)
def l4 {E : Env} (hT : bO E.P E.T) (hn : E.n = 0)    {nt : Nat}   (fuel : Nat) (hf : E.P.funcs[f]? = some fn) (hb : fn.body = some c) (hnm : (fn.name == "runtime.NumGoroutine") = false) (hnt : fn.ntmps = nt) (hl : ds.length <= nt)
  (h:eC ds->ct E fuel c [] (endsWith E.T fn (fun fr r H'=>uG H' (fun H''=>qC x (pk H'' 3 r)))) ⟨nt,jw 0 (ds.map .d)⟩ []):Pure E.P f ds x:=by
 subst hnt;refine nG (tP hf hb hnm) fun ho=>OG hT hf hb hnm hl ?_
 have:=rl hT fuel (h ho);rw[hn] at this;exact this
section rules6
variable {σ : Type}{F : σ->List (Nat×I)}{Hp : σ->List R}{inv : σ->Prop}{mu : σ->Nat}{s : σ}{ks:List Item}{nt:Nat}
end rules6
inductive WK:D->D->Prop
 | refl (x:D):WK x x
 | nil {k:Nat}(hk:0<k):WK .nil (.lst k [])
 | lst {k:Nat}{l l':List D}(hl:l.length=l'.length) (h : ∀ j,j<l.length->WK (l.getD j .nil) (l'.getD j .nil)):WK (.lst k l) (.lst k l')
 | agg {l l':List D}(hl:l.length=l'.length) (h : ∀ j,j<l.length->WK (l.getD j .nil) (l'.getD j .nil)):WK (.agg l) (.agg l')
 | tup {l l':List D}(hl:l.length=l'.length) (h : ∀ j,j<l.length->WK (l.getD j .nil) (l'.getD j .nil)):WK (.tup l) (.tup l')
 | ptr {l l':List D}(hl:l.length=l'.length) (h : ∀ j,j<l.length->WK (l.getD j .nil) (l'.getD j .nil)):WK (.ptr l) (.ptr l')
def WK.one {x y:D}(h:WK x y):y.one=x.one:=by cases h <;> rfl
def WK.cells {x y:D}(h:WK x y):x.cells.length=y.cells.length/\∀ j,j<x.cells.length->WK (x.cells.getD j .nil) (y.cells.getD j .nil):=by
 cases h with
 | refl=>exact⟨rfl,fun _ _=>.refl _⟩
 | agg hl h=>exact⟨hl,h⟩
 | nil hk=>
  refine⟨rfl,fun j hj=>?_⟩;obtain rfl:j=0:=by simpa [D.cells] using hj
  exact .nil hk
 | lst hl h=>
  refine⟨rfl,fun j hj=>?_⟩;obtain rfl:j=0:=by simpa [D.cells] using hj
  exact .lst hl h
 | tup hl h=>
  refine⟨rfl,fun j hj=>?_⟩;obtain rfl:j=0:=by simpa [D.cells] using hj
  exact .tup hl h
 | ptr hl h=>
  refine⟨rfl,fun j hj=>?_⟩;obtain rfl:j=0:=by simpa [D.cells] using hj
  exact .ptr hl h
def CH : ∀ {l l':List D},l.length=l'.length->(∀ j,j<l.length->WK (l.getD j .nil) (l'.getD j .nil))->(flat l).length=(flat l').length/\∀ j,j<(flat l).length->WK ((flat l).getD j .nil) ((flat l').getD j .nil)
 | [],[],_,_=>⟨rfl,fun j hj=>by simp[flat] at hj⟩
 | x::l,y::l',hl,h=>by
  obtain⟨c1,c2⟩:=(h 0 (by simp)).cells;simp only[jQ] at c1 c2;obtain⟨i1,i2⟩:=CH (l:=l) (l':=l') (by simpa using hl) (fun j hj=>by simpa using h (j+1) (by simpa using hj));have e1:flat (x::l)=x.cells++flat l:=by simp[flat]
  have e2:flat (y::l')=y.cells++flat l':=by simp[flat]
  rw[e1,e2];refine⟨by simp only[cr];omega,fun j hj=>?_⟩;rw[zt,zt,<-c1];by_cases hjc:j<x.cells.length
  ·rw[if_pos hjc,if_pos hjc];exact c2 j hjc
  ·rw[if_neg hjc,if_neg hjc];exact i2 _ (by simp only[cr] at hj;omega)
 | [],_::_,hl,_=>by simp at hl
 | _::_,[],hl,_=>by simp at hl
def zX (hl:l.length=l'.length) (h : ∀ j,j<l.length->WK (l.getD j .nil) (l'.getD j .nil)) (h1 : ∀ c∈l,c.one=true) : ∀ c∈l',c.one=true:=by
 intro c hc;obtain⟨j,hj,rfl⟩:=fM hc;rw[ko _ _ _ .nil,(h j (by omega)).one];exact h1 _ (av (by omega))
def Jp (hl:l.length=l'.length) (h : ∀ j,j<l.length->WK (l.getD j .nil) (l'.getD j .nil)) (h1 : ∀ x∈l,x.cells.length=k) : ∀ x∈l',x.cells.length=k:=by
 intro c hc;obtain⟨j,hj,rfl⟩:=fM hc;rw[ko _ _ _ .nil,<-(h j (by omega)).cells.1];exact h1 _ (av (by omega))
def OW.lz {w:World}{fp:List Nat}(h:OW w x v fp) : ∀ {y:D},WK x y->OW w y v fp:=by
 induction h with
 | int h=>intro y hy;cases hy;exact .int h
 | bool=>intro y hy;cases hy;exact .bool
 | raw h=>intro y hy;cases hy;exact .raw h
 | nil=>
  intro y hy;cases hy with
  | refl=>exact .nil
  | nil hk=>exact .lst0 hk
 | lst0 hk=>
  intro y hy;cases hy with
  | refl=>exact .lst0 hk
  | lst hl h=>
   rename_i l';obtain rfl:l'=[]:=List.length_eq_zero_iff.1 hl.symm;exact .lst0 hk
 | agg F hl h1 h ih=>
  intro y hy;cases hy with
  | refl=>exact .agg F hl h1 h
  | agg hl' hw=>
   rw[hl'];exact .agg F (by omega) (zX hl' hw h1) fun j hj=>ih j (by omega) (hw j (by omega))
 | tup F hl h ih=>
  intro y hy;cases hy with
  | refl=>exact .tup F hl h
  | tup hl' hw=>
   rw[hl'];exact .tup F (by omega) fun j hj=>ih j (by omega) (hw j (by omega))
 | lst F hk he h1 hn hcap hlim hb hfit hf ih=>
  intro y hy;cases hy with
  | refl=>exact .lst F hk he h1 hn hcap hlim hb hfit hf
  | lst hl' hw=>
   obtain⟨q1,q2⟩:=CH hl' hw;rw[hl',q1];exact .lst F hk (Jp hl' hw he) (zX q1 q2 h1) (by omega) hcap (by omega) hb hfit fun j hj=>ih j (by omega) (q2 j (by omega))
def FZ.lz {S:Nat->Prop}{w:World}(h:FZ S w x v) : ∀ {y:D},WK x y->FZ S w y v:=by
 induction h with
 | int h=>intro y hy;cases hy;exact .int h
 | bool=>intro y hy;cases hy;exact .bool
 | raw h=>intro y hy;cases hy;exact .raw h
 | fn hl h ih=>intro y hy;cases hy;exact .fn hl h
 | ptr f hS h1 hc hf ih=>
  intro y hy;cases hy with
  | refl=>exact .ptr f hS h1 hc hf
  | ptr hl' hw=>exact .ptr f hS (zX hl' hw h1) (fun j hj=>hc j (by omega)) fun j hj=>ih j (by omega) (hw j (by omega))
 | nil=>
  intro y hy;cases hy with
  | refl=>exact .nil
  | nil hk=>exact .lst0 hk
 | lst0 hk=>
  intro y hy;cases hy with
  | refl=>exact .lst0 hk
  | lst hl h=>
   rename_i l';obtain rfl:l'=[]:=List.length_eq_zero_iff.1 hl.symm;exact .lst0 hk
 | agg hl h1 h ih=>
  intro y hy;cases hy with
  | refl=>exact .agg hl h1 h
  | agg hl' hw=>exact .agg (by omega) (zX hl' hw h1) fun j hj=>ih j (by omega) (hw j (by omega))
 | tup hl h ih=>
  intro y hy;cases hy with
  | refl=>exact .tup hl h
  | tup hl' hw=>exact .tup (by omega) fun j hj=>ih j (by omega) (hw j (by omega))
 | lst f hk he h1 hn hlim hS hc hf ih=>
  intro y hy;cases hy with
  | refl=>exact .lst f hk he h1 hn hlim hS hc hf
  | lst hl' hw=>
   obtain⟨q1,q2⟩:=CH hl' hw;rw[hl'];exact .lst f hk (Jp hl' hw he) (zX q1 q2 h1) (by omega) (by omega) hS (fun j hj=>hc j (by omega)) fun j hj=>ih j (by omega) (q2 j (by omega))
def Pure.res (h:Pure P f ds x) (hw:WK x y):Pure P f ds y:=
 ⟨h.1,fun S vs w Rr hS ha hr=>h.2 S vs w Rr hS ha fun v w' fp how=>hr v w' fp (how.lz hw)⟩
def bk.res (h:bk P f ds x) (hw:WK x y):bk P f ds y:=
 ⟨h.1,fun S vs w Rr hS ha hr=>h.2 S vs w Rr hS ha fun v w' S' h1 h2 h3 hz=>hr v w' S' h1 h2 h3 (hz.lz hw)⟩
def yT:List D->List D->Prop
 | [],[]=>True
 | x::r,y::s=>WK x y/\yT r s
 | _,_=>False
def xK : ∀ {l l':List D},yT l l'->l.length=l'.length/\∀ j,j<l.length->WK (l.getD j .nil) (l'.getD j .nil)
 | [],[],_=>⟨rfl,fun j hj=>by simp at hj⟩
 | x::r,y::s,h=>by
  obtain⟨i1,i2⟩:=xK h.2;refine⟨by simp[i1],fun j hj=>?_⟩;cases j with
  | zero=>exact h.1
  | succ j=>simpa using i2 j (by simpa using hj)
 | [],_::_,h=>h.elim
 | _::_,[],h=>h.elim
def Pure.args (h:Pure P f ds x) (hw:yT ds' ds):Pure P f ds' x:=by
 obtain⟨hl,hg⟩:=xK hw;exact⟨h.1,fun S vs w Rr hS ha hr=>h.2 S vs w Rr hS ⟨ha.1.trans hl,fun j hj=>(ha.2 j (by omega)).lz (hg j (by omega))⟩ hr⟩
def bk.args (h:bk P f ds x) (hw:yT ds' ds):bk P f ds' x:=by
 obtain⟨hl,hg⟩:=xK hw;exact⟨h.1,fun S vs w Rr hS ha hr=>h.2 S vs w Rr hS ⟨ha.1.trans hl,fun j hj=>(ha.2 j (by omega)).lz (hg j (by omega))⟩ hr⟩
def WK.EC (h:yT l l'):WK (.agg l) (.agg l'):=.agg (xK h).1 (xK h).2
section rulesP
variable {dst:Option Tmp}{ty:TypeId}{pos:String}{af:Array Edge}{gd:Option (Nat×Bool)}
end rulesP
end Go.VL
set_option maxRecDepth 20000
namespace Go.VL
set_option linter.defProp false
variable {c:Code}
variable {E:Env}{P:Program}{Q:aX}{fr:Fr}{H:List R}{n:Nat}
def oR (E:Env) (ks:List Item) (Q:aX) (f:Nat) (K:Fr->List R->Prop):aX
 | .normal,fr,H=>K fr H
 | .exit id,fr,H=>gw E f (iR id ks) id ks Q fr H
 | e,fr,H=>dG E ks Q e fr H
def qU (E:Env) (ks:List Item) (Q:aX) (f1 f2:Nat) (c:Code):Nat->Fr->List R->Prop
 | 0,_,_=>False
 | N+1,fr,H=>ct E f1 c [] (oR E ks Q f2 (qU E ks Q f1 f2 c N)) fr H
def A5 (hT:bO E.P E.T) (N f1 f2:Nat) {ks:List Item}(h:qU E ks Q f1 f2 c N fr H):cJ E.P E.n (.loop c) (dG E ks Q) fr H:=by
 refine JL (fun m fr H=>qU E ks Q f1 f2 c m fr H) N h ?_;intro m fr H hm;cases m with
 | zero=>exact hm.elim
 | succ N=>
  refine zI (rl hT f1 hm) ?_;intro e fr' H' hq;cases e with
  | normal=>exact⟨N,Nat.lt_succ_self N,hq⟩
  | exit id=>
   simp only[oR] at hq;refine vD id ks ?_;generalize iR id ks=o at hq;match f2,o with
   | 0,_=>simp only[gw] at hq
   | f+1,some ks'=>
    simp only[gw] at hq;exact xS hT f hq
   | f+1,none=>
    simp only[gw] at hq;exact hq
  | goto l=>exact hq
  | ret=>exact hq
  | panic ch=>exact hq
  | outgrown=>exact hq
def kS {ks:List Item}{f1 f2 N:Nat}(h:ct E f1 c [] (oR E ks Q f2 (qU E ks Q f1 f2 c N)) fr H):qU E ks Q f1 f2 c (N+1) fr H:=h
section rules7
variable {ks:List Item}{f:Nat}{K:Fr->List R->Prop}
@[go_sem] def zqM:oR E ks Q f K .normal fr H=K fr H:=rfl
@[go_sem] def Uw {id:Nat}:oR E ks Q f K (.exit id) fr H=gw E f (iR id ks) id ks Q fr H:=rfl
@[go_sem] def Tn:oR E ks Q f K .ret fr H=dG E ks Q .ret fr H:=rfl
end rules7
end Go.VL
namespace Go.VL
set_option linter.defProp false
open Go
variable {k n i g F:Nat}{l:List D}{t:dV}{dp:DP}{fr:Fr}{H:List R}{E:Env}{tails:List Nat}{K:Fr->List R->Prop}
def tK (he : ∀ x∈l,x.cells.length=k) (m:Nat):flat (l.take m)=(flat l).take (m*k):=by
 induction l generalizing m with
 | nil=>simp[flat]
 | cons x r ih=>
  cases m with
  | zero=>simp[flat]
  | succ m=>
   have h1:=he x (ld ..);have h2:=ih (fun y hy=>he y (fP _ hy)) m;simp only[flat,List.take_succ_cons,mA] at h2 ⊢;have h4:x.cells.take ((m+1)*k)=x.cells:=ag (by rw[h1,iX];omega);rw[h2,List.take_append,h1,h4,show(m+1)*k-k=m*k by rw[iX];omega]
def LU {α β : Type}(F : α->List β) {a b:List α}(h:a.Sublist b):(a.flatMap F).Sublist (b.flatMap F):=by
 induction h with
 | slnil=>simp
 | cons x _ ih=>simp only[mA];exact ih.trans (List.sublist_append_right ..)
 | cons_cons x _ ih=>simp only[mA];exact List.Sublist.append (List.Sublist.refl _) ih
def MF {t m:Nat}(ht:fr.get t=.sl i g k 0 m) (hi:H[i]?=some (.row g k dp l)) (hd:dp.shut=true) :
  a0 n fr H (fr.put (some t) (.sl i (g+1) k 0 m)) (H.set i (.row (g+1) k dp (l.take m))):=by
 intro S φ w a hn s hf;have hlt:i<H.length:=(List.getElem?_eq_some_iff.1 hi).1;have hiφ : i < φ.length:=by rw[s.len];exact hlt
 obtain⟨hk,he,ho,hlim,hr⟩:=s.rel i _ hi;have hv:=hf.val t;rw[ht] at hv;have hml:m<=l.length:=by
  cases hv with
  | sl h1 h2 h3 h4=>have:=(h3 dp l hi).2;omega
 have hft:=tK he m;have hfl:(flat (l.take m)).length<=(flat l).length:=by rw[hft,fW];exact Nat.min_le_right ..
 have hfg : ∀ j,j<(flat (l.take m)).length->(flat (l.take m)).getD j .nil=(flat l).getD j .nil:=fun j hj=>by
  have hj2:j<(flat l).length:=by omega
  have h3:j<m*k:=by rw[hft,fW] at hj;omega
  simp[List.getD,hft,List.getElem?_take,h3]
 obtain⟨fp',hhead,hsub,hnd',hrel⟩ : ∃ fp':List Nat,fp'.head?=(φ.getD i []).head?/\(∀ b∈fp',b∈φ.getD i [])/\fp'.Nodup/\((fp'=[]/\l.take m=[])∨∃ b rest arr ty,fp'=b::rest/\w.heap[b]?=some (.cells arr ty (0,0))/\(l.take m).length*k<=arr.size/\aT S φ H w k dp (flat (l.take m)) arr rest):=by
  rcases hr with⟨e,e2⟩|⟨b,rest,arr,ty,e,hb,hsz,hrr⟩
  ·exact⟨[],by rw[e],by simp,by simp,.inl ⟨rfl,by rw[e2];simp⟩⟩
  ·have hszm:(l.take m).length*k<=arr.size:=hM (jS k (by rw[fW];exact Nat.min_le_right ..)) hsz;have hnd:=s.nd i;rw[e] at hnd;match dp,hd with
   | .fz,_=>
    obtain⟨hre,hc⟩:=hrr;exact⟨[b],by rw[e];rfl,by rw[e];simp,by simp,.inr ⟨b,[],arr,ty,rfl,hb,hszm,rfl,fun j hj=>by rw[hfg j hj];exact hc j (by omega)⟩⟩
   | .own [],_=>
    obtain⟨F,hF0,_,hF⟩:=hrr;have hpre:(List.range (flat (l.take m)).length).Sublist (List.range (flat l).length):=List.range_sublist.2 hfl;have hsl:((List.range (flat (l.take m)).length).flatMap F).Sublist rest:=by
     rw[hF0];exact LU F hpre
    refine⟨b::(List.range (flat (l.take m)).length).flatMap F,by rw[e];rfl,?_,?_,.inr ⟨b,_,arr,ty,rfl,hb,hszm,F,rfl,by simp,fun j hj=>by rw[hfg j hj];exact hF j (by omega)⟩⟩
    ·intro b' hb';rw[e];rcases List.mem_cons.1 hb' with rfl|hb'
     ·exact ld ..
     ·exact fP _ (hsl.subset hb')
    ·exact(List.Sublist.cons_cons b hsl).nodup hnd
   | .own (_::_),hd=>simp[DP.shut] at hd
 have hne : ∀ j,j≠i->(φ.set i fp').getD j [] = φ.getD j []:=fun j h=>by simp[List.getD,List.getElem?_set,Ne.symm h]
 have heq:(φ.set i fp').getD i []=fp':=by simp[List.getD,hiφ]
 have hsubm : ∀ j b,b∈(φ.set i fp').getD j []->b∈φ.getD j []:=by
  intro j b hb;by_cases h:j=i
  ·subst h;rw[heq] at hb;exact hsub b hb
  ·rwa [hne j h] at hb
 have hfoot : ∀ b,aR (φ.set i fp') b->aR φ b:=fun b ⟨j,hj⟩=>⟨j,hsubm j b hj⟩
 have hsome : ∀ j r,(H.set i (.row (g+1) k dp (l.take m)))[j]?=some r->(j=i/\r=.row (g+1) k dp (l.take m))∨(j≠i/\H[j]?=some r):=by
  intro j r hr;rw[List.getElem?_set] at hr;split at hr
  ·rename_i h;simp at hr;first|exact .inl ⟨h.symm,hr.2.symm⟩|exact .inl ⟨h.symm,hr.symm⟩
  ·rename_i h;exact .inr ⟨fun h2=>h h2.symm,hr⟩
 have e1:H.getD i (.dead 0)=.row g k dp l:=by simp only[List.getD,hi,i9]
 have e2:(H.set i (.row (g+1) k dp (l.take m))).getD i (.dead 0)=.row (g+1) k dp (l.take m):=by simp[List.getD,hlt]
 have htr:Tr H.length S φ H w S (φ.set i fp') (H.set i (.row (g+1) k dp (l.take m))) w:=by
  refine⟨fun _ h=>h,fun _ _=>rfl,aC _,by simp,?_,?_,?_,?_,?_⟩
  ·intro j hj;by_cases h:j=i
   ·subst h;rw[e1,e2];exact Nat.le_succ _
   ·have e3:(H.set i (.row (g+1) k dp (l.take m))).getD j (.dead 0)=H.getD j (.dead 0):=by simp[List.getD,List.getElem?_set,Ne.symm h]
    rw[e3];exact aC _
  ·intro j g2 k2 dp' l' hj hl';rcases hsome j _ hl' with⟨rfl,h⟩|⟨h,h2⟩
   ·cases h;left;rw[e1];exact Nat.lt_succ_self _
   ·exact .inr ⟨dp',l',h2,by rw[hne j h],aC _,fun b rest arr ty e1 e2=>⟨arr,ty,e2,aC _⟩⟩
  ·intro j cs hj hl';rcases hsome j _ hl' with⟨_,h⟩|⟨h,h2⟩
   ·cases h
   ·exact⟨cs,h2,hne j h⟩
  ·intro j cs hj hl';rcases hsome j _ hl' with⟨_,h⟩|⟨h,h2⟩
   ·cases h
   ·exact⟨cs,h2,hne j h⟩
  ·intro j x hj hl';rcases hsome j _ hl' with⟨_,h⟩|⟨h,h2⟩
   ·cases h
   ·exact⟨h2,hne j h,fun _ _=>rfl⟩
 have hsim:aK S (φ.set i fp') (H.set i (.row (g+1) k dp (l.take m))) w:=by
  refine⟨by simp[s.len],?_,fun j m b hb hb'=>s.dj j m b (hsubm j b hb) (hsubm m b hb'),fun b hb=>s.lt b (hfoot b hb),fun b hb=>s.off b (hfoot b hb),s.slt,?_⟩
  ·intro j;by_cases h:j=i
   ·subst h;rw[heq];exact hnd'
   ·rw[hne j h];exact s.nd j
  ·intro j r hr;rcases hsome j r hr with⟨rfl,rfl⟩|⟨h,h2⟩
   ·rw[heq];refine⟨hk,fun x hx=>he x (jX hx),fun c hc=>ho c ?_,?_,?_⟩
    ·rw[hft] at hc;exact jX hc
    ·rw[fW];exact hM (Nat.min_le_right ..) hlim
    ·rcases hrel with h|⟨b,rest,arr,ty,h1,h2,h3,h4⟩
     ·exact .inl h
     ·refine .inr ⟨b,rest,arr,ty,h1,h2,h3,?_⟩;match dp,hd,h4 with
      | .fz,_,h4=>exact h4
      | .own [],_,⟨F,q1,q2,q3⟩=>exact⟨F,q1,q2,q3⟩
      | .own (_::_),hd,_=>simp[DP.shut] at hd
   ·rw[hne j h];exact(s.rel j r h2).tr htr fun _ _=>rfl
 have hfr:=hf.tr htr;have hvn:V S (φ.set i fp') (H.set i (.row (g+1) k dp (l.take m))) w (.sl i (g+1) k 0 m) (a.tmps.getD t undef):=by
  cases hv with
  | sl h1 h2 h3 h4=>
   refine .sl (by simpa using hlt) (by rw[e2];exact aC _) (fun dp' l' hl'=>?_) h4;rcases hsome i _ hl' with⟨_,h⟩|⟨h,_⟩
   ·cases h;obtain⟨hsr,hle⟩:=h3 dp l hi;refine⟨?_,by rw[fW];omega⟩;rw[heq];rcases hsr with⟨q1,q2,q3,q4⟩|⟨b,rest,cap,arr,ty,ad,q1,q⟩
    ·exact .inl ⟨He hhead q1,q2,q3,q4⟩
    ·obtain⟨r',hr'⟩:=AM hhead q1;exact .inr ⟨b,r',cap,arr,ty,ad,hr',q⟩
   ·exact absurd rfl h
 have hput:=hfr.put (some t) hvn;have hact:a.put (some t) (a.tmps.getD t undef)=a:=by
  unfold Act.put;have e:a.tmps.setIfInBounds t (a.tmps.getD t undef)=a.tmps:=by
   apply Array.ext
   ·simp
   ·intro j h1 h2;rw[Array.getElem_setIfInBounds];split
    ·rename_i h;subst h;simp[Array.getD,h2]
    ·rfl
  simp only[e]
 rw[hact] at hput;exact⟨_,_,hsim,hput,⟨rfl,rfl,rfl,aC _,fun _ _ _=>rfl,fun b hb=>.inl (hfoot b hb),fun _ h=>h,fun b h=>.inl h⟩,htr.weaken hn⟩
def GB {m:Nat}{Po:I->List R->Prop}(hi:H[i]?=some (.row g k dp l)) (hd:dp.shut=true)
  (h:gP n Po (.sl i (g+1) k 0 m) (H.set i (.row (g+1) k dp (l.take m)))):gP n Po (.sl i g k 0 m) H:=by
 obtain⟨fr',H'',gg,e,q⟩:=h;refine⟨fr',H'',a0.trans (MF (t:=0) (m:=m) (fr:=⟨1,[(0,.sl i g k 0 m)]⟩) (by simp[Fr.get,look]) hi hd) ?_,e,q⟩;intro S φ w a hn s hf;refine gg S φ w a hn s ⟨hf.defers,hf.size,fun t=>?_⟩;have:=hf.val t;by_cases h0:t=0
 ·subst h0;simpa [Fr.get,Fr.put,look] using this
 ·have e:(Fr.get ⟨1,[(0,.sl i (g+1) k 0 m)]⟩ t)=.junk:=by simp[Fr.get,look,Ne.symm h0]
  rw[e];exact .junk
def ah {m:Region.Mode}{a:Array Oper}(h:Region.lexB m a=true:=by kernel_rfl):Region.lexB m a=true:=h
def yn {p:I->Prop}(h:p (I.d D.nil)) : ∃ x,p x:=⟨_,h⟩
def aw:List Nat->dV->dV
 | [],t=>t
 | i::r,t=>.fst i (aw r t)
@[go_sem] def zqP {l:List Oper}:bY E F l tails K (aw [] t) fr H=bY E F l tails K t fr H:=rfl
@[go_sem] def zqQ {l:List Oper}{r:List Nat}:bY E F l tails K (aw (i::r) t) fr H=bY E F l tails K (.fst i (aw r t)) fr H:=rfl
end Go.VL
