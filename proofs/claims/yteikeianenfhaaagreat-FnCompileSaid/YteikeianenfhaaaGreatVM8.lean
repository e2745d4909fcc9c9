/- Part 32: circuits as data. Conditions: none; plain definitions and lemmas. -/
import Derived.Test.YteikeianenfhaaaGreatVM7
import Derived.OrdersHeld
import Derived.KernelRfl
set_option linter.unusedVariables false
set_option linter.unusedSimpArgs false
set_option maxHeartbeats 2000000
set_option linter.defProp false
set_option maxRecDepth 20000
namespace Go.VL
variable {l l':List (Int×Int)}{i n f:Nat}{x y:Int}{α:Type}{P:Program}{ds ds':ZD}
abbrev dP (p:Int×Int):D:=.agg [dI p.1,dI p.2]
abbrev aY (l:List (Int×Int)):D:=.lst 2 (l.map dP)
@[go_sem] def YF:(l.map dP).getD i (.agg [.int .i64 0,.int .i64 0])=dP (l.getD i (0,0)):=Ar _ _ _ (0,0)
@[go_sem] def zpB:(l.map dP=l'.map dP)=(l=l'):=Cn fun x y h=>by
 obtain⟨a,b⟩:=x;obtain⟨c,d⟩:=y;simpa [dP] using h
@[go_sem] def Tc:eq (l.map dP) = ∀ x∈l,cp .i64 x.1/\cp .i64 x.2:=by
 rw[Gy];simp[dP,D.ok,eq]
@[go_sem] def zpD:(l.map dP).set i (D.agg [.int .i64 x,.int .i64 y])=(l.set i (x,y)).map dP:=(List.map_set (f:=dP) (a:=(x,y))).symm
@[go_sem] def zpE:List.replicate n (D.agg [.int .i64 0,.int .i64 0])=(List.replicate n ((0,0):Int×Int)).map dP:=by simp[dP]
@[go_sem] def TC:l.map dP ++ [D.agg [.int .i64 x,.int .i64 y]]=(l ++ [(x,y)]).map dP:=by simp
@[go_sem] def Yw:l.map dP++l'.map dP=(l++l').map dP:=by simp
@[go_sem] def zpH:(([]:ZD)=l.map dP)=(l=[]):=propext ⟨fun h=>by cases l with|nil=>rfl|cons x r=>simp at h,fun h=>by rw[h];rfl⟩
@[go_sem] def zpI:([D.agg [.int .i64 x,.int .i64 y]]=l.map dP)=(l=[(x,y)]):=propext ⟨fun h=>by
  cases l with
  | nil=>simp at h
  | cons z r=>
   cases r with
   | nil=>obtain⟨u,v⟩:=z;simp[dP] at h;simp[h]
   | cons y r=>simp at h,fun h=>by rw[h];rfl⟩
@[go_sem] def SO:(l.map dP).take n=(l.take n).map dP:=by simp
attribute [go_sem] List.drop_zero
def aO {l:List α}{z : α}(h:i<l.length):l.getD i z∈l:=by simp[List.getD,h]
def gm {l:List α}{x : α}(z : α) (h:x∈l) : ∃ i,i<l.length/\l.getD i z=x:=by
 obtain⟨i,hi,rfl⟩:=gJ h;exact⟨i,hi,by simp[List.getD,hi]⟩
def DD {P : α->Prop}{l:List α}(z : α):(∀ x∈l,P x)↔∀ j,j<l.length->P (l.getD j z):=
 ⟨fun h j hj=>h _ (aO hj),fun h x hx=>by obtain⟨i,hi,rfl⟩:=gm z hx;exact h i hi⟩
def Pure.wk {x:D}(h:Pure P f ds x) (hw:pi ds' ds):Pure P f ds' x:=by
 obtain⟨hl,hg⟩:=AN hw;exact⟨h.1,fun S vs w Rr hS ha hr=>h.2 S vs w Rr hS ⟨ha.1.trans hl,fun j hj=>Dt (hg j (by omega)) (ha.2 j (by omega))⟩ hr⟩
def bk.wk {x:D}(h:bk P f ds x) (hw:pi ds' ds):bk P f ds' x:=by
 obtain⟨hl,hg⟩:=AN hw;exact⟨h.1,fun S vs w Rr hS ha hr=>h.2 S vs w Rr hS ⟨ha.1.trans hl,fun j hj=>Dt (hg j (by omega)) (ha.2 j (by omega))⟩ hr⟩
structure ac where
 inputs:Int
 next:ZA
 gates:List (Int×Int)
 outs:ZA
variable {c:ac}
abbrev dC (c:ac):D:=.agg [dI c.inputs,aj c.next,aY c.gates,aj c.outs]
abbrev pC (c:ac):D:=.ptr [dI c.inputs,aj c.next,aY c.gates,aj c.outs]
def ac.zero:ac:=⟨0,[],[],[]⟩
def ac.first (c:ac):Int:=1+c.inputs+(c.next.length:Int)
def ac.vars (c:ac):Int:=c.first+(c.gates.length:Int)
def ac.roots (c:ac):ZA:=c.next++c.outs
def bm (l n:Int):Prop:=0<=l/\l<2*n
instance (l n:Int):Decidable (bm l n):=by unfold bm;infer_instance
structure ac.Valid (c:ac):Prop where
 i0:0<=c.inputs
 i1:c.inputs<=4
 ln:c.next.length<=3
 lg:c.gates.length<=14
 lo:c.outs.length<=3
 g : ∀ i,i<c.gates.length->bm (c.gates.getD i (0,0)).1 (c.first+(i:Int))/\bm (c.gates.getD i (0,0)).2 (c.first+(i:Int))
 n : ∀ x∈c.next,bm x c.vars
 o : ∀ x∈c.outs,bm x c.vars
noncomputable instance (c:ac):Decidable c.Valid:=Classical.propDecidable _
def ac.Valid.al (h:c.Valid):1<=c.first/\c.first<=8:=by
 have:=h.i0;have:=h.i1;have:=h.ln;unfold ac.first;omega
def ac.Valid.aN (h:c.Valid):c.first<=c.vars/\c.vars<=22:=by
 have:=h.al;have:=h.lg;unfold ac.vars;omega
def ac.nu:ac.zero.Valid:=⟨by decide,by decide,by decide,by decide,by decide,by simp[ac.zero],by simp[ac.zero],by simp[ac.zero]⟩
def ac.Valid.roots {c:ac}(h:c.Valid) : ∀ x∈c.roots,bm x c.vars:=by
 intro x hx;rcases List.mem_append.1 hx with h1|h1
 ·exact h.n x h1
 ·exact h.o x h1
end Go.VL
namespace Go.VL
variable {listed:Array Bool}{i F j:Nat}{v:Value}{K:Fr->ZF->Prop}{vc:Prop}{x y:Operand}{H':ZF}{o:Oper}{Qr:Exit->Act->World->Prop}{Kr:Act->World->Prop}{all l:List Oper}{tails:ZC}{ks:List Item}{t:TypeId}{k:IntKind}{p:Array (Nat×Operand)}{b:Array TypeId}
variable {P:Program}{ops:Array Oper}{Q:Exit->Act->World->Prop}{S0:World->Prop}{T0:Nat->Bool}
def og (P:Program) (ops:Array Oper) (Q:Exit->Act->World->Prop) (S0:World->Prop) (T0:Nat->Bool):Nat->Array Bool->Act->World->Prop
 | 0,listed,a,w=>Region.ready .any ops listed=[]/\Q .normal a w
 | fuel+1,listed,a,w=>
  (Region.ready .any ops listed=[]->Q .normal a w)/\
  ∀ i∈Region.ready .any ops listed,wpOp P ops Q i (fun a' w'=>(T0 i=true->S0 w->S0 w')/\og P ops Q S0 T0 fuel (listed.setIfInBounds i true) a' w') a w
def Nn : ∀ (fuel:Nat) (listed:Array Bool) (a:Act) (w:World),og P ops Q S0 T0 fuel listed a w->wpAny P .any ops Q fuel listed a w
 | 0,_,_,_,h=>h
 | fuel+1,_,_,_,h=>⟨h.1,fun i hi=>wpOp_mono (fun a' w' h'=>Nn fuel _ a' w' h'.2) (h.2 i hi)⟩
def dv (ops:Array Oper) (listed:Array Bool):Prop:=∀ j o,ops[j]?=some o->listed.getD j false=true->∀ e∈o.after,Region.binds .any e=true->listed.getD e.on false=true
def dv.set (hc:dv ops listed) (hi:i∈Region.ready .any ops listed):dv ops (listed.setIfInBounds i true):=by
 intro j o ho hj e he hb;by_cases hij:i=j
 ·subst hij;obtain⟨_,o',ho',hall⟩:=mem_ready.1 hi;rw[ho] at ho';cases ho';exact getD_set_true (hall e he hb)
 ·rw[getD_set_ne false hij] at hj;exact getD_set_true (hc j o ho hj e he hb)
def waits (ops:Array Oper) (i:Nat):Nat->Nat->Bool
 | 0,_=>false
 | f+1,j=>match ops[j]? with
  | some o=>o.after.any fun e=>Region.binds .any e&&(e.on == i || waits ops i f e.on)
  | none=>false
def Kf {listed:Array Bool}(hc:dv ops listed) {i:Nat} : ∀ (f j:Nat),waits ops i f j=true->listed.getD j false=true->listed.getD i false=true
 | 0,j,h,_=>by simp[waits] at h
 | f+1,j,h,hj=>by
  simp only[waits] at h;split at h
  ·rename_i o ho;obtain⟨e,he,hb⟩:=Array.any_eq_true'.1 h;simp only[gO,nM,beq_iff_eq] at hb;have hl:=hc j o ho hj e he hb.1;rcases hb.2 with h1|h1
   ·rw[<-h1];exact hl
   ·exact Kf hc f e.on h1 hl
  ·simp at h
def NU (hc:dv ops listed) (f j:Nat) (h:waits ops i f j=true) (hj:j∈Region.ready .any ops listed):listed.getD i false=true:=by
 cases f with
 | zero=>simp[waits] at h
 | succ f=>
  simp only[waits] at h;obtain⟨_,o,ho,hall⟩:=mem_ready.1 hj;simp only[ho] at h;obtain⟨e,he,hb⟩:=Array.any_eq_true'.1 h;simp only[gO,nM,beq_iff_eq] at hb;have hl:=hall e he hb.1;rcases hb.2 with h1|h1
  ·rw[<-h1];exact hl
  ·exact Kf hc f e.on h1 hl
def IT (h:listed.getD i true=false):listed.getD i false=false:=by
 rcases Nat.lt_or_ge i listed.size with h'|h'
 ·simp[h'] at h ⊢;exact h
 ·simp[Array.getElem?_eq_none h'] at h
def K6 {S1:World->Prop}{oi:Oper}(hi:ops[i]?=some oi) (hsel : ∀ (j:Nat) (o:Oper) cs b,ops[j]?=some o->o.op≠.select cs b)
  (hQ : ∀ c a w,Q (.panic c) (a.put oi.dst v) w->Q (.panic c) a w) (hS1:(∀ w,S1 w)∨S1=S0) :
  ∀ (fuel:Nat) (listed:Array Bool) (a:Act) (w:World),
   (∀ j oj,ops[j]?=some oj->j≠i->listed.getD j true=false->(∀ e∈oj.after,Region.binds .any e=true->e.on≠i)->oi.apart ops oj=true)->
   ((∀ w,S1 w)∨∀ j,T0 j=false->listed.getD j true=true∨∃ f,waits ops i f j=true)->dv ops listed->
   i∈Region.ready .any ops listed->YieldsIf P ops S1 oi v a->S1 w->
   og P ops Q S0 T0 fuel (listed.setIfInBounds i true) (a.put oi.dst v) w->og P ops Q S0 T0 (fuel+1) listed a w:=by
 intro fuel;induction fuel with
 | zero=>
  intro listed a w _ _ _ hr hy hS H;refine⟨fun h=>(by rw[h] at hr;cases hr),fun j hj=>?_⟩;by_cases hji:j=i
  ·subst hji;exact hy.wpOp hi hS ⟨fun _ h=>h,H⟩
  ·have:=ready_mono hj hji;rw[H.1] at this;cases this
 | succ fuel ih=>
  intro listed a w hfree hwait hcl hr hy hS H;refine⟨fun h=>(by rw[h] at hr;cases hr),fun j hj=>?_⟩;by_cases hji:j=i
  ·subst hji;exact hy.wpOp hi hS ⟨fun _ h=>h,H⟩
  ·have h1:=H.2 j (ready_mono hj hji);obtain⟨hjun,oj,hoj,hall⟩:=mem_ready.1 hj;have hnot : ∀ e∈oj.after,Region.binds .any e=true->e.on≠i:=fun e he hb heq=>by
    have h1:=hall e he hb;have h0:=IT (mem_ready.1 hr).1;rw[heq] at h1;rw[h1] at h0;cases h0
   have h2:=wpOp_putIf hoj (hfree j oj hoj hji hjun hnot) (fun cs b=>hsel i oi cs b hi) (fun cs b=>hsel j oj cs b hoj) hQ hy h1;have hfree' : ∀ k ok,ops[k]?=some ok->k≠i->(listed.setIfInBounds j true).getD k true=false->
     (∀ e∈ok.after,Region.binds .any e=true->e.on≠i)->oi.apart ops ok=true:=fun k ok hk hki hun hno=>by
    refine hfree k ok hk hki ?_ hno;by_cases hjk:j=k
    ·subst hjk;exact hjun
    ·rw[getD_set_ne true hjk] at hun;exact hun
   have hwait':(∀ w,S1 w)∨∀ k,T0 k=false->(listed.setIfInBounds j true).getD k true=true∨∃ f,waits ops i f k=true:=by
    refine hwait.imp id fun h k hk=>(h k hk).imp (fun h=>?_) id
    by_cases hjk:j=k
    ·subst hjk;rw[h] at hjun;cases hjun
    ·rw[getD_set_ne true hjk];exact h
   have hkeep : ∀ w',(T0 j=true->S0 w->S0 w')->S1 w':=by
    intro w' hw';rcases hwait with h|h
    ·exact h w'
    ·rcases hS1 with h3|rfl
     ·exact h3 w'
     cases hT:T0 j with
     | true=>exact hw' hT hS
     | false=>
      rcases h j hT with h3|⟨f,h3⟩
      ·rw[h3] at hjun;cases hjun
      ·have h0:=IT (mem_ready.1 hr).1;rw[NU hcl f j h3 hj] at h0;cases h0
   refine wpOp_mono (fun a' w' h3=>⟨h3.2.1,ih (listed.setIfInBounds j true) a' w' hfree' hwait' (hcl.set hj) (ready_mono hr (Ne.symm hji)) h3.1 (hkeep w' h3.2.1) ?_⟩) h2;rw[Array.setIfInBounds_comm _ _ hji];exact h3.2.2
def nX:Op->Bool
 | .box _ _|.alloc _|.buildSlice _ _ _|.makeSlice _ _ _|.makeMap _ _=>false
 | _=>true
def Av (E:Env) (fn:Option (Nat×ZE)):Prop:=
 match fn with
 | some (f,_)=>E.pf f≠.proc
 | none=>True
def fg (E:Env) (fr:Fr) (o:Oper):Prop:=
 match gz o.op with
 | some (g,_)=>Av E (fe (aq fr g))
 | none=>qB o.op=true∨nX o.op=false
def nQ (K:Fr->ZF->Prop):aT:=fun e fr H=>match e with|.normal=>K fr H|_=>False
@[go_sem] def zpK {fr:Fr}{H:ZF}:nQ K .normal fr H=K fr H:=rfl
variable {E:Env}{S:Nat->Prop}{φ : List ZC}{H:ZF}{w:World}{fr:Fr}{a:Act}{n:Nat}
def PT {T:Nat->Option TI}{fr:Fr}{H:ZF}{op:Op}{x:I}(h:bX T fr H op=some (vc,x,H')) (hm:nX op=false) :
  ∃ H'',bX T fr (fD H.length H) op=some (vc,x,H''):=by
 have hl:(fD H.length H).length=H.length:=Br _ _;cases op with
 | box e y=>
  simp only[bX,oq] at h ⊢;cases hT:T e with
  | none=>simp[hT,eF] at h
  | some ti=>
   simp only[hT] at h ⊢;cases hc:iN ti (aq fr y) with
   | none=>simp[hc,eF] at h
   | some p=>
    simp only[hc,eF,aE,aK,hl] at h ⊢;exact⟨_,h.1,h.2.1,rfl⟩
 | alloc e=>
  simp only[bX,yu] at h ⊢;cases hT:T e with
  | none=>simp[hT] at h
  | some ti=>
   simp only[hT,aE,aK,hl] at h ⊢;exact⟨_,h.1,h.2.1,rfl⟩
 | buildSlice t len parts=>
  simp only[bX,ko] at h ⊢;cases hT:T t with
  | none=>simp[hT,eF] at h
  | some ti=>
   simp only[hT] at h ⊢;cases hy:ti.ty with
   | slice e=>
    simp only[hy] at h ⊢;cases he:T e with
    | none=>simp[he,eF] at h
    | some ei=>
     simp only[he] at h ⊢;cases hp:mo ei.size 0 (lq fr parts.toList) with
     | none=>simp[hp,eF] at h
     | some p=>
      simp only[hp,eF,aE,aK,hl] at h ⊢;exact⟨_,h.1,h.2.1,rfl⟩
   | _=>simp[hy,eF] at h
 | makeSlice t l c=>
  simp only[bX,wI] at h ⊢;split at h
  ·rename_i ti x y hT hx hy;cases hy:ti.ty with
   | slice e=>
    simp only[hy] at h ⊢;cases he:T e with
    | none=>simp[he,eF] at h
    | some ei=>
     simp only[he,eF,aE,aK,hl] at h ⊢;exact⟨_,h.1,h.2.1,rfl⟩
   | _=>simp[hy,eF] at h
  ·simp[eF] at h
 | makeMap t r=>
  cases r with
  | some r=>simp[bX] at h
  | none=>
   simp only[bX,xp] at h ⊢;split at h
   ·simp only[aE,aK,hl] at h ⊢;exact⟨_,h.1,h.2.1,rfl⟩
   ·simp at h
 | _=>simp[nX] at hm
def SE (φ : List ZC) (hl : φ.length=H.length) (b:Nat) : ¬ aU (jP H.length φ) b:=by
 rintro⟨i,hi⟩;rw[qH] at hi;split at hi
 ·simp at hi
 ·simp[List.getD,List.getElem?_eq_none (show φ.length<=i by omega)] at hi
def Fx (hT:bQ E.P E.T) (s:aQ S φ H w) (hf:de S φ H w fr a) (hnc:gz o.op=none) {x:I}(hp:bX E.T fr H o.op=some (vc,x,H')) (hvc:vc) {w':World}
  (hr:(execOp a.eval o).run E.P w=.ok (.value v) w'∨((execOp a.eval o).run E.P w=.ok .skip w'/\v=undef)):fg E fr o->au w w':=by
 intro hko;simp only[fg,hnc] at hko;rcases hko with hq|hmem
 ·exfalso;obtain⟨dst,op,ty,pos,after,guard⟩:=o;simp only at hp hq hnc;cases op with
  | call c=>
   obtain⟨callee,cargs,tys⟩:=c;cases callee with
   | builtin b=>cases b <;> simp[qB] at hq <;> simp[bX] at hp
   | value g=>simp[gz] at hnc
   | _=>simp[qB] at hq
  | _=>first|(simp[qB] at hq;done)|(simp[bX] at hp;done)
 ·obtain⟨H'',hp2⟩:=PT hp hmem;obtain⟨s1,t1⟩:=s.kill H.length;obtain⟨v2,w2,φ2,hr2,s2,_,he2,_⟩:=yf hT s1 (hf.tr t1) hp2 hvc;have hww:w2=w':=by
   rcases hr with h1|⟨h1,_⟩ <;> rcases hr2 with h2|⟨h2,_⟩ <;> rw[h1] at h2 <;> injection h2 with _ h3 <;> exact h3.symm
  rw[<-hww];exact fun b hb=>he2.bf b hb (SE φ s.len b)
def Left (E:Env) (S:Nat->Prop) (φ : List ZC) (H:ZF) (w:World) (K:Fr->ZF->Prop) (a':Act) (w':World):Prop:=
 ∃ S' φ' fr' H',aQ S' φ' H' w'/\de S' φ' H' w' fr' a'/\Ext S φ w S' φ' w'/\Tr E.n S φ H w S' φ' H' w'/\K fr' H'
def CA {f:Operand}{args:List Operand}(ho:gz o.op=some (f,args)) (s:aQ S φ H w) (hf:de S φ H w fr a)
  {Kc:I->ZF->Prop}(h:oK E (aF fr f/\ee fr args) (fe (aq fr f)) (iw fr args) H Kc) 
  (hK : ∀ S' φ' H' w' r v,aQ S' φ' H' w'->de S' φ' H' w' fr a->V S' φ' H' w' r v->Ext S φ w S' φ' w'->Tr H.length S φ H w S' φ' H' w'->(Av E (fe (aq fr f))->au w w')->Kc r H'->Kr (a.put o.dst v) w'):o.wp E.P a w Kr Qr:=by
 unfold oK at h;split at h
 ·rename_i g caps hfn;have common:(aF fr f/\ee fr args)->∃ vs,a.eval f=.func (.func g) #[] vs/\((args.map a.eval).toArray++vs).size=(iw fr args++caps).length/\
    ∀ j,j<(iw fr args++caps).length->V S φ H w ((iw fr args++caps).getD j .junk) (((args.map a.eval).toArray++vs).getD j undef):=by
   rintro⟨hc1,hc2⟩;obtain⟨vs,e1,e2,e3⟩:=DK (hf.aq f hc1) hfn;obtain⟨l1,l2⟩:=BB hf args hc2;obtain⟨m1,m2⟩:=EL (va:=(args.map a.eval).toArray) (by simp[l1]) (fun j hj=>l2 j (by omega)) e2 e3;exact⟨vs,e1,m1,m2⟩
  split at h
  ·split at h
   ·rename_i vc ds hv;obtain⟨hc,hvc,ψ,hp,hk⟩:=h;obtain⟨vs,e1,e2,e3⟩:=common hc;refine zg (yn ho e1 hp.1 w) (hp.2 (jv S φ) _ w _ (fun b hb=>hb.elim (s.slt b) (s.lt b)) (AV (fun x v vc d h1 h2 h3=>xB s 3 h1 h2 h3) e2 e3 hv hvc) ?_);intro x v w' fp hx how hnd hfp hg;rcases hk x hx with hk|⟨r,H',hu,hk⟩
    ·obtain⟨s1,s2,s3⟩:=yG s hg (fun b=>S b∨b∈fp) (fun b h=>.inl h) (fun b h=>h.imp id (hfp b)) (fun b h=>h.elim (fun h=>iA (s.slt b h) hg.size) (how.lt b));exact hK _ _ _ _ _ _ s1 (hf.tr s2) (.d (how.fz fun b hb=>.inr hb)) s3 s2 (fun _=>hg.bf) hk
    ·obtain⟨S',φ',s1,s2,s3,hv⟩:=hu S φ w w' v fp s how hnd hfp hg;exact hK _ _ _ _ _ _ s1 (hf.tr s2) hv s3 s2 (fun _=>hg.bf) hk
   ·exact h.elim
  ·split at h
   ·rename_i vc ds hv;obtain⟨hc,hvc,ψ,hp,hk⟩:=h;obtain⟨vs,e1,e2,e3⟩:=common hc;refine zg (yn ho e1 hp.1 w) (hp.2 S _ w _ s.slt (AV G7 e2 e3 hv hvc) ?_);intro x v w' S' hx h1 h2 h3 hz hg;obtain⟨s1,s2,s3⟩:=yG s hg S' h1 h2 h3;exact hK _ _ _ _ _ _ s1 (hf.tr s2) (.d hz) s3 s2 (fun _=>hg.bf) (hk x hx)
   ·exact h.elim
  ·rename_i hpf;obtain⟨hc,hp⟩:=h;obtain⟨vs,e1,e2,e3⟩:=common hc;refine zg (yn ho e1 hp.1 w) (hp.2 S φ _ w _ s e2 e3 ?_);intro v w' S' φ' r H' s1 hv s3 s2 hk;exact hK _ _ _ _ _ _ s1 (hf.tr s2) hv s3 s2 (fun hne=>by simp only[hfn,Av] at hne;exact absurd hpf hne) hk
 ·exact h.elim
def sw (hT:bQ E.P E.T) (F:Nat) (hn:E.n<=H.length) (s:aQ S φ H w) (hf:de S φ H w fr a)
  (h:am E F all [o] [] (nQ K) fr H) (hK : ∀ a' w',(fg E fr o->au w w')->Left E S φ H w K a' w'->Kr a' w') :
  if Region.wanted o (yielded all.toArray a.tmps) then o.wp E.P a w Kr Qr∨(o.asks E.P a w/\LetsOut Qr) else Kr (a.put o.dst undef) w:=by
 have fin : ∀ (f:Nat) {fr':Fr}{H':ZF},am E f all [] [] (nQ K) fr' H'->K fr' H':=by
  intro f fr' H' h;match f with
  | 0=>simp only[am] at h
  | 1=>simp only[am,exec] at h
  | f+2=>simpa only[am,exec,nQ] using h
 have same : ∀ {fr':Fr}{a':Act},de S φ H w fr' a'->K fr' H->Kr a' w:=fun hf' hk=>hK _ _ (fun _=>au.refl w) ⟨S,φ,_,H,s,hf',Ext.refl ..,Tr.refl hn,hk⟩
 match F with
 | 0=>simp only[am] at h
 | F+1=>
 simp only[am] at h;split at h
 ·rename_i hgd;have hw:Region.wanted o (yielded all.toArray a.tmps)=true:=by simp only[Region.wanted,hgd]
  simp only[hw,if_true];left;split at h
  ·rename_i g args ho;refine CA ho s hf h fun S' φ' H' w' r v s' hf' hv he ht hag hk=>hK _ _ (fun hk=>hag (by simpa only[fg,ho] using hk)) ?_
   match F with
   | 0=>simp only[mq] at hk
   | f+1=>
    simp only[mq] at hk;exact⟨S',φ',_,H',s',hf'.put o.dst hv,he,ht.weaken hn,fin _ hk⟩
  ·rename_i hnc;split at h
   ·rename_i vc x hp;obtain⟨hvc,hk⟩:=h;obtain⟨v,hv,hr⟩:=vG hT s hf hp hvc;unfold Oper.wp;rw[hr w (fun _=>au.refl w),Oper.upon_value];exact same (hf.put o.dst hv) (fin _ hk)
   ·rename_i hnP;split at h
    ·rename_i vc x H' hp;obtain⟨hvc,hk⟩:=h;obtain⟨v,w',φ',hr,s',ht,he,hv⟩:=yf hT s hf hp hvc;have hag:fg E fr o->au w w':=Fx hT s hf hnc hp hvc hr;have fin2:Kr (a.put o.dst v) w':=hK _ _ hag ⟨S,φ',_,H',s',(hf.tr ht).put o.dst hv,he,ht.weaken hn,fin _ hk⟩;unfold Oper.wp;rcases hr with hr|⟨hr,rfl⟩
     ·rw[hr,Oper.upon_value];exact fin2
     ·rw[hr,Oper.upon_skip];exact fin2
    ·split at h
     ·rename_i vc x H' hp;obtain⟨hvc,hk⟩:=h;obtain⟨v,w',φ',hr,hag,s',ht,he,hv,_⟩:=Gw hT s hf hp hvc;have fin2:Kr (a.put o.dst v) w':=hK _ _ (fun _=>hag) ⟨S,φ',_,H',s',(hf.tr ht).put o.dst hv,he,ht.weaken hn,fin _ hk⟩;unfold Oper.wp;rw[hr,Oper.upon_value];exact fin2
     split at h
     ·rename_i fc fr1 H1 hfz;split at h
      ·rename_i vc x H' hp;obtain⟨hfc,hvc,hk⟩:=h;obtain⟨S1,φ1,s1,hf1,e1,t1⟩:=G9 s hf hfz hfc;obtain⟨v,w',φ',hr,s',ht,he,hv⟩:=yf hT s1 hf1 hp hvc;have hn1:=g6 hn t1.len;have hag:fg E fr o->au w w':=fun _=>Fx hT s1 hf1 hnc hp hvc hr (by
        obtain⟨_,_,_,kC⟩:=HL hfz;simp[fg,kC,gz,nX])
       have fin2:Kr (a.put o.dst v) w':=hK _ _ hag ⟨S1,φ',_,H',s',(hf1.tr ht).put o.dst hv,e1.trans he,(t1.weaken hn).trans (ht.weaken hn1),fin _ hk⟩;unfold Oper.wp;rcases hr with hr|⟨hr,rfl⟩
       ·rw[hr,Oper.upon_value];exact fin2
       ·rw[hr,Oper.upon_skip];exact fin2
      ·exact h.elim
     ·exact h.elim
 ·rename_i j want hgd;split at h
  ·rename_i gc e hg;have wanted:gc->Region.wanted o (yielded all.toArray a.tmps)=e:=by
    intro hgc;exact Cm hf hgd hg hgc
   split at h
   ·rename_i g args ho;obtain⟨hgc,h⟩:=h;rw[wanted hgc];unfold xC at h;split at h
    ·rename_i g' caps hfn;split at h
     ·rename_i hpf;split at h
      ·rename_i vc ds hv;obtain⟨hc,x,hp,hk⟩:=h;match F with
       | 0=>simp only[cz] at hk
       | F+1=>
       simp only[cz] at hk;cases e with
       | false=>
        simp only[eE,if_false];exact same (hf.skip o.dst rfl _) (fin _ hk)
       | true=>
        simp only[if_true];left;obtain⟨hc,hvc⟩:=hc rfl;have hp:=hp rfl;refine CA (E:=E) ho s hf (Kc:=fun r H'=>H'=H/\r=.d x) ?_ ?_
        ·simp only[oK,hfn,hpf,hv];exact⟨hc,hvc,fun y=>y=x,hp.zv,fun y hy=>.inl ⟨rfl,by rw[hy]⟩⟩
        ·rintro S' φ' H' w' r v s' hf' hv' he ht hag ⟨rfl,rfl⟩;exact hK _ _ (fun hk=>hag (by simpa only[fg,ho] using hk)) ⟨S',φ',_,_,s',hf'.put o.dst (.cond (fun _=>hv') fun h=>by cases h),he,ht.weaken hn,fin _ hk⟩
      ·exact h.elim
     ·rename_i hpf;cases e with
      | false=>
       obtain⟨x,hk⟩:=h.1 rfl;match F with
       | 0=>simp only[cz] at hk
       | F+1=>
       simp only[cz] at hk;simp only[eE,if_false];exact same (hf.skip o.dst rfl _) (fin _ hk)
      | true=>
       simp only[if_true];left;obtain⟨hc,hp⟩:=h.2 rfl;refine CA (E:=E) ho s hf (Kc:=fun r H'=>cz E F all [] [] (nQ K) fr o.dst H' (.cond true r)) ?_ ?_
       ·simp only[oK,hfn,hpf];exact⟨hc,hp⟩
       ·intro S' φ' H' w' r v s' hf' hv' he ht hag hk;match F with
        | 0=>simp only[cz] at hk
        | F+1=>
        simp only[cz] at hk;exact hK _ _ (fun hk=>hag (by simpa only[fg,ho] using hk)) ⟨S',φ',_,_,s',hf'.put o.dst (.cond (fun _=>hv') fun h=>by cases h),he,ht.weaken hn,fin _ hk⟩
     ·rename_i hpf;cases e with
      | false=>
       obtain⟨x,hk⟩:=h.1 rfl;match F with
       | 0=>simp only[cz] at hk
       | F+1=>
       simp only[cz] at hk;simp only[eE,if_false];exact same (hf.skip o.dst rfl _) (fin _ hk)
      | true=>
       simp only[if_true];left;have hp:=h.2 rfl;refine CA (E:=E) ho s hf (Kc:=fun r H'=>cz E F all [] [] (nQ K) fr o.dst H' (.cond true r)) ?_ ?_
       ·simp only[oK,hfn,hpf];exact hp
       ·intro S' φ' H' w' r v s' hf' hv' he ht hag hk;match F with
        | 0=>simp only[cz] at hk
        | F+1=>
        simp only[cz] at hk;exact hK _ _ (fun hk=>hag (by simpa only[fg,ho] using hk)) ⟨S',φ',_,_,s',hf'.put o.dst (.cond (fun _=>hv') fun h=>by cases h),he,ht.weaken hn,fin _ hk⟩
    ·exact h.elim
   ·split at h
    ·rename_i vc x hp;obtain⟨hgc,hvc,hk⟩:=h;rw[wanted hgc];cases e with
     | false=>
      simp only[eE,if_false];exact same (hf.skip o.dst rfl _) (fin _ hk)
     | true=>
      simp only[if_true];left;obtain⟨v,hv,hr⟩:=vG hT s hf hp (hvc rfl);unfold Oper.wp;rw[hr w (fun _=>au.refl w),Oper.upon_value];exact same (hf.put o.dst (.cond (fun _=>hv) fun h=>by cases h)) (fin _ hk)
    ·rename_i hnP;split at h
     ·rename_i vc x H' hp;obtain⟨hgc,hk0,hk1⟩:=h;rw[wanted hgc];cases e with
      | false=>
       obtain⟨y,hk⟩:=hk0 rfl;simp only[eE,if_false];exact same (hf.skip o.dst rfl _) (fin _ hk)
      | true=>
       obtain⟨hvc,hk⟩:=hk1 rfl;simp only[if_true];left;obtain⟨v,w',φ',hr,s',ht,he,hv⟩:=yf hT s hf hp hvc;have fin2:Kr (a.put o.dst v) w':=hK _ _ (Fx hT s hf (by assumption) hp hvc hr) ⟨S,φ',_,H',s',(hf.tr ht).put o.dst (.cond (fun _=>hv) fun h=>by cases h),he,ht.weaken hn,fin _ hk⟩;unfold Oper.wp;rcases hr with hr|⟨hr,rfl⟩
       ·rw[hr,Oper.upon_value];exact fin2
       ·rw[hr,Oper.upon_skip];exact fin2
     ·exact h.elim
  ·exact h.elim
def bM (E:Env) (o:Oper):Prop:=eo E.T o.op=false
def oa (o:Oper):Bool:=qB o.op&&(gz o.op).isNone
def Rd (hT:bQ E.P E.T) (F:Nat) (hn:E.n<=H.length) (s:aQ S φ H w) (hf:de S φ H w fr a) (hq:oa o=true) (hst:eo E.T o.op=false)
  (h:am E F all [o] [] (nQ K) fr H) : ∃ v fr' φ' H',aQ S φ' H' w/\Ext S φ w S φ' w/\Tr E.n S φ H w S φ' H' w/\de S φ' H' w fr' (a.put o.dst v)/\K fr' H'/\YieldsIf E.P all.toArray (fun w'=>zC o.op=true->au w w') o v a:=by
 have fin : ∀ (f:Nat) {fr':Fr}{H':ZF},am E f all [] [] (nQ K) fr' H'->K fr' H':=by
  intro f fr' H' h;match f with
  | 0=>simp only[am] at h
  | 1=>simp only[am,exec] at h
  | f+2=>simpa only[am,exec,nQ] using h
 simp only[oa,gO,Option.isNone_iff_eq_none] at hq;have noI : ∀ {vc:Prop}{x:I}{H':ZF},bX E.T fr H o.op=some (vc,x,H')->False:=by
  intro vc x H' hp;obtain⟨dst,op,ty,pos,after,guard⟩:=o;simp only at hp hq;cases op with
  | call c=>
   obtain⟨callee,cargs,tys⟩:=c;cases callee with
   | builtin b=>cases b <;> simp[qB] at hq <;> simp[bX] at hp
   | value g=>simp[gz] at hq
   | _=>simp[qB] at hq
  | _=>first|(simp[qB] at hq;done)|(simp[bX] at hp;done)
 match F with
 | 0=>simp only[am] at h
 | F+1=>
 simp only[am,hq.2] at h;split at h
 ·rename_i hgd;have hw:Region.wanted o (yielded all.toArray a.tmps)=true:=by simp only[Region.wanted,hgd]
  split at h
  ·rename_i vc x hp;obtain⟨hvc,hk⟩:=h;obtain⟨v,hv,hr⟩:=vG hT s hf hp hvc;exact⟨v,_,φ,H,s,Ext.refl ..,Tr.refl hn,hf.put o.dst hv,fin _ hk,.inl ⟨hw,fun w' hw'=>hr w' fun h=>hw' (h.resolve_right (by rw[hst];simp))⟩⟩
  ·split at h
   ·rename_i vc x H' hp;exact(noI hp).elim
   ·split at h
    ·rename_i vc x H' hp;obtain⟨hvc,hk⟩:=h;obtain⟨v,w',φ',hr,hag,s',ht,he,hv,hl⟩:=Gw hT s hf hp hvc;have hld : ∃ t q,o.op=.load t q:=by
      rcases Pm hp with⟨t,n,q,h⟩|h
      ·rw[h] at hq;simp[qB] at hq
      ·exact h
     obtain⟨rfl,hl⟩:=hl hld;exact⟨v,_,φ',H',s',he,ht.weaken hn,(hf.tr ht).put o.dst hv,fin _ hk,.inl ⟨hw,fun w2 hw2=>hl w2 (hw2 (by obtain⟨t,q,h⟩:=hld;rw[h];rfl))⟩⟩
    split at h
    ·rename_i fc fr1 H1 hfz;obtain⟨_,_,_,kC⟩:=HL hfz;rw[kC] at hq;simp[qB] at hq
    ·exact h.elim
 ·rename_i j want hgd;split at h
  ·rename_i gc e hg;have wanted:gc->Region.wanted o (yielded all.toArray a.tmps)=e:=by
    intro hgc;exact Cm hf hgd hg hgc
   split at h
   ·rename_i vc x hp;obtain⟨hgc,hvc,hk⟩:=h;have hw:=wanted hgc;cases e with
    | false=>exact⟨undef,_,φ,H,s,Ext.refl ..,Tr.refl hn,hf.skip o.dst rfl _,fin _ hk,.inr ⟨hw,rfl⟩⟩
    | true=>
     obtain⟨v,hv,hr⟩:=vG hT s hf hp (hvc rfl);exact⟨v,_,φ,H,s,Ext.refl ..,Tr.refl hn,hf.put o.dst (.cond (fun _=>hv) fun h=>by cases h),fin _ hk,.inl ⟨hw,fun w' hw'=>hr w' fun h=>hw' (h.resolve_right (by rw[hst];simp))⟩⟩
   ·split at h
    ·rename_i vc x H' hp;exact(noI hp).elim
    ·exact h.elim
  ·exact h.elim
inductive eR where
 | done
 | fst (i:Nat) (t:eR)
 | one (i:Nat) (t:eR)
 | two (i:Nat) (t:eR) (j:Nat) (u:eR)
 | three (i:Nat) (t:eR) (j:Nat) (u:eR) (k:Nat) (v:eR)
 | four (i:Nat) (t:eR) (j:Nat) (u:eR) (k:Nat) (v:eR) (m:Nat) (y:eR)
variable {u:eR}
def eP (ops:Array Oper) (tails:ZC):Array Bool->Bool->eR->Bool
 | listed,_,.done=>(Region.ready .any ops listed).isEmpty
 | listed,ph,.fst i t=>
  (Region.ready .any ops listed).contains i&&Region.free .any ops listed i&&(match ops[i]? with|some o=>oa o&&(!zC o.op || (ph&&tails.all fun j=>listed.getD j true || waits ops i ops.size j))|none=>false) &&
   eP ops tails (listed.setIfInBounds i true) ph t
 | listed,ph,.one i t=>Region.ready .any ops listed == [i]&&(ops[i]?).isSome&&eP ops tails (listed.setIfInBounds i true) false t
 | listed,ph,.two i t j u=>Region.ready .any ops listed == [i,j]&&(ops[i]?).isSome&&(ops[j]?).isSome&&eP ops tails (listed.setIfInBounds i true) false t&&eP ops tails (listed.setIfInBounds j true) false u
 | listed,ph,.three i t j u k v=>Region.ready .any ops listed == [i,j,k]&&(ops[i]?).isSome&&(ops[j]?).isSome&&(ops[k]?).isSome&&eP ops tails (listed.setIfInBounds i true) false t&&eP ops tails (listed.setIfInBounds j true) false u&&eP ops tails (listed.setIfInBounds k true) false v
 | listed,ph,.four i t j u k v m y=>Region.ready .any ops listed == [i,j,k,m]&&(ops[i]?).isSome&&(ops[j]?).isSome&&(ops[k]?).isSome&&(ops[m]?).isSome&&eP ops tails (listed.setIfInBounds i true) false t&&eP ops tails (listed.setIfInBounds j true) false u&&eP ops tails (listed.setIfInBounds k true) false v&&eP ops tails (listed.setIfInBounds m true) false y
def aS (l : List Oper) (i : Nat) : Oper := l.getD i ⟨none, .move (.const undef), 0, "", #[], none⟩
def b7 (E:Env) (F:Nat) (l:List Oper) (tails:ZC) (K:Fr->ZF->Prop):eR->Fr->ZF->Prop
 | .done,fr,H=>K fr H
 | .fst i t,fr,H=>bM E (aS l i)/\am E F l [aS l i] [] (nQ (b7 E F l tails K t)) fr H
 | .one i t,fr,H=>(tails.contains i=false->fg E fr (aS l i))/\am E F l [aS l i] [] (nQ (b7 E F l tails K t)) fr H
 | .two i t j u,fr,H=>((tails.contains i=false->fg E fr (aS l i))/\am E F l [aS l i] [] (nQ (b7 E F l tails K t)) fr H)/\
   ((tails.contains j=false->fg E fr (aS l j))/\am E F l [aS l j] [] (nQ (b7 E F l tails K u)) fr H)
 | .three i t j u k v,fr,H=>((tails.contains i=false->fg E fr (aS l i))/\am E F l [aS l i] [] (nQ (b7 E F l tails K t)) fr H)/\
   ((tails.contains j=false->fg E fr (aS l j))/\am E F l [aS l j] [] (nQ (b7 E F l tails K u)) fr H)/\
   ((tails.contains k=false->fg E fr (aS l k))/\am E F l [aS l k] [] (nQ (b7 E F l tails K v)) fr H)
 | .four i t j u k v m y,fr,H=>
   ((tails.contains i=false->fg E fr (aS l i))/\am E F l [aS l i] [] (nQ (b7 E F l tails K t)) fr H)/\
   ((tails.contains j=false->fg E fr (aS l j))/\am E F l [aS l j] [] (nQ (b7 E F l tails K u)) fr H)/\
   ((tails.contains k=false->fg E fr (aS l k))/\am E F l [aS l k] [] (nQ (b7 E F l tails K v)) fr H)/\
   ((tails.contains m=false->fg E fr (aS l m))/\am E F l [aS l m] [] (nQ (b7 E F l tails K y)) fr H)
def rQ (h:l.toArray[i]?=some o):aS l i=o:=by
 have:l[i]?=some o:=by simpa using h
 simp[aS,List.getD,this]
def eR.depth:eR->Nat
 | .done=>0
 | .fst _ t=>t.depth+1
 | .one _ t=>t.depth+1
 | .two _ t _ u=>max t.depth u.depth+1
 | .three _ t _ u _ v=>max t.depth (max u.depth v.depth)+1
 | .four _ t _ u _ v _ y=>max (max t.depth y.depth) (max u.depth v.depth)+1
def Left.trans {S0:Nat->Prop}{φ0:List ZC}{H0:ZF}{w0:World}{K:Fr->ZF->Prop}{a':Act}{w':World}(he:Ext S0 φ0 w0 S φ w) (ht:Tr E.n S0 φ0 H0 w0 S φ H w) (h:Left E S φ H w K a' w'):Left E S0 φ0 H0 w0 K a' w':=by
 obtain⟨S',φ',fr',H',a1,a2,a3,a4,a5⟩:=h;exact⟨S',φ',fr',H',a1,a2,he.trans a3,ht.trans a4,a5⟩
def PG (hT:bQ E.P E.T) {Qr:Act->World->Prop}{w0:World}{S0:Nat->Prop}{φ0:List ZC}{H0:ZF}
  (hs:Region.noSelect l.toArray=true) (hq : ∀ a' w',Left E S0 φ0 H0 w0 K a' w'->Qr a' w') :
  ∀ (t:eR) (fuel:Nat) (listed:Array Bool) (ph:Bool) (S:Nat->Prop) (φ : List ZC) (H:ZF) (w:World) (fr:Fr) (a:Act),
   aQ S φ H w->de S φ H w fr a->Ext S0 φ0 w0 S φ w->Tr E.n S0 φ0 H0 w0 S φ H w->(ph=true->w=w0)->dv l.toArray listed->eP l.toArray tails listed ph t=true->t.depth<=fuel->b7 E F l tails K t fr H->
   og E.P l.toArray (fun e a w=>match e with|.normal=>Qr a w|_=>False) (au w0) (fun i=>!tails.contains i) fuel listed a w:=by
 have agtr : ∀ {w w':World},au w w'->au w0 w->w0.heap.size<=w.heap.size->au w0 w':=fun h1 h2 h3 b hb=>(h1 b (iA hb h3)).trans (h2 b hb)
 intro t;induction t with
 | done=>
  intro fuel listed ph S φ H w fr a s hf he ht hph hcl hc hd h;simp only[eP,List.isEmpty_iff] at hc;have hQ:Qr a w:=hq _ _ ⟨S,φ,fr,H,s,hf,he,ht,h⟩;cases fuel with
  | zero=>exact⟨hc,hQ⟩
  | succ f=>exact⟨fun _=>hQ,by rw[hc];simp⟩
 | fst i t ih=>
  intro fuel listed ph S φ H w fr a s hf he ht hph hcl hc hd h;match fuel with
  | 0=>simp[eR.depth] at hd
  | fuel+1=>
  simp only[eP,gO,List.contains_iff_mem] at hc;obtain⟨⟨⟨hr,hfree⟩,kC⟩,hc⟩:=hc;split at kC
  case h_2=>simp at kC
  rename_i o ho;simp only[gO,nM,Bool.not_eq_true'] at kC;obtain⟨hpl,hrd⟩:=kC;simp only[b7,rQ ho] at h;obtain⟨v,fr',φ',H',s',he',ht',hf',hk,hy⟩:=Rd hT F ht.len s hf hpl h.1 h.2;have next:=ih fuel (listed.setIfInBounds i true) ph S φ' H' w fr' (a.put o.dst v) s' hf' (he.trans he') (ht.trans ht') hph (hcl.set hr) hc (by simpa [eR.depth] using hd) hk;have hfr:=Region.free_spec ho hfree;cases hro:zC o.op with
  | false=>
   refine K6 (S1:=fun _=>True) ho (Region.noSelect_spec hs) (fun _ _ _ h=>h) (.inl fun _=>trivial) fuel listed a w hfr (.inl fun _=>trivial) hcl hr ?_ trivial next;exact hy.imp (fun⟨h1,h2⟩=>⟨h1,fun w' _=>h2 w' (by simp[hro])⟩) id
  | true=>
   rcases hrd with h0|⟨h1,h2⟩
   ·rw[hro] at h0;cases h0
   ·obtain rfl:=hph h1;refine K6 (S1:=au w) ho (Region.noSelect_spec hs) (fun _ _ _ h=>h) (.inr rfl) fuel listed a w hfr (.inr fun j hj=>?_) hcl hr ?_ (au.refl w) next
    ·simp only[Bool.not_eq_false',List.contains_iff_mem] at hj;have:=List.all_eq_true.1 h2 j hj;simp only[nM] at this;exact this.imp id fun h=>⟨_,h⟩
    ·exact hy.imp (fun⟨h1,h2⟩=>⟨h1,fun w' hw'=>h2 w' fun _=>hw'⟩) id
 | one i t ih=>
  intro fuel listed ph S φ H w fr a s hf he ht hph hcl hc hd h;match fuel with
  | 0=>simp[eR.depth] at hd
  | fuel+1=>
  simp only[eP,gO,beq_iff_eq] at hc;obtain⟨⟨hr,kC⟩,hc⟩:=hc;obtain⟨o,ho⟩:=Option.isSome_iff_exists.1 kC;simp only[b7,rQ ho] at h;have hmem:i∈Region.ready .any l.toArray listed:=by rw[hr];simp
  refine⟨fun h0=>(by rw[hr] at h0;cases h0),fun k hk=>?_⟩;rw[hr,m5] at hk;subst hk;have:=sw hT (Qr:=fun e a w=>match e with|.normal=>Qr a w|_=>False) (Kr:=fun a' w'=>((!tails.contains k)=true->au w0 w->au w0 w')/\og E.P l.toArray (fun e a w=>match e with|.normal=>Qr a w|_=>False) (au w0) (fun i=>!tails.contains i) fuel (listed.setIfInBounds k true) a' w') F ht.len s hf h.2 (fun a' w' hag hl=>?_)
  ·unfold wpOp;simp only[ho];exact this
  ·obtain⟨S',φ',fr',H',b1,b2,b3,b4,b5⟩:=hl;refine⟨fun h1 h2=>agtr (hag (h.1 (by simpa using h1))) h2 he.size,?_⟩;exact ih fuel _ false S' φ' H' w' fr' a' b1 b2 (he.trans b3) (ht.trans b4) (by simp) (hcl.set hmem) hc (by simpa [eR.depth] using hd) b5
 | two i t j u ih1 ih2=>
  intro fuel listed ph S φ H w fr a s hf he ht hph hcl hc hd h;match fuel with
  | 0=>simp[eR.depth] at hd
  | fuel+1=>
  simp only[eP,gO,beq_iff_eq] at hc;obtain⟨⟨⟨⟨hr,hop1⟩,hop2⟩,hc1⟩,hc2⟩:=hc;obtain⟨o1,ho1⟩:=Option.isSome_iff_exists.1 hop1;obtain⟨o2,ho2⟩:=Option.isSome_iff_exists.1 hop2;simp only[b7,rQ ho1,rQ ho2] at h;have hd':t.depth<=fuel/\u.depth<=fuel:=by simp[eR.depth] at hd;omega
  refine⟨fun h0=>(by rw[hr] at h0;cases h0),fun k hk=>?_⟩;have hmem:=hk;rw[hr,jY,m5] at hk;rcases hk with rfl|rfl
  ·have:=sw hT (Qr:=fun e a w=>match e with|.normal=>Qr a w|_=>False) (Kr:=fun a' w'=>((!tails.contains k)=true->au w0 w->au w0 w')/\og E.P l.toArray (fun e a w=>match e with|.normal=>Qr a w|_=>False) (au w0) (fun i=>!tails.contains i) fuel (listed.setIfInBounds k true) a' w') F ht.len s hf h.1.2 (fun a' w' hag hl=>?_)
   ·unfold wpOp;simp only[ho1];exact this
   ·obtain⟨S',φ',fr',H',b1,b2,b3,b4,b5⟩:=hl;refine⟨fun h1 h2=>agtr (hag (h.1.1 (by simpa using h1))) h2 he.size,?_⟩;exact ih1 fuel _ false S' φ' H' w' fr' a' b1 b2 (he.trans b3) (ht.trans b4) (by simp) (hcl.set hmem) hc1 hd'.1 b5
  ·have:=sw hT (Qr:=fun e a w=>match e with|.normal=>Qr a w|_=>False) (Kr:=fun a' w'=>((!tails.contains k)=true->au w0 w->au w0 w')/\og E.P l.toArray (fun e a w=>match e with|.normal=>Qr a w|_=>False) (au w0) (fun i=>!tails.contains i) fuel (listed.setIfInBounds k true) a' w') F ht.len s hf h.2.2 (fun a' w' hag hl=>?_)
   ·unfold wpOp;simp only[ho2];exact this
   ·obtain⟨S',φ',fr',H',b1,b2,b3,b4,b5⟩:=hl;refine⟨fun h1 h2=>agtr (hag (h.2.1 (by simpa using h1))) h2 he.size,?_⟩;exact ih2 fuel _ false S' φ' H' w' fr' a' b1 b2 (he.trans b3) (ht.trans b4) (by simp) (hcl.set hmem) hc2 hd'.2 b5
 | three i t j u m v ih1 ih2 ih3=>
  intro fuel listed ph S φ H w fr a s hf he ht hph hcl hc hd h;match fuel with
  | 0=>simp[eR.depth] at hd
  | fuel+1=>
  simp only[eP,gO,beq_iff_eq] at hc;obtain⟨⟨⟨⟨⟨⟨hr,hop1⟩,hop2⟩,hop3⟩,hc1⟩,hc2⟩,hc3⟩:=hc;obtain⟨o1,ho1⟩:=Option.isSome_iff_exists.1 hop1;obtain⟨o2,ho2⟩:=Option.isSome_iff_exists.1 hop2;obtain⟨o3,ho3⟩:=Option.isSome_iff_exists.1 hop3;simp only[b7,rQ ho1,rQ ho2,rQ ho3] at h;have hd':t.depth<=fuel/\u.depth<=fuel/\v.depth<=fuel:=by simp[eR.depth] at hd;omega
  refine⟨fun h0=>(by rw[hr] at h0;cases h0),fun k hk=>?_⟩;have hmem:=hk;rw[hr,jY,jY,m5] at hk;rcases hk with rfl|rfl|rfl
  ·have:=sw hT (Qr:=fun e a w=>match e with|.normal=>Qr a w|_=>False) (Kr:=fun a' w'=>((!tails.contains k)=true->au w0 w->au w0 w')/\og E.P l.toArray (fun e a w=>match e with|.normal=>Qr a w|_=>False) (au w0) (fun i=>!tails.contains i) fuel (listed.setIfInBounds k true) a' w') F ht.len s hf h.1.2 (fun a' w' hag hl=>?_)
   ·unfold wpOp;simp only[ho1];exact this
   ·obtain⟨S',φ',fr',H',b1,b2,b3,b4,b5⟩:=hl;refine⟨fun h1 h2=>agtr (hag (h.1.1 (by simpa using h1))) h2 he.size,?_⟩;exact ih1 fuel _ false S' φ' H' w' fr' a' b1 b2 (he.trans b3) (ht.trans b4) (by simp) (hcl.set hmem) hc1 hd'.1 b5
  ·have:=sw hT (Qr:=fun e a w=>match e with|.normal=>Qr a w|_=>False) (Kr:=fun a' w'=>((!tails.contains k)=true->au w0 w->au w0 w')/\og E.P l.toArray (fun e a w=>match e with|.normal=>Qr a w|_=>False) (au w0) (fun i=>!tails.contains i) fuel (listed.setIfInBounds k true) a' w') F ht.len s hf h.2.1.2 (fun a' w' hag hl=>?_)
   ·unfold wpOp;simp only[ho2];exact this
   ·obtain⟨S',φ',fr',H',b1,b2,b3,b4,b5⟩:=hl;refine⟨fun h1 h2=>agtr (hag (h.2.1.1 (by simpa using h1))) h2 he.size,?_⟩;exact ih2 fuel _ false S' φ' H' w' fr' a' b1 b2 (he.trans b3) (ht.trans b4) (by simp) (hcl.set hmem) hc2 hd'.2.1 b5
  ·have:=sw hT (Qr:=fun e a w=>match e with|.normal=>Qr a w|_=>False) (Kr:=fun a' w'=>((!tails.contains k)=true->au w0 w->au w0 w')/\og E.P l.toArray (fun e a w=>match e with|.normal=>Qr a w|_=>False) (au w0) (fun i=>!tails.contains i) fuel (listed.setIfInBounds k true) a' w') F ht.len s hf h.2.2.2 (fun a' w' hag hl=>?_)
   ·unfold wpOp;simp only[ho3];exact this
   ·obtain⟨S',φ',fr',H',b1,b2,b3,b4,b5⟩:=hl;refine⟨fun h1 h2=>agtr (hag (h.2.2.1 (by simpa using h1))) h2 he.size,?_⟩;exact ih3 fuel _ false S' φ' H' w' fr' a' b1 b2 (he.trans b3) (ht.trans b4) (by simp) (hcl.set hmem) hc3 hd'.2.2 b5
 | four i t j u m v q y ih1 ih2 ih3 ih4=>
  intro fuel listed ph S φ H w fr a s hf he ht hph hcl hc hd h;match fuel with
  | 0=>simp[eR.depth] at hd
  | fuel+1=>
  simp only[eP,gO,beq_iff_eq] at hc;obtain⟨⟨⟨⟨⟨⟨⟨⟨hr,hop1⟩,hop2⟩,hop3⟩,hop4⟩,hc1⟩,hc2⟩,hc3⟩,hc4⟩:=hc;obtain⟨o1,ho1⟩:=Option.isSome_iff_exists.1 hop1;obtain⟨o2,ho2⟩:=Option.isSome_iff_exists.1 hop2;obtain⟨o3,ho3⟩:=Option.isSome_iff_exists.1 hop3;obtain⟨o4,ho4⟩:=Option.isSome_iff_exists.1 hop4;simp only[b7,rQ ho1,rQ ho2,rQ ho3,rQ ho4] at h;have hd':t.depth<=fuel/\u.depth<=fuel/\v.depth<=fuel/\y.depth<=fuel:=by simp[eR.depth] at hd;omega
  refine⟨fun h0=>(by rw[hr] at h0;cases h0),fun k hk=>?_⟩;have hmem:=hk;rw[hr,jY,jY,jY,m5] at hk;rcases hk with rfl|rfl|rfl|rfl
  ·have:=sw hT (Qr:=fun e a w=>match e with|.normal=>Qr a w|_=>False) (Kr:=fun a' w'=>((!tails.contains k)=true->au w0 w->au w0 w')/\og E.P l.toArray (fun e a w=>match e with|.normal=>Qr a w|_=>False) (au w0) (fun i=>!tails.contains i) fuel (listed.setIfInBounds k true) a' w') F ht.len s hf h.1.2 (fun a' w' hag hl=>?_)
   ·unfold wpOp;simp only[ho1];exact this
   ·obtain⟨S',φ',fr',H',b1,b2,b3,b4,b5⟩:=hl;refine⟨fun h1 h2=>agtr (hag (h.1.1 (by simpa using h1))) h2 he.size,?_⟩;exact ih1 fuel _ false S' φ' H' w' fr' a' b1 b2 (he.trans b3) (ht.trans b4) (by simp) (hcl.set hmem) hc1 hd'.1 b5
  ·have:=sw hT (Qr:=fun e a w=>match e with|.normal=>Qr a w|_=>False) (Kr:=fun a' w'=>((!tails.contains k)=true->au w0 w->au w0 w')/\og E.P l.toArray (fun e a w=>match e with|.normal=>Qr a w|_=>False) (au w0) (fun i=>!tails.contains i) fuel (listed.setIfInBounds k true) a' w') F ht.len s hf h.2.1.2 (fun a' w' hag hl=>?_)
   ·unfold wpOp;simp only[ho2];exact this
   ·obtain⟨S',φ',fr',H',b1,b2,b3,b4,b5⟩:=hl;refine⟨fun h1 h2=>agtr (hag (h.2.1.1 (by simpa using h1))) h2 he.size,?_⟩;exact ih2 fuel _ false S' φ' H' w' fr' a' b1 b2 (he.trans b3) (ht.trans b4) (by simp) (hcl.set hmem) hc2 hd'.2.1 b5
  ·have:=sw hT (Qr:=fun e a w=>match e with|.normal=>Qr a w|_=>False) (Kr:=fun a' w'=>((!tails.contains k)=true->au w0 w->au w0 w')/\og E.P l.toArray (fun e a w=>match e with|.normal=>Qr a w|_=>False) (au w0) (fun i=>!tails.contains i) fuel (listed.setIfInBounds k true) a' w') F ht.len s hf h.2.2.1.2 (fun a' w' hag hl=>?_)
   ·unfold wpOp;simp only[ho3];exact this
   ·obtain⟨S',φ',fr',H',b1,b2,b3,b4,b5⟩:=hl;refine⟨fun h1 h2=>agtr (hag (h.2.2.1.1 (by simpa using h1))) h2 he.size,?_⟩;exact ih3 fuel _ false S' φ' H' w' fr' a' b1 b2 (he.trans b3) (ht.trans b4) (by simp) (hcl.set hmem) hc3 hd'.2.2.1 b5
  ·have:=sw hT (Qr:=fun e a w=>match e with|.normal=>Qr a w|_=>False) (Kr:=fun a' w'=>((!tails.contains k)=true->au w0 w->au w0 w')/\og E.P l.toArray (fun e a w=>match e with|.normal=>Qr a w|_=>False) (au w0) (fun i=>!tails.contains i) fuel (listed.setIfInBounds k true) a' w') F ht.len s hf h.2.2.2.2 (fun a' w' hag hl=>?_)
   ·unfold wpOp;simp only[ho4];exact this
   ·obtain⟨S',φ',fr',H',b1,b2,b3,b4,b5⟩:=hl;refine⟨fun h1 h2=>agtr (hag (h.2.2.2.1 (by simpa using h1))) h2 he.size,?_⟩;exact ih4 fuel _ false S' φ' H' w' fr' a' b1 b2 (he.trans b3) (ht.trans b4) (by simp) (hcl.set hmem) hc4 hd'.2.2.2 b5
def yw (ops:Array Oper) (tails:ZC) (t:eR):Bool:=
 Region.noSelect ops&&eP ops tails (Array.replicate ops.size false) true t&&decide (t.depth<=ops.size)
def ve (E:Env) (F2:Nat) (ks:List Item) (Q:aT) (fr:Fr) (H:ZF):Prop:=exec E F2 ks Q fr H
@[go_sem] def VW {F2:Nat}{Q:aT}:ve E F2 ks Q fr H=exec E F2 ks Q fr H:=rfl
def z2 (hT:bQ E.P E.T) (hm:E.P.follows .mixedOrders=true) (F F2:Nat) {id:Nat}{Q:aT}(tails:ZC) (t:eR) (hc:yw l.toArray tails t=true)
  (h:b7 E F l tails (ve E F2 ks Q) t fr H):cK E.P E.n (.region id l.toArray true) (dZ E ks Q) fr H:=by
 intro S φ a w Qr hn s hf hq;simp only[yw,gO,decide_eq_true_eq] at hc;obtain⟨⟨h1,h2⟩,h3⟩:=hc;obtain⟨s1,s2,s3⟩:=yG s (b9.draw w) S (fun b h=>h) (fun b h=>.inl h) (fun b h=>s.slt b h);have main:=PG (E:=E) hT (F:=F) (l:=l) (tails:=tails) (K:=ve E F2 ks Q) (Qr:=fun a' w'=>Qr .normal a' w') (w0:={ w with drawn:=w.drawn+1 }) (S0:=S) (φ0:=φ) (H0:=H) h1
  (fun a' w' hl=>by
   obtain⟨S',φ',fr',H',b1,b2,b3,b4,b5⟩:=hl;exact hq _ a' w' S' φ' fr' H' b1 b2 (s3.trans b3) ((s2.weaken hn).trans b4) (yZ hT F2 b5))
  t l.toArray.size (Array.replicate l.toArray.size false) true S φ H _ fr a s1 (hf.tr s2) (Ext.refl ..) (Tr.refl hn) (fun _=>rfl) (fun j o ho hj=>?_) h2 h3 h
 ·refine wp_mono (wp_region_any hm (Nn _ _ _ _ main)) ?_;intro e a' w' he;cases e with
  | normal=>exact he
  | _=>exact he.elim
 ·have hlt:j<l.toArray.size:=(Array.getElem?_eq_some_iff.1 ho).1;simp only[Array.getD_eq_getD_getElem?,Array.getElem?_replicate] at hj;split at hj <;> simp at hj
@[go_sem] def X5:b7 E F l tails K .done fr H=K fr H:=rfl
@[go_sem] def zpN {t:eR}:b7 E F l tails K (.fst i t) fr H=(bM E (aS l i)/\am E F l [aS l i] [] (nQ (b7 E F l tails K t)) fr H):=rfl
@[go_sem] def zpO {t:eR}:b7 E F l tails K (.one i t) fr H =
  ((tails.contains i=false->fg E fr (aS l i))/\am E F l [aS l i] [] (nQ (b7 E F l tails K t)) fr H):=rfl
@[go_sem] def zpP {t:eR}:b7 E F l tails K (.two i t j u) fr H =
  ((
   (tails.contains i=false->fg E fr (aS l i))/\am E F l [aS l i] [] (nQ (b7 E F l tails K t)) fr H)/\
   ((tails.contains j=false->fg E fr (aS l j))/\am E F l [aS l j] [] (nQ (b7 E F l tails K u)) fr H)):=rfl
@[go_sem] def zpQ {k:Nat}{t v:eR}:b7 E F l tails K (.three i t j u k v) fr H =
  ((
   (tails.contains i=false->fg E fr (aS l i))/\am E F l [aS l i] [] (nQ (b7 E F l tails K t)) fr H)/\
   ((tails.contains j=false->fg E fr (aS l j))/\am E F l [aS l j] [] (nQ (b7 E F l tails K u)) fr H)/\
   ((tails.contains k=false->fg E fr (aS l k))/\am E F l [aS l k] [] (nQ (b7 E F l tails K v)) fr H)):=rfl
@[go_sem] def zpR:aS (o::l) 0=o:=rfl
@[go_sem] def zpS {n:Nat}:aS (o::l) (n+1)=aS l n:=rfl
section keep
variable {dst:Option Tmp}{ty:TypeId}{pos:String}{af:Array Edge}{gd:Option (Nat×Bool)}
@[go_sem] def TW:fg E fr ⟨dst,.load t x,ty,pos,af,gd⟩=True:=by simp[fg,gz,qB]
@[go_sem] def UK:fg E fr ⟨dst,.box t x,ty,pos,af,gd⟩=True:=by simp[fg,gz,nX]
@[go_sem] def zpV:fg E fr ⟨dst,.alloc t,ty,pos,af,gd⟩=True:=by simp[fg,gz,nX]
@[go_sem] def ZI {n:Nat}:fg E fr ⟨dst,.buildSlice t n p,ty,pos,af,gd⟩=True:=by simp[fg,gz,nX]
@[go_sem] def zpW {g:Operand}{args:Array Operand}{ts:Array TypeId}:fg E fr ⟨dst,.call ⟨.value g,args,ts⟩,ty,pos,af,gd⟩=Av E (fe (aq fr g)):=rfl
@[go_sem] def qu8 {f:Nat}{c:ZE}:Av E (some (f,c))=(E.pf f≠.proc):=rfl
def x0 (o:Option TI):Prop:=tg o=false
@[go_sem] def WQ {sz b:Nat}{z:D}:x0 (some ⟨.int k,sz,b,z⟩)=True:=by simp[x0,tg]
@[go_sem] def zpY:bM E ⟨dst,.move x,ty,pos,af,gd⟩=True:=by simp[bM,eo]
@[go_sem] def Uj:bM E ⟨dst,.assign x,ty,pos,af,gd⟩=True:=by simp[bM,eo]
@[go_sem] def zqa {c:Operand}:bM E ⟨dst,.pick c x y,ty,pos,af,gd⟩=True:=by simp[bM,eo]
@[go_sem] def zqb:bM E ⟨dst,.build t p,ty,pos,af,gd⟩=True:=by simp[bM,eo]
@[go_sem] def zqc:bM E ⟨dst,.load t x,ty,pos,af,gd⟩=True:=by simp[bM,eo]
@[go_sem] def Zg {ok:Bool}:bM E ⟨dst,.lookup t x y ok,ty,pos,af,gd⟩=True:=by simp[bM,eo]
@[go_sem] def qtH:bM E ⟨dst,.nilCheck x,ty,pos,af,gd⟩=True:=by simp[bM,eo]
@[go_sem] def zqe {op:BinOp}{yt:TypeId}:bM E ⟨dst,.binOp op t x y yt,ty,pos,af,gd⟩=True:=by simp[bM,eo]
@[go_sem] def Y7 {op:UnOp}:bM E ⟨dst,.unOp op t x,ty,pos,af,gd⟩=True:=by simp[bM,eo]
@[go_sem] def qu9 {u:TypeId}:bM E ⟨dst,.convert t u x,ty,pos,af,gd⟩=x0 (E.T u):=rfl
@[go_sem] def S8:bM E ⟨dst,.fieldAddr t x i,ty,pos,af,gd⟩=True:=by simp[bM,eo]
@[go_sem] def V8:bM E ⟨dst,.indexAddr t x y,ty,pos,af,gd⟩=True:=by simp[bM,eo]
@[go_sem] def TD:bM E ⟨dst,.index t x y,ty,pos,af,gd⟩=True:=by simp[bM,eo]
@[go_sem] def qva:bM E ⟨dst,.extract x i,ty,pos,af,gd⟩=True:=by simp[bM,eo]
@[go_sem] def ZM {c:Fn}{a:Array Operand}{b:Array Operand}:bM E ⟨dst,.makeFunc c a b,ty,pos,af,gd⟩=True:=by simp[bM,eo]
@[go_sem] def zqh {a:Array Operand}:bM E ⟨dst,.call ⟨.builtin .len,a,b⟩,ty,pos,af,gd⟩=True:=by simp[bM,eo]
@[go_sem] def zqi {a:Array Operand}:bM E ⟨dst,.call ⟨.builtin .min,a,b⟩,ty,pos,af,gd⟩=True:=by simp[bM,eo]
@[go_sem] def zqj {a:Array Operand}:bM E ⟨dst,.call ⟨.builtin .max,a,b⟩,ty,pos,af,gd⟩=True:=by simp[bM,eo]
end keep
attribute [go_sem] List.contains_cons List.contains_nil ne_eq false_imp_iff true_imp_iff forall_const
@[go_sem] def Z2 {l:ZA}:ao (l.map (D.int k))=true:=by induction l with|nil=>rfl|cons x r ih=>simp[ao,D.cells,D.scalar,ih]
@[go_sem] def qtJ {l:ZB}:ao (l.map D.bool)=true:=by induction l with|nil=>rfl|cons x r ih=>simp[ao,D.cells,D.scalar,ih]
@[go_sem] def zql {l:List (Int×Int)}:ao (l.map dP)=true:=by induction l with|nil=>rfl|cons x r ih=>simp[ao,D.cells,D.scalar,ih]
end Go.VL
namespace Go.VL
variable {r:List (Nat×Nat×Nat×Bool)}{i j k:Nat}{dp:Bool}{cs:ZE}
variable {E:Env}{Q:aT}{fr:Fr}{H:ZF}{n:Nat}
def zI (i j k:Nat) (dp:Bool) (H:ZF):Option R->ZF
 | some (.box cs)=>(H ++ [R.row 0 k dp []]).set i (.box (cs.set j (.sl H.length 0 k 0 0)))
 | _=>H
def Cf (i j k:Nat):Option R->Prop
 | some (.box cs)=>cs.getD j .junk=.d .nil/\j<cs.length/\0<k
 | _=>False
def ge:List (Nat×Nat×Nat×Bool)->ZF->ZF
 | [],H=>H
 | (i,j,k,dp)::r,H=>ge r (zI i j k dp H (bE H i))
def sT:List (Nat×Nat×Nat×Bool)->ZF->Prop
 | [],_=>True
 | (i,j,k,dp)::r,H=>Cf i j k (bE H i)/\sT r (zI i j k dp H (bE H i))
def AF : ∀ (l:List (Nat×Nat×Nat×Bool)) {fr:Fr}{H:ZF},sT l H->a8 n fr H fr (ge l H)
 | [],fr,H,_=>a8.refl n fr H
 | (i,j,k,dp)::r,fr,H,h=>by
  obtain⟨h1,h2⟩:=h;simp only[ge];cases hr:bE H i with
  | none=>rw[hr] at h1;exact h1.elim
  | some x=>
   rw[hr] at h1 h2;cases x with
   | box cs=>
    simp only[Cf,zI] at h1 h2 ⊢;rw[<-gp] at hr;exact(a8.wQ i j k dp hr h1.1 h1.2.1 h1.2.2).trans (AF r h2)
   | _=>exact h1.elim
def J5 (hT:bQ E.P E.T) {σ : Type}(F : σ->List (Nat×I)) (Hp : σ->ZF) (inv : σ->Prop) (mu : σ->Nat) (ob:List (Nat×Nat×Nat×Bool)) (own:List (Nat×Nat×Bool)) (f1 f2:Nat) {ks:List Item}{c:Code}
  (hbc:sT ob H) (hvc:tk own fr (ge ob H)) (h0 : ∃ s,inv s/\fit E.n fr.n (oO own fr (ge ob H)).1 (oO own fr (ge ob H)).2 (F s) (Hp s))
  (hr : ∀ s,inv s->cw E f1 c [] (zD E ks Q f2 fr.n F Hp inv mu s) ⟨fr.n,F s⟩ (Hp s)):cK E.P E.n (.loop c) (dZ E ks Q) fr H:=
 Dm (AF ob hbc) (B5 hT F Hp inv mu own f1 f2 hvc h0 hr)
def QW {Po:I->ZF->Prop}{r:I}(ob:List (Nat×Nat×Nat×Bool)) (hbc:sT ob H) (h:gI n Po r (ge ob H)):gI n Po r H:=by
 obtain⟨fr',H',g,h1,h2⟩:=h;exact⟨fr',H',(AF ob hbc).trans g,h1,h2⟩
section rules
@[go_sem] def ZO:ge [] H=H:=rfl
@[go_sem] def zqn:ge ((i,j,k,dp)::r) H=ge r (zI i j k dp H (bE H i)):=rfl
@[go_sem] def W3:sT [] H=True:=rfl
@[go_sem] def Vs:sT ((i,j,k,dp)::r) H=(Cf i j k (bE H i)/\sT r (zI i j k dp H (bE H i))):=rfl
@[go_sem] def zqq:zI i j k dp H (some (.box cs))=(H ++ [R.row 0 k dp []]).set i (.box (cs.set j (.sl H.length 0 k 0 0))):=rfl
@[go_sem] def zqr:Cf i j k (some (.box cs))=(cs.getD j .junk=.d .nil/\j<cs.length/\0<k):=rfl
attribute [go_sem] List.set_cons_zero List.set_cons_succ wK List.getD_cons_succ vI List.nil_append
@[go_sem] def VZ {a b:Nat}{l:ZC}:(¬ a∈b::l)=(¬ a=b/\¬ a∈l):=by simp
end rules
end Go.VL
namespace Go.VL
variable {l:List ZB}{v:ZB}{α:Type}{i lo:Nat}{k:IntKind}
def oW (n:Nat):n &&& 1=n%2:=Nat.and_one_is_mod n
def BG {l:Int}(h:0<=l):(((l.toNat &&& 1:Nat):Int)=1)=(l%2=1):=by
 rw[oW];simp only[eq_iff_iff];omega
def zm {l:Int}(h:0<=l):((l.toNat &&& 1:Nat):Int)=l%2:=by
 rw[oW];omega
def aW (v:ZB) (l:Int):Bool:=v.getD (l/2).toNat false != decide (l%2=1)
def dN (v:ZB) (ls:ZA):ZB:=ls.map (aW v)
def z0 {ls:ZA}:(dN v ls).length=ls.length:=by simp[dN]
def iR (c:ac) (st ins:ZB):Nat->ZB
 | 0=>false::(ins++st)
 | i+1=>iR c st ins i ++ [aW (iR c st ins i) (c.gates.getD i (0,0)).1&&aW (iR c st ins i) (c.gates.getD i (0,0)).2]
def A6 (c:ac) (st ins:ZB) : ∀ i,(iR c st ins i).length=1+ins.length+st.length+i
 | 0=>by simp[iR];omega
 | i+1=>by simp[iR,A6 c st ins i];omega
def values (c:ac) (st ins:ZB):ZB:=iR c st ins c.gates.length
def MU (c:ac) (st ins:ZB) {i:Nat} : ∀ k,∃ r,iR c st ins (i+k)=iR c st ins i++r
 | 0=>⟨[],by simp⟩
 | k+1=>by
  obtain⟨r,h⟩:=MU c st ins (i:=i) k;exact⟨r ++ [_],by rw[<-ja,iR,h,fA]⟩
def cW {l r:List α}{z : α}(h:i<l.length):(l++r).getD i z=l.getD i z:=by
 simp[List.getD,List.getElem?_append_left h]
def Ga {r:ZB}{l:Int}(h0:0<=l) (h:l<2*v.length):aW (v++r) l=aW v l:=by
 unfold aW;rw[cW (by omega)]
@[go_sem] def WD {l:ZB}:(l.map D.bool).all D.scalar=true:=by simp[D.scalar]
@[go_sem] def zqu {l:ZA}:(l.map (D.int k)).all D.scalar=true:=by simp[D.scalar]
attribute [go_sem] m9
def splice (l:List α) (lo:Nat) (xs:List α):List α:=l.take lo++xs++l.drop (lo+xs.length)
@[go_sem] def qvb {l xs:ZB}:ip (l.map D.bool) lo (xs.map D.bool)=(splice l lo xs).map D.bool:=by simp[ip,splice]
@[go_sem] def zqv {l xs:ZA}:ip (l.map (D.int k)) lo (xs.map (D.int k))=(splice l lo xs).map (D.int k):=by simp[ip,splice]
def Q9 {l xs:List α}(h:lo+xs.length<=l.length):(splice l lo xs).length=l.length:=by simp[splice];omega
def RY (z : α) (ins st:List α) (n:Nat) (hn:1+ins.length+st.length<=n) :
  splice (splice (List.replicate n z) 1 ins) (1+ins.length) st=z::(ins++st)++List.replicate (n-(1+ins.length+st.length)) z:=by
 obtain⟨m,rfl⟩ : ∃ m,n=m+1:=⟨n-1,by omega⟩;have e1:splice (List.replicate (m+1) z) 1 ins=z::(ins++List.replicate (m-ins.length) z):=by
  simp[splice,List.replicate_succ,List.take_replicate,List.drop_replicate,Nat.add_comm 1 ins.length]
 rw[e1];simp only[splice,Nat.add_comm 1 ins.length,List.take_succ_cons,List.take_left',show ins.length+1+st.length=ins.length+st.length+1 by omega,List.drop_succ_cons,vI,fA];simp[List.drop_append,List.drop_replicate];rw[sj (by omega),Nat.sub_sub];rfl
def Kk {v:List α}{z x : α}{g:Nat}(h:v.length=i) (hg:0<g):(v++List.replicate g z).set i x=v ++ [x]++List.replicate (g-1) z:=by
 obtain⟨m,rfl⟩ : ∃ m,g=m+1:=⟨g-1,by omega⟩;rw[List.set_append_right _ _ (by omega)];simp[h,List.replicate_succ]
def JI {x:D}:gF x x:=by unfold gF;split <;> simp_all
def Iy : ∀ {l:ZD},jM l l
 | []=>trivial
 | x::r=>⟨JI,Iy⟩
def HK {x:D}:gP x x:=by
 cases x with
 | agg cs=>exact Iy
 | _=>simp only[gP];exact JI
def Jw : ∀ {l:ZD},pi l l
 | []=>trivial
 | x::r=>⟨HK,Jw⟩
@[go_sem] def sY {x:D}:wk x x=True:=by
 refine eq_true ?_;cases x with
 | tup cs=>exact Jw
 | _=>simp only[wk];exact HK
def bT {rows:List ZB}(h:i<rows.length):(rows.map fun x=>cf x).getD i .nil=cf (rows.getD i []):=cn _ _ _ _ _ h
@[go_sem] def Ve {l':List ZB}:(l.map (fun x=>cf x)=l'.map fun x=>cf x)=(l=l'):=Cn fun x y h=>by simpa [go_sem] using h
@[go_sem] def Yc {x:ZB}:l.map (fun x=>cf x) ++ [D.lst 1 (x.map D.bool)]=(l ++ [x]).map fun x=>cf x:=by simp
@[go_sem] def SX:(([]:ZD)=l.map fun x=>cf x)=(l=[]):=propext ⟨fun h=>by cases l with|nil=>rfl|cons x r=>simp at h,fun h=>by rw[h];rfl⟩
@[go_sem] def zqz {n:Nat}:(l.map fun x=>cf x).take n=(l.take n).map fun x=>cf x:=by simp
def Fq {c:ac}{st ins:ZB}:iR c st ins 0=false::(ins++st):=rfl
end Go.VL
namespace Go.VL
variable {E:Env}{Q:aT}{fr:Fr}{H:ZF}{all rest:List Oper}{ks:List Item}
def KO (hT:bQ E.P E.T) {o:Oper}(hg:o.guard=none) {vc:Prop}{x:I}(hp:dH E.T fr H o.op=some (vc,x)) (hvc:vc) (h:kQ E all rest ks Q (fr.put o.dst x) H):kQ E all (o::rest) ks Q fr H:=by
 intro S φ a w Qr hn s hf hq;refine wpList_plain hg fun Kr hKr=>?_
 obtain⟨v,hv,hr⟩:=vG hT s hf hp hvc;unfold Oper.wp;rw[hr w (fun _=>au.refl w),Oper.upon_value];exact hKr _ _ (h S φ _ w Qr hn s (hf.put o.dst hv) hq)
def QX (hT:bQ E.P E.T) {dst:Option Tmp}{t t' ty:Nat}{y:Operand}{pos:String}{af:Array Edge}{k e:Nat}{l:ZD}{ti:TI}(hti:E.T t=some ti) (hk:ti.ty=.slice e) (hc:aF fr y) (hx:aq fr y=.d (.lst k l))
  (h : ∀ b:Bool,(b=true->l=[])->kQ E all rest ks Q (fr.put dst (.d (.bool b))) H):kQ E all (⟨dst,.binOp .eql t y (.const (.slice none 0 0)) t',ty,pos,af,none⟩::rest) ks Q fr H:=by
 intro S φ a w Qr hn s hf hq;refine wpList_plain rfl fun Kr hKr=>?_
 have hv:=hf.aq y hc;rw[hx] at hv;have hz:=hv.fz;have hu:=(hT _ _ hti).aH hk;have key : ∃ ad n cap,a.eval y=.slice ad n cap/\(ad.isNone=true->l=[]):=by
  generalize a.eval y=vx at hz;cases hz with
  | lst0 _=>exact⟨_,_,_,rfl,fun _=>rfl⟩
  | lst _ _ _ _ _ _ _ _ _=>exact⟨_,_,_,rfl,fun h=>by simp at h⟩
 obtain⟨ad,n,cap,he,hb⟩:=key;unfold Oper.wp;have hr:(execOp a.eval ⟨dst,.binOp .eql t y (.const (.slice none 0 0)) t',ty,pos,af,none⟩).run E.P w=.ok (.value (.bool ad.isNone)) w:=by
  have hcn:a.eval (.const (.slice none 0 0))=.slice none 0 0:=rfl;simp only[execOp,he,hcn,eqGuard_at_slice,Sem.run_bind,Sem.run_pure,Result.andThen_ok,cu hu]
 rw[hr,Oper.upon_value];exact hKr _ _ (h ad.isNone hb S φ _ w Qr hn s (hf.put dst (.d .bool)) hq)
def PK (hT:bQ E.P E.T) (f:Nat) (h:exec E f ks Q fr H):kQ E all [] ks Q fr H:=by
 intro S φ a w Qr hn s hf hq;exact hq a w S φ fr H s hf (Ext.refl ..) (Tr.refl hn) (yZ hT f h)
def Sq (h:dZ E ks Q .normal fr H):kQ E all [] ks Q fr H:=by
 intro S φ a w Qr hn s hf hq;exact hq a w S φ fr H s hf (Ext.refl ..) (Tr.refl hn) h
def It {id:Nat}{ops:Array Oper}(h:kQ E ops.toList ops.toList ks Q fr H):cK E.P E.n (.region id ops false) (dZ E ks Q) fr H:=
 Jv (by unfold kQ at h;simpa using h)
def EI {x y:Code}(h:cK E.P E.n x (dZ E (.code y::ks) Q) fr H):cK E.P E.n (.seq x y) (dZ E ks Q) fr H:=G3 h
end Go.VL
namespace Go.VL
variable {x y r0:I}{g k i k':Nat}{dp:DP}{l:ZD}{H':ZF}{m:List (Nat×I)}{r xs ys:ZE}{f':I->I->Prop}
variable {E:Env}{P:Program}{Q:aT}{S:Nat->Prop}{φ : List ZC}{fr:Fr}{H:ZF}{w:World}{n:Nat}
def kR (K:ZF):ZE->ZE->Prop
 | [],[]=>True
 | x::r,y::s=>cZ K x y/\kR K r s
 | _,_=>False
def qZ (K:ZF):R->R->Prop
 | .box cs,.box cs'=>kR K cs cs'
 | x,.dead g=>x.gen<=g
 | .row g k dp l,y=>dp.shut=true/\dx (.row g k dp l) y
 | x,y=>dx x y
def sv (K:ZF):ZF->ZF->Prop
 | _,[]=>True
 | x::r,y::s=>qZ K x y/\sv K r s
 | [],_::_=>False
def lB (n nt:Nat) (fr:Fr) (H:ZF) (m:List (Nat×I)) (H':ZF):Prop:=
 fr.n=nt/\n<=H'.length/\lz (fD H'.length H) fr m/\sv (fD H'.length H) H H'/\pb H'.length m/\jO H'.length H'
def Mw {K:ZF} : ∀ {cs cs':ZE},kR K cs cs'->cs.length=cs'.length/\∀ j,j<cs.length->cZ K (cs.getD j .junk) (cs'.getD j .junk)
 | [],[],_=>⟨rfl,fun j hj=>by simp at hj⟩
 | x::r,y::s,h=>by
  obtain⟨h1,h2⟩:=Mw h.2;refine⟨by simp[h1],fun j hj=>?_⟩;cases j with
  | zero=>exact h.1
  | succ j=>simpa using h2 j (by simpa using hj)
 | [],_::_,h=>h.elim
 | _::_,[],h=>h.elim
def Ck {K:ZF} : ∀ {H H':ZF},sv K H H'->H'.length<=H.length/\∀ (i:Nat) (y:R),H'[i]?=some y->∃ x:R,H[i]?=some x/\qZ K x y
 | H,[],_=>by simp
 | x::r,y::s,h=>by
  obtain⟨h1,h2⟩:=Ck h.2;refine⟨by simp;omega,fun i z hz=>?_⟩;cases i with
  | zero=>simp at hz;subst hz;exact⟨x,rfl,h.1⟩
  | succ i=>simpa using h2 i z (by simpa using hz)
 | [],_::_,h=>h.elim
def zF {K:ZF}{x y:R}(h:qZ K x y):(∃ cs cs',x=.box cs/\y=.box cs'/\kR K cs cs')∨(dx x y/\(∀ cs,y≠.box cs)/\∀ g k dp l,x=.row g k dp l->dp.shut=true)∨(∃ g,y=.dead g/\x.gen<=g):=by
 cases y with
 | dead g=>exact .inr (.inr ⟨g,rfl,by cases x <;> exact h⟩)
 | _=>
  cases x with
  | box cs=>
   first
    | exact .inl ⟨_,_,rfl,rfl,h⟩
    | exact .inr (.inl ⟨h,by simp,by simp⟩)
  | row g k dp l=>
   refine .inr (.inl ⟨h.2,fun cs hy=>?_,fun g k dp l hx=>by cases hx;exact h.1⟩);cases hy;all_goals (exfalso;revert h;simp[qZ,VL.dx])
  | _=>
   refine .inr (.inl ⟨h,fun cs hy=>?_,by simp⟩);cases hy;all_goals (exfalso;revert h;simp[qZ,VL.dx])
def hC:R->R
 | .box _=>.dead 0
 | .row g _ (.own (_::_)) _=>.dead g
 | r=>r
def QM (h:dp.shut=true):hC (.row g k dp l)=.row g k dp l:=by
 match dp,h with
 | .fz,_=>rfl
 | .own [],_=>rfl
 | .own (_::_),h=>simp[DP.shut] at h
def Fj {S S':Nat->Prop}{φ φ':List ZC}{H:ZF}{w:World}{fp:ZC}(hd:dp.shut=true) (hS : ∀ b,S b->S' b) (h:fm S φ H w fp (.row g k dp l)):fm S' φ' H' w fp (.row g k dp l):=by
 obtain⟨h1,h2,h3,h4,h5⟩:=h;refine⟨h1,h2,h3,h4,?_⟩;rcases h5 with h5|⟨b,rest,arr,ty,e1,e2,e3,e4⟩
 ·exact .inl h5
 ·refine .inr ⟨b,rest,arr,ty,e1,e2,e3,?_⟩;match dp,hd with
  | .fz,_=>exact⟨e4.1,fun j hj=>(e4.2 j hj).mono hS fun _ _=>rfl⟩
  | .own [],_=>exact e4
  | .own (_::_),hd=>simp[DP.shut] at hd
def aQ.hC (s:aQ S φ H w):aQ S φ (H.map hC) w:=by
 refine⟨by rw[s.len,gQ],s.nd,s.dj,s.lt,s.off,s.slt,fun i r hr=>?_⟩;simp only[List.getElem?_map,Option.map_eq_some_iff] at hr;obtain⟨x,hx,rfl⟩:=hr;have:=s.rel i x hx;cases x with
 | box cs=>trivial
 | row g k dp l=>
  match dp,this with
  | .fz,this=>exact Fj rfl (fun _ h=>h) this
  | .own [],this=>exact Fj rfl (fun _ h=>h) this
  | .own (_::_),_=>trivial
 | map es=>exact this
 | val x=>exact this
 | dead g=>exact this
def Je (m:Nat) : ∀ (H:ZF),jO m (H.map VL.hC)
 | []=>trivial
 | r::l=>⟨by
   cases r with
   | row g k dp l=>match dp with|.fz=>trivial|.own []=>trivial|.own (_::_)=>trivial
   | _=>simp only[VL.hC,R.aJ],Je m l⟩
def K7 {nt:Nat}(h1:fr.n=nt) (h2:n<=H'.length)
  (h3 : ∀ S φ w a,aQ S φ H w->de S φ H w fr a->∀ t,V (fun b=>S b∨aU (jP H'.length φ) b) (φ.take H'.length) (H.take H'.length) w (look t m) (a.tmps.getD t undef))
  (h4:sv (fD H'.length H) H H') (h6:jO H'.length H'):a8 n fr H ⟨nt,m⟩ H':=by
 obtain⟨e2,e1⟩:=Ck h4;intro S φ w a hn s hf;have hl0:(H.map VL.hC).length=H.length:=by simp
 obtain⟨s2,t2,x2⟩:=Gj s.hC (n:=H'.length) (by rw[hl0];exact e2) (by rw[<-List.map_take];exact Je _ _);have hget : ∀ i,i<H'.length->(φ.take H'.length).getD i [] = φ.getD i []:=fun i hi=>aM _ _ _ _ hi
 have htr : ∀ (φ0:List ZC) (G:ZF),H'.length<=G.length->(∀ i,i<H'.length->G[i]?=H[i]?)->(∀ i,i<H'.length->φ0.getD i [] = φ.getD i [])->∀ S0:Nat->Prop,(∀ b,S0 b->S b∨aU (jP H'.length φ) b)->
   Tr H'.length S0 φ0 G w (fun b=>S b∨aU (jP H'.length φ) b) (φ.take H'.length) H' w:=by
  intro φ0 G hG hGe hφ0 S0 hS0;refine⟨hS0,fun _ _=>rfl,hG,aD _,?_,?_,?_,?_,?_⟩
  ·intro i hi;obtain⟨x,hx,hxy⟩:=e1 i (H'.getD i (.dead 0)) (by simp[List.getD,hi]);have e:G.getD i (.dead 0)=x:=by simp[List.getD,hGe i hi,hx]
   rw[e];rcases zF hxy with⟨cs,cs',h1,h2,_⟩|⟨hxy,_,_⟩|⟨g,h1,h2⟩
   rotate_left 2
   ·rw[h1];exact h2
   ·rw[h1,h2];exact aD _
   ·rcases qt hxy with h1|⟨g,k,l,h1,h2,_⟩
    ·rw[h1];exact aD _
    ·rw[h1,h2];exact aD _
  ·intro i g k dp' l' hi hl';obtain⟨x,hx,hxy⟩:=e1 i _ hl';rcases zF hxy with⟨cs,cs',h1,h2,_⟩|⟨hxy,_,_⟩|⟨g,h1,h2⟩
   rotate_left 2
   ·cases h1
   ·cases h2
   ·rcases qt hxy with rfl|⟨g,k,l,rfl,h2,_⟩
    ·exact .inr ⟨dp',l',by rw[hGe i hi];exact hx,by rw[hget i hi,hφ0 i hi],aD _,fun b rest arr ty e1 e2=>⟨arr,ty,e2,aD _⟩⟩
    ·cases h2;exact .inr ⟨true,_,by rw[hGe i hi];exact hx,by rw[hget i hi,hφ0 i hi],aD _,fun b rest arr ty e1 e2=>⟨arr,ty,e2,aD _⟩⟩
  ·intro i cs hi hl';obtain⟨x,hx,hxy⟩:=e1 i _ hl';rcases zF hxy with⟨cs1,cs',h1,h2,_⟩|⟨_,hnb,_⟩|⟨g,h1,h2⟩
   rotate_left 2
   ·cases h1
   ·exact⟨cs1,by rw[hGe i hi,hx,h1],by rw[hget i hi,hφ0 i hi]⟩
   ·exact absurd rfl (hnb cs)
  ·intro i cs hi hl';obtain⟨x,hx,hxy⟩:=e1 i _ hl';rcases zF hxy with⟨cs1,cs',h1,h2,_⟩|⟨hxy,_⟩|⟨g,h1,h2⟩
   rotate_left 2
   ·cases h1
   ·cases h2
   ·rcases qt hxy with rfl|⟨g,k,l,rfl,h2,_⟩
    ·exact⟨cs,by rw[hGe i hi];exact hx,by rw[hget i hi,hφ0 i hi]⟩
    ·cases h2
  ·intro i z hi hl';obtain⟨x,hx,hxy⟩:=e1 i _ hl';rcases zF hxy with⟨cs1,cs',h1,h2,_⟩|⟨hxy,_⟩|⟨g,h1,h2⟩
   rotate_left 2
   ·cases h1
   ·cases h2
   ·rcases qt hxy with rfl|⟨g,k,l,rfl,h2,_⟩
    ·exact⟨by rw[hGe i hi];exact hx,by rw[hget i hi,hφ0 i hi],fun _ _=>rfl⟩
    ·cases h2
 have hlt:(H.take H'.length).length=H'.length:=by simp;omega
 have tA:=htr φ H e2 (fun _ _=>rfl) (fun _ _=>rfl) S (fun _ h=>.inl h);have tB:=htr (φ.take H'.length) (H.take H'.length) (by omega) (fun i hi=>kY _ _ _ hi) hget (fun b=>S b∨aU (jP H'.length φ) b) (fun _ h=>h);have s3:aQ (fun b=>S b∨aU (jP H'.length φ) b) (φ.take H'.length) H' w:=by
  refine⟨by rw[s2.len];simp;omega,s2.nd,s2.dj,s2.lt,s2.off,s2.slt,fun i y hy=>?_⟩;have hi:i<H'.length:=(List.getElem?_eq_some_iff.1 hy).1;obtain⟨x,hx,hxy⟩:=e1 i y hy;rw[hget i hi];rcases zF hxy with⟨cs,cs',rfl,rfl,hfl⟩|⟨hxy,hnb,hshut⟩|⟨g,rfl,_⟩
  rotate_left 2
  ·trivial
  ·obtain⟨b,arr,ty,q1,q2,q3,q4⟩:=s.rel i _ hx;obtain⟨l1,l2⟩:=Mw hfl;refine⟨b,arr,ty,q1,q2,by omega,fun j hj=>?_⟩;obtain⟨o1,v1⟩:=q4 j (by omega);refine⟨o1,?_⟩;have:=B7 s e2 (l2 j (by omega)) (qi (AL h6 i _ hy) j hj) v1;exact this.tr (by rw[hlt];exact tB)
  ·have hx2:((H.map VL.hC).take H'.length)[i]?=some (VL.hC x):=by rw[kY _ _ _ hi,List.getElem?_map,hx];rfl
   have hrel:=s2.rel i _ hx2;rw[hget i hi] at hrel;rcases qt hxy with rfl|⟨g,k,l,rfl,rfl,hsc⟩
   ·cases x with
    | box cs=>exact absurd rfl (hnb cs)
    | row g k dp l=>
     have hd:=hshut _ _ _ _ rfl;rw[QM hd] at hrel;exact Fj hd (fun _ h=>h) hrel
    | map es=>exact hrel
    | val x=>exact hrel
    | dead g=>exact hrel
   ·obtain⟨h1,h2,h3,h4,h5⟩:=hrel;refine⟨h1,h2,h3,h4,?_⟩;rcases h5 with h5|⟨b,rest,arr,ty,e1,e2,e3,F,hF,_,hr⟩
    ·exact .inl h5
    ·have hall:=Ed hsc;have hz : ∀ j,j<(flat l).length->F j=[]:=fun j hj=>Jq (hr j hj) (hall _ (av hj))
     refine .inr ⟨b,rest,arr,ty,e1,e2,e3,?_,fun j hj=>FX (hr j hj) (hall _ (av hj)) _⟩;rw[hF];refine List.flatMap_eq_nil_iff.2 fun j hj=>hz j (List.mem_range.1 hj)
 refine⟨_,_,s3,⟨hf.defers,hf.size.trans h1,fun t=>?_⟩,x2,tA.weaken h2⟩;have:=h3 S φ w a s hf t;exact this.tr (by rw[hlt];exact tB)
def BK {nt:Nat}(h:lB n nt fr H m H'):a8 n fr H ⟨nt,m⟩ H':=by
 obtain⟨h1,h2,h3,h4,h5,h6⟩:=h;exact K7 h1 h2 (fun S φ w a s hf=>Gi s (Ck h4).1 hf m h3 h5) h4 h6
def Cj (E:Env) (ks:List Item) (Q:aT) (f:Nat) {σ : Type}(nt:Nat) (F : σ->List (Nat×I)) (Hp : σ->ZF) (inv : σ->Prop) (mu : σ->Nat) (s : σ):aT
 | .normal,fr,H=>∃ s',inv s'/\mu s'<mu s/\lB E.n nt fr H (F s') (Hp s')
 | .exit id,fr,H=>gZ E f (jJ id ks) id ks Q fr H
 | e,fr,H=>dZ E ks Q e fr H
def RL (hT:bQ E.P E.T) {σ : Type}(F : σ->List (Nat×I)) (Hp : σ->ZF) (inv : σ->Prop) (mu : σ->Nat) (ob:List (Nat×Nat×Nat×Bool)) (own:List (Nat×Nat×Bool)) (f1 f2:Nat) {ks:List Item}{c:Code}
  (hbc:sT ob H) (hvc:tk own fr (ge ob H)) (h0 : ∃ s,inv s/\lB E.n fr.n (oO own fr (ge ob H)).1 (oO own fr (ge ob H)).2 (F s) (Hp s))
  (hr : ∀ s,inv s->cw E f1 c [] (Cj E ks Q f2 fr.n F Hp inv mu s) ⟨fr.n,F s⟩ (Hp s)):cK E.P E.n (.loop c) (dZ E ks Q) fr H:=by
 obtain⟨s0,hi0,hf0⟩:=h0;refine E8 (fun m fr' H'=>∃ s,inv s/\mu s=m/\fr'=⟨fr.n,F s⟩/\H'=Hp s) (mu s0) ⟨_,_,((AF ob hbc).trans (Aj own hvc)).trans (BK hf0),s0,hi0,rfl,rfl,rfl⟩ ?_;rintro m fr' H' ⟨s,hi,rfl,rfl,rfl⟩;refine Ab (rp hT f1 (hr s hi)) ?_;intro e fr' H' hq;cases e with
 | normal=>
  obtain⟨s',hi',hmu,hfit⟩:=hq;exact⟨_,_,BK hfit,mu s',hmu,s',hi',rfl,rfl,rfl⟩
 | exit id=>
  simp only[Cj] at hq;refine yL id ks ?_;generalize jJ id ks=o at hq;match f2,o with
  | 0,_=>simp only[gZ] at hq
  | f+1,some ks'=>
   simp only[gZ] at hq;exact yZ hT f hq
  | f+1,none=>
   simp only[gZ] at hq;exact hq
 | goto l=>exact hq
 | ret=>exact hq
 | panic ch=>exact hq
 | outgrown=>exact hq
def GW {c:Code}{nt:Nat}(m:List (Nat×I)) (H':ZF) (hn:fr.n=nt) (h:lB E.n nt fr H m H') (hr:cK E.P E.n c Q ⟨nt,m⟩ H'):cK E.P E.n c Q fr H:=Dm (BK h) hr
structure F3 (C:Prop):Prop where
 get:C
def yr {C Q:Prop}(f:F3 C->Q) (h:C):Q:=f ⟨h⟩
def fitAll (f:I->I->Prop):ZE->ZE->Prop
 | [],[]=>True
 | x::r,y::s=>f x y/\fitAll f r s
 | _,_=>False
def iE (K:ZF):Nat->I->I->Prop
 | n+1,.agg xs,.agg ys=>fitAll (iE K n) xs ys
 | n+1,.tup xs,.tup ys=>fitAll (iE K n) xs ys
 | _,x,y=>cZ K x y
def F4 {f:I->I->Prop} : ∀ {cs cs':ZE},fitAll f cs cs'->cs.length=cs'.length/\∀ j,j<cs.length->f (cs.getD j .junk) (cs'.getD j .junk)
 | [],[],_=>⟨rfl,fun j hj=>by simp at hj⟩
 | x::r,y::s,h=>by
  obtain⟨h1,h2⟩:=F4 h.2;refine⟨by simp[h1],fun j hj=>?_⟩;cases j with
  | zero=>exact h.1
  | succ j=>simpa using h2 j (by simpa using hj)
 | [],_::_,h=>h.elim
 | _::_,[],h=>h.elim
def xh {m:Nat}(s:aQ S φ H w) (hm:m<=H.length) : ∀ (f:Nat) {x y:I}{v:Value},iE (fD m H) f x y->y.aJ m->V S φ H w x v->V (fun b=>S b∨aU (jP m φ) b) (φ.take m) (H.take m) w y v:=by
 intro f;induction f with
 | zero=>intro x y v h hy hv;exact B7 s hm (by unfold iE at h;exact h) hy hv
 | succ f ih=>
  intro x y v h hy hv;unfold iE at h;split at h
  ·rename_i heq;simp only[Nat.succ_eq_add_one,Nat.add_right_cancel_iff] at heq;subst heq;rename_i xs ys;obtain⟨l1,l2⟩:=F4 h;simp only[I.aJ] at hy;cases hv with
   | agg hl h1 hj=>
    exact .agg (by omega) (fun j hj'=>h1 j (by omega)) fun j hj'=>ih (l2 j (by omega)) (qi hy j hj') (hj j (by omega))
  ·rename_i heq;simp only[Nat.succ_eq_add_one,Nat.add_right_cancel_iff] at heq;subst heq;rename_i xs ys;obtain⟨l1,l2⟩:=F4 h;simp only[I.aJ] at hy;cases hv with
   | tup hl hj=>
    exact .tup (by omega) fun j hj'=>ih (l2 j (by omega)) (qi hy j hj') (hj j (by omega))
  ·exact B7 s hm h hy hv
def vH (n:Nat) (r:I) (H:ZF) (r0:I) (H1:ZF):Prop:=iE (fD H1.length H) 3 r r0/\n<=H1.length/\sv (fD H1.length H) H H1/\r0.aJ H1.length/\jO H1.length H1
def vV {Po:I->ZF->Prop}{r:I}{H1:ZF}(hf:vH n r H r0 H1) (h:Po r0 H1):gI n Po r H:=by
 obtain⟨h1,h2,h3,h4,h5⟩:=hf;refine⟨⟨1,[(0,r0)]⟩,H1,K7 rfl h2 (fun S φ w a s hf t=>?_) h3 h5,rfl,?_⟩
 ·simp only[look];split
  ·rename_i h0;subst h0;have hv:=hf.val 0;have e:(⟨1,[(0,r)]⟩:Fr).get 0=r:=by simp[Fr.get,look]
   rw[e] at hv;exact xh s (Ck h3).1 3 h1 h4 hv
  ·exact .junk
 ·show Po (look 0 [(0,r0)]) H1
  simpa [look] using h
section rules
variable {σ : Type}{F : σ->List (Nat×I)}{Hp : σ->ZF}{inv : σ->Prop}{mu : σ->Nat}{s : σ}{ks:List Item}{f nt:Nat}{K:ZF}
@[go_sem] def Uw:Cj E ks Q f nt F Hp inv mu s .normal fr H = ∃ s',inv s'/\mu s'<mu s/\lB E.n nt fr H (F s') (Hp s'):=rfl
@[go_sem] def UL {id:Nat}:Cj E ks Q f nt F Hp inv mu s (.exit id) fr H=gZ E f (jJ id ks) id ks Q fr H:=rfl
@[go_sem] def zqB:lB n nt fr H m H'=(fr.n=nt/\n<=H'.length/\lz (fD H'.length H) fr m/\sv (fD H'.length H) H H'/\pb H'.length m/\jO H'.length H'):=rfl
@[go_sem] def YY {r:I}:vH n r H r0 H'=(iE (fD H'.length H) 3 r r0/\n<=H'.length/\sv (fD H'.length H) H H'/\r0.aJ H'.length/\jO H'.length H'):=rfl
@[go_sem] def Z1:fitAll f' [] []=True:=rfl
@[go_sem] def zqE {q:ZE}:fitAll f' (x::r) (y::q)=(f' x y/\fitAll f' r q):=rfl
@[go_sem] def zqF:iE K 3 (.tup xs) (.tup ys)=fitAll (iE K 2) xs ys:=rfl
@[go_sem] def zqG:iE K 2 (.agg xs) (.agg ys)=fitAll (iE K 1) xs ys:=rfl
@[go_sem] def zqH {m:Nat}{d:D}:iE K (m+1) x (.d d)=cZ K x (.d d):=by cases x <;> rfl
@[go_sem] def zqI {m a b:Nat}:iE K (m+1) x (.sl i g k' a b)=cZ K x (.sl i g k' a b):=by cases x <;> rfl
@[go_sem] def zqJ:sv K H []=True:=by cases H <;> rfl
@[go_sem] def zqK {x y:R}{r q:ZF}:sv K (x::r) (y::q)=(qZ K x y/\sv K r q):=rfl
@[go_sem] def zqL {cs cs':ZE}:qZ K (.box cs) (.box cs')=kR K cs cs':=rfl
@[go_sem] def zqM {g':Nat}{dp':DP}{l':ZD}:qZ K (.row g k dp l) (.row g' k' dp' l')=(dp.shut=true/\dx (.row g k dp l) (.row g' k' dp' l')):=rfl
@[go_sem] def Yu {es es':List (D×D)}:qZ K (.map es) (.map es')=(es=es'):=by simp[qZ,dx]
@[go_sem] def zqO {x:R}:qZ K x (.dead g)=(x.gen<=g):=by cases x <;> rfl
@[go_sem] def UB:kR K [] []=True:=rfl
@[go_sem] def SU {s:ZE}:kR K (x::r) (y::s)=(cZ K x y/\kR K r s):=rfl
@[go_sem] def zqR:cZ K (.map i) y=fK K (.map i) y:=xm nofun
end rules
end Go.VL
namespace Go.VL
variable {E:Env}{P:Program}{Q:aT}{S:Nat->Prop}{φ : List ZC}{fr:Fr}{H:ZF}{w:World}{n:Nat}
section rules
variable {i g k:Nat}{l:ZD}
end rules
end Go.VL
namespace Go.VL
end Go.VL
namespace Go.VL
variable {c:D}{r q:ZF}{α:Type}{idx off t':Nat}{x:Array Operand}{ts:Array TypeId}
variable {E:Env}{P:Program}{Q:aT}{S:Nat->Prop}{φ : List ZC}{fr:Fr}{H:ZF}{w:World}{n:Nat}
def GM (hvc:(shut H).1):a8 n fr H fr (shut H).2:=by
 intro S φ w a hn s hf;obtain⟨φ',s',t,e⟩:=GR s hvc;exact⟨S,φ',s',hf.tr t,e,t.weaken hn⟩
def rY (k:ZF->Prop) (q:Prop×ZF):Prop:=q.1/\k q.2
def wt (H:ZF) (k:ZF->Prop):Prop:=rY k (shut H)
@[go_sem] def Vq {k:ZF->Prop}:wt H k=rY k (shut H):=rfl
@[go_sem] def zqT {k:ZF->Prop}{c:Prop}:rY k (c,H)=(c/\k H):=rfl
def O8 {Po:I->ZF->Prop}{r:I}(h:wt H (fun H'=>gI n Po r H')):gI n Po r H:=by
 obtain⟨fr',H',g,h1,h2⟩:=h.2;exact⟨fr',H',(GM h.1).trans g,h1,h2⟩
def A0 (E:Env) (ks:List Item) (Q:aT) (f:Nat) {σ : Type}(nt:Nat) (F : σ->List (Nat×I)) (Hp : σ->ZF) (inv : σ->Prop) (mu : σ->Nat) (s : σ):aT
 | .normal,fr,H=>wt H (fun H'=>∃ s',inv s'/\mu s'<mu s/\lB E.n nt fr H' (F s') (Hp s'))
 | .exit id,fr,H=>gZ E f (jJ id ks) id ks Q fr H
 | e,fr,H=>dZ E ks Q e fr H
def om (hT:bQ E.P E.T) {σ : Type}(F : σ->List (Nat×I)) (Hp : σ->ZF) (inv : σ->Prop) (mu : σ->Nat) (ob:List (Nat×Nat×Nat×Bool)) (own:List (Nat×Nat×Bool)) (f1 f2:Nat) {ks:List Item}{c:Code}
  (hs:wt H (fun H=>sT ob H/\tk own fr (ge ob H)/\∃ s,inv s/\lB E.n fr.n (oO own fr (ge ob H)).1 (oO own fr (ge ob H)).2 (F s) (Hp s)))
  (hr : ∀ s,inv s->cw E f1 c [] (A0 E ks Q f2 fr.n F Hp inv mu s) ⟨fr.n,F s⟩ (Hp s)):cK E.P E.n (.loop c) (dZ E ks Q) fr H:=by
 obtain⟨hsv,hbc,hvc,s0,hi0,hf0⟩:=hs;refine E8 (fun m fr' H'=>∃ s,inv s/\mu s=m/\fr'=⟨fr.n,F s⟩/\H'=Hp s) (mu s0) ⟨_,_,(((GM hsv).trans (AF ob hbc)).trans (Aj own hvc)).trans (BK hf0),s0,hi0,rfl,rfl,rfl⟩ ?_;rintro m fr' H' ⟨s,hi,rfl,rfl,rfl⟩;refine Ab (rp hT f1 (hr s hi)) ?_;intro e fr' H' hq;cases e with
 | normal=>
  obtain⟨hsv,s',hi',hmu,hfit⟩:=hq;exact⟨_,_,(GM hsv).trans (BK hfit),mu s',hmu,s',hi',rfl,rfl,rfl⟩
 | exit id=>
  simp only[A0] at hq;refine yL id ks ?_;generalize jJ id ks=o at hq;match f2,o with
  | 0,_=>simp only[gZ] at hq
  | f+1,some ks'=>
   simp only[gZ] at hq;exact yZ hT f hq
  | f+1,none=>
   simp only[gZ] at hq;exact hq
 | goto l=>exact hq
 | ret=>exact hq
 | panic ch=>exact hq
 | outgrown=>exact hq
section rules
variable {σ : Type}{F : σ->List (Nat×I)}{Hp : σ->ZF}{inv : σ->Prop}{mu : σ->Nat}{s : σ}{ks:List Item}{f nt:Nat}
@[go_sem] def qtO:A0 E ks Q f nt F Hp inv mu s .normal fr H=wt H (fun H'=>∃ s',inv s'/\mu s'<mu s/\lB E.n nt fr H' (F s') (Hp s')):=rfl
@[go_sem] def zqU {id:Nat}:A0 E ks Q f nt F Hp inv mu s (.exit id) fr H=gZ E f (jJ id ks) id ks Q fr H:=rfl
@[go_sem] def zqV:A0 E ks Q f nt F Hp inv mu s .ret fr H=dZ E ks Q .ret fr H:=rfl
end rules
@[go_sem] def qvd {β:Type}{f : α->β}{l:List α}:(l.map f).take l.length=l.map f:=ag (by simp)
def A2 {l:ZD}:dg 1 l idx off c=l.set idx c:=rfl
def GG {f : α->D}{l:List α}{y : α}:dg 1 (l.map f) idx off (f y)=(l.set idx y).map f:=by
 rw[A2,List.map_set]
def Ei {f : α->D}{k:Nat}(hk:k≠1) {l:List α}{z : α}{y : α}(hi:idx<l.length) (h:D.agg (df (bY (f (l.getD idx z)) 0 k) off [c])=f y):dg k (l.map f) idx off c=(l.set idx y).map f:=by
 unfold dg;rw[show decide (k=1)=false by simp[hk]];simp only;have e:(l.map f).getD idx .nil=f (l.getD idx z):=by simp[List.getD,hi]
 rw[e,h,List.map_set]
def NC {k:Nat}{l:ZD}:(dg k l idx off c).length=l.length:=by
 unfold dg;split <;> simp
def mF (one:Bool) (k:Nat) (x:D) (off:Nat) (c:D):D:=
 match one with
 | true=>c
 | false=>.agg (df (bY x 0 k) off [c])
@[go_sem] def zqW {k:Nat}{x:D}:mF true k x off c=c:=rfl
@[go_sem] def zqX {k:Nat}{x:D}:mF false k x off c=.agg (df (bY x 0 k) off [c]):=rfl
@[go_sem] def Iv {k:Nat}{l:ZD}{x:D}:dg k (l ++ [x]) l.length off c=l ++ [mF (decide (k=1)) k x off c]:=by
 unfold dg mF;cases decide (k=1) <;> simp[List.getD]
@[go_sem] def OV {f : α->D}{k:Nat}{l:List α}{x:D}:dg k (l.map f ++ [x]) l.length off c=l.map f ++ [mF (decide (k=1)) k x off c]:=by
 have:=Iv (k:=k) (l:=l.map f) (x:=x) (c:=c) (off:=off)
 rwa [gQ] at this
@[go_sem] def zqY {k:Nat}{l:ZD}{x:D}:dg k (l.set idx x) idx off c=l.set idx (mF (decide (k=1)) k x off c):=by
 unfold dg mF;cases decide (k=1)
 ·by_cases h:idx<l.length
  ·simp[List.getD,h]
  ·have e : ∀ y:D,l.set idx y=l:=fun y=>List.set_eq_of_length_le (by omega)
   simp only[e]
 ·simp
def BP (fr:Fr) (o:Oper):Prop:=
 match o.op with
 | .load _ p=>(∃ d,aq fr p=.d d)∨∃ i o,aq fr p=.ptr i o
 | op=>zC op=false
def vb:I->Prop
 | .d _=>True
 | .ptr _ _=>True
 | _=>False
def ur:ZF->ZF->Prop
 | [],_=>True
 | .box _::r,.box _::q=>ur r q
 | .box _::_,_=>False
 | _::r,_::q=>ur r q
 | _::_,[]=>False
def pw (E:Env) (H0:ZF) (fr:Fr) (H:ZF) (o:Oper):Prop:=ur H0 H/\(isApp o.op=true∨fg E fr o)
section modeB
variable {a:Act}
def m4 (E:Env) (F:Nat) (l:List Oper) (tails:ZC) (H0:ZF) (K:Fr->ZF->Prop):eR->Fr->ZF->Prop
 | .done,fr,H=>K fr H
 | .fst i t,fr,H=>BP fr (aS l i)/\bM E (aS l i)/\am E F l [aS l i] [] (nQ (m4 E F l tails H0 K t)) fr H
 | .one i t,fr,H=>(tails.contains i=false->pw E H0 fr H (aS l i))/\am E F l [aS l i] [] (nQ (m4 E F l tails H0 K t)) fr H
 | .two i t j u,fr,H=>((tails.contains i=false->pw E H0 fr H (aS l i))/\am E F l [aS l i] [] (nQ (m4 E F l tails H0 K t)) fr H)/\
   ((tails.contains j=false->pw E H0 fr H (aS l j))/\am E F l [aS l j] [] (nQ (m4 E F l tails H0 K u)) fr H)
 | .three i t j u k v,fr,H=>((tails.contains i=false->pw E H0 fr H (aS l i))/\am E F l [aS l i] [] (nQ (m4 E F l tails H0 K t)) fr H)/\
   ((tails.contains j=false->pw E H0 fr H (aS l j))/\am E F l [aS l j] [] (nQ (m4 E F l tails H0 K u)) fr H)/\
   ((tails.contains k=false->pw E H0 fr H (aS l k))/\am E F l [aS l k] [] (nQ (m4 E F l tails H0 K v)) fr H)
 | .four i t j u k v m y,fr,H=>
   ((tails.contains i=false->pw E H0 fr H (aS l i))/\am E F l [aS l i] [] (nQ (m4 E F l tails H0 K t)) fr H)/\
   ((tails.contains j=false->pw E H0 fr H (aS l j))/\am E F l [aS l j] [] (nQ (m4 E F l tails H0 K u)) fr H)/\
   ((tails.contains k=false->pw E H0 fr H (aS l k))/\am E F l [aS l k] [] (nQ (m4 E F l tails H0 K v)) fr H)/\
   ((tails.contains m=false->pw E H0 fr H (aS l m))/\am E F l [aS l m] [] (nQ (m4 E F l tails H0 K y)) fr H)
end modeB
section rules
variable {F:Nat}{l:List Oper}{tails:ZC}{H0:ZF}{K:Fr->ZF->Prop}{i j k m:Nat}{t u v y:eR}
@[go_sem] def zqZ:m4 E F l tails H0 K .done fr H=K fr H:=rfl
@[go_sem] def YE:m4 E F l tails H0 K (.fst i t) fr H=(BP fr (aS l i)/\bM E (aS l i)/\am E F l [aS l i] [] (nQ (m4 E F l tails H0 K t)) fr H):=rfl
@[go_sem] def zrb:m4 E F l tails H0 K (.one i t) fr H=((tails.contains i=false->pw E H0 fr H (aS l i))/\am E F l [aS l i] [] (nQ (m4 E F l tails H0 K t)) fr H):=rfl
@[go_sem] def Zp:ur [] H=True:=rfl
@[go_sem] def zrd {cs cs':ZE}:ur (.box cs::r) (.box cs'::q)=ur r q:=rfl
@[go_sem] def Zz {g k':Nat}{dp:DP}{x:ZD}{z:R}:ur (.row g k' dp x::r) (z::q)=ur r q:=by cases z <;> rfl
variable {dst:Option Tmp}{ty:TypeId}{pos:String}{af:Array Edge}{gd:Option (Nat×Bool)}
def CD (b:Bool) (p:Prop):Prop:=match b with|true=>True|false=>p
@[go_sem] def W4 {p:Prop}:CD true p=True:=rfl
@[go_sem] def zrg {p:Prop}:CD false p=p:=rfl
@[go_sem] def zrh {op:Op}:pw E H0 fr H ⟨dst,op,ty,pos,af,gd⟩=(ur H0 H/\CD (isApp op) (fg E fr ⟨dst,op,ty,pos,af,gd⟩)):=by
 unfold pw CD;cases isApp op <;> simp
@[go_sem] def Wc:isApp (.call ⟨.builtin .append,x,ts⟩)=true:=rfl
@[go_sem] def Xg {g:Operand}:isApp (.call ⟨.value g,x,ts⟩)=false:=rfl
@[go_sem] def Yj {n:Nat}{p:Array (Nat×Operand)}:isApp (.buildSlice t' n p)=false:=rfl
@[go_sem] def S9 {x y:Operand}:isApp (.store t' x y)=false:=rfl
@[go_sem] def Tn {x:Operand}:BP fr ⟨dst,.load t' x,ty,pos,af,gd⟩=vb (aq fr x):=by
 show((∃ d,aq fr x=.d d)∨∃ i o,aq fr x=.ptr i o)=vb (aq fr x)
 generalize aq fr x=y;cases y <;> simp[vb]
@[go_sem] def zrl {a b:Nat}:vb (.ptr a b)=True:=rfl
@[go_sem] def TU {x:Operand}{i:Nat}:BP fr ⟨dst,.fieldAddr t' x i,ty,pos,af,gd⟩=True:=by simp[BP,zC]
end rules
end Go.VL
namespace Go.VL
variable {g k f:Nat}{dp:DP}{l ds l' ds':ZD}{c:Code}{x y:D}{v:Value}
variable {E:Env}{P:Program}{Q:aT}{S:Nat->Prop}{φ : List ZC}{fr:Fr}{H:ZF}{w:World}{n:Nat}
def Pb {i:Nat}(hi:H[i]?=some (.row g k dp l)) (hd:dp.shut=true) :
  a8 n fr H fr (H.set i (.row g k .fz l)):=by
 intro S φ w a hn s hf;have hlt:i<H.length:=(List.getElem?_eq_some_iff.1 hi).1;have hiφ : i < φ.length:=by rw[s.len];exact hlt
 have hne : ∀ j,j≠i->(φ.set i ((φ.getD i []).take 1)).getD j [] = φ.getD j []:=fun j h=>by simp[List.getD,List.getElem?_set,Ne.symm h]
 have heq:(φ.set i ((φ.getD i []).take 1)).getD i []=(φ.getD i []).take 1:=by simp[List.getD,hiφ]
 have hsubm : ∀ j b,b∈(φ.set i ((φ.getD i []).take 1)).getD j []->b∈φ.getD j []:=by
  intro j b hb;by_cases h:j=i
  ·subst h;rw[heq] at hb;exact kG hb
  ·rwa [hne j h] at hb
 have hfoot : ∀ b,aU (φ.set i ((φ.getD i []).take 1)) b->aU φ b:=fun b ⟨j,hj⟩=>⟨j,hsubm j b hj⟩
 have hsome : ∀ j r,(H.set i (.row g k .fz l))[j]?=some r->(j=i/\r=.row g k .fz l)∨(j≠i/\H[j]?=some r):=by
  intro j r hr;rw[List.getElem?_set] at hr;split at hr
  ·rename_i h;simp at hr;exact .inl ⟨h.symm,hr.symm⟩
  ·rename_i h;exact .inr ⟨fun h2=>h h2.symm,hr⟩
 have htail : ∀ b,b∈(φ.getD i []).tail->b∈φ.getD i []:=fun b hb=>List.mem_of_mem_tail hb
 have htr:Tr H.length S φ H w (fun b=>S b∨b∈(φ.getD i []).tail) (φ.set i ((φ.getD i []).take 1)) (H.set i (.row g k .fz l)) w:=by
  refine⟨fun _ h=>.inl h,fun _ _=>rfl,aD _,by simp,?_,?_,?_,?_,?_⟩
  ·intro j hj;by_cases h:j=i
   ·subst h;have e1:H.getD j (.dead 0)=.row g k dp l:=by simp only[List.getD,hi,cP]
    have e2:(H.set j (.row g k .fz l)).getD j (.dead 0)=.row g k .fz l:=by simp[List.getD,hlt]
    rw[e1,e2];exact aD _
   ·have e1:(H.set i (.row g k .fz l)).getD j (.dead 0)=H.getD j (.dead 0):=by simp[List.getD,List.getElem?_set,Ne.symm h]
    rw[e1];exact aD _
  ·intro j g2 k2 dp' l' hj hl';rcases hsome j _ hl' with⟨rfl,h⟩|⟨h,h2⟩
   ·cases h;refine .inr ⟨dp,l,hi,?_,aD _,fun b rest arr ty e1 e2=>⟨arr,ty,e2,aD _⟩⟩;rw[heq];cases φ.getD j [] <;> rfl
   ·exact .inr ⟨dp',l',h2,by rw[hne j h],aD _,fun b rest arr ty e1 e2=>⟨arr,ty,e2,aD _⟩⟩
  ·intro j cs hj hl';rcases hsome j _ hl' with⟨_,h⟩|⟨h,h2⟩
   ·cases h
   ·exact⟨cs,h2,hne j h⟩
  ·intro j cs hj hl';rcases hsome j _ hl' with⟨_,h⟩|⟨h,h2⟩
   ·cases h
   ·exact⟨cs,h2,hne j h⟩
  ·intro j x hj hl';rcases hsome j _ hl' with⟨_,h⟩|⟨h,h2⟩
   ·cases h
   ·exact⟨h2,hne j h,fun _ _=>rfl⟩
 have hsim:aQ (fun b=>S b∨b∈(φ.getD i []).tail) (φ.set i ((φ.getD i []).take 1)) (H.set i (.row g k .fz l)) w:=by
  refine⟨by simp[s.len],?_,fun j m b hb hb'=>s.dj j m b (hsubm j b hb) (hsubm m b hb'),fun b hb=>s.lt b (hfoot b hb),?_,?_,?_⟩
  ·intro j;by_cases h:j=i
   ·subst h;rw[heq];exact(List.take_sublist _ _).nodup (s.nd j)
   ·rw[hne j h];exact s.nd j
  ·rintro b ⟨j,hj⟩ (h|h)
   ·exact s.off b ⟨j,hsubm j b hj⟩ h
   ·have hji:=s.dj j i b (hsubm j b hj) (htail b h);subst hji;rw[heq] at hj;have hnd:=s.nd j;cases hc : φ.getD j [] with
    | nil=>rw[hc] at h;simp at h
    | cons x r=>
     rw[hc] at hj h hnd;simp at hj h;subst hj;exact(List.nodup_cons.1 hnd).1 h
  ·rintro b (h|h)
   ·exact s.slt b h
   ·exact s.lt b ⟨i,htail b h⟩
  ·intro j r hr;rcases hsome j r hr with⟨rfl,rfl⟩|⟨h,h2⟩
   ·rw[heq];obtain⟨hk,he,ho,hlim,hr⟩:=s.rel j _ hi;refine⟨hk,he,ho,hlim,?_⟩;rcases hr with⟨e,e2⟩|⟨b,rest,arr,ty,e,hb,hsz,hrr⟩
    ·exact .inl ⟨by rw[e];rfl,e2⟩
    ·refine .inr ⟨b,[],arr,ty,by rw[e];rfl,hb,hsz,rfl,fun j' hj'=>?_⟩;match dp,hd with
     | .fz,_=>exact(hrr.2 j' hj').mono (fun b hb=>.inl hb) (fun _ _=>rfl)
     | .own [],_=>
      obtain⟨F,hF0,_,hF⟩:=hrr;exact OW.fz (hF j' hj') fun b2 hb2=>.inr (by rw[e];show b2∈rest;rw[hF0];exact m8 hj' hb2)
     | .own (_::_),hd=>simp[DP.shut] at hd
   ·rw[hne j h];exact(s.rel j r h2).tr htr fun _ _=>rfl
 exact⟨_,_,hsim,hf.tr htr,⟨rfl,rfl,rfl,aD _,fun _ _ _=>rfl,fun b hb=>.inl (hfoot b hb),fun _ h=>.inl h,fun b h=>h.elim .inl fun h=>.inr (.inl ⟨i,htail b h⟩)⟩,htr.weaken hn⟩
def RS (i:Nat) (hi:H[i]?=some (.row g k dp l)) (hd:dp.shut=true:=by rfl) (h:cK P n c Q fr (H.set i (.row g k .fz l))):cK P n c Q fr H:=Dm (Pb hi hd) h
def Q0 {T : Nat -> Option TI} (hT : bQ P T)  {fn : Func}    (hf : P.funcs[f]? = some fn) (hb : fn.body = some c) (hnm : (fn.name == "runtime.NumGoroutine") = false) (hn : ds.length <= fn.ntmps)
  (h:cK P 0 c (endsWith T fn (fun fr r H'=>wt H' (fun H''=>qG x (pk H'' 3 r)))) ⟨fn.ntmps,jF 0 (ds.map .d)⟩ []):Pure P f ds x:=by
 refine⟨rh hf hb hnm,fun S vs w Rr hS ha hr=>calls_of_wp hf hb ?_⟩;have s:=BQ hS;refine h S [] _ w _ (aD _) s (zS (by simpa using ha.1) (fun j hj=>?_) (by simpa using hn)) ?_
 ·simp only[gQ] at hj;have e:(ds.map I.d).getD j .junk=.d (ds.getD j .nil):=by simp[List.getD,hj]
  rw[e];exact .d (ha.2 j hj)
 intro e a' w' S' φ' fr' H' s' hf' he ht hq;have fin : ∀ vc r,fl T H' fr' fn.results.toList=some (vc,r)->vc/\wt H' (fun H''=>qG x (pk H'' 3 r))->a'.defers=[]/\∃ v,(results fn a'.tmps).run P w'=.ok v w'/\Rr (.returned v) w':=by
  rintro vc0 r hres ⟨hvc0,hsv,hp⟩;obtain⟨v,hrun,hv⟩:=zB hT s' hf' hres hvc0;obtain⟨φ2,s2,t2,e2⟩:=GR s' hsv;have hv2:=hv.tr t2;have he2:=he.trans e2;refine⟨hf'.defers,v,hrun,?_⟩;unfold qG at hp;split at hp
  ·rename_i vc x' ids hpk;obtain⟨hvc,hnd,hw⟩:=hp;have how:=qJ hw (En s2 3 hv2 hpk hvc);refine hr v w' _ how (Gn s2 hnd) ?_ (Ai he2);intro b hb;obtain⟨i,_,hb⟩:=List.mem_flatMap.1 hb;rcases he2.fp b ⟨i,hb⟩ with⟨j,hj⟩|h
   ·simp[List.getD] at hj
   ·exact h
  ·exact hp.elim
 cases e <;> simp only[endsWith] at hq
 ·split at hq
  ·exact fin _ _ (by assumption) hq
  ·exact hq.elim
 all_goals first
  | exact hq.elim
  | (
    split at hq
    ·exact fin _ _ (by assumption) hq
    ·exact hq.elim)
def SC {E : Env} (hT : bQ E.P E.T) (hn : E.n = 0) {f : Nat} {fn : Func} {c : Code} {nt : Nat} {ds : ZD} {x : D} (fuel : Nat) (hf : E.P.funcs[f]? = some fn) (hb : fn.body = some c) (hnm : (fn.name == "runtime.NumGoroutine") = false) (hnt : fn.ntmps = nt) (hl : ds.length <= nt)
  (h:eq ds->cw E fuel c [] (endsWith E.T fn (fun fr r H'=>wt H' (fun H''=>qG x (pk H'' 3 r)))) ⟨nt,jF 0 (ds.map .d)⟩ []):Pure E.P f ds x:=by
 subst hnt;refine oX (rh hf hb hnm) fun ho=>Q0 hT hf hb hnm hl ?_
 have:=rp hT fuel (h ho);rw[hn] at this;exact this
section rules6
variable {σ : Type}{F : σ->List (Nat×I)}{Hp : σ->ZF}{inv : σ->Prop}{mu : σ->Nat}{s : σ}{ks:List Item}{nt:Nat}
end rules6
inductive WK:D->D->Prop
 | refl (x:D):WK x x
 | nil {k:Nat}(hk:0<k):WK .nil (.lst k [])
 | lst {k:Nat}{l l':ZD}(hl:l.length=l'.length) (h : ∀ j,j<l.length->WK (l.getD j .nil) (l'.getD j .nil)):WK (.lst k l) (.lst k l')
 | agg {l l':ZD}(hl:l.length=l'.length) (h : ∀ j,j<l.length->WK (l.getD j .nil) (l'.getD j .nil)):WK (.agg l) (.agg l')
 | tup {l l':ZD}(hl:l.length=l'.length) (h : ∀ j,j<l.length->WK (l.getD j .nil) (l'.getD j .nil)):WK (.tup l) (.tup l')
 | ptr {l l':ZD}(hl:l.length=l'.length) (h : ∀ j,j<l.length->WK (l.getD j .nil) (l'.getD j .nil)):WK (.ptr l) (.ptr l')
def WK.one {x y:D}(h:WK x y):y.one=x.one:=by cases h <;> rfl
def WK.cells {x y:D}(h:WK x y):x.cells.length=y.cells.length/\∀ j,j<x.cells.length->WK (x.cells.getD j .nil) (y.cells.getD j .nil):=by
 cases h with
 | refl=>exact⟨rfl,fun _ _=>.refl _⟩
 | agg hl h=>exact⟨hl,h⟩
 | nil hk=>
  refine⟨rfl,fun j hj=>?_⟩;obtain rfl:j=0:=by simpa [D.cells] using hj
  exact .nil hk
 | lst hl h=>
  refine⟨rfl,fun j hj=>?_⟩;obtain rfl:j=0:=by simpa [D.cells] using hj
  exact .lst hl h
 | tup hl h=>
  refine⟨rfl,fun j hj=>?_⟩;obtain rfl:j=0:=by simpa [D.cells] using hj
  exact .tup hl h
 | ptr hl h=>
  refine⟨rfl,fun j hj=>?_⟩;obtain rfl:j=0:=by simpa [D.cells] using hj
  exact .ptr hl h
def Gk : ∀ {l l':ZD},l.length=l'.length->(∀ j,j<l.length->WK (l.getD j .nil) (l'.getD j .nil))->(flat l).length=(flat l').length/\∀ j,j<(flat l).length->WK ((flat l).getD j .nil) ((flat l').getD j .nil)
 | [],[],_,_=>⟨rfl,fun j hj=>by simp[flat] at hj⟩
 | x::l,y::l',hl,h=>by
  obtain⟨c1,c2⟩:=(h 0 (by simp)).cells;simp only[wK] at c1 c2;obtain⟨i1,i2⟩:=Gk (l:=l) (l':=l') (by simpa using hl) (fun j hj=>by simpa using h (j+1) (by simpa using hj));have e1:flat (x::l)=x.cells++flat l:=by simp[flat]
  have e2:flat (y::l')=y.cells++flat l':=by simp[flat]
  rw[e1,e2];refine⟨by simp only[b8];omega,fun j hj=>?_⟩;rw[Ag,Ag,<-c1];by_cases hjc:j<x.cells.length
  ·rw[if_pos hjc,if_pos hjc];exact c2 j hjc
  ·rw[if_neg hjc,if_neg hjc];exact i2 _ (by simp only[b8] at hj;omega)
 | [],_::_,hl,_=>by simp at hl
 | _::_,[],hl,_=>by simp at hl
def Bu (hl:l.length=l'.length) (h : ∀ j,j<l.length->WK (l.getD j .nil) (l'.getD j .nil)) (h1 : ∀ c∈l,c.one=true) : ∀ c∈l',c.one=true:=by
 intro c hc;obtain⟨j,hj,rfl⟩:=gJ hc;rw[lb _ _ _ .nil,(h j (by omega)).one];exact h1 _ (av (by omega))
def I2 (hl:l.length=l'.length) (h : ∀ j,j<l.length->WK (l.getD j .nil) (l'.getD j .nil)) (h1 : ∀ x∈l,x.cells.length=k) : ∀ x∈l',x.cells.length=k:=by
 intro c hc;obtain⟨j,hj,rfl⟩:=gJ hc;rw[lb _ _ _ .nil,<-(h j (by omega)).cells.1];exact h1 _ (av (by omega))
def OW.mL {w:World}{fp:ZC}(h:OW w x v fp) : ∀ {y:D},WK x y->OW w y v fp:=by
 induction h with
 | int h=>intro y hy;cases hy;exact .int h
 | bool=>intro y hy;cases hy;exact .bool
 | raw h=>intro y hy;cases hy;exact .raw h
 | nil=>
  intro y hy;cases hy with
  | refl=>exact .nil
  | nil hk=>exact .lst0 hk
 | lst0 hk=>
  intro y hy;cases hy with
  | refl=>exact .lst0 hk
  | lst hl h=>
   rename_i l';obtain rfl:l'=[]:=List.length_eq_zero_iff.1 hl.symm;exact .lst0 hk
 | agg F hl h1 h ih=>
  intro y hy;cases hy with
  | refl=>exact .agg F hl h1 h
  | agg hl' hw=>
   rw[hl'];exact .agg F (by omega) (Bu hl' hw h1) fun j hj=>ih j (by omega) (hw j (by omega))
 | tup F hl h ih=>
  intro y hy;cases hy with
  | refl=>exact .tup F hl h
  | tup hl' hw=>
   rw[hl'];exact .tup F (by omega) fun j hj=>ih j (by omega) (hw j (by omega))
 | lst F hk he h1 hn hcap hlim hb hfit hf ih=>
  intro y hy;cases hy with
  | refl=>exact .lst F hk he h1 hn hcap hlim hb hfit hf
  | lst hl' hw=>
   obtain⟨q1,q2⟩:=Gk hl' hw;rw[hl',q1];exact .lst F hk (I2 hl' hw he) (Bu q1 q2 h1) (by omega) hcap (by omega) hb hfit fun j hj=>ih j (by omega) (q2 j (by omega))
def FZ.mL {S:Nat->Prop}{w:World}(h:FZ S w x v) : ∀ {y:D},WK x y->FZ S w y v:=by
 induction h with
 | int h=>intro y hy;cases hy;exact .int h
 | bool=>intro y hy;cases hy;exact .bool
 | raw h=>intro y hy;cases hy;exact .raw h
 | fn hl h ih=>intro y hy;cases hy;exact .fn hl h
 | ptr f hS h1 hc hf ih=>
  intro y hy;cases hy with
  | refl=>exact .ptr f hS h1 hc hf
  | ptr hl' hw=>exact .ptr f hS (Bu hl' hw h1) (fun j hj=>hc j (by omega)) fun j hj=>ih j (by omega) (hw j (by omega))
 | nil=>
  intro y hy;cases hy with
  | refl=>exact .nil
  | nil hk=>exact .lst0 hk
 | lst0 hk=>
  intro y hy;cases hy with
  | refl=>exact .lst0 hk
  | lst hl h=>
   rename_i l';obtain rfl:l'=[]:=List.length_eq_zero_iff.1 hl.symm;exact .lst0 hk
 | agg hl h1 h ih=>
  intro y hy;cases hy with
  | refl=>exact .agg hl h1 h
  | agg hl' hw=>exact .agg (by omega) (Bu hl' hw h1) fun j hj=>ih j (by omega) (hw j (by omega))
 | tup hl h ih=>
  intro y hy;cases hy with
  | refl=>exact .tup hl h
  | tup hl' hw=>exact .tup (by omega) fun j hj=>ih j (by omega) (hw j (by omega))
 | lst f hk he h1 hn hlim hS hc hf ih=>
  intro y hy;cases hy with
  | refl=>exact .lst f hk he h1 hn hlim hS hc hf
  | lst hl' hw=>
   obtain⟨q1,q2⟩:=Gk hl' hw;rw[hl'];exact .lst f hk (I2 hl' hw he) (Bu q1 q2 h1) (by omega) (by omega) hS (fun j hj=>hc j (by omega)) fun j hj=>ih j (by omega) (q2 j (by omega))
def Pure.res (h:Pure P f ds x) (hw:WK x y):Pure P f ds y:=
 ⟨h.1,fun S vs w Rr hS ha hr=>h.2 S vs w Rr hS ha fun v w' fp how=>hr v w' fp (how.mL hw)⟩
def bk.res (h:bk P f ds x) (hw:WK x y):bk P f ds y:=
 ⟨h.1,fun S vs w Rr hS ha hr=>h.2 S vs w Rr hS ha fun v w' S' h1 h2 h3 hz=>hr v w' S' h1 h2 h3 (hz.mL hw)⟩
def Ad:ZD->ZD->Prop
 | [],[]=>True
 | x::r,y::s=>WK x y/\Ad r s
 | _,_=>False
def zj : ∀ {l l':ZD},Ad l l'->l.length=l'.length/\∀ j,j<l.length->WK (l.getD j .nil) (l'.getD j .nil)
 | [],[],_=>⟨rfl,fun j hj=>by simp at hj⟩
 | x::r,y::s,h=>by
  obtain⟨i1,i2⟩:=zj h.2;refine⟨by simp[i1],fun j hj=>?_⟩;cases j with
  | zero=>exact h.1
  | succ j=>simpa using i2 j (by simpa using hj)
 | [],_::_,h=>h.elim
 | _::_,[],h=>h.elim
def Pure.args (h:Pure P f ds x) (hw:Ad ds' ds):Pure P f ds' x:=by
 obtain⟨hl,hg⟩:=zj hw;exact⟨h.1,fun S vs w Rr hS ha hr=>h.2 S vs w Rr hS ⟨ha.1.trans hl,fun j hj=>(ha.2 j (by omega)).mL (hg j (by omega))⟩ hr⟩
def bk.args (h:bk P f ds x) (hw:Ad ds' ds):bk P f ds' x:=by
 obtain⟨hl,hg⟩:=zj hw;exact⟨h.1,fun S vs w Rr hS ha hr=>h.2 S vs w Rr hS ⟨ha.1.trans hl,fun j hj=>(ha.2 j (by omega)).mL (hg j (by omega))⟩ hr⟩
def WK.E5 (h:Ad l l'):WK (.agg l) (.agg l'):=.agg (zj h).1 (zj h).2
section rulesP
variable {dst:Option Tmp}{ty:TypeId}{pos:String}{af:Array Edge}{gd:Option (Nat×Bool)}
end rulesP
end Go.VL
namespace Go.VL
variable {E:Env}{P:Program}{Q:aT}{fr:Fr}{H:ZF}{n:Nat}
def pI (E:Env) (ks:List Item) (Q:aT) (f:Nat) (K:Fr->ZF->Prop):aT
 | .normal,fr,H=>K fr H
 | .exit id,fr,H=>gZ E f (jJ id ks) id ks Q fr H
 | e,fr,H=>dZ E ks Q e fr H
def qV (E:Env) (ks:List Item) (Q:aT) (f1 f2:Nat) (c:Code):Nat->Fr->ZF->Prop
 | 0,_,_=>False
 | N+1,fr,H=>cw E f1 c [] (pI E ks Q f2 (qV E ks Q f1 f2 c N)) fr H
def Ja (hT:bQ E.P E.T) (N f1 f2:Nat) {ks:List Item}{c:Code}(h:qV E ks Q f1 f2 c N fr H):cK E.P E.n (.loop c) (dZ E ks Q) fr H:=by
 refine Lw (fun m fr H=>qV E ks Q f1 f2 c m fr H) N h ?_;intro m fr H hm;cases m with
 | zero=>exact hm.elim
 | succ N=>
  refine Ab (rp hT f1 hm) ?_;intro e fr' H' hq;cases e with
  | normal=>exact⟨N,vt N,hq⟩
  | exit id=>
   simp only[pI] at hq;refine yL id ks ?_;generalize jJ id ks=o at hq;match f2,o with
   | 0,_=>simp only[gZ] at hq
   | f+1,some ks'=>
    simp only[gZ] at hq;exact yZ hT f hq
   | f+1,none=>
    simp only[gZ] at hq;exact hq
  | goto l=>exact hq
  | ret=>exact hq
  | panic ch=>exact hq
  | outgrown=>exact hq
def sM {ks:List Item}{f1 f2 N:Nat}{c:Code}(h:cw E f1 c [] (pI E ks Q f2 (qV E ks Q f1 f2 c N)) fr H):qV E ks Q f1 f2 c (N+1) fr H:=h
section rules7
variable {ks:List Item}{f:Nat}{K:Fr->ZF->Prop}
@[go_sem] def zrm:pI E ks Q f K .normal fr H=K fr H:=rfl
@[go_sem] def XG {id:Nat}:pI E ks Q f K (.exit id) fr H=gZ E f (jJ id ks) id ks Q fr H:=rfl
@[go_sem] def zro:pI E ks Q f K .ret fr H=dZ E ks Q .ret fr H:=rfl
end rules7
end Go.VL
namespace Go.VL
open Go
variable {k n i g F:Nat}{l:ZD}{t:eR}{dp:DP}{fr:Fr}{H:ZF}{E:Env}{tails:ZC}{K:Fr->ZF->Prop}
def ug (he : ∀ x∈l,x.cells.length=k) (m:Nat):flat (l.take m)=(flat l).take (m*k):=by
 induction l generalizing m with
 | nil=>simp[flat]
 | cons x r ih=>
  cases m with
  | zero=>simp[flat]
  | succ m=>
   have h1:=he x (kE ..);have h2:=ih (fun y hy=>he y (fX _ hy)) m;simp only[flat,List.take_succ_cons,l7] at h2 ⊢;have h4:x.cells.take ((m+1)*k)=x.cells:=ag (by rw[h1,jI];omega);rw[h2,List.take_append,h1,h4,show(m+1)*k-k=m*k by rw[jI];omega]
def Si {α β : Type}(F : α->List β) {a b:List α}(h:a.Sublist b):(a.flatMap F).Sublist (b.flatMap F):=by
 induction h with
 | slnil=>simp
 | cons x _ ih=>simp only[l7];exact ih.trans (List.sublist_append_right ..)
 | cons_cons x _ ih=>simp only[l7];exact List.Sublist.append (List.Sublist.refl _) ih
def QT {t m:Nat}(ht:fr.get t=.sl i g k 0 m) (hi:H[i]?=some (.row g k dp l)) (hd:dp.shut=true) :
  a8 n fr H (fr.put (some t) (.sl i (g+1) k 0 m)) (H.set i (.row (g+1) k dp (l.take m))):=by
 intro S φ w a hn s hf;have hlt:i<H.length:=(List.getElem?_eq_some_iff.1 hi).1;have hiφ : i < φ.length:=by rw[s.len];exact hlt
 obtain⟨hk,he,ho,hlim,hr⟩:=s.rel i _ hi;have hv:=hf.val t;rw[ht] at hv;have hml:m<=l.length:=by
  cases hv with
  | sl h1 h2 h3 h4=>have:=(h3 dp l hi).2;omega
 have hft:=ug he m;have hfl:(flat (l.take m)).length<=(flat l).length:=by rw[hft,iy];exact Nat.min_le_right ..
 have hfg : ∀ j,j<(flat (l.take m)).length->(flat (l.take m)).getD j .nil=(flat l).getD j .nil:=fun j hj=>by
  have hj2:j<(flat l).length:=by omega
  have h3:j<m*k:=by rw[hft,iy] at hj;omega
  simp[List.getD,hft,List.getElem?_take,h3]
 obtain⟨fp',hhead,hsub,hnd',hrel⟩ : ∃ fp':ZC,fp'.head?=(φ.getD i []).head?/\(∀ b∈fp',b∈φ.getD i [])/\fp'.Nodup/\((fp'=[]/\l.take m=[])∨∃ b rest arr ty,fp'=b::rest/\w.heap[b]?=some (.cells arr ty (0,0))/\(l.take m).length*k<=arr.size/\aZ S φ H w k dp (flat (l.take m)) arr rest):=by
  rcases hr with⟨e,e2⟩|⟨b,rest,arr,ty,e,hb,hsz,hrr⟩
  ·exact⟨[],by rw[e],by simp,by simp,.inl ⟨rfl,by rw[e2];simp⟩⟩
  ·have hszm:(l.take m).length*k<=arr.size:=g6 (kD k (by rw[iy];exact Nat.min_le_right ..)) hsz;have hnd:=s.nd i;rw[e] at hnd;match dp,hd with
   | .fz,_=>
    obtain⟨hre,hc⟩:=hrr;exact⟨[b],by rw[e];rfl,by rw[e];simp,by simp,.inr ⟨b,[],arr,ty,rfl,hb,hszm,rfl,fun j hj=>by rw[hfg j hj];exact hc j (by omega)⟩⟩
   | .own [],_=>
    obtain⟨F,hF0,_,hF⟩:=hrr;have hpre:(List.range (flat (l.take m)).length).Sublist (List.range (flat l).length):=List.range_sublist.2 hfl;have hsl:((List.range (flat (l.take m)).length).flatMap F).Sublist rest:=by
     rw[hF0];exact Si F hpre
    refine⟨b::(List.range (flat (l.take m)).length).flatMap F,by rw[e];rfl,?_,?_,.inr ⟨b,_,arr,ty,rfl,hb,hszm,F,rfl,by simp,fun j hj=>by rw[hfg j hj];exact hF j (by omega)⟩⟩
    ·intro b' hb';rw[e];rcases List.mem_cons.1 hb' with rfl|hb'
     ·exact kE ..
     ·exact fX _ (hsl.subset hb')
    ·exact(List.Sublist.cons_cons b hsl).nodup hnd
   | .own (_::_),hd=>simp[DP.shut] at hd
 have hne : ∀ j,j≠i->(φ.set i fp').getD j [] = φ.getD j []:=fun j h=>by simp[List.getD,List.getElem?_set,Ne.symm h]
 have heq:(φ.set i fp').getD i []=fp':=by simp[List.getD,hiφ]
 have hsubm : ∀ j b,b∈(φ.set i fp').getD j []->b∈φ.getD j []:=by
  intro j b hb;by_cases h:j=i
  ·subst h;rw[heq] at hb;exact hsub b hb
  ·rwa [hne j h] at hb
 have hfoot : ∀ b,aU (φ.set i fp') b->aU φ b:=fun b ⟨j,hj⟩=>⟨j,hsubm j b hj⟩
 have hsome : ∀ j r,(H.set i (.row (g+1) k dp (l.take m)))[j]?=some r->(j=i/\r=.row (g+1) k dp (l.take m))∨(j≠i/\H[j]?=some r):=by
  intro j r hr;rw[List.getElem?_set] at hr;split at hr
  ·rename_i h;simp at hr;first|exact .inl ⟨h.symm,hr.2.symm⟩|exact .inl ⟨h.symm,hr.symm⟩
  ·rename_i h;exact .inr ⟨fun h2=>h h2.symm,hr⟩
 have e1:H.getD i (.dead 0)=.row g k dp l:=by simp only[List.getD,hi,cP]
 have e2:(H.set i (.row (g+1) k dp (l.take m))).getD i (.dead 0)=.row (g+1) k dp (l.take m):=by simp[List.getD,hlt]
 have htr:Tr H.length S φ H w S (φ.set i fp') (H.set i (.row (g+1) k dp (l.take m))) w:=by
  refine⟨fun _ h=>h,fun _ _=>rfl,aD _,by simp,?_,?_,?_,?_,?_⟩
  ·intro j hj;by_cases h:j=i
   ·subst h;rw[e1,e2];exact Nat.le_succ _
   ·have e3:(H.set i (.row (g+1) k dp (l.take m))).getD j (.dead 0)=H.getD j (.dead 0):=by simp[List.getD,List.getElem?_set,Ne.symm h]
    rw[e3];exact aD _
  ·intro j g2 k2 dp' l' hj hl';rcases hsome j _ hl' with⟨rfl,h⟩|⟨h,h2⟩
   ·cases h;left;rw[e1];exact vt _
   ·exact .inr ⟨dp',l',h2,by rw[hne j h],aD _,fun b rest arr ty e1 e2=>⟨arr,ty,e2,aD _⟩⟩
  ·intro j cs hj hl';rcases hsome j _ hl' with⟨_,h⟩|⟨h,h2⟩
   ·cases h
   ·exact⟨cs,h2,hne j h⟩
  ·intro j cs hj hl';rcases hsome j _ hl' with⟨_,h⟩|⟨h,h2⟩
   ·cases h
   ·exact⟨cs,h2,hne j h⟩
  ·intro j x hj hl';rcases hsome j _ hl' with⟨_,h⟩|⟨h,h2⟩
   ·cases h
   ·exact⟨h2,hne j h,fun _ _=>rfl⟩
 have hsim:aQ S (φ.set i fp') (H.set i (.row (g+1) k dp (l.take m))) w:=by
  refine⟨by simp[s.len],?_,fun j m b hb hb'=>s.dj j m b (hsubm j b hb) (hsubm m b hb'),fun b hb=>s.lt b (hfoot b hb),fun b hb=>s.off b (hfoot b hb),s.slt,?_⟩
  ·intro j;by_cases h:j=i
   ·subst h;rw[heq];exact hnd'
   ·rw[hne j h];exact s.nd j
  ·intro j r hr;rcases hsome j r hr with⟨rfl,rfl⟩|⟨h,h2⟩
   ·rw[heq];refine⟨hk,fun x hx=>he x (kG hx),fun c hc=>ho c ?_,?_,?_⟩
    ·rw[hft] at hc;exact kG hc
    ·rw[iy];exact g6 (Nat.min_le_right ..) hlim
    ·rcases hrel with h|⟨b,rest,arr,ty,h1,h2,h3,h4⟩
     ·exact .inl h
     ·refine .inr ⟨b,rest,arr,ty,h1,h2,h3,?_⟩;match dp,hd,h4 with
      | .fz,_,h4=>exact h4
      | .own [],_,⟨F,q1,q2,q3⟩=>exact⟨F,q1,q2,q3⟩
      | .own (_::_),hd,_=>simp[DP.shut] at hd
   ·rw[hne j h];exact(s.rel j r h2).tr htr fun _ _=>rfl
 have hfr:=hf.tr htr;have hvn:V S (φ.set i fp') (H.set i (.row (g+1) k dp (l.take m))) w (.sl i (g+1) k 0 m) (a.tmps.getD t undef):=by
  cases hv with
  | sl h1 h2 h3 h4=>
   refine .sl (by simpa using hlt) (by rw[e2];exact aD _) (fun dp' l' hl'=>?_) h4;rcases hsome i _ hl' with⟨_,h⟩|⟨h,_⟩
   ·cases h;obtain⟨hsr,hle⟩:=h3 dp l hi;refine⟨?_,by rw[iy];omega⟩;rw[heq];rcases hsr with⟨q1,q2,q3,q4⟩|⟨b,rest,cap,arr,ty,ad,q1,q⟩
    ·exact .inl ⟨Nb hhead q1,q2,q3,q4⟩
    ·obtain⟨r',hr'⟩:=C3 hhead q1;exact .inr ⟨b,r',cap,arr,ty,ad,hr',q⟩
   ·exact absurd rfl h
 have hput:=hfr.put (some t) hvn;have hact:a.put (some t) (a.tmps.getD t undef)=a:=by
  unfold Act.put;have e:a.tmps.setIfInBounds t (a.tmps.getD t undef)=a.tmps:=by
   apply Array.ext
   ·simp
   ·intro j h1 h2;rw[Array.getElem_setIfInBounds];split
    ·rename_i h;subst h;simp[Array.getD,h2]
    ·rfl
  simp only[e]
 rw[hact] at hput;exact⟨_,_,hsim,hput,⟨rfl,rfl,rfl,aD _,fun _ _ _=>rfl,fun b hb=>.inl (hfoot b hb),fun _ h=>h,fun b h=>.inl h⟩,htr.weaken hn⟩
def RK {m:Nat}{Po:I->ZF->Prop}(hi:H[i]?=some (.row g k dp l)) (hd:dp.shut=true)
  (h:gI n Po (.sl i (g+1) k 0 m) (H.set i (.row (g+1) k dp (l.take m)))):gI n Po (.sl i g k 0 m) H:=by
 obtain⟨fr',H'',gg,e,q⟩:=h;refine⟨fr',H'',a8.trans (QT (t:=0) (m:=m) (fr:=⟨1,[(0,.sl i g k 0 m)]⟩) (by simp[Fr.get,look]) hi hd) ?_,e,q⟩;intro S φ w a hn s hf;refine gg S φ w a hn s ⟨hf.defers,hf.size,fun t=>?_⟩;have:=hf.val t;by_cases h0:t=0
 ·subst h0;simpa [Fr.get,Fr.put,look] using this
 ·have e:(Fr.get ⟨1,[(0,.sl i (g+1) k 0 m)]⟩ t)=.junk:=by simp[Fr.get,look,Ne.symm h0]
  rw[e];exact .junk
def ah {m:Region.Mode}{a:Array Oper}(h:Region.lexB m a=true:=by kernel_rfl):Region.lexB m a=true:=h
def fh {p:I->Prop}(h:p (I.d D.nil)) : ∃ x,p x:=⟨_,h⟩
def ax:ZC->eR->eR
 | [],t=>t
 | i::r,t=>.fst i (ax r t)
@[go_sem] def zrp {l:List Oper}:b7 E F l tails K (ax [] t) fr H=b7 E F l tails K t fr H:=rfl
@[go_sem] def zrq {l:List Oper}{r:ZC}:b7 E F l tails K (ax (i::r) t) fr H=b7 E F l tails K (.fst i (ax r t)) fr H:=rfl
end Go.VL
