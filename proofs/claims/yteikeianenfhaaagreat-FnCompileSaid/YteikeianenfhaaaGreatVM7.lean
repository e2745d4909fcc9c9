/- Part 25: what data that some value reads as must be like: numbers in range, lists not too long. Conditions: none; lemmas. -/
import Derived.Test.YteikeianenfhaaaGreatVM6
import Derived.ProofKit
import Derived.OpenShut
import Derived.SizedLaws
import Derived.ReadAgain
set_option linter.unusedVariables false
set_option linter.unusedSimpArgs false
set_option maxHeartbeats 2000000
set_option linter.defProp false
namespace Go.VL
variable {l ds cs:ZD}{x:D}{P:Program}{f:Nat}{k:IntKind}
mutual
def D.ok:D->Prop
 | .int k n=>cp k n
 | .agg cs=>eq cs
 | .lst _ l=>l.length<=281474976710656/\eq l
 | .ptr cs=>eq cs
 | .fn _ cs=>eq cs
 | .tup cs=>eq cs
 | _=>True
def eq:ZD->Prop
 | []=>True
 | x::r=>x.ok/\eq r
end
def z6 : ∀ (l:ZD),eq l↔∀ x∈l,x.ok
 | []=>by simp[eq]
 | x::r=>by simp[eq,z6 r]
def uL (h : ∀ j,j<l.length->(l.getD j .nil).ok):eq l:=by
 rw[z6];intro x hx;obtain⟨j,hj,rfl⟩:=gJ hx;have:=h j hj;simpa [List.getD,hj] using this
def NS (h : ∀ c∈x.cells,c.ok):x.ok:=by
 cases x with
 | agg cs=>simp only[D.ok];rw[z6];exact h
 | int k n=>exact h _ (by simp[D.cells])
 | bool b=>exact h _ (by simp[D.cells])
 | raw b=>exact h _ (by simp[D.cells])
 | lst k l=>exact h _ (by simp[D.cells])
 | nil=>exact h _ (by simp[D.cells])
 | ptr l=>exact h _ (by simp[D.cells])
 | fn f l=>exact h _ (by simp[D.cells])
 | tup l=>exact h _ (by simp[D.cells])
def SD (h:eq (flat l)):eq l:=by
 rw[z6] at *
 intro x hx;exact NS fun c hc=>h c (List.mem_flatMap.2 ⟨x,hx,hc⟩)
def FZ.isOk {S:Nat->Prop}{w:World}{v:Value}(h:FZ S w x v):x.ok:=by
 induction h with
 | int h=>simpa only[D.ok] using h
 | bool=>simp only[D.ok]
 | raw h=>simp only[D.ok]
 | agg hl h1 h ih=>simp only[D.ok];exact uL ih
 | nil=>simp only[D.ok]
 | lst0 hk=>simp[D.ok,eq]
 | lst f hk he h1 hn hlim hS hc hf ih=>simp only[D.ok];exact⟨hlim,SD (uL ih)⟩
 | ptr f hS h1 hc hf ih=>simp only[D.ok];exact uL ih
 | fn hl h ih=>simp only[D.ok];exact uL ih
 | tup hl h ih=>simp only[D.ok];exact uL ih
def oX (he:rV P f) (h:eq ds->Pure P f ds x):Pure P f ds x:=by
 refine⟨he,fun S vs w Rr hS ha hr=>?_⟩;have:eq ds:=uL fun j hj=>(ha.2 j hj).isOk
 exact(h this).2 S vs w Rr hS ha hr
def Rv (he:rV P f) (h:eq ds->bk P f ds x):bk P f ds x:=by
 refine⟨he,fun S vs w Rr hS ha hr=>?_⟩;have:eq ds:=uL fun j hj=>(ha.2 j hj).isOk
 exact(h this).2 S vs w Rr hS ha hr
def OA {E : Env} (hT : bQ E.P E.T) (hn : E.n = 0)  {fn : Func} {c : Code} {nt : Nat}   (fuel : Nat) (hf : E.P.funcs[f]? = some fn) (hb : fn.body = some c) (hnm : (fn.name == "runtime.NumGoroutine") = false) (hnt : fn.ntmps = nt) (hl : ds.length <= nt)
  (h:eq ds->cw E fuel c [] (endsWith E.T fn (fun fr r H'=>qG x (pk H' 3 r))) ⟨nt,jF 0 (ds.map .d)⟩ []):Pure E.P f ds x:=
 oX (rh hf hb hnm) fun ho=>tI hT hn fuel hf hb hnm hnt hl (h ho)
def BE {E : Env} (hT : bQ E.P E.T) (hn : E.n = 0) {f : Nat} {fn : Func} {c : Code} {nt : Nat} {ds : ZD} {x : D} (fuel : Nat) (hf : E.P.funcs[f]? = some fn) (hb : fn.body = some c) (hnm : (fn.name == "runtime.NumGoroutine") = false) (hnt : fn.ntmps = nt) (hl : ds.length <= nt)
  (h:eq ds->cw E fuel c [] (endsWith E.T fn (fun fr r H'=>yU x (view H' 3 r))) ⟨nt,jF 0 (ds.map .d)⟩ []):bk E.P f ds x:=
 Rv (rh hf hb hnm) fun ho=>Qh hT hn fuel hf hb hnm hnt hl (h ho)
@[go_sem] def Uo {n:Int}:(D.int k n).ok=cp k n:=by simp only[D.ok]
@[go_sem] def zoM {b:Bool}:(D.bool b).ok=True:=by simp only[D.ok]
@[go_sem] def VT:(D.agg cs).ok=eq cs:=by simp only[D.ok]
@[go_sem] def Xo:(D.ptr cs).ok=eq cs:=by simp only[D.ok]
@[go_sem] def zoP:(D.fn f cs).ok=eq cs:=by simp only[D.ok]
@[go_sem] def W7 {k:Nat}:(D.lst k cs).ok=(cs.length<=281474976710656/\eq cs):=by simp only[D.ok]
@[go_sem] def zoR:eq []=True:=by simp only[eq]
@[go_sem] def zoS {r:ZD}:eq (x::r)=(x.ok/\eq r):=by simp only[eq]
def Gy {α : Type}{f : α->D}{l:List α}:eq (l.map f) = ∀ x∈l,(f x).ok:=by
 rw[z6];simp
@[go_sem] def Xv {l:ZA}:eq (l.map (D.int k)) = ∀ x∈l,cp k x:=by rw[Gy];simp only[D.ok]
@[go_sem] def VJ {l:ZB}:eq (l.map D.bool)=True:=by rw[Gy];simp[D.ok]
end Go.VL
namespace Go.VL
variable {α:Type}{j:Nat}{x:I}{r:R}{fp:ZC}
mutual
def aV (ρ : Nat->Nat):I->I
 | .d x=>.d x
 | .agg cs=>.agg (eT ρ cs)
 | .sl i g k lo n=>.sl (ρ i) g k lo n
 | .ptr i off=>.ptr (ρ i) off
 | .eptr i g k idx off z=>.eptr (ρ i) g k idx off z
 | .bor i g k idx c lo n=>.bor (ρ i) g k idx c lo n
 | .bptr i g k idx c k2 m off=>.bptr (ρ i) g k idx c k2 m off
 | .map i=>.map (ρ i)
 | .fn f cs=>.fn f (eT ρ cs)
 | .tup cs=>.tup (eT ρ cs)
 | .own i=>.own (ρ i)
 | .cond e x=>.cond e (aV ρ x)
 | .junk=>.junk
def eT (ρ : Nat->Nat):ZE->ZE
 | []=>[]
 | x::r=>aV ρ x::eT ρ r
end
def Ap (ρ : Nat->Nat) (hs:List bV):List bV:=hs.map fun h=>(h.1,h.2.1,aV ρ h.2.2)
def rG (ρ : Nat->Nat):DP->DP
 | .own (h::hs)=>.own (Ap ρ (h::hs))
 | dp=>dp
def bD (ρ : Nat->Nat):R->R
 | .box cs=>.box (eT ρ cs)
 | .row g k dp l=>.row g k (rG ρ dp) l
 | r=>r
def IR (ρ : Nat->Nat) (hs:List bV):rG ρ (.own hs)=.own (Ap ρ hs):=by cases hs <;> rfl
def FY (ρ : Nat->Nat) (k j:Nat) : ∀ (hs:List bV),cy k (Ap ρ hs) j=(cy k hs j).map (aV ρ)
 | []=>rfl
 | (a,b,c)::r=>by
  have:=FY ρ k j r;simp only[Ap] at this;simp only[Ap,js,cy,this];split <;> rfl
def Gg (ρ : Nat->Nat) : ∀ (l:ZE),eT ρ l=l.map (aV ρ)
 | []=>rfl
 | x::r=>by simp only[eT,js,Gg ρ r]
def vU (ρ : Nat->Nat) (l:ZE) (j:Nat):(eT ρ l).getD j .junk=aV ρ (l.getD j .junk):=by
 rw[Gg];have:I.junk=aV ρ .junk:=by simp only[aV]
 rw[this,Ar];simp only[aV]
def mz (ρ : Nat->Nat) (l:ZE):(eT ρ l).length=l.length:=by rw[Gg];simp
variable {S S':Nat->Prop}{φ φ0 φ':List ZC}{H H0 H':ZF}{w w':World}{ρ : Nat->Nat}{m:Nat}
structure qP (ρ : Nat->Nat) (m:Nat) (H0:ZF) (φ0:List ZC) (H:ZF) (φ : List ZC):Prop where
 len:H0.length=m
 lt : ∀ j,j<m->ρ j<H.length
 root : ∀ j,j<m->H.getD (ρ j) (.dead 0)=bD ρ (H0.getD j (.dead 0))
 fp : ∀ j,j<m->φ.getD (ρ j) [] = φ0.getD j []
def nU {l:List α}{x : α}(z : α) (h:l[j]?=some x):j<l.length/\l.getD j z=x:=by
 have:=(List.getElem?_eq_some_iff.1 h).1;exact⟨this,by simp[List.getD,h]⟩
def getD_some {l:List α}(z : α) (h:j<l.length):l[j]?=some (l.getD j z):=by
 simp[List.getD,h]
def qP.down (e:qP ρ m H0 φ0 H φ)  : ∀ {v:Value},V S φ H w (aV ρ x) v->x.aJ m->V S φ0 H0 w x v:=by
 have main : ∀ (y:I) (v:Value),V S φ H w y v->∀ x,y=aV ρ x->x.aJ m->V S φ0 H0 w x v:=by
  intro y v h;induction h with
  | d h=>
   intro x hx hb;cases x <;> simp only[aV,I.d.injEq,reduceCtorEq] at hx
   subst hx;exact .d h
  | agg hl h1 h ih=>
   intro x hx hb;cases x <;> simp only[aV,I.agg.injEq,reduceCtorEq] at hx
   subst hx;rename_i cs;rw[mz] at hl;simp only[mz,vU] at h1 ih;simp only[I.aJ] at hb;exact .agg hl h1 fun j hj=>ih j hj _ rfl (qi hb j hj)
  | sl hi hg h h1=>
   intro x hx hb;cases x <;> simp only[aV,I.sl.injEq,reduceCtorEq] at hx
   obtain⟨rfl,rfl,rfl,rfl,rfl⟩:=hx;simp only[I.aJ] at hb;refine .sl (by rw[e.len];exact hb) ?_ ?_ h1
   ·rw[e.root _ hb] at hg;generalize H0.getD _ (.dead 0)=r at hg;cases r <;> simpa only[bD,R.gen] using hg
   ·intro dp l hl;have hr:=e.root _ hb;rw[(nU (.dead 0) hl).2] at hr;have:=h (rG ρ dp) l (by rw[getD_some (.dead 0) hi,hr];rfl);rw[e.fp _ hb] at this;exact this
  | ptr hi h h1=>
   intro x hx hb;cases x <;> simp only[aV,I.ptr.injEq,reduceCtorEq] at hx
   obtain⟨rfl,rfl⟩:=hx;simp only[I.aJ] at hb;refine .ptr (by rw[e.len];exact hb) ?_ h1;intro cs hl;have hr:=e.root _ hb;rw[(nU (.dead 0) hl).2] at hr;have:=h _ (by rw[getD_some (.dead 0) hi,hr];rfl);rw[e.fp _ hb] at this;exact this
  | eptr hi hg h h1=>
   intro x hx hb;cases x <;> simp only[aV,I.eptr.injEq,reduceCtorEq] at hx
   obtain⟨rfl,rfl,rfl,rfl,rfl,rfl⟩:=hx;simp only[I.aJ] at hb;refine .eptr (by rw[e.len];exact hb) ?_ ?_ h1
   ·rw[e.root _ hb] at hg;generalize H0.getD _ (.dead 0)=r at hg;cases r <;> simpa only[bD,R.gen] using hg
   ·intro dp l hl;have hr:=e.root _ hb;rw[(nU (.dead 0) hl).2] at hr;have:=h (rG ρ dp) l (by rw[getD_some (.dead 0) hi,hr];rfl);rw[e.fp _ hb] at this;exact this
  | map hi h h1=>
   intro x hx hb;cases x <;> simp only[aV,I.map.injEq,reduceCtorEq] at hx
   subst hx;simp only[I.aJ] at hb;refine .map (by rw[e.len];exact hb) ?_ h1;intro es hl;have hr:=e.root _ hb;rw[(nU (.dead 0) hl).2] at hr;have:=h _ (by rw[getD_some (.dead 0) hi,hr];rfl);rw[e.fp _ hb] at this;exact this
  | fn hl h ih=>
   intro x hx hb;cases x <;> simp only[aV,I.fn.injEq,reduceCtorEq] at hx
   obtain⟨rfl,rfl⟩:=hx;rw[mz] at hl;simp only[mz,vU] at ih;simp only[I.aJ] at hb;exact .fn hl fun j hj=>ih j hj _ rfl (qi hb j hj)
  | tup hl h ih=>
   intro x hx hb;cases x <;> simp only[aV,I.tup.injEq,reduceCtorEq] at hx
   subst hx;rw[mz] at hl;simp only[mz,vU] at ih;simp only[I.aJ] at hb;exact .tup hl fun j hj=>ih j hj _ rfl (qi hb j hj)
  | own hi h=>
   intro x hx hb;cases x <;> simp only[aV,I.own.injEq,reduceCtorEq] at hx
   subst hx;simp only[I.aJ] at hb;refine .own (by rw[e.len];exact hb) ?_;intro y hl;have hr:=e.root _ hb;rw[(nU (.dead 0) hl).2] at hr;have:=h _ (by rw[getD_some (.dead 0) hi,hr];rfl);rw[e.fp _ hb] at this;exact this
  | cond h h0 ih=>
   intro x hx hb;cases x <;> simp only[aV,I.cond.injEq,reduceCtorEq] at hx
   obtain⟨rfl,rfl⟩:=hx;simp only[I.aJ] at hb;exact .cond (fun e'=>ih e' _ rfl hb) h0
  | junk=>
   intro x hx hb;cases x <;> simp only[aV,reduceCtorEq] at hx
   exact .junk
 exact fun {v} h hb=>main _ v h x rfl hb
def qP.up (e:qP ρ m H0 φ0 H φ) {v:Value}(h:V S φ0 H0 w x v):V S φ H w (aV ρ x) v:=by
 have hgen : ∀ {i g:Nat},i<H0.length->g<=(H0.getD i (.dead 0)).gen->g<=(H.getD (ρ i) (.dead 0)).gen:=by
  intro i g hi hg;rw[e.root _ (e.len▸hi)];generalize H0.getD i (.dead 0)=r at hg;cases r <;> simpa only[bD,R.gen] using hg
 have hback : ∀ {i:Nat}{r:R},i<H0.length->H[ρ i]?=some r->∃ r0,H0[i]?=some r0/\r=bD ρ r0:=by
  intro i r hi hr;refine⟨_,getD_some (.dead 0) hi,?_⟩;rw[<-e.root _ (e.len▸hi)];exact(nU (.dead 0) hr).2.symm
 induction h with
 | d h=>simp only[aV];exact .d h
 | agg hl h1 h ih=>simp only[aV];exact .agg (by rw[mz];exact hl) (fun j hj=>h1 j (by rwa [mz] at hj)) fun j hj=>by rw[vU];exact ih j (by rwa [mz] at hj)
 | sl hi hg h h1=>
  simp only[aV];refine .sl (e.lt _ (e.len▸hi)) (hgen hi hg) ?_ h1;intro dp l hl;obtain⟨r0,h0,hr⟩:=hback hi hl;cases r0 <;> simp only[bD,R.row.injEq,reduceCtorEq] at hr
  obtain⟨rfl,rfl,rfl,rfl⟩:=hr;rw[e.fp _ (e.len▸hi)];exact h _ _ h0
 | ptr hi h h1=>
  simp only[aV];refine .ptr (e.lt _ (e.len▸hi)) ?_ h1;intro cs hl;obtain⟨r0,h0,hr⟩:=hback hi hl;cases r0 <;> simp only[bD,R.box.injEq,reduceCtorEq] at hr
  rw[e.fp _ (e.len▸hi)];exact h _ h0
 | eptr hi hg h h1=>
  simp only[aV];refine .eptr (e.lt _ (e.len▸hi)) (hgen hi hg) ?_ h1;intro dp l hl;obtain⟨r0,h0,hr⟩:=hback hi hl;cases r0 <;> simp only[bD,R.row.injEq,reduceCtorEq] at hr
  obtain⟨rfl,rfl,rfl,rfl⟩:=hr;rw[e.fp _ (e.len▸hi)];exact h _ _ h0
 | map hi h h1=>
  simp only[aV];refine .map (e.lt _ (e.len▸hi)) ?_ h1;intro cs hl;obtain⟨r0,h0,hr⟩:=hback hi hl;cases r0 <;> simp only[bD,R.map.injEq,reduceCtorEq] at hr
  subst hr;rw[e.fp _ (e.len▸hi)];exact h _ h0
 | fn hl h ih=>simp only[aV];exact .fn (by rw[mz];exact hl) fun j hj=>by rw[vU];exact ih j (by rwa [mz] at hj)
 | tup hl h ih=>simp only[aV];exact .tup (by rw[mz];exact hl) fun j hj=>by rw[vU];exact ih j (by rwa [mz] at hj)
 | own hi h=>
  simp only[aV];refine .own (e.lt _ (e.len▸hi)) ?_;intro x hl;obtain⟨r0,h0,hr⟩:=hback hi hl;cases r0 <;> simp only[bD,R.val.injEq,reduceCtorEq] at hr
  subst hr;rw[e.fp _ (e.len▸hi)];exact h _ h0
 | cond h h0 ih=>simp only[aV];exact .cond (fun e'=>ih e') h0
 | junk=>simp only[aV];exact .junk
def qP.ws (e:qP ρ m H0 φ0 H φ) (h:fm S φ H w fp (bD ρ r)) (hb:r.aJ m):fm S φ0 H0 w fp r:=by
 cases r with
 | box cs=>
  simp only[bD] at h;obtain⟨b,arr,ty,h1,h2,h3,h4⟩:=h;simp only[R.aJ] at hb;simp only[mz,vU] at h3 h4;exact⟨b,arr,ty,h1,h2,h3,fun j hj=>⟨(h4 j hj).1,e.down (h4 j hj).2 (qi hb j hj)⟩⟩
 | row g k dp l=>
  obtain⟨h1,h2,h3,h4,h5⟩:=h;refine⟨h1,h2,h3,h4,?_⟩;rcases h5 with h5|⟨b,rest,arr,ty,e1,e2,e3,e4⟩
  ·exact .inl h5
  ·refine .inr ⟨b,rest,arr,ty,e1,e2,e3,?_⟩;cases dp with
   | fz=>exact e4
   | own hs=>
    rw[IR] at e4;obtain⟨F,f1,f2,f3⟩:=e4;refine⟨F,f1,fun h hm=>f2 (h.1,h.2.1,aV ρ h.2.2) (List.mem_map.2 ⟨h,hm,rfl⟩),fun j hj=>?_⟩;have hc:=f3 j hj;rw[FY] at hc;generalize ho:cy k hs j=o at hc;cases o with
    | none=>exact hc
    | some x=>exact⟨hc.1,hc.2.1,hc.2.2.1,e.down hc.2.2.2 (FB (DP.oZ hb) ho)⟩
 | map es=>exact h
 | val x=>trivial
 | dead g=>trivial
def qP.Qi (e:qP ρ m H0 φ0 H φ) (h:fm S φ0 H0 w fp r):fm S φ H w fp (bD ρ r):=by
 cases r with
 | box cs=>
  obtain⟨b,arr,ty,h1,h2,h3,h4⟩:=h;exact⟨b,arr,ty,h1,h2,by rw[mz];exact h3,fun j hj=>⟨(h4 j (by rwa [mz] at hj)).1,by rw[vU];exact e.up (h4 j (by rwa [mz] at hj)).2⟩⟩
 | row g k dp l=>
  obtain⟨h1,h2,h3,h4,h5⟩:=h;refine⟨h1,h2,h3,h4,?_⟩;rcases h5 with h5|⟨b,rest,arr,ty,e1,e2,e3,e4⟩
  ·exact .inl h5
  ·refine .inr ⟨b,rest,arr,ty,e1,e2,e3,?_⟩;cases dp with
   | fz=>exact e4
   | own hs=>
    rw[IR];obtain⟨F,f1,f2,f3⟩:=e4;refine⟨F,f1,fun h hm=>?_,fun j hj=>?_⟩
    ·obtain⟨h',hm',rfl⟩:=List.mem_map.1 hm;exact f2 h' hm'
    ·have hc:=f3 j hj;rw[FY];generalize cy k hs j=o at hc;cases o with
     | none=>exact hc
     | some x=>exact⟨hc.1,hc.2.1,hc.2.2.1,e.up hc.2.2.2⟩
 | map es=>exact h
 | val x=>trivial
 | dead g=>trivial
def ck (is:ZC) (N:Nat) (j:Nat):Nat:=if j<is.length then is.getD j 0 else N+(j-is.length)
def cd {α : Type}:ZC->List α->List α->List α
 | i::is,r::rs,l=>cd is rs (l.set i r)
 | _,rs,l=>l++rs
def FV {α : Type} : ∀ (is:ZC) (rs l:List α),is.length<=rs.length->(cd is rs l).length=l.length+(rs.length-is.length)
 | [],rs,l,_=>by simp[cd]
 | i::is,[],l,h=>by simp at h
 | i::is,r::rs,l,h=>by
  simp only[cd];rw[FV is rs _ (by simpa using h)];simp
def DF {α : Type} : ∀ (is:ZC) (rs l:List α) (i:Nat),is.length<=rs.length->i<l.length->i∉is->(cd is rs l)[i]?=l[i]?
 | [],rs,l,i,_,hi,_=>by simp only[cd];rw[List.getElem?_append_left hi]
 | i0::is,[],l,i,h,_,_=>by simp at h
 | i0::is,r::rs,l,i,h,hi,hn=>by
  simp only[cd];rw[DF is rs _ i (by simpa using h) (by simpa using hi) (fun hm=>hn (fX _ hm))];have:i0≠i:=fun e=>hn (by simp[e])
  simp[List.getElem?_set,this]
def DN {α : Type} : ∀ (is:ZC) (rs l:List α) (j:Nat),is.Nodup->(∀ i∈is,i<l.length)->is.length<=rs.length->j<rs.length->(cd is rs l)[ck is l.length j]?=rs[j]?
 | [],rs,l,j,_,_,_,hj=>by
  simp only[cd,ck,kr,Nat.not_lt_zero,if_false,Nat.sub_zero];rw[List.getElem?_append_right (by omega)];congr 1;omega
 | i0::is,[],l,j,_,_,h,_=>by simp at h
 | i0::is,r::rs,l,0,hnd,hlt,h,hj=>by
  have hi0:=hlt i0 (by simp);have hni:=(List.nodup_cons.1 hnd).1;simp only[cd,ck,eD,Nat.zero_lt_succ,if_true];show(cd is rs (l.set i0 r))[i0]?=some r
  rw[DF is rs _ i0 (by simpa using h) (by simpa using hi0) hni];simp[hi0]
 | i0::is,r::rs,l,j+1,hnd,hlt,h,hj=>by
  have:=DN is rs (l.set i0 r) j (List.nodup_cons.1 hnd).2 (fun i hi=>by simpa using hlt i (by simp[hi])) (by simpa using h) (by simpa using hj);simp only[cd];have e:ck (i0::is) l.length (j+1)=ck is (l.set i0 r).length j:=by
   simp only[ck,eD,gh];by_cases hj2:j<is.length
   ·rw[if_pos (by omega),if_pos hj2];simp[List.getD]
   ·rw[if_neg (by omega),if_neg hj2];omega
  rw[e,this];simp
def On (is:ZC) (N M i:Nat) (hi:i<N+(M-is.length)) (hm:is.length<=M):(∃ j,j<M/\i=ck is N j)∨(i<N/\i∉is):=by
 by_cases h1:i∈is
 ·obtain⟨j,hj,rfl⟩:=gJ h1;exact .inl ⟨j,by omega,by simp[ck,hj]⟩
 ·by_cases h2:i<N
  ·exact .inr ⟨h2,h1⟩
  ·exact .inl ⟨is.length+(i-N),by omega,by unfold ck;rw[if_neg (by omega)];omega⟩
def Jj {is:ZC}{N:Nat}(hnd:is.Nodup) (hlt : ∀ i∈is,i<N) {j':Nat}(h:ck is N j=ck is N j'):j=j':=by
 have hmem : ∀ j,j<is.length->is.getD j 0∈is:=fun j hj=>by simp[List.getD,hj]
 unfold ck at h;split at h
 ·rename_i h1;split at h
  ·rename_i h2;have e1:is.getD j 0=is[j]:=by simp[List.getD,h1]
   have e2:is.getD j' 0=is[j']:=by simp[List.getD,h2]
   rw[e1,e2] at h;exact(List.getElem?_inj h1 hnd).1 (by rw[List.getElem?_eq_getElem h1,List.getElem?_eq_getElem h2,h])
  ·have:=hlt _ (hmem j h1);omega
 ·split at h
  ·rename_i h2;have:=hlt _ (hmem j' h2);omega
  ·omega
def Fm {l l':List α}{i:Nat}(z : α) (h:l[i]?=l'[j]?):l.getD i z=l'.getD j z:=by simp only[List.getD,h]
def aA.frame {P:Program}{f:Nat}{args:ZE}{H0:ZF}{Po:I->ZF->Prop}(h:aA P f args H0 Po) (is:ZC) (hnd:is.Nodup) (hlen:is.length=H0.length) {H:ZF}(hlt : ∀ i∈is,i<H.length)
  (hH : ∀ j,j<H0.length->H.getD (ck is H.length j) (.dead 0)=bD (ck is H.length) (H0.getD j (.dead 0))) (ha : ∀ x∈args,x.aJ H0.length) (hb : ∀ r∈H0,r.aJ H0.length) :
  aA P f (args.map (aV (ck is H.length))) H (fun r' H''=>∃ r H',Po r H'/\r'=aV (ck is H.length) r/\H''=cd is (H'.map (bD (ck is H.length))) H):=by
 refine⟨h.1,?_⟩;intro S φ vs w Rr s hvl hv hr;have hmem : ∀ j,j<is.length->is.getD j 0∈is:=fun j hj=>by simp[List.getD,hj]
 have hrlt : ∀ j,j<H0.length->ck is H.length j=is.getD j 0/\ck is H.length j<H.length:=by
  intro j hj;have:ck is H.length j=is.getD j 0:=by unfold ck;rw[if_pos (by omega)]
  exact⟨this,this▸hlt _ (hmem j (by omega))⟩
 have e0:qP (ck is H.length) H0.length H0 (is.map fun i=>φ.getD i []) H φ:=by
  refine⟨rfl,fun j hj=>(hrlt j hj).2,hH,fun j hj=>?_⟩;rw[(hrlt j hj).1];simp[List.getD,show j<is.length by omega]
 have fp0 : ∀ j,j<H0.length->(is.map fun i=>φ.getD i []).getD j [] = φ.getD (ck is H.length j) []:=fun j hj=>(e0.fp j hj).symm
 have fpo : ∀ j,¬ j<H0.length->(is.map fun i=>φ.getD i []).getD j []=[]:=fun j hj=>by
  rw[List.getD,List.getElem?_eq_none (by simp;omega)];rfl
 have foot0 : ∀ b,aU (is.map fun i=>φ.getD i []) b->∃ i,i∈is/\b∈φ.getD i []:=by
  rintro b ⟨j,hj⟩;by_cases hj2:j<H0.length
  ·rw[fp0 j hj2,(hrlt j hj2).1] at hj;exact⟨_,hmem j (by omega),hj⟩
  ·rw[fpo j hj2] at hj;simp at hj
 have foot0' : ∀ b,aU (is.map fun i=>φ.getD i []) b->aU φ b:=fun b hb=>let ⟨i,_,h⟩:=foot0 b hb;⟨i,h⟩
 have s0:aQ S (is.map fun i=>φ.getD i []) H0 w:=by
  refine⟨by simp[hlen],?_,?_,fun b hb=>s.lt b (foot0' b hb),fun b hb=>s.off b (foot0' b hb),s.slt,?_⟩
  ·intro j;by_cases hj:j<H0.length
   ·rw[fp0 j hj];exact s.nd _
   ·rw[fpo j hj];simp
  ·intro i j b hi hj;by_cases bJ:i<H0.length
   ·by_cases hj2:j<H0.length
    ·rw[fp0 _ bJ] at hi;rw[fp0 _ hj2] at hj;exact Jj hnd hlt (s.dj _ _ b hi hj)
    ·rw[fpo j hj2] at hj;simp at hj
   ·rw[fpo i bJ] at hi;simp at hi
  ·intro j r hj;obtain⟨hj2,hje⟩:=nU (.dead 0) hj;have:=s.rel _ _ (getD_some (.dead 0) (hrlt j hj2).2);rw[hH j hj2,hje] at this;rw[fp0 j hj2];exact e0.ws this (hb r (List.mem_of_getElem? hj))
 have hmap : ∀ j,j<args.length->(args.map (aV (ck is H.length))).getD j .junk=aV (ck is H.length) (args.getD j .junk):=by
  intro j hj;simp[List.getD,hj]
 refine h.2 S (is.map fun i=>φ.getD i []) vs w Rr s0 (by simpa using hvl) (fun j hj=>?_) ?_
 ·have:=hv j (by simpa using hj);rw[hmap j hj] at this;exact e0.down this (ha _ (by simp[List.getD,hj]))
 intro v w' S' φ' r H' s' hvr he ht hpo;have hle:is.length<=φ'.length:=by rw[s'.len,hlen];exact ht.len
 have hle':is.length<=(H'.map (bD (ck is H.length))).length:=by simp;rw[hlen];exact ht.len
 have hφl : φ.length=H.length:=s.len;have hltφ : ∀ i∈is,i < φ.length:=fun i hi=>by rw[hφl];exact hlt i hi
 have gH : ∀ j,j<H'.length->(cd is (H'.map (bD (ck is H.length))) H)[ck is H.length j]?=some (bD (ck is H.length) (H'.getD j (.dead 0))):=by
  intro j hj;rw[DN is _ H j hnd hlt hle' (by simpa using hj)];simp[List.getD,hj]
 have gφ : ∀ j,j<H'.length->(cd is φ' φ).getD (ck is H.length j) [] = φ'.getD j []:=by
  intro j hj;have:=DN is φ' φ j hnd hltφ hle (by rw[s'.len];exact hj);rw[hφl] at this;exact Fm _ this
 have oH : ∀ i,i<H.length->i∉is->(cd is (H'.map (bD (ck is H.length))) H)[i]?=H[i]?:=fun i hi hn=>DF is _ H i hle' hi hn
 have oφ : ∀ i,i<H.length->i∉is->(cd is φ' φ).getD i [] = φ.getD i []:=fun i hi hn=>Fm _ (DF is φ' φ i hle (by rw[hφl];exact hi) hn)
 have lH:(cd is (H'.map (bD (ck is H.length))) H).length=H.length+(H'.length-is.length):=by rw[FV _ _ _ hle'];simp
 have lφ : (cd is φ' φ).length=H.length+(H'.length-is.length):=by rw[FV _ _ _ hle,s'.len,hφl]
 have cases' : ∀ i,i<H.length+(H'.length-is.length)->(∃ j,j<H'.length/\i=ck is H.length j)∨(i<H.length/\i∉is):=fun i hi=>On is H.length H'.length i hi (by simpa using hle')
 have fpbig : ∀ i b,b∈(cd is φ' φ).getD i []->i<H.length+(H'.length-is.length):=by
  intro i b hb;by_cases hi:i<(cd is φ' φ).length
  ·rw[lφ] at hi;exact hi
  ·rw[List.getD,List.getElem?_eq_none (by omega)] at hb;simp at hb
 have e1:qP (ck is H.length) H'.length H' φ' (cd is (H'.map (bD (ck is H.length))) H) (cd is φ' φ):=by
  refine⟨rfl,fun j hj=>?_,fun j hj=>(nU _ (gH j hj)).2,fun j hj=>gφ j hj⟩;exact(List.getElem?_eq_some_iff.1 (gH j hj)).1
 have offother : ∀ i b,i<H.length->i∉is->b∈φ.getD i []->¬ aU (is.map fun i=>φ.getD i []) b:=by
  intro i b hi hn hb hf;obtain⟨i',hi',hb'⟩:=foot0 b hf;exact hn (s.dj i i' b hb hb'▸hi')
 have keepo : ∀ i b,i<H.length->i∉is->b∈φ.getD i []->w'.heap[b]?=w.heap[b]?:=fun i b hi hn hb=>he.bf b (s.lt b ⟨i,hb⟩) (offother i b hi hn hb)
 have footc : ∀ b,aU (cd is φ' φ) b->aU φ' b∨∃ i,i<H.length/\i∉is/\b∈φ.getD i []:=by
  rintro b ⟨i,hb⟩;rcases cases' i (fpbig i b hb) with⟨j,hj,rfl⟩|⟨hi,hn⟩
  ·rw[gφ j hj] at hb;exact .inl ⟨j,hb⟩
  ·rw[oφ i hi hn] at hb;exact .inr ⟨i,hi,hn,hb⟩
 have sepo : ∀ i b,i<H.length->i∉is->b∈φ.getD i []->¬ aU φ' b:=by
  intro i b hi hn hb hf;rcases he.fp b hf with h1|h1
  ·exact offother i b hi hn hb h1
  ·have:=s.lt b ⟨i,hb⟩;omega
 have tr:Tr H.length S φ H w S' (cd is φ' φ) (cd is (H'.map (bD (ck is H.length))) H) w':=by
  have split : ∀ i,i<H.length->(∃ j,j<H0.length/\i=ck is H.length j)∨i∉is:=by
   intro i hi;by_cases hm:i∈is
   ·obtain⟨j,hj,rfl⟩:=gJ hm;exact .inl ⟨j,by omega,by simp[ck,hj]⟩
   ·exact .inr hm
  have hH0 : ∀ j,j<H0.length->H[ck is H.length j]?=some (bD (ck is H.length) (H0.getD j (.dead 0))):=fun j hj=>by rw[getD_some (.dead 0) (hrlt j hj).2,hH j hj]
  have hl0:H0.length<=H'.length:=ht.len;refine⟨he.sub,ht.bf,aD _,by rw[lH];omega,?_,?_,?_,?_,?_⟩
  ·intro i hi;rcases split i hi with⟨j,hj,rfl⟩|hn
   ·rw[hH j hj,(nU (.dead 0) (gH j (by omega))).2];have:=ht.gen j hj;generalize H0.getD j (.dead 0)=a at this;generalize H'.getD j (.dead 0)=b at this;cases a <;> cases b <;> simpa only[bD,R.gen] using this
   ·rw[Fm (.dead 0) (oH i hi hn)];exact aD _
  ·intro i g k dp' l' hi hl';rcases split i hi with⟨j,hj,rfl⟩|hn
   ·rw[gH j (by omega)] at hl';have hrow : ∃ dp0,H'[j]?=some (.row g k dp0 l'):=by
     rw[getD_some (.dead 0) (show j<H'.length by omega)];generalize H'.getD j (.dead 0)=b at hl';cases b <;> simp only[bD,aE,R.row.injEq,reduceCtorEq] at hl'
     obtain⟨rfl,rfl,_,rfl⟩:=hl';exact⟨_,rfl⟩
    obtain⟨dp0,hrow⟩:=hrow;rcases ht.row j g k dp0 l' hj hrow with h1|⟨dp,l,h1,h2,h3,h4⟩
    ·left;rw[hH j hj];generalize H0.getD j (.dead 0)=a at h1;cases a <;> simpa only[bD,R.gen] using h1
    ·right;refine⟨rG (ck is H.length) dp,l,?_,?_,h3,?_⟩
     ·rw[hH0 j hj,(nU (.dead 0) h1).2];rfl
     ·rw[gφ j (by omega),h2,fp0 j hj]
     ·rw[<-fp0 j hj];exact h4
   ·rw[oH i hi hn] at hl';exact .inr ⟨dp',l',hl',by rw[oφ i hi hn],aD _,fun b rest arr ty e1 e2=>⟨arr,ty,by rw[keepo i b hi hn (by rw[e1];simp)];exact e2,aD _⟩⟩
  ·intro i cs' hi hl';rcases split i hi with⟨j,hj,rfl⟩|hn
   ·rw[gH j (by omega)] at hl';have hroot : ∃ cs0,H'[j]?=some (.box cs0):=by
     rw[getD_some (.dead 0) (show j<H'.length by omega)];generalize H'.getD j (.dead 0)=b at hl';cases b <;> simp only[bD,aE,reduceCtorEq] at hl'
     exact⟨_,rfl⟩
    obtain⟨cs0,h0⟩:=hroot;obtain⟨cs,h1,h2⟩:=ht.box j cs0 hj h0;exact⟨eT _ cs,by rw[hH0 j hj,(nU (.dead 0) h1).2];rfl,by rw[gφ j (by omega),h2,fp0 j hj]⟩
   ·rw[oH i hi hn] at hl';exact⟨cs',hl',oφ i hi hn⟩
  ·intro i es' hi hl';rcases split i hi with⟨j,hj,rfl⟩|hn
   ·rw[gH j (by omega)] at hl';have hroot : ∃ cs0,H'[j]?=some (.map cs0):=by
     rw[getD_some (.dead 0) (show j<H'.length by omega)];generalize H'.getD j (.dead 0)=b at hl';cases b <;> simp only[bD,aE,reduceCtorEq] at hl'
     exact⟨_,rfl⟩
    obtain⟨cs0,h0⟩:=hroot;obtain⟨cs,h1,h2⟩:=ht.map j cs0 hj h0;exact⟨cs,by rw[hH0 j hj,(nU (.dead 0) h1).2];rfl,by rw[gφ j (by omega),h2,fp0 j hj]⟩
   ·rw[oH i hi hn] at hl';exact⟨es',hl',oφ i hi hn⟩
  ·intro i x hi hl';rcases split i hi with⟨j,hj,rfl⟩|hn
   ·rw[gH j (by omega)] at hl';have hroot:H'[j]?=some (.val x):=by
     rw[getD_some (.dead 0) (show j<H'.length by omega)];generalize H'.getD j (.dead 0)=b at hl';cases b <;> simp only[bD,aE,reduceCtorEq] at hl'
     rw[hl']
    obtain⟨h1,h2,h3⟩:=ht.val j x hj hroot;exact⟨by rw[hH0 j hj,(nU (.dead 0) h1).2];rfl,by rw[gφ j (by omega),h2,fp0 j hj],by rw[<-fp0 j hj];exact h3⟩
   ·rw[oH i hi hn] at hl';exact⟨hl',oφ i hi hn,fun b hb=>keepo i b hi hn hb⟩
 refine hr v w' S' (cd is φ' φ) _ _ ⟨by rw[lφ,lH],?_,?_,?_,?_,s'.slt,?_⟩ (e1.up hvr) ?_ tr ⟨r,H',hpo,rfl,rfl⟩
 ·intro i;by_cases hi:i<H.length+(H'.length-is.length)
  ·rcases cases' i hi with⟨j,hj,rfl⟩|⟨hi,hn⟩
   ·rw[gφ j hj];exact s'.nd j
   ·rw[oφ i hi hn];exact s.nd i
  ·rw[List.getD,List.getElem?_eq_none (by omega)];simp
 ·intro i j b hi hj;rcases cases' i (fpbig i b hi) with⟨i',hi',rfl⟩|⟨hi',hn⟩
  ·rw[gφ i' hi'] at hi;rcases cases' j (fpbig j b hj) with⟨j',hj',rfl⟩|⟨hj',hn'⟩
   ·rw[gφ j' hj'] at hj;rw[s'.dj i' j' b hi hj]
   ·rw[oφ j hj' hn'] at hj;exact absurd ⟨i',hi⟩ (sepo j b hj' hn' hj)
  ·rw[oφ i hi' hn] at hi;rcases cases' j (fpbig j b hj) with⟨j',hj',rfl⟩|⟨hj',hn'⟩
   ·rw[gφ j' hj'] at hj;exact absurd ⟨j',hj⟩ (sepo i b hi' hn hi)
   ·rw[oφ j hj' hn'] at hj;exact s.dj i j b hi hj
 ·intro b hb;rcases footc b hb with h1|⟨i,hi,hn,h1⟩
  ·exact s'.lt b h1
  ·exact iA (s.lt b ⟨i,h1⟩) he.size
 ·intro b hb hS;rcases footc b hb with h1|⟨i,hi,hn,h1⟩
  ·exact s'.off b h1 hS
  ·rcases he.sfp b hS with h2|h2|h2
   ·exact s.off b ⟨i,h1⟩ h2
   ·exact offother i b hi hn h1 h2
   ·have:=s.lt b ⟨i,h1⟩;omega
 ·intro i r0 hr0;have hi:=(List.getElem?_eq_some_iff.1 hr0).1;rw[lH] at hi;rcases cases' i hi with⟨j,hj,rfl⟩|⟨hi,hn⟩
  ·rw[gH j hj] at hr0;simp only[aE] at hr0;subst hr0;rw[gφ j hj];exact e1.Qi (s'.rel j _ (getD_some (.dead 0) hj))
  ·rw[oH i hi hn] at hr0;rw[oφ i hi hn];exact(s.rel i r0 hr0).tr tr fun b hb=>keepo i b hi hn hb
 ·refine⟨he.os,he.tape,he.output,he.size,fun b hb hf=>he.bf b hb fun h1=>hf (foot0' b h1),?_,he.sub,?_⟩
  ·intro b hb;rcases footc b hb with h1|⟨i,hi,hn,h1⟩
   ·exact(he.fp b h1).imp (foot0' b) id
   ·exact .inl ⟨i,h1⟩
  ·intro b hb;rcases he.sfp b hb with h2|h2|h2
   ·exact .inl h2
   ·exact .inr (.inl (foot0' b h2))
   ·exact .inr (.inr h2)
end Go.VL
namespace Go.VL
variable {r0:I}{H1 H0 rs:ZF}{K Po:I->ZF->Prop}{cs args args0:ZE}{f nt i g N:Nat}{fn:Func}{c:Code}{is:ZC}{x:D}{l:ZD}{α:Type}
variable {E:Env}{P:Program}{S:Nat->Prop}{φ : List ZC}{H:ZF}{w:World}{n:Nat}{fr:Fr}
def pM (P:Program) (f:Nat) (args:ZE) (H:ZF) (r0:I) (H1:ZF):Prop:=aA P f args H (fun r H'=>r=r0/\H'=H1)
def nD (n:Nat) (r:I) (H:ZF) (r0:I) (H1:ZF):Prop:=cZ (fD H1.length H) r r0/\n<=H1.length/\lU H H1/\r0.aJ H1.length/\jO H1.length H1
@[go_sem] def zoV {r:I}:nD n r H r0 H1=(cZ (fD H1.length H) r r0/\n<=H1.length/\lU H H1/\r0.aJ H1.length/\jO H1.length H1):=rfl
@[go_sem] def zoW {K:ZF}{xs:ZE}{y:I}:cZ K (.tup xs) y=fK K (.tup xs) y:=xm nofun
@[go_sem] def U1 {m:Nat}:(I.tup cs).aJ m=mD m cs:=by simp only[I.aJ]
attribute [go_sem] I.tup.injEq
def Q8 {E:Env}(hT:bQ E.P E.T) {H:ZF}(hn:E.n=H.length) (fuel:Nat) (hf:E.P.funcs[f]?=some fn) (hb:fn.body=some c)
  (hnm : (fn.name == "runtime.NumGoroutine") = false) (hnt : fn.ntmps = nt) (hl : args.length <= nt)
  (h:cw E fuel c [] (endsWith E.T fn (fun fr r H'=>∃ r0 H1,nD H.length r H' r0 H1/\Po r0 H1)) ⟨nt,jF 0 args⟩ H):aA E.P f args H Po:=by
 subst hnt;refine Lu hT hf hb hnm hl ?_;have:=rp hT fuel h;rw[hn] at this;refine Ab this ?_;have fin : ∀ (fr':Fr) (r:I) (H':ZF),(∃ r0 H1,nD H.length r H' r0 H1/\Po r0 H1)->∃ fr'' H'',a8 H.length (⟨1,[(0,r)]⟩:Fr) H' fr'' H''/\fr''.n=1/\Po (fr''.get 0) H'':=by
  rintro fr' r H' ⟨r0,H1,⟨h1,h2,h3,h4,h5⟩,hpo⟩;refine⟨⟨1,[(0,r0)]⟩,H1,CP ⟨rfl,h2,⟨?_,trivial⟩,h3,⟨h4,trivial⟩,h5⟩,rfl,?_⟩
  ·show cZ _ (look 0 [(0,r)]) r0
   simpa [look] using h1
  ·show Po (look 0 [(0,r0)]) H1
   simpa [look] using hpo
 intro e fr' H' hq;cases e with
 | normal=>
  simp only[endsWith] at hq ⊢;cases hr:fl E.T H' fr' fn.results.toList with
  | none=>simp only[hr] at hq
  | some r=>simp only[hr] at hq;exact⟨hq.1,fin fr' r.2 H' hq.2⟩
 | ret=>
  simp only[endsWith] at hq ⊢;cases hr:fl E.T H' fr' fn.results.toList with
  | none=>simp only[hr] at hq
  | some r=>simp only[hr] at hq;exact⟨hq.1,fin fr' r.2 H' hq.2⟩
 | exit id=>exact hq.elim
 | goto l=>exact hq.elim
 | panic ch=>exact hq.elim
 | outgrown=>exact hq.elim
def Gx {E:Env}(hT:bQ E.P E.T) {H:ZF}(hn:E.n=H.length) (fuel:Nat) (hf:E.P.funcs[f]?=some fn) (hb:fn.body=some c)
  (hnm : (fn.name == "runtime.NumGoroutine") = false) (hnt : fn.ntmps = nt) (hl : args.length <= nt)
  (h:cw E fuel c [] (endsWith E.T fn (fun fr r H'=>nD H.length r H' r0 H1)) ⟨nt,jF 0 args⟩ H):pM E.P f args H r0 H1:=by
 refine Q8 hT hn fuel hf hb hnm hnt hl ?_;have:(fun(fr:Fr) (r:I) (H':ZF)=>nD H.length r H' r0 H1)=(fun fr r H'=>∃ r0' H1',nD H.length r H' r0' H1'/\r0'=r0/\H1'=H1):=by
  funext fr r H'
  exact propext ⟨fun h=>⟨r0,H1,h,rfl,rfl⟩,fun⟨_,_,h,e1,e2⟩=>by rw[e1,e2] at h;exact h⟩
 rw[this] at h;exact h
def uE (ρ : Nat->Nat) (H:ZF):ZC->ZF->Prop
 | i::is,r::rs=>bE H i=some (bD ρ r)/\uE ρ H is rs
 | [],_=>True
 | _::_,[]=>True
def Ik {ρ : Nat->Nat}{H:ZF} : ∀ {is:ZC}{rs:ZF},uE ρ H is rs->is.length=rs.length->∀ j,j<is.length->H[is.getD j 0]?=some (bD ρ (rs.getD j (.dead 0)))
 | [],_,_,_,j,hj=>by simp at hj
 | i::is,[],_,h,j,_=>by simp at h
 | i::is,r::rs,h,hl,0,_=>by simpa [<-gp] using h.1
 | i::is,r::rs,h,hl,j+1,hj=>by simpa using Ik h.2 (by simpa using hl) j (by simpa using hj)
def rm (is:ZC) (args args0:ZE) (H H0:ZF):Prop:=
 is.Nodup/\is.length=H0.length/\args=args0.map (aV (ck is H.length))/\uE (ck is H.length) H is H0/\mD H0.length args0/\jO H0.length H0
@[go_sem] def zoY {H:ZF}:rm is args args0 H H0 =
 (is.Nodup/\is.length=H0.length/\args=args0.map (aV (ck is H.length))/\uE (ck is H.length) H is H0/\mD H0.length args0/\jO H0.length H0):=rfl
@[go_sem] def zoZ {ρ : Nat->Nat}{H:ZF}:uE ρ H [] rs=True:=by simp only[uE]
@[go_sem] def qu7 {ρ : Nat->Nat}{H:ZF}{r:R}:uE ρ H (i::is) (r::rs)=(bE H i=some (bD ρ r)/\uE ρ H is rs):=by simp only[uE]
attribute [go_sem] aE
def c7 (h:aA P f args0 H0 Po) (is:ZC) {H:ZF}(hc:rm is args args0 H H0)
  (hk : ∀ r0 H1,Po r0 H1->K (aV (ck is H.length) r0) (cd is (H1.map (bD (ck is H.length))) H)):aA P f args H K:=by
 obtain⟨h1,h2,rfl,h5,h6,h7⟩:=hc;have hg:=Ik h5 h2;refine(aA.frame h is h1 h2 ?_ ?_ ?_ ?_).mono ?_
 ·intro i hi;obtain⟨j,hj,rfl⟩:=gJ hi;have:=(List.getElem?_eq_some_iff.1 (hg j hj)).1;simpa [List.getD,hj] using this
 ·intro j hj;have e:ck is H.length j=is.getD j 0:=by unfold ck;rw[if_pos (by omega)]
  have:=(nU (.dead 0) (hg j (by omega))).2;rw[e];exact this
 ·intro x hx;obtain⟨j,hj,rfl⟩:=gJ hx;have:=qi h6 j hj;simpa [List.getD,hj] using this
 ·intro r hr;obtain⟨j,hj,rfl⟩:=gJ hr;exact AL h7 j _ (List.getElem?_eq_getElem hj)
 rintro r H' ⟨r',H'',hp,rfl,rfl⟩;exact hk _ _ hp
def CR (h:pM P f args0 H0 r0 H1) (is:ZC) {H:ZF}(hc:rm is args args0 H H0)
  (hk:K (aV (ck is H.length) r0) (cd is (H1.map (bD (ck is H.length))) H)):aA P f args H K:=
 c7 h is hc fun r H' hp=>by obtain⟨rfl,rfl⟩:=hp;exact hk
section rules
variable {ρ : Nat->Nat}
@[go_sem] def X7:aV ρ (.d x)=.d x:=by simp only[aV]
@[go_sem] def zpb {k lo n:Nat}:aV ρ (.sl i g k lo n)=.sl (ρ i) g k lo n:=by simp only[aV]
@[go_sem] def zpc {off:Nat}:aV ρ (.ptr i off)=.ptr (ρ i) off:=by simp only[aV]
@[go_sem] def WH:aV ρ (.map i)=.map (ρ i):=by simp only[aV]
@[go_sem] def zpe:aV ρ (.agg cs)=.agg (eT ρ cs):=by simp only[aV]
@[go_sem] def SR:aV ρ (.tup cs)=.tup (eT ρ cs):=by simp only[aV]
@[go_sem] def ZS:eT ρ []=[]:=rfl
@[go_sem] def zph {x:I}{r:ZE}:eT ρ (x::r)=aV ρ x::eT ρ r:=by simp only[eT]
@[go_sem] def zpi:bD ρ (.box cs)=.box (eT ρ cs):=by simp only[bD]
@[go_sem] def YR {k:Nat}:bD ρ (.row g k (.own []) l)=.row g k (.own []) l:=rfl
@[go_sem] def zpk {k:Nat}:bD ρ (.row g k .fz l)=.row g k .fz l:=rfl
@[go_sem] def Za {l:List (D×D)}:bD ρ (.map l)=.map l:=by simp only[bD]
@[go_sem] def zpm {rs l:List α}:cd [] rs l=l++rs:=by simp only[cd]
@[go_sem] def zpn {r : α}{rs l:List α}:cd (i::is) (r::rs) l=cd is rs (l.set i r):=by simp only[cd]
@[go_sem] def zpo {j:Nat}:ck is N j=if j<is.length then is.getD j 0 else N+(j-is.length):=rfl
end rules
mutual
def bS:D->Nat->I×ZF
 | .lst k l,N=>(.sl N 0 k 0 l.length,[.row 0 k (.own []) l])
 | .agg cs,N=>(.agg (dG cs N).1,(dG cs N).2)
 | .tup cs,N=>(.tup (dG cs N).1,(dG cs N).2)
 | x,N=>(.d x,[])
def dG:ZD->Nat->ZE×ZF
 | [],N=>([],[])
 | x::r,N=>((bS x N).1::(dG r (N+(bS x N).2.length)).1,(bS x N).2++(dG r (N+(bS x N).2.length)).2)
end
def aQ.vB (s:aQ S φ H w) {r':R}{fp':ZC}(hnd:fp'.Nodup) (hnew : ∀ b∈fp',¬ aU φ b/\¬ S b/\b<w.heap.size)
  (hr:Tr H.length S φ H w S (φ ++ [fp']) (H ++ [r']) w->fm S (φ ++ [fp']) (H ++ [r']) w fp' r') :
  aQ S (φ ++ [fp']) (H ++ [r']) w/\Tr H.length S φ H w S (φ ++ [fp']) (H ++ [r']) w/\∀ b,aU (φ ++ [fp']) b->aU φ b∨b∈fp':=by
 have hget : ∀ j,(φ ++ [fp']).getD j []=if j=H.length then fp' else φ.getD j []:=by
  intro j;rw[BR,s.len]
 have hH : ∀ j,j<H.length->(H ++ [r'])[j]?=H[j]?:=fun j hj=>by simp[List.getElem?_append,hj]
 have htr:Tr H.length S φ H w S (φ ++ [fp']) (H ++ [r']) w:=by
  refine⟨fun _ h=>h,fun _ _=>rfl,aD _,by simp,?_,?_,?_,?_,?_⟩
  ·intro j hj;simp only[List.getD,hH j hj];exact aD _
  ·intro j g k dp' l' hj hl';rw[hH j hj] at hl';exact .inr ⟨dp',l',hl',by rw[hget,if_neg (Nat.ne_of_lt hj)],aD _,fun b rest arr ty e1 e2=>⟨arr,ty,e2,aD _⟩⟩
  ·intro j cs' hj hl';rw[hH j hj] at hl';exact⟨cs',hl',by rw[hget,if_neg (Nat.ne_of_lt hj)]⟩
  ·intro j cs' hj hl';rw[hH j hj] at hl';exact⟨cs',hl',by rw[hget,if_neg (Nat.ne_of_lt hj)]⟩
  ·intro j x hj hl';rw[hH j hj] at hl';exact⟨hl',by rw[hget,if_neg (Nat.ne_of_lt hj)],fun b hb=>rfl⟩
 have hfoot : ∀ b,aU (φ ++ [fp']) b->aU φ b∨b∈fp':=by
  rintro b ⟨j,hj⟩;rw[hget] at hj;by_cases h:j=H.length
  ·rw[if_pos h] at hj;exact .inr hj
  ·rw[if_neg h] at hj;exact .inl ⟨j,hj⟩
 refine⟨⟨by simp[s.len],?_,?_,?_,?_,s.slt,?_⟩,htr,hfoot⟩
 ·intro j;rw[hget];split
  ·exact hnd
  ·exact s.nd j
 ·intro j j' b hb hb';rw[hget] at hb hb';by_cases h:j=H.length <;> by_cases h':j'=H.length
  ·rw[h,h']
  ·rw[if_pos h] at hb;rw[if_neg h'] at hb';exact absurd ⟨j',hb'⟩ (hnew b hb).1
  ·rw[if_neg h] at hb;rw[if_pos h'] at hb';exact absurd ⟨j,hb⟩ (hnew b hb').1
  ·rw[if_neg h] at hb;rw[if_neg h'] at hb';exact s.dj j j' b hb hb'
 ·intro b hb;rcases hfoot b hb with h1|h1
  ·exact s.lt b h1
  ·exact(hnew b h1).2.2
 ·intro b hb hS;rcases hfoot b hb with h1|h1
  ·exact s.off b h1 hS
  ·exact(hnew b h1).2.1 hS
 ·intro j r hj;rw[hget];by_cases h:j=H.length
  ·subst h;have:r'=r:=by simpa using hj
   subst this;rw[if_pos rfl];exact hr htr
  ·rw[if_neg h];have hlt:j<H.length:=by
    have:=(List.getElem?_eq_some_iff.1 hj).1;simp at this;omega
   rw[hH j hlt] at hj;exact(s.rel j r hj).tr htr fun b hb=>rfl
structure lJ (S:Nat->Prop) (φ : List ZC) (H:ZF) (w:World) (fp:ZC) (rs:ZF) (φ':List ZC):Prop where
 sim:aQ S φ' (H++rs) w
 tr:Tr H.length S φ H w S φ' (H++rs) w
 foot : ∀ b,aU φ' b->aU φ b∨b∈fp
def lJ.nil (s:aQ S φ H w) (fp:ZC):lJ S φ H w fp [] φ:=⟨by simpa using s,by simpa using Tr.refl (aD _),fun b h=>.inl h⟩
mutual
def Lr : ∀ (x:D) {S:Nat->Prop}{φ : List ZC}{H:ZF}{w:World}{v:Value}{fp:ZC},aQ S φ H w->OW w x v fp->fp.Nodup->(∀ b∈fp,¬ aU φ b/\¬ S b)->
  ∃ φ',lJ S φ H w fp (bS x H.length).2 φ'/\V S φ' (H++(bS x H.length).2) w (bS x H.length).1 v
 | .int k n,S,φ,H,w,v,fp,s,ho,hnd,hnew=>⟨φ,lJ.nil s fp,by simpa [bS] using V.d (by cases ho;exact .int (by assumption))⟩
 | .bool b,S,φ,H,w,v,fp,s,ho,hnd,hnew=>⟨φ,lJ.nil s fp,by simpa [bS] using V.d (by cases ho;exact .bool)⟩
 | .raw b,S,φ,H,w,v,fp,s,ho,hnd,hnew=>⟨φ,lJ.nil s fp,by simpa [bS] using V.d (by cases ho;exact .raw (by assumption))⟩
 | .nil,S,φ,H,w,v,fp,s,ho,hnd,hnew=>⟨φ,lJ.nil s fp,by simpa [bS] using V.d (by cases ho;exact .nil)⟩
 | .ptr cs,S,φ,H,w,v,fp,s,ho,hnd,hnew=>by cases ho
 | .fn f cs,S,φ,H,w,v,fp,s,ho,hnd,hnew=>by cases ho
 | .agg cs,S,φ,H,w,v,fp,s,ho,hnd,hnew=>by
  cases ho with
  | @agg _ vs F hl h1 hj=>
   obtain⟨φ',u,e1,e2⟩:=DX cs (g:=fun j=>vs.getD j undef) s hj hnd hnew;refine⟨φ',by simpa only[bS] using u,?_⟩;simp only[bS];refine .agg (e1.trans hl) (fun j hj'=>?_) (fun j hj'=>e2 j (e1▸hj'));exact((hj j (e1▸hj')).fz (S:=fun _=>True) fun _ _=>trivial).one (h1 _ (by simp[List.getD,show j<cs.length from e1▸hj']))
 | .tup cs,S,φ,H,w,v,fp,s,ho,hnd,hnew=>by
  cases ho with
  | @tup _ vs F hl hj=>
   obtain⟨φ',u,e1,e2⟩:=DX cs (g:=fun j=>vs.getD j undef) s hj hnd hnew;refine⟨φ',by simpa only[bS] using u,?_⟩;simp only[bS];exact .tup (e1.trans hl) (fun j hj'=>e2 j (e1▸hj'))
 | .lst k l,S,φ,H,w,v,fp,s,ho,hnd,hnew=>by
  have hlt:=ho.lt;simp only[bS];cases ho with
  | lst0 hk=>
   obtain⟨g1,g2,g3⟩:=s.vB (r':=.row 0 k (.own []) []) (fp':=[]) (by simp) (by simp) (fun _=>⟨hk,by simp,by simp[flat],kM _,.inl ⟨rfl,rfl⟩⟩);refine⟨_,⟨g1,g2,g3⟩,.sl (by simp) (kM _) (fun dp l hl=>?_) rfl⟩;have:(φ ++ [[]]).getD H.length []=[]:=by rw[BR,if_pos s.len.symm]
   rw[this];exact⟨.inl ⟨rfl,rfl,rfl,rfl⟩,by simp⟩
  | @lst _ _ b cap arr ty F hk he h1 hn hcap hlim hb hfit hf=>
   obtain⟨g1,g2,g3⟩:=s.vB (r':=.row 0 k (.own []) l) (fp':=b::(List.range (flat l).length).flatMap F) hnd (fun b' hb'=>⟨(hnew b' hb').1,(hnew b' hb').2,hlt b' hb'⟩)
    (fun _=>⟨hk,he,h1,hlim,.inr ⟨b,_,arr,ty,rfl,hb,g6 (kD _ hn) hfit,⟨F,rfl,by simp,hf⟩⟩⟩)
   refine⟨_,⟨g1,g2,g3⟩,.sl (by simp) (kM _) (fun dp l' hl=>?_) rfl⟩;have e:(φ ++ [b::(List.range (flat l).length).flatMap F]).getD H.length []=b::(List.range (flat l).length).flatMap F:=by rw[BR,if_pos s.len.symm]
   rw[e];simp only[List.getElem?_append_right (aD H.length),Nat.sub_self,List.getElem?_cons_zero,aE,R.row.injEq] at hl;obtain⟨_,_,_,rfl⟩:=hl;exact⟨.inr ⟨b,_,cap,arr,ty,_,rfl,rfl,hn,hcap,hlim,hb,fun _=>⟨by simp,by simpa using hfit⟩⟩,by simp⟩
def DX : ∀ (cs:ZD) {S:Nat->Prop}{φ : List ZC}{H:ZF}{w:World}{g:Nat->Value}{F:Nat->ZC},aQ S φ H w->(∀ j,j<cs.length->OW w (cs.getD j .nil) (g j) (F j))->
  ((List.range cs.length).flatMap F).Nodup->(∀ b∈(List.range cs.length).flatMap F,¬ aU φ b/\¬ S b)->
  ∃ φ',lJ S φ H w ((List.range cs.length).flatMap F) (dG cs H.length).2 φ'/\(dG cs H.length).1.length=cs.length/\∀ j,j<cs.length->V S φ' (H++(dG cs H.length).2) w ((dG cs H.length).1.getD j .junk) (g j)
 | [],S,φ,H,w,g,F,s,ho,hnd,hnew=>⟨φ,lJ.nil s _,by simp[dG],by simp⟩
 | x::r,S,φ,H,w,g,F,s,ho,hnd,hnew=>by
  have hsplit:(List.range (x::r).length).flatMap F=F 0++(List.range r.length).flatMap (fun j=>F (j+1)):=by
   simp[List.range_succ_eq_map,l7,List.flatMap_map]
  rw[hsplit] at hnd hnew;obtain⟨n1,n2,n3⟩:=List.nodup_append.1 hnd;obtain⟨φ1,u1,v1⟩:=Lr x s (by simpa using ho 0 (by simp)) n1 (fun b hb=>hnew b (by simp[hb]));obtain⟨φ2,u2,e2,v2⟩:=DX r (g:=fun j=>g (j+1)) (F:=fun j=>F (j+1)) u1.sim (fun j hj=>by simpa using ho (j+1) (by simpa using hj)) n2 (fun b hb=>by
   refine⟨fun hf=>?_,(hnew b (by rw[gM];exact .inr hb)).2⟩;rcases u1.foot b hf with h|h
   ·exact(hnew b (by rw[gM];exact .inr hb)).1 h
   ·exact n3 b h b hb rfl)
  have eN:H.length+(bS x H.length).2.length=(H++(bS x H.length).2).length:=by simp
  rw[hsplit];simp only[dG];rw[eN,<-fA];refine⟨φ2,⟨by rw[<-fA];exact u2.sim,by rw[<-fA];exact u1.tr.trans (u2.tr.weaken (by simp)),?_⟩,by simpa using e2,?_⟩
  ·intro b hb;rcases u2.foot b hb with h|h
   ·rcases u1.foot b h with h|h
    ·exact .inl h
    ·exact .inr (List.mem_append.2 (.inl h))
   ·exact .inr (List.mem_append.2 (.inr h))
  ·intro j hj;cases j with
   | zero=>simpa using v1.tr u2.tr
   | succ j=>simpa using v2 j (by simpa using hj)
end
def yJ (x:D) (H:ZF):Ke x H (bS x H.length).1 (H++(bS x H.length).2):=by
 intro S φ w w' v fp s ho hnd hnew hg;obtain⟨s1,t1,e1⟩:=yG s hg S (fun b h=>h) (fun b h=>.inl h) (fun b h=>iA (s.slt b h) hg.size);obtain⟨φ',u,hv⟩:=Lr x s1 ho hnd (fun b hb=>⟨fun hf=>by have:=s.lt b hf;have:=hnew b hb;omega,fun hS=>by have:=s.slt b hS;have:=hnew b hb;omega⟩);refine⟨S,φ',u.sim,t1.trans u.tr,⟨hg.os,hg.tape,hg.output,hg.size,fun b hb _=>hg.bf b hb,?_,fun _ h=>h,fun b h=>.inl h⟩,hv⟩;intro b hb;rcases u.foot b hb with h|h
 ·exact .inl h
 ·exact .inr (hnew b h)
def me {ds:ZD}{k:I->ZF->Prop}(h:Pure E.P f ds x) (hk:k (bS x H.length).1 (H++(bS x H.length).2)):zP E f ds H k:=⟨_,h.zv,fun y hy=>by rw[hy];exact .inr ⟨_,_,yJ x H,hk⟩⟩
@[go_sem] def YO {k:Nat}:bS (.lst k l) N=(.sl N 0 k 0 l.length,[.row 0 k (.own []) l]):=by simp only[bS]
@[go_sem] def zpq {k:IntKind}{n:Int}:bS (.int k n) N=(.d (.int k n),[]):=by simp only[bS]
@[go_sem] def zpr {b:Bool}:bS (.bool b) N=(.d (.bool b),[]):=by simp only[bS]
@[go_sem] def V3:bS .nil N=(.d .nil,[]):=by simp only[bS]
@[go_sem] def zpt {cs:ZD}:bS (.agg cs) N=(.agg (dG cs N).1,(dG cs N).2):=by simp only[bS]
@[go_sem] def zpu {cs:ZD}:bS (.tup cs) N=(.tup (dG cs N).1,(dG cs N).2):=by simp only[bS]
@[go_sem] def zpv:dG [] N=([],[]):=by simp only[dG]
@[go_sem] def XJ {r:ZD}:dG (x::r) N=((bS x N).1::(dG r (N+(bS x N).2.length)).1,(bS x N).2++(dG r (N+(bS x N).2.length)).2):=by simp only[dG]
end Go.VL
namespace Go.VL
open Go.WideShapes Go.ChangeShapes
variable {w w':World}
def b9.kept (g:b9 w w') (may:MemPlace->Prop):w.keptBut w' may:=by
 refine⟨g.os,g.output,fun i hi=>?_⟩;rw[g.bf i hi];split
 ·rename_i h1 h2;rw[h1] at h2;simp only[aE,Obj.cells.injEq] at h2;obtain⟨rfl,rfl,rfl⟩:=h2;exact⟨rfl,rfl,rfl,fun _ _=>rfl⟩
 ·rename_i h1 h2;rw[h1] at h2;simp only[aE,Obj.map.injEq] at h2;exact Or.inr ⟨h2.1.symm,h2.2.symm⟩
 ·rfl
def b9.s6 (g:b9 w w') (a:Addr) (ha:a.block<w.heap.size):w'.frozen? a=w.frozen? a:=by
 simp only[World.frozen?,g.bf _ ha]
def R2 {H:Type}{enc:TypeId×Value->H}{P:Program}{f:Func}{s:ChangeSpec}{apart fresh handsOn again:Bool}{W W':World}{args:Array Value}{v:Value}{ds gs:List (DataW H)}{before pa pv:List MemPlace}
  (hW:DataW.Whole enc P f.params.toList s.vars apart W args.toList ds gs before)
  (hres : ∀ (b:Nat) (sp:Nat->Bool) (hd:Bool),DataW.TrodAll enc P W' b sp hd f.resultTypes.toList (v.resultList f.resultTypes.size) (s.fn H (ds++gs)).results [])
  (hargs : ∀ sp:Nat->Bool,(∀ p∈before,sp p.block=true)->DataW.TrodAll enc P W' 0 sp true f.params.toList args.toList (s.fn H (ds++gs)).args pa)
  (hvars : ∀ sp:Nat->Bool,(∀ p∈before,sp p.block=true)->DataW.TrodVars enc P W' sp s.vars (s.fn H (ds++gs)).vars pv)
  (hps:before=pa++pv) (hg:b9 W W')
  (hok : ∀ (j:Nat) (t:TypeId) (r:Value),f.resultTypes[j]?=some t->(v.resultList f.resultTypes.size)[j]?=some r->Value.okWide P W' .any 0 t r) :
  s.post enc P f apart fresh handsOn again W args v W':=by
 have hlt:=fun p hp=>hW.lt p hp
 have hold : ∀ p∈before,(fun b=>decide (b<W.heap.size)) p.block=true:=fun p hp=>by simpa using hW.lt p hp
 refine⟨ds,gs,before,[],pa,pv,hW,hres _ _ _,hargs _ hold,hvars _ hold,World.keptBut_mono (fun p hp=>⟨hp,?_⟩) (hg.kept _),fun _=>?_⟩
 ·rw[hps,gM] at hp;exact Or.inr hp
 ·obtain⟨_,_,_,_,_,hz,hn⟩:=hW;refine⟨hok,_,_,([]++pa)++pv,⟨[]++pa,pv,trodAll_append (hargs _ (fun _ _=>rfl)) (hres _ _ _),hvars _ (fun _ _=>rfl),rfl,?_,?_⟩,?_⟩
  ·intro b off hp;have hm:MemPlace.cell b off∈before:=by rw[hps];simpa using hp
   rw[hg.s6 _ (hlt _ hm)];exact hz b off hm
  ·intro ha;have:=hn ha;rw[hps] at this;simpa using this
  ·intro p hp _;rw[hps];simpa using hp
def yz {k:IntKind}{n:Int}(h:(Lit.int k n).wf=true):cp k n:=by
 simp only[Lit.wf,gO,decide_eq_true_eq] at h;exact h
end Go.VL
namespace Go.VL
open Go.WideShapes Go.ChangeShapes
variable {α:Type}{cs:List Value}{n:Nat}
def known (T:Nat->Option TI):Nat->Nat->Prop
 | 0,_=>False
 | f+1,t=>
  match T t with
  | some ti=>
   match ti.ty with
   | .int _=>True
   | .bool=>True
   | .slice e=>(match T e with|some ei=>0<ei.bytes/\0<ei.size|none=>False)/\known T f e
   | .struct fs=>∀ p∈fs,known T f p.2
   | _=>False
  | none=>False
def n8 (R:Nat->D->Prop):List (Nat×Nat)->ZD->Prop
 | [],[]=>True
 | p::fs,y::ys=>R p.2 y/\n8 R fs ys
 | _,_=>False
def iI (T:Nat->Option TI):Nat->Nat->D->Prop
 | 0,_,_=>False
 | f+1,t,x=>
  match T t with
  | some ti=>
   match ti.ty with
   | .int k=>∃ n,x=.int k n
   | .bool=>∃ b,x=.bool b
   | .slice e=>(match T e with|some ei=>∃ l,x=.lst ei.size l/\∀ y∈l,iI T f e y|none=>False)
   | .struct fs=>∃ ys,x=.agg (ys.flatMap D.cells)/\n8 (iI T f) fs ys
   | _=>False
  | none=>False
structure dS (w:World) (x:D) (cs:List Value):Prop where
 len:x.cells.length=cs.length
 one : ∀ c∈x.cells,c.one=true
 fz : ∀ j,j<cs.length->FZ (fun b=>b<w.heap.size) w (x.cells.getD j .nil) (cs.getD j undef)
structure iC (w:World) (l:ZD) (cs:List Value):Prop where
 len:l.length=cs.length
 one : ∀ c∈l,c.one=true
 fz : ∀ j,j<cs.length->FZ (fun b=>b<w.heap.size) w (l.getD j .nil) (cs.getD j undef)
def dS.single {w:World}{x:D}{v:Value}(h:FZ (fun b=>b<w.heap.size) w x v) (h1:x.one=true):dS w x [v]:=by
 have e:x.cells=[x]:=by cases x <;> first|rfl|simp[D.one] at h1
 refine⟨by rw[e];rfl,by rw[e];simpa using h1,fun j hj=>?_⟩;rw[e];have:j=0:=by simpa using hj
 subst this;exact h
def Ag (l l':List α) (j:Nat) (z : α):(l++l').getD j z=if j<l.length then l.getD j z else l'.getD (j-l.length) z:=by
 simp only[List.getD];by_cases h:j<l.length
 ·rw[if_pos h,List.getElem?_append_left h]
 ·rw[if_neg h,List.getElem?_append_right (by omega)]
def iC.append {w:World}{l l':ZD}{cs':List Value}(h:iC w l cs) (h':iC w l' cs'):iC w (l++l') (cs++cs'):=by
 refine⟨by simp[h.len,h'.len],?_,?_⟩
 ·intro c hc;rcases List.mem_append.1 hc with hc|hc
  ·exact h.one c hc
  ·exact h'.one c hc
 ·intro j hj;rw[Ag,Ag,h.len];split
  ·exact h.fz j (by assumption)
  ·exact h'.fz _ (by simp at hj;omega)
def fM {H:Type}{P:Program}{e:TypeId} : ∀ {l:List (DataW H)}{i:Nat}{d:DataW H},l[i]?=some d->∀ n∈d.weights P e,n∈DataW.weightsAll P e l
 | [],i,d,h,_,_=>by simp at h
 | x::r,0,d,h,n,hn=>by
  simp at h;subst h;simp only[DataW.weightsAll,gM];exact .inl hn
 | x::r,i+1,d,h,n,hn=>by
  simp only[DataW.weightsAll,gM];exact .inr (fM (by simpa using h) n hn)
section
variable {P:Program}{T:Nat->Option TI}{H:Type}{enc:TypeId×Value->H}{w:World}{sp:Nat->Bool}{held:Bool}
def JQ {base:Nat}{a:Addr}(h:w.cells? base a n=some cs):base<=a.block/\cs.length=n/\∀ i,i<n->w.cell? (a.add i)=some (cs.getD i undef):=by
 unfold World.cells? at h;split at h
 ·refine⟨by assumption,by simpa using mapM_some_length h,fun i hi=>?_⟩;have h1:=mapM_some_get h i i (by simp[hi]);have hl:cs.length=n:=by simpa using mapM_some_length h
  rw[h1];simp[List.getD,show i<cs.length by omega]
 ·simp at h
def HF (R:Nat->D->Prop) (sz:Nat->Nat) : ∀ (fs:List Field) (base:Nat) (cs:List Value),cs.length=base+(fs.map fun(f:Field)=>sz f.type).sum->
  (∀ (i:Nat) (f:Field),fs[i]?=some f->f.offset=base+((fs.take i).map fun(f:Field)=>sz f.type).sum)->
  (∀ (i:Nat) (f:Field),fs[i]?=some f->∃ y,R f.type y/\dS w y ((cs.drop f.offset).take (sz f.type)))->
  ∃ ys,n8 R (fs.map fun(f:Field)=>(f.offset,f.type)) ys/\iC w (ys.flatMap D.cells) (cs.drop base)
 | [],base,cs,hl,_,_=>⟨[],trivial,by
   have:cs.drop base=[]:=sj (by simp at hl;omega);rw[this];exact⟨rfl,by simp,by simp⟩⟩
 | f::fs,base,cs,hl,ho,hy=>by
  simp only[js,List.sum_cons] at hl;obtain⟨y,hR,hc⟩:=hy 0 f rfl;have e0:f.offset=base:=by simpa using ho 0 f rfl
  rw[e0] at hc;obtain⟨ys,h1,h2⟩:=HF R sz fs (base+sz f.type) cs (by omega) (fun i g hg=>by
   have:=ho (i+1) g (by simpa using hg);simpa [ja] using this) (fun i g hg=>hy (i+1) g (by simpa using hg))
  refine⟨y::ys,⟨hR,h1⟩,?_⟩;have e:cs.drop base=(cs.drop base).take (sz f.type)++cs.drop (base+sz f.type):=by
   rw[<-List.drop_drop,xS]
  rw[e];exact iC.append ⟨hc.len,hc.one,hc.fz⟩ h2
def DO (a:Addr) (x y:Nat):(a.add x).add y=a.add (x+y):=by
 by_cases hx:x=0
 ·subst hx;simp[Addr.add]
 ·by_cases hy:y=0
  ·subst hy;simp[Addr.add]
  ·simp only[Addr.add,if_neg hx,if_neg hy,if_neg (show ¬ x+y=0 by omega),ja]
def NP (b off x:Nat):Addr.add ⟨b,off,none⟩ x=⟨b,off+x,none⟩:=by
 by_cases hx:x=0
 ·subst hx;simp[Addr.add]
 ·simp[Addr.add,hx]
def PU (a:Addr):a.add 0=a:=by simp[Addr.add]
def QU  [Inhabited α] {p:Nat->α->Prop}(h : ∀ i,i<n->∃ x,p i x) : ∃ l:List α,l.length=n/\∀ i,i<n->p i (l.getD i default):=by
 induction n with
 | zero=>exact⟨[],rfl,by simp⟩
 | succ n ih=>
  obtain⟨l,hl,hp⟩:=ih fun i hi=>h i (by omega)
  obtain⟨x,hx⟩:=h n (by omega);refine⟨l ++ [x],by simp[hl],fun i hi=>?_⟩;rw[Ag,hl];by_cases hin:i<n
  ·rw[if_pos hin];exact hp i hin
  ·rw[if_neg hin];have:i=n:=by omega
   subst this;simpa using hx
def uj (hT:bQ P T) (K:Kids P (fun t=>t<P.types.size)) : ∀ (f:Nat) (t:Nat) (fuel:Nat) (cs:List Value) (x:DataW H×List MemPlace),known T f t->t<P.types.size->
  DataW.trod enc P w 0 sp held fuel t cs=some x->(∀ n∈x.1.weights P t,n<=reachBytes)->∃ d,iI T f t d/\dS w d cs:=by
 intro f;induction f with
 | zero=>intro t fuel cs x hk;exact hk.elim
 | succ f ih=>
  intro t fuel cs x hk htt h hwt;simp only[known] at hk;simp only[iI];split at hk
  ·rename_i ti hti;obtain⟨i,d,hinfo,hsz,hby,hz,hund,hty⟩:=(hT t ti hti).ex;cases fuel with
   | zero=>simp[DataW.trod] at h
   | succ fuel=>
   split at hk
   ·
    rename_i k hk';rw[hk'] at hty;cases d <;> simp only[ff,Ty.int.injEq,reduceCtorEq] at hty
    subst hty;unfold DataW.trod at h;rw[hund] at h;split at h <;> simp_all
    rename_i k' n _;obtain⟨⟨rfl,hw⟩,rfl⟩:=h;exact⟨_,⟨_,rfl⟩,dS.single (.int (yz hw)) rfl⟩
   ·
    rename_i hk';rw[hk'] at hty;cases d <;> simp only[ff,reduceCtorEq] at hty
    unfold DataW.trod at h;rw[hund] at h;split at h <;> simp_all
    rename_i b;cases b
    ·exact .inl (dS.single .bool rfl)
    ·exact .inr (dS.single .bool rfl)
   ·
    rename_i e hk';rw[hk'] at hty;cases d <;> simp only[ff,Ty.slice.injEq,reduceCtorEq] at hty
    subst hty;rename_i e;obtain⟨hk1,hk2⟩:=hk;split at hk1
    ·rename_i ei hei;obtain⟨i',d',hinfo',hsz',hby',_,hund',_⟩:=(hT e ei hei).ex;have hcells:P.cellsOf e=ei.size:=by simp[Program.cellsOf,hinfo',hsz']
     have hbytes:P.bytesOf e=ei.bytes:=by simp[Program.bytesOf,hinfo',hby']
     have hlt:=K.slice htt hund;rcases DataW.trod_slice hund h with⟨rfl,rfl⟩|⟨a,len,cap,elems,rest,n,_,rfl,rfl,hb,hl,hm,hlen,hel,hsp,hns⟩
     ·exact⟨.lst ei.size [],⟨[],rfl,by simp⟩,dS.single (.lst0 hk1.2) rfl⟩
     ·have hw1:(elems.length+rest.length)*ei.bytes<=reachBytes:=by
       refine hwt _ ?_;simp[DataW.weights,hund,hbytes]
      have hweach : ∀ (j:Nat) (y:DataW H×List MemPlace),elems[j]?=some y->∀ n∈y.1.weights P e,n<=reachBytes:=by
       intro j y hy n hn;refine hwt _ ?_;simp only[DataW.weights,hund,jY,gM];exact .inr (.inl (fM (i:=j) (by simp[hy]) n hn))
      have hone : ∀ j,j<len->∃ y:D,iI T f e y/\∃ cs',w.cells? 0 (a.add (j*P.cellsOf e)) (P.cellsOf e)=some cs'/\dS w y cs':=by
       intro j hj;have h1:=hel j hj;have hje:elems[j]?=some elems[j]:=List.getElem?_eq_getElem (by omega);rw[hje,Option.bind_eq_some_iff] at h1;obtain⟨cs',hc',ht'⟩:=h1;obtain⟨y,hy1,hy2⟩:=ih e n cs' _ hk2 hlt ht' (hweach j _ hje);exact⟨y,hy1,cs',hc',hy2⟩
      obtain⟨l,hll,hlp⟩:=QU hone;have hgetD : ∀ j,j<len->l.getD j default=l.getD j .nil:=fun j hj=>by simp[List.getD,show j<l.length by omega]
      refine⟨.lst ei.size l,⟨l,rfl,?_⟩,?_⟩
      ·intro y hy;obtain⟨j,hj,rfl⟩:=gJ hy;have:=(hlp j (by omega)).1;simpa [List.getD,hj] using this
      ·refine dS.single ?_ rfl;by_cases hl0:len=0
       ·subst hl0;have:l=[]:=by simpa using hll
        subst this;exact .lst0 hk1.2
       ·have hsize : ∀ x∈l,x.cells.length=ei.size:=by
         intro y hy;obtain⟨j,hj,rfl⟩:=gJ hy;obtain⟨_,cs',hc',hr⟩:=hlp j (by omega);have e1:l.getD j default=l[j]:=by simp[List.getD,hj]
         rw[e1] at hr;rw[hr.len,(JQ hc').2.1,hcells]
        have hfl:=an hsize;have hcell : ∀ j,j<len*ei.size->∃ v,w.cell? (a.add j)=some v/\FZ (fun b=>b<w.heap.size) w ((flat l).getD j .nil) v:=by
         intro j hj;have hq:j/ei.size<len:=Nat.div_lt_of_lt_mul (by rw[p8];exact hj);have hr':j%ei.size<ei.size:=Nat.mod_lt _ hk1.2;obtain⟨_,cs',hc',hrr⟩:=hlp (j/ei.size) hq;obtain⟨c1,c2,c3⟩:=JQ hc';rw[hcells] at c2 c3;have hjj:j/ei.size*ei.size+j%ei.size=j:=Nat.div_add_mod' j ei.size;refine⟨cs'.getD (j%ei.size) undef,?_,?_⟩
         ·have:=c3 _ hr';rw[<-this,DO,hjj]
         ·have:=hrr.fz (j%ei.size) (by omega);rw[<-nV hsize (by omega) hr' default,hjj] at this;exact this
        obtain⟨v0,hv0,_⟩:=hcell 0 (Nat.mul_pos (by omega) hk1.2);have hspot:a.spot=none/\a.block<w.heap.size:=by
         rw[PU] at hv0;unfold World.cell? at hv0;split at hv0
         ·rename_i c _ _ hb0;have:=(Array.getElem?_eq_some_iff.1 hb0).1;split at hv0
          ·simp at hv0
          ·rename_i hs;exact⟨by simpa using hs,this⟩
         ·simp at hv0
        obtain⟨b,off,spot⟩:=a;simp only at hspot;obtain⟨rfl,hblk⟩:=hspot;have hlim:len<=281474976710656:=by
         have:len*1<=(elems.length+rest.length)*ei.bytes:=Nat.mul_le_mul (by omega) hk1.1;have hrb:reachBytes=140737488351232:=rfl;omega
        subst hll;refine .lst (fun j=>((w.cell? ⟨b,off+j,none⟩).getD undef)) hk1.2 hsize ?_ hl hlim hblk ?_ ?_
        ·intro c hc;obtain⟨y,hy,hc⟩:=List.mem_flatMap.1 hc;obtain⟨j,hj,rfl⟩:=gJ hy;obtain⟨_,cs',hc',hr⟩:=hlp j hj;have e1:l.getD j default=l[j]:=by simp[List.getD,hj]
         rw[e1] at hr;exact hr.one c hc
        ·intro j hj;obtain⟨v,hv,_⟩:=hcell j (by omega);rw[NP] at hv;rw[hv];rfl
        ·intro j hj;obtain⟨v,hv,hz⟩:=hcell j (by omega);rw[NP] at hv;rw[hv];exact hz
    ·exact hk1.elim
   ·
    rename_i fs hk';rw[hk'] at hty;cases d <;> simp only[ff,Ty.struct.injEq,reduceCtorEq] at hty
    rename_i fa;subst hty;obtain⟨xs,n,_,rfl,hcl,hxl,hx⟩:=DataW.trod_struct hund h;obtain⟨k1,k2,k3⟩:=K.struct htt hund;obtain⟨ys,h1,h2⟩:=HF (w:=w) (iI T f) P.cellsOf fa.toList 0 cs (by rw[hcl,k2];simp) (fun i g hg=>by rw[k3 i g hg];simp) (fun i g hg=>by
     have hgi:fa[i]?=some g:=by simpa using hg
     have hlt:i<fa.size:=(Array.getElem?_eq_some_iff.1 hgi).1;have h3:=hx i g hgi;have hxe:xs[i]?=some xs[i]:=List.getElem?_eq_getElem (by omega);rw[hxe] at h3;have hmem:(g.offset,g.type)∈fa.toList.map fun(f:Field)=>(f.offset,f.type):=List.mem_map.2 ⟨g,List.mem_of_getElem? hg,rfl⟩
     exact ih g.type n _ _ (hk _ hmem) (k1 g (List.mem_of_getElem? hg)) h3 (fun m hm=>hwt m (by
      simp only[DataW.weights,hund];exact DataW.weights_mem_each (j:=i) (t:=g.type) (d:=xs[i].1) (by simp[hg]) (by simp[hxe]) m hm)))
    exact⟨.agg (ys.flatMap D.cells),⟨ys,rfl,h1⟩,⟨by simpa [D.cells] using h2.len,by simpa [D.cells] using h2.one,by simpa [D.cells] using h2.fz⟩⟩
   ·exact hk.elim
  ·exact hk.elim
end
end Go.VL
namespace Go.VL
open Go.WideShapes Go.ChangeShapes
variable {R:Nat->D->Prop}{fs:List (Nat×Nat)}{ys:ZD}
section
variable {P:Program}{T:Nat->Option TI}{H:Type}{enc:TypeId×Value->H}{w:World}{sp:Nat->Bool}
def xP (hT:bQ P T) (K:Kids P (fun t=>t<P.types.size)) {f t:Nat}(hk:known T f t) (htt:t<P.types.size) {r:Reach}{b:Nat}{v:Value}{d:DataW H}{p:List MemPlace}
  (hv:Value.okWide P w r b t v) (h:DataW.Trod enc P w 0 sp true t v d p) (hwt : ∀ n∈d.weights P t,n<=reachBytes) : ∃ x,iI T f t x/\FZ (fun b=>b<w.heap.size) w x v:=by
 obtain⟨n,hn⟩:=h;obtain⟨x,hs,hc⟩:=uj hT K f t n _ _ hk htt hn hwt;refine⟨x,hs,?_⟩;have single:x.cells=[x]->(∀ cs,v≠.agg cs)->FZ (fun b=>b<w.heap.size) w x v:=by
  intro hx hna;have e:v.cells.toList=[v]:=by
   cases v <;> first|rfl|exact absurd rfl (hna _)
  have:=hc.fz 0 (by rw[e];simp);rw[hx,e] at this;exact this
 cases f with
 | zero=>exact hk.elim
 | succ f=>
 simp only[known] at hk;simp only[iI] at hs;split at hk
 ·rename_i ti hti;obtain⟨i,d',hinfo,hsz,hby,hz,hund,hty⟩:=(hT t ti hti).ex;split at hk
  ·rename_i k hk';simp only[hti,hk'] at hs;obtain⟨m,rfl⟩:=hs;rw[hk'] at hty;cases d' <;> simp only[ff,reduceCtorEq] at hty
   refine single rfl fun cs e=>?_
   subst e;simp[Value.okWide,Cell.okWide,Cell.ok,hund] at hv
  ·rename_i hk';simp only[hti,hk'] at hs;obtain⟨m,rfl⟩:=hs;rw[hk'] at hty;cases d' <;> simp only[ff,reduceCtorEq] at hty
   refine single rfl fun cs e=>?_
   subst e;simp[Value.okWide,Cell.okWide,Cell.ok,hund] at hv
  ·rename_i e hk';simp only[hti,hk'] at hs;rw[hk'] at hty;cases d' <;> simp only[ff,reduceCtorEq] at hty
   split at hs
   ·obtain⟨l,rfl,_⟩:=hs;refine single rfl fun cs e=>?_
    subst e;simp[Value.okWide,Cell.okWide,Cell.ok,hund] at hv
   ·exact hs.elim
  ·rename_i fs hk';simp only[hti,hk'] at hs;rw[hk'] at hty;cases d' <;> simp only[ff,reduceCtorEq] at hty
   obtain⟨ys,rfl,_⟩:=hs;obtain⟨cs,rfl,_⟩:=okWide_struct hund hv;have h1:=hc.len;have h2:=hc.one;have h3:=hc.fz;simp only[D.cells,Value.cells] at h1 h2 h3;exact .agg (by simpa using h1) h2 fun j hj=>by
    have:=h3 j (by omega);simpa [Array.getD_eq_getD_getElem?,List.getD] using this
  ·exact hk.elim
 ·exact hk.elim
def shpAll (T:Nat->Option TI) (f:Nat):ZC->ZD->Prop
 | [],[]=>True
 | t::ts,x::xs=>iI T f t x/\shpAll T f ts xs
 | _,_=>False
def shpAll_cons {f t:Nat}{ts:ZC}{ds:ZD}(h:shpAll T f (t::ts) ds) : ∃ x xs,ds=x::xs/\iI T f t x/\shpAll T f ts xs:=by
 cases ds with
 | nil=>exact h.elim
 | cons x xs=>exact⟨x,xs,rfl,h.1,h.2⟩
def shpAll_nil {f:Nat}{ds:ZD}(h:shpAll T f [] ds):ds=[]:=by
 cases ds with
 | nil=>rfl
 | cons x xs=>exact h.elim
def knownAll (T:Nat->Option TI) (f:Nat):ZC->Prop
 | []=>True
 | t::ts=>known T f t/\knownAll T f ts
def L7 (hT:bQ P T) (K:Kids P (fun t=>t<P.types.size)) {f:Nat}{r:Reach}{b:Nat} : ∀ (ts:ZC) (vs:List Value) (ds:List (DataW H)) (p:List MemPlace),knownAll T f ts->(∀ t∈ts,t<P.types.size)->
  (∀ (j:Nat) t v,ts[j]?=some t->vs[j]?=some v->Value.okWide P w r b t v)->DataW.TrodAll enc P w 0 sp true ts vs ds p->(∀ n∈DataW.weightsEach P ts ds,n<=reachBytes)->
  ∃ xs,shpAll T f ts xs/\vs.length=xs.length/\∀ j,j<xs.length->FZ (fun b=>b<w.heap.size) w (xs.getD j .nil) (vs.getD j undef)
 | [],vs,ds,p,_,_,_,h,_=>by
  obtain⟨rfl,rfl,rfl⟩:=trodAll_nil h;exact⟨[],trivial,rfl,by simp⟩
 | t::ts,vs,ds,p,hk,htt,hv,h,hw=>by
  obtain⟨v,vs1,d,ds1,p1,p2,rfl,rfl,rfl,h1,h2⟩:=trodAll_cons h;have hw':(∀ n∈d.weights P t,n<=reachBytes)/\∀ n∈DataW.weightsEach P ts ds1,n<=reachBytes:=by
   simp only[DataW.weightsEach,gM] at hw;exact⟨fun n hn=>hw n (.inl hn),fun n hn=>hw n (.inr hn)⟩
  obtain⟨x,hx1,hx2⟩:=xP hT K hk.1 (htt t (by simp)) (hv 0 t v rfl rfl) h1 hw'.1;obtain⟨xs,hs1,hs2,hs3⟩:=L7 hT K ts vs1 ds1 p2 hk.2 (fun t ht=>htt t (by simp[ht])) (fun j t v ht hv'=>hv (j+1) t v (by simpa using ht) (by simpa using hv')) h2 hw'.2;refine⟨x::xs,⟨hx1,hs1⟩,by simp[hs2],fun j hj=>?_⟩;cases j with
  | zero=>simpa using hx2
  | succ j=>simpa using hs3 j (by simpa using hj)
def HI {base:Nat}{held:Bool} : ∀ {ts:List TypeId}{vs:List Value}{ds:List (DataW H)}{ps:List MemPlace},DataW.TrodAll enc P w base sp held ts vs ds ps->ds.length=ts.length
 | [],vs,ds,ps,h=>by
  obtain⟨rfl,rfl,rfl⟩:=trodAll_nil h;rfl
 | t::ts,vs,ds,ps,h=>by
  obtain⟨v,vs1,d,ds1,p1,p2,rfl,rfl,rfl,h1,h2⟩:=trodAll_cons h;simp[HI h2]
def JZ {w':World}{base:Nat}{held:Bool} : ∀ {ts:List TypeId}{vs:List Value}{ds:List (DataW H)}{ps:List MemPlace},DataW.TrodAll enc P w base sp held ts vs ds ps->(∀ p∈ps,w.sameAt w' p)->
  DataW.TrodAll enc P w' base sp held ts vs ds ps
 | [],vs,ds,ps,h,_=>by
  obtain⟨rfl,rfl,rfl⟩:=trodAll_nil h;exact rfl
 | t::ts,vs,ds,ps,h,hs=>by
  obtain⟨v,vs1,d,ds1,p1,p2,rfl,rfl,rfl,⟨n,h1⟩,h2⟩:=trodAll_cons h;exact⟨p1,p2,⟨n,DataW.trod_carry n t _ _ h1 fun p hp=>hs p (List.mem_append.2 (.inl hp))⟩,JZ h2 (fun p hp=>hs p (List.mem_append.2 (.inr hp))),rfl⟩
def b9.sameAt {w':World}(g:b9 w w') {p:MemPlace}(hp:p.block<w.heap.size):w.sameAt w' p:=by
 cases p with
 | cell b o=>exact World.cell?_of_block (w:=w) (g.bf b hp)
 | map b=>exact g.bf b hp
def calls_law (hT:bQ P T) (K:Kids P (fun t=>t<P.types.size)) (hz : ∀ t e,t<P.types.size->P.underlying t=some (.slice e)->0<P.cellsOf e) {fn:Func}{fi:Nat}{s:ChangeSpec}{base:Nat}{args:Array Value}{ds gs:List (DataW H)}{before:List MemPlace}
  (hvars:s.vars=[]) {f:Nat}(hk:knownAll T f fn.params.toList) (htt : ∀ t∈fn.params.toList,t<P.types.size)
  (hval : ∀ (j:Nat) t v,fn.params[j]?=some t->args[j]?=some v->Value.okWide P w .any base t v)
  (hW:DataW.Whole enc P fn.params.toList s.vars false w args.toList ds gs before)
  (hwt:(DataW.weightsEach P (fn.params.toList++s.plain.varTypes P) (ds++gs)).all (·<=reachBytes)=true) (hvt:s.plain.varTypes P=[])
  (hfn : ∀ (ds:List (DataW H)),ds.length=fn.params.size->s.fn H ds={ results:=[.lit (.bool true)],args:=ds })
  (hres : ∀ (W':World) (b:Nat) (sp:Nat->Bool) (hd:Bool),DataW.TrodAll enc P W' b sp hd fn.resultTypes.toList ((Value.bool true).resultList fn.resultTypes.size) [.lit (.bool true)] [])
  (hok : ∀ (W':World) (j:Nat) (t:TypeId) (r:Value),fn.resultTypes[j]?=some t->((Value.bool true).resultList fn.resultTypes.size)[j]?=some r->Value.okWide P W' .any 0 t r)
  (hc : ∀ xs,shpAll T f fn.params.toList xs->Pure P fi xs (.bool true)) :
  Calls P fi args w fun e W'=>∃ v,e=.returned v/\s.post enc P fn false true false false w args v W':=by
 have hW':=hW;obtain⟨p,q,hA,hV,rfl,hfz,hnd⟩:=hW;rw[hvars] at hV;obtain⟨rfl,rfl⟩:=trodVars_none hV;rw[hvt] at hwt;simp only[jq] at hwt hW' hfz hnd;have hw : ∀ n∈DataW.weightsEach P fn.params.toList ds,n<=reachBytes:=by simpa using hwt
 obtain⟨xs,hs1,hs2,hs3⟩:=L7 hT K fn.params.toList args.toList ds p hk htt (fun j t v h1 h2=>hval j t v (by simpa using h1) (by simpa using h2)) hA hw;have hp:=hc xs hs1;refine hp.2 (fun b=>b<w.heap.size) args w _ (fun b hb=>hb) ⟨by simpa using hs2,fun j hj=>?_⟩ ?_
 ·have:=hs3 j hj;simpa [Array.getD_eq_getD_getElem?,List.getD] using this
 ·intro v W' fp how _ _ hg;cases how;have hlen:ds.length=fn.params.size:=by simpa using HI hA
  refine⟨_,rfl,R2 (pa:=p) (pv:=[]) hW' ?_ ?_ ?_ (by simp) hg ?_⟩
  ·simp only[jq,hfn ds hlen];exact hres W'
  ·intro sp' hsp;simp only[jq,hfn ds hlen];exact JZ (DataW.TrodAll.respare K hz htt hA hsp) fun p' hp'=>hg.sameAt (hA.lt p' hp')
  ·intro sp' _;simp only[jq,hfn ds hlen,hvars];exact rfl
  ·exact hok W'
end
def Me {α : Type}{f : α->D} : ∀ {l:ZD},(∀ y∈l,∃ a,y=f a)->∃ as:List α,l=as.map f
 | [],_=>⟨[],rfl⟩
 | y::r,h=>by
  obtain⟨a,rfl⟩:=h y (by simp);obtain⟨as,rfl⟩:=Me (l:=r) (fun z hz=>h z (by simp[hz]));exact⟨a::as,rfl⟩
def vJ {p:Nat×Nat}(h:n8 R (p::fs) ys) : ∃ y r,ys=y::r/\R p.2 y/\n8 R fs r:=by
 cases ys with
 | nil=>exact h.elim
 | cons y r=>exact⟨y,r,rfl,h.1,h.2⟩
def Fg (h:n8 R [] ys):ys=[]:=by
 cases ys with
 | nil=>rfl
 | cons y r=>exact h.elim
section shapes
variable {T:Nat->Option TI}{f t e:Nat}{x:D}{sz b:Nat}{z:D}
def shp_int {k:IntKind}(ht:T t=some ⟨.int k,sz,b,z⟩) (h:iI T (f+1) t x) : ∃ n,x=.int k n:=by simpa only[iI,ht] using h
def shp_bool (ht:T t=some ⟨.bool,sz,b,z⟩) (h:iI T (f+1) t x) : ∃ n,x=.bool n:=by simpa only[iI,ht] using h
def shp_slice {sz' b':Nat}{z':D}{ty':Ty}(ht:T t=some ⟨.slice e,sz,b,z⟩) (he:T e=some ⟨ty',sz',b',z'⟩) {α : Type}{g : α->D}(hg : ∀ y,iI T f e y->∃ a,y=g a) (h:iI T (f+1) t x) : ∃ l:List α,x=.lst sz' (l.map g):=by
 simp only[iI,ht,he] at h;obtain⟨l,rfl,hl⟩:=h;obtain⟨as,rfl⟩:=Me (fun y hy=>hg y (hl y hy));exact⟨as,rfl⟩
def shp_struct (ht:T t=some ⟨.struct fs,sz,b,z⟩) (h:iI T (f+1) t x) : ∃ ys,x=.agg (ys.flatMap D.cells)/\n8 (iI T f) fs ys:=by simpa only[iI,ht] using h
end shapes
end Go.VL
namespace Go.VL
variable {Po:I->ZF->Prop}{r:I}{vc:Prop}{ψ:D->Prop}{x:D}{f nt:Nat}{ds:ZD}{fn:Func}{c:Code}
variable {E:Env}{P:Program}{S:Nat->Prop}{φ : List ZC}{H:ZF}{w:World}{n:Nat}{fr:Fr}
def gI (n:Nat) (Po:I->ZF->Prop) (r:I) (H:ZF):Prop:=
 ∃ fr' H',a8 n (⟨1,[(0,r)]⟩:Fr) H fr' H'/\fr'.n=1/\Po (fr'.get 0) H'
def n5 (h:Po r H):gI n Po r H:=
 ⟨⟨1,[(0,r)]⟩,H,a8.refl _ _ _,rfl,by simpa [Fr.get,look] using h⟩
def fI {r0:I}{H1:ZF}(hf:nD n r H r0 H1) (h:Po r0 H1):gI n Po r H:=by
 obtain⟨h1,h2,h3,h4,h5⟩:=hf;refine⟨⟨1,[(0,r0)]⟩,H1,CP ⟨rfl,h2,⟨?_,trivial⟩,h3,⟨h4,trivial⟩,h5⟩,rfl,?_⟩
 ·show cZ _ (look 0 [(0,r)]) r0
  simpa [look] using h1
 ·show Po (look 0 [(0,r0)]) H1
  simpa [look] using h
def D6 {E:Env}(hT:bQ E.P E.T) {f:Nat}{fn:Func}{c:Code}{nt:Nat}{args:ZE}{H:ZF}{Po:I->ZF->Prop}(hn:E.n=H.length) (fuel:Nat) (hf:E.P.funcs[f]?=some fn) (hb:fn.body=some c)
  (hnm : (fn.name == "runtime.NumGoroutine") = false) (hnt : fn.ntmps = nt) (hl : args.length <= nt)
  (h:cw E fuel c [] (endsWith E.T fn (fun fr r H'=>gI E.n Po r H')) ⟨nt,jF 0 args⟩ H):aA E.P f args H Po:=by
 subst hnt;refine Lu hT hf hb hnm hl ?_;have:=rp hT fuel h;rw[hn] at this;exact this
def wV (Po:I->ZF->Prop) (H:ZF):Option (Prop×D)->Prop
 | some (vc,d)=>vc/\Po (.d d) H
 | none=>False
@[go_sem] def Te {d:D}:wV Po H (some (vc,d))=(vc/\Po (.d d) H):=rfl
def sF (hn:n<=H.length) (hH:jO n (H.take n)) (h:wV Po (H.take n) (view (fD n H) 3 r)):gI n Po r H:=by
 unfold wV at h;split at h
 ·rename_i vc d hv;refine⟨⟨1,[(0,.d d)]⟩,H.take n,?_,rfl,by simpa [Fr.get,look] using h.2⟩;intro S φ w a _ s hf;obtain⟨s1,t1⟩:=s.kill n;have h0:=(hf.val 0).tr t1;have hr:(⟨1,[(0,r)]⟩:Fr).get 0=r:=by simp[Fr.get,look]
  rw[hr] at h0;have hz:=xB s1 3 h0 hv h.1;obtain⟨s2,t2,e2⟩:=Gj s hn hH;refine⟨_,_,s2,⟨hf.defers,hf.size,fun t=>?_⟩,e2,t2⟩;show V _ _ _ _ (look t [(0,.d d)]) _
  simp only[look];by_cases ht:0=t
  ·subst ht;rw[if_pos rfl];exact .d hz
  ·rw[if_neg ht];exact .junk
 ·exact h.elim
def CU (ψ : D->Prop):Option (Prop×D×ZC)->Prop
 | some (vc,x',ids)=>vc/\ids.Nodup/\∃ x,wk x' x/\ψ x
 | none=>False
def CN (ψ : D->Prop):Option (Prop×D)->Prop
 | some (vc,x')=>vc/\∃ x,wk x' x/\ψ x
 | none=>False
@[go_sem] def zpy {ids:ZC}:CU ψ (some (vc,x,ids))=(vc/\ids.Nodup/\∃ y,wk x y/\ψ y):=rfl
@[go_sem] def U5:CN ψ (some (vc,x))=(vc/\∃ y,wk x y/\ψ y):=rfl
def Sd (he:rV P f) (h:eq ds->ep P f ds ψ):ep P f ds ψ:=by
 refine⟨he,fun S vs w Rr hS ha hr=>?_⟩;have:eq ds:=uL fun j hj=>(ha.2 j hj).isOk
 exact(h this).2 S vs w Rr hS ha hr
def NT (he:rV P f) (h:eq ds->dX P f ds ψ):dX P f ds ψ:=by
 refine⟨he,fun S vs w Rr hS ha hr=>?_⟩;have:eq ds:=uL fun j hj=>(ha.2 j hj).isOk
 exact(h this).2 S vs w Rr hS ha hr
def CX {E : Env} (hT : bQ E.P E.T) (hn : E.n = 0)      {ψ : D -> Prop} (fuel : Nat) (hf : E.P.funcs[f]? = some fn) (hb : fn.body = some c) (hnm : (fn.name == "runtime.NumGoroutine") = false) (hnt : fn.ntmps = nt) (hl : ds.length <= nt)
  (h:eq ds->cw E fuel c [] (endsWith E.T fn (fun fr r H'=>CU ψ (pk H' 3 r))) ⟨nt,jF 0 (ds.map .d)⟩ []):ep E.P f ds ψ:=by
 subst hnt;refine Sd (rh hf hb hnm) fun hok=>?_
 have hrun:=rp hT fuel (h hok);rw[hn] at hrun;refine⟨rh hf hb hnm,fun S vs w Rr hS ha hr=>calls_of_wp hf hb ?_⟩;have s:=BQ hS;refine hrun S [] _ w _ (aD _) s (zS (by simpa using ha.1) (fun j hj=>?_) (by simpa using hl)) ?_
 ·simp only[gQ] at hj;have e:(ds.map I.d).getD j .junk=.d (ds.getD j .nil):=by simp[List.getD,hj]
  rw[e];exact .d (ha.2 j hj)
 intro e a' w' S' φ' fr' H' s' hf' he ht hq;have fin : ∀ vc r,fl E.T H' fr' fn.results.toList=some (vc,r)->vc/\(CU ψ (pk H' 3 r))->a'.defers=[]/\∃ v,(results fn a'.tmps).run E.P w'=.ok v w'/\Rr (.returned v) w':=by
  rintro vc0 r hres ⟨hvc0,hp⟩;obtain⟨v,hrun,hv⟩:=zB hT s' hf' hres hvc0;refine⟨hf'.defers,v,hrun,?_⟩;unfold CU at hp;split at hp
  ·rename_i vc x' ids hpk;obtain⟨hvc,hnd,x,hw,hψ⟩:=hp;have how:=qJ hw (En s' 3 hv hpk hvc);refine hr x v w' _ hψ how (Gn s' hnd) ?_ (Ai he);intro b hb;obtain⟨i,_,hb⟩:=List.mem_flatMap.1 hb;rcases he.fp b ⟨i,hb⟩ with⟨j,hj⟩|h
   ·simp[List.getD] at hj
   ·exact h
  ·exact hp.elim
 cases e <;> simp only[endsWith] at hq
 ·split at hq
  ·exact fin _ _ (by assumption) hq
  ·exact hq.elim
 all_goals first
  | exact hq.elim
  | (
    split at hq
    ·exact fin _ _ (by assumption) hq
    ·exact hq.elim)
def QN {E : Env} (hT : bQ E.P E.T) (hn : E.n = 0)      {ψ : D -> Prop} (fuel : Nat) (hf : E.P.funcs[f]? = some fn) (hb : fn.body = some c) (hnm : (fn.name == "runtime.NumGoroutine") = false) (hnt : fn.ntmps = nt) (hl : ds.length <= nt)
  (h:eq ds->cw E fuel c [] (endsWith E.T fn (fun fr r H'=>CN ψ (view H' 3 r))) ⟨nt,jF 0 (ds.map .d)⟩ []):dX E.P f ds ψ:=by
 subst hnt;refine NT (rh hf hb hnm) fun hok=>?_
 have hrun:=rp hT fuel (h hok);rw[hn] at hrun;refine⟨rh hf hb hnm,fun S vs w Rr hS ha hr=>calls_of_wp hf hb ?_⟩;have s:=BQ hS;refine hrun S [] _ w _ (aD _) s (zS (by simpa using ha.1) (fun j hj=>?_) (by simpa using hl)) ?_
 ·simp only[gQ] at hj;have e:(ds.map I.d).getD j .junk=.d (ds.getD j .nil):=by simp[List.getD,hj]
  rw[e];exact .d (ha.2 j hj)
 intro e a' w' S' φ' fr' H' s' hf' he ht hq;have fin : ∀ vc r,fl E.T H' fr' fn.results.toList=some (vc,r)->vc/\(CN ψ (view H' 3 r))->a'.defers=[]/\∃ v,(results fn a'.tmps).run E.P w'=.ok v w'/\Rr (.returned v) w':=by
  rintro vc0 r hres ⟨hvc0,hp⟩;obtain⟨v,hrun,hv⟩:=zB hT s' hf' hres hvc0;refine⟨hf'.defers,v,hrun,?_⟩;unfold CN at hp;split at hp
  ·rename_i vc x' hvw;obtain⟨hvc,x,hw,hψ⟩:=hp;refine hr x v w' (jv S' φ') hψ (fun b hb=>.inl (he.sub b hb)) ?_ (fun b hb=>hb.elim (s'.slt b) (s'.lt b)) (Ct hw (xB s' 3 hv hvw hvc)) (Ai he);intro b hb;have hno : ¬ aU [] b:=by rintro⟨i,hi⟩;simp[List.getD] at hi
   rcases hb with hb|hb
   ·rcases he.sfp b hb with h|h|h
    ·exact .inl h
    ·exact absurd h hno
    ·exact .inr h
   ·rcases he.fp b hb with h|h
    ·exact absurd h hno
    ·exact .inr h
  ·exact hp.elim
 cases e <;> simp only[endsWith] at hq
 ·split at hq
  ·exact fin _ _ (by assumption) hq
  ·exact hq.elim
 all_goals first
  | exact hq.elim
  | (
    split at hq
    ·exact fin _ _ (by assumption) hq
    ·exact hq.elim)
end Go.VL
