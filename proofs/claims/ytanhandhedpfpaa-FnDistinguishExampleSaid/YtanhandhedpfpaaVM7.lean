/- Part 25: what data that some value reads as must be like: numbers in range, lists not too long. Conditions: none; lemmas. -/
import Derived.Test.YtanhandhedpfpaaVM6
import Derived.ProofKit
import Derived.OpenShut
import Derived.SizedLaws
import Derived.ReadAgain
set_option linter.unusedVariables false
set_option linter.unusedSimpArgs false
namespace Go.VL
mutual
def D.ok:D→Prop
 | .int k n=>InK k n
 | .agg cs=>okL cs
 | .lst _ l=>l.length≤281474976710656∧okL l
 | .ptr cs=>okL cs
 | .fn _ cs=>okL cs
 | .tup cs=>okL cs
 | _=>True
def okL:List D→Prop
 | []=>True
 | x::r=>x.ok∧okL r
end
theorem qfg : ∀ (l:List D),okL l↔∀ x∈l,x.ok
 | []=>by simp[okL]
 | x::r=>by simp[okL,qfg r]
theorem qcx {l:List D}(h : ∀ j,j<l.length→(l.getD j .nil).ok):okL l:=by
 rw[qfg]
 intro x hx
 obtain⟨j,hj,rfl⟩:=List.getElem_of_mem hx
 have:=h j hj
 simpa [List.getD,hj] using this
theorem ql1 {x:D}(h : ∀ c∈x.cells,c.ok):x.ok:=by
 cases x with
 | agg cs=>simp only[D.ok];rw[qfg];exact h
 | int k n=>exact h _ (by simp[D.cells])
 | bool b=>exact h _ (by simp[D.cells])
 | raw b=>exact h _ (by simp[D.cells])
 | lst k l=>exact h _ (by simp[D.cells])
 | nil=>exact h _ (by simp[D.cells])
 | ptr l=>exact h _ (by simp[D.cells])
 | fn f l=>exact h _ (by simp[D.cells])
 | tup l=>exact h _ (by simp[D.cells])
theorem ql2 {l:List D}(h:okL (flat l)):okL l:=by
 rw[qfg] at *
 intro x hx
 exact ql1 fun c hc=>h c (List.mem_flatMap.2 ⟨x,hx,hc⟩)
theorem FZ.isOk {S:Nat→Prop}{w:World}{x:D}{v:Value}(h:FZ S w x v):x.ok:=by
 induction h with
 | int h=>simpa only[D.ok] using h
 | bool=>simp only[D.ok]
 | raw h=>simp only[D.ok]
 | agg hl h1 h ih=>simp only[D.ok];exact qcx ih
 | nil=>simp only[D.ok]
 | lst0 hk=>simp[D.ok,okL]
 | lst f hk he h1 hn hlim hS hc hf ih=>simp only[D.ok];exact⟨hlim,ql2 (qcx ih)⟩
 | ptr f hS h1 hc hf ih=>simp only[D.ok];exact qcx ih
 | fn hl h ih=>simp only[D.ok];exact qcx ih
 | tup hl h ih=>simp only[D.ok];exact qcx ih
theorem pure_ok {P:Program}{f:Nat}{ds:List D}{x:D}(he:Ent P f) (h:okL ds→Pure P f ds x):Pure P f ds x:=by
 refine⟨he,fun S vs w Rr hS ha hr=>?_⟩
 have:okL ds:=qcx fun j hj=>(ha.2 j hj).isOk
 exact(h this).2 S vs w Rr hS ha hr
theorem ql3 {P:Program}{f:Nat}{ds:List D}{x:D}(he:Ent P f) (h:okL ds→PureF P f ds x):PureF P f ds x:=by
 refine⟨he,fun S vs w Rr hS ha hr=>?_⟩
 have:okL ds:=qcx fun j hj=>(ha.2 j hj).isOk
 exact(h this).2 S vs w Rr hS ha hr
theorem qau {E : Env} (hT : TOK E.P E.T) (hn : E.n = 0) {f : Nat} {fn : Func} {c : Code} {nt : Nat} {ds : List D} {x : D} (fuel : Nat) (hf : E.P.funcs[f]? = some fn) (hb : fn.body = some c) (hnm : (fn.name == "runtime.NumGoroutine") = false) (hnt : fn.ntmps = nt) (hl : ds.length ≤ nt)
  (h:okL ds→qaB E fuel c [] (endsWith E.T fn (fun fr r H'=>pkR x (pk H' 3 r))) ⟨nt,qcv 0 (ds.map .d)⟩ []):Pure E.P f ds x:=
 pure_ok (qgQ hf hb hnm) fun ho=>pure_of hT hn fuel hf hb hnm hnt hl (h ho)
theorem qjU {E : Env} (hT : TOK E.P E.T) (hn : E.n = 0) {f : Nat} {fn : Func} {c : Code} {nt : Nat} {ds : List D} {x : D} (fuel : Nat) (hf : E.P.funcs[f]? = some fn) (hb : fn.body = some c) (hnm : (fn.name == "runtime.NumGoroutine") = false) (hnt : fn.ntmps = nt) (hl : ds.length ≤ nt)
  (h:okL ds→qaB E fuel c [] (endsWith E.T fn (fun fr r H'=>vwR x (view H' 3 r))) ⟨nt,qcv 0 (ds.map .d)⟩ []):PureF E.P f ds x:=
 ql3 (qgQ hf hb hnm) fun ho=>ql0 hT hn fuel hf hb hnm hnt hl (h ho)
@[go_sem] theorem ok_int {k:IntKind}{n:Int}:(D.int k n).ok=InK k n:=by simp only[D.ok]
@[go_sem] theorem ok_bool {b:Bool}:(D.bool b).ok=True:=by simp only[D.ok]
@[go_sem] theorem ok_nil:D.nil.ok=True:=by simp only[D.ok]
@[go_sem] theorem ok_raw {v:Value}:(D.raw v).ok=True:=by simp only[D.ok]
@[go_sem] theorem ok_agg {cs:List D}:(D.agg cs).ok=okL cs:=by simp only[D.ok]
@[go_sem] theorem ok_ptr {cs:List D}:(D.ptr cs).ok=okL cs:=by simp only[D.ok]
@[go_sem] theorem ok_tup {cs:List D}:(D.tup cs).ok=okL cs:=by simp only[D.ok]
@[go_sem] theorem ok_fn {f:Nat}{cs:List D}:(D.fn f cs).ok=okL cs:=by simp only[D.ok]
@[go_sem] theorem ok_lst {k:Nat}{cs:List D}:(D.lst k cs).ok=(cs.length≤281474976710656∧okL cs):=by simp only[D.ok]
@[go_sem] theorem okL_nil:okL []=True:=by simp only[okL]
@[go_sem] theorem okL_cons {x:D}{r:List D}:okL (x::r)=(x.ok∧okL r):=by simp only[okL]
theorem qgm {α : Type}{f : α→D}{l:List α}:okL (l.map f) = ∀ x∈l,(f x).ok:=by
 rw[qfg]
 simp
@[go_sem] theorem okL_ints {k:IntKind}{l:List Int}:okL (l.map (D.int k)) = ∀ x∈l,InK k x:=by rw[qgm];simp only[D.ok]
@[go_sem] theorem okL_bools {l:List Bool}:okL (l.map D.bool)=True:=by rw[qgm];simp[D.ok]
end Go.VL
namespace Go.VL
mutual
def renI (ρ : Nat→Nat):I→I
 | .d x=>.d x
 | .agg cs=>.agg (renL ρ cs)
 | .sl i g k lo n=>.sl (ρ i) g k lo n
 | .ptr i off=>.ptr (ρ i) off
 | .eptr i g k idx off z=>.eptr (ρ i) g k idx off z
 | .bor i g k idx c lo n=>.bor (ρ i) g k idx c lo n
 | .bptr i g k idx c k2 m off=>.bptr (ρ i) g k idx c k2 m off
 | .map i=>.map (ρ i)
 | .fn f cs=>.fn f (renL ρ cs)
 | .tup cs=>.tup (renL ρ cs)
 | .own i=>.own (ρ i)
 | .cond e x=>.cond e (renI ρ x)
 | .junk=>.junk
def renL (ρ : Nat→Nat):List I→List I
 | []=>[]
 | x::r=>renI ρ x::renL ρ r
end
def qjV (ρ : Nat→Nat) (hs:List Hole):List Hole:=hs.map fun h=>(h.1,h.2.1,renI ρ h.2.2)
def renD (ρ : Nat→Nat):DP→DP
 | .own (h::hs)=>.own (qjV ρ (h::hs))
 | dp=>dp
def renR (ρ : Nat→Nat):R→R
 | .box cs=>.box (renL ρ cs)
 | .row g k dp l=>.row g k (renD ρ dp) l
 | r=>r
theorem qh2 (ρ : Nat→Nat) (hs:List Hole):renD ρ (.own hs)=.own (qjV ρ hs):=by cases hs <;> rfl
theorem qed (ρ : Nat→Nat) (k j:Nat) : ∀ (hs:List Hole),qan k (qjV ρ hs) j=(qan k hs j).map (renI ρ)
 | []=>rfl
 | (a,b,c)::r=>by
  have:=qed ρ k j r
  simp only[qjV] at this
  simp only[qjV,List.map_cons,qan,this]
  split <;> rfl
theorem qgn (ρ : Nat→Nat) : ∀ (l:List I),renL ρ l=l.map (renI ρ)
 | []=>rfl
 | x::r=>by simp only[renL,List.map_cons,qgn ρ r]
theorem qbD (ρ : Nat→Nat) (l:List I) (j:Nat):(renL ρ l).getD j .junk=renI ρ (l.getD j .junk):=by
 rw[qgn]
 have:I.junk=renI ρ .junk:=by simp only[renI]
 rw[this,qcX]
 simp only[renI]
theorem qav (ρ : Nat→Nat) (l:List I):(renL ρ l).length=l.length:=by rw[qgn];simp
variable {S S':Nat→Prop}{φ φ0 φ':List (List Nat)}{H H0 H':List R}{w w':World}{ρ : Nat→Nat}{m:Nat}
structure Emb (ρ : Nat→Nat) (m:Nat) (H0:List R) (φ0:List (List Nat)) (H:List R) (φ : List (List Nat)):Prop where
 len:H0.length=m
 lt : ∀ j,j<m→ρ j<H.length
 root : ∀ j,j<m→H.getD (ρ j) (.dead 0)=renR ρ (H0.getD j (.dead 0))
 fp : ∀ j,j<m→φ.getD (ρ j) [] = φ0.getD j []
theorem qaO {α : Type}{l:List α}{j:Nat}{x : α}(z : α) (h:l[j]?=some x):j<l.length∧l.getD j z=x:=by
 have:=(List.getElem?_eq_some_iff.1 h).1
 exact⟨this,by simp[List.getD,h]⟩
theorem getD_some {α : Type}{l:List α}{j:Nat}(z : α) (h:j<l.length):l[j]?=some (l.getD j z):=by
 simp[List.getD,h]
theorem Emb.down (e:Emb ρ m H0 φ0 H φ) {x:I} : ∀ {v:Value},V S φ H w (renI ρ x) v→x.idlt m→V S φ0 H0 w x v:=by
 have main : ∀ (y:I) (v:Value),V S φ H w y v→∀ x,y=renI ρ x→x.idlt m→V S φ0 H0 w x v:=by
  intro y v h
  induction h with
  | d h=>
   intro x hx hb
   cases x <;> simp only[renI,I.d.injEq,reduceCtorEq] at hx
   subst hx
   exact .d h
  | agg hl h1 h ih=>
   intro x hx hb
   cases x <;> simp only[renI,I.agg.injEq,reduceCtorEq] at hx
   subst hx
   rename_i cs
   rw[qav] at hl
   simp only[qav,qbD] at h1 ih
   simp only[I.idlt] at hb
   exact .agg hl h1 fun j hj=>ih j hj _ rfl (qaT hb j hj)
  | sl hi hg h h1=>
   intro x hx hb
   cases x <;> simp only[renI,I.sl.injEq,reduceCtorEq] at hx
   obtain⟨rfl,rfl,rfl,rfl,rfl⟩:=hx
   simp only[I.idlt] at hb
   refine .sl (by rw[e.len];exact hb) ?_ ?_ h1
   ·rw[e.root _ hb] at hg
    generalize H0.getD _ (.dead 0)=r at hg
    cases r <;> simpa only[renR,R.gen] using hg
   ·intro dp l hl
    have hr:=e.root _ hb
    rw[(qaO (.dead 0) hl).2] at hr
    have:=h (renD ρ dp) l (by rw[getD_some (.dead 0) hi,hr];rfl)
    rw[e.fp _ hb] at this
    exact this
  | ptr hi h h1=>
   intro x hx hb
   cases x <;> simp only[renI,I.ptr.injEq,reduceCtorEq] at hx
   obtain⟨rfl,rfl⟩:=hx
   simp only[I.idlt] at hb
   refine .ptr (by rw[e.len];exact hb) ?_ h1
   intro cs hl
   have hr:=e.root _ hb
   rw[(qaO (.dead 0) hl).2] at hr
   have:=h _ (by rw[getD_some (.dead 0) hi,hr];rfl)
   rw[e.fp _ hb] at this
   exact this
  | eptr hi hg h h1=>
   intro x hx hb
   cases x <;> simp only[renI,I.eptr.injEq,reduceCtorEq] at hx
   obtain⟨rfl,rfl,rfl,rfl,rfl,rfl⟩:=hx
   simp only[I.idlt] at hb
   refine .eptr (by rw[e.len];exact hb) ?_ ?_ h1
   ·rw[e.root _ hb] at hg
    generalize H0.getD _ (.dead 0)=r at hg
    cases r <;> simpa only[renR,R.gen] using hg
   ·intro dp l hl
    have hr:=e.root _ hb
    rw[(qaO (.dead 0) hl).2] at hr
    have:=h (renD ρ dp) l (by rw[getD_some (.dead 0) hi,hr];rfl)
    rw[e.fp _ hb] at this
    exact this
  | map hi h h1=>
   intro x hx hb
   cases x <;> simp only[renI,I.map.injEq,reduceCtorEq] at hx
   subst hx
   simp only[I.idlt] at hb
   refine .map (by rw[e.len];exact hb) ?_ h1
   intro es hl
   have hr:=e.root _ hb
   rw[(qaO (.dead 0) hl).2] at hr
   have:=h _ (by rw[getD_some (.dead 0) hi,hr];rfl)
   rw[e.fp _ hb] at this
   exact this
  | fn hl h ih=>
   intro x hx hb
   cases x <;> simp only[renI,I.fn.injEq,reduceCtorEq] at hx
   obtain⟨rfl,rfl⟩:=hx
   rw[qav] at hl
   simp only[qav,qbD] at ih
   simp only[I.idlt] at hb
   exact .fn hl fun j hj=>ih j hj _ rfl (qaT hb j hj)
  | tup hl h ih=>
   intro x hx hb
   cases x <;> simp only[renI,I.tup.injEq,reduceCtorEq] at hx
   subst hx
   rw[qav] at hl
   simp only[qav,qbD] at ih
   simp only[I.idlt] at hb
   exact .tup hl fun j hj=>ih j hj _ rfl (qaT hb j hj)
  | own hi h=>
   intro x hx hb
   cases x <;> simp only[renI,I.own.injEq,reduceCtorEq] at hx
   subst hx
   simp only[I.idlt] at hb
   refine .own (by rw[e.len];exact hb) ?_
   intro y hl
   have hr:=e.root _ hb
   rw[(qaO (.dead 0) hl).2] at hr
   have:=h _ (by rw[getD_some (.dead 0) hi,hr];rfl)
   rw[e.fp _ hb] at this
   exact this
  | cond h h0 ih=>
   intro x hx hb
   cases x <;> simp only[renI,I.cond.injEq,reduceCtorEq] at hx
   obtain⟨rfl,rfl⟩:=hx
   simp only[I.idlt] at hb
   exact .cond (fun e'=>ih e' _ rfl hb) h0
  | junk=>
   intro x hx hb
   cases x <;> simp only[renI,reduceCtorEq] at hx
   exact .junk
 exact fun {v} h hb=>main _ v h x rfl hb
theorem Emb.up (e:Emb ρ m H0 φ0 H φ) {x:I}{v:Value}(h:V S φ0 H0 w x v):V S φ H w (renI ρ x) v:=by
 have hgen : ∀ {i g:Nat},i<H0.length→g≤(H0.getD i (.dead 0)).gen→g≤(H.getD (ρ i) (.dead 0)).gen:=by
  intro i g hi hg
  rw[e.root _ (e.len▸hi)]
  generalize H0.getD i (.dead 0)=r at hg
  cases r <;> simpa only[renR,R.gen] using hg
 have hback : ∀ {i:Nat}{r:R},i<H0.length→H[ρ i]?=some r→∃ r0,H0[i]?=some r0∧r=renR ρ r0:=by
  intro i r hi hr
  refine⟨_,getD_some (.dead 0) hi,?_⟩
  rw[←e.root _ (e.len▸hi)]
  exact(qaO (.dead 0) hr).2.symm
 induction h with
 | d h=>simp only[renI];exact .d h
 | agg hl h1 h ih=>simp only[renI];exact .agg (by rw[qav];exact hl) (fun j hj=>h1 j (by rwa [qav] at hj)) fun j hj=>by rw[qbD];exact ih j (by rwa [qav] at hj)
 | sl hi hg h h1=>
  simp only[renI]
  refine .sl (e.lt _ (e.len▸hi)) (hgen hi hg) ?_ h1
  intro dp l hl
  obtain⟨r0,h0,hr⟩:=hback hi hl
  cases r0 <;> simp only[renR,R.row.injEq,reduceCtorEq] at hr
  obtain⟨rfl,rfl,rfl,rfl⟩:=hr
  rw[e.fp _ (e.len▸hi)]
  exact h _ _ h0
 | ptr hi h h1=>
  simp only[renI]
  refine .ptr (e.lt _ (e.len▸hi)) ?_ h1
  intro cs hl
  obtain⟨r0,h0,hr⟩:=hback hi hl
  cases r0 <;> simp only[renR,R.box.injEq,reduceCtorEq] at hr
  rw[e.fp _ (e.len▸hi)]
  exact h _ h0
 | eptr hi hg h h1=>
  simp only[renI]
  refine .eptr (e.lt _ (e.len▸hi)) (hgen hi hg) ?_ h1
  intro dp l hl
  obtain⟨r0,h0,hr⟩:=hback hi hl
  cases r0 <;> simp only[renR,R.row.injEq,reduceCtorEq] at hr
  obtain⟨rfl,rfl,rfl,rfl⟩:=hr
  rw[e.fp _ (e.len▸hi)]
  exact h _ _ h0
 | map hi h h1=>
  simp only[renI]
  refine .map (e.lt _ (e.len▸hi)) ?_ h1
  intro cs hl
  obtain⟨r0,h0,hr⟩:=hback hi hl
  cases r0 <;> simp only[renR,R.map.injEq,reduceCtorEq] at hr
  subst hr
  rw[e.fp _ (e.len▸hi)]
  exact h _ h0
 | fn hl h ih=>simp only[renI];exact .fn (by rw[qav];exact hl) fun j hj=>by rw[qbD];exact ih j (by rwa [qav] at hj)
 | tup hl h ih=>simp only[renI];exact .tup (by rw[qav];exact hl) fun j hj=>by rw[qbD];exact ih j (by rwa [qav] at hj)
 | own hi h=>
  simp only[renI]
  refine .own (e.lt _ (e.len▸hi)) ?_
  intro x hl
  obtain⟨r0,h0,hr⟩:=hback hi hl
  cases r0 <;> simp only[renR,R.val.injEq,reduceCtorEq] at hr
  subst hr
  rw[e.fp _ (e.len▸hi)]
  exact h _ h0
 | cond h h0 ih=>simp only[renI];exact .cond (fun e'=>ih e') h0
 | junk=>simp only[renI];exact .junk
theorem Emb.rdown (e:Emb ρ m H0 φ0 H φ) {r:R}{fp:List Nat}(h:RRel S φ H w fp (renR ρ r)) (hb:r.idlt m):RRel S φ0 H0 w fp r:=by
 cases r with
 | box cs=>
  simp only[renR] at h
  obtain⟨b,arr,ty,h1,h2,h3,h4⟩:=h
  simp only[R.idlt] at hb
  simp only[qav,qbD] at h3 h4
  exact⟨b,arr,ty,h1,h2,h3,fun j hj=>⟨(h4 j hj).1,e.down (h4 j hj).2 (qaT hb j hj)⟩⟩
 | row g k dp l=>
  obtain⟨h1,h2,h3,h4,h5⟩:=h
  refine⟨h1,h2,h3,h4,?_⟩
  rcases h5 with h5|⟨b,rest,arr,ty,e1,e2,e3,e4⟩
  ·exact .inl h5
  ·refine .inr ⟨b,rest,arr,ty,e1,e2,e3,?_⟩
   cases dp with
   | fz=>exact e4
   | own hs=>
    rw[qh2] at e4
    obtain⟨F,f1,f2,f3⟩:=e4
    refine⟨F,f1,fun h hm=>f2 (h.1,h.2.1,renI ρ h.2.2) (List.mem_map.2 ⟨h,hm,rfl⟩),fun j hj=>?_⟩
    have hc:=f3 j hj
    rw[qed] at hc
    generalize ho:qan k hs j=o at hc
    cases o with
    | none=>exact hc
    | some x=>exact⟨hc.1,hc.2.1,hc.2.2.1,e.down hc.2.2.2 (qge (DP.idlt_hs hb) ho)⟩
 | map es=>exact h
 | val x=>trivial
 | dead g=>trivial
theorem Emb.rup (e:Emb ρ m H0 φ0 H φ) {r:R}{fp:List Nat}(h:RRel S φ0 H0 w fp r):RRel S φ H w fp (renR ρ r):=by
 cases r with
 | box cs=>
  obtain⟨b,arr,ty,h1,h2,h3,h4⟩:=h
  exact⟨b,arr,ty,h1,h2,by rw[qav];exact h3,fun j hj=>⟨(h4 j (by rwa [qav] at hj)).1,by rw[qbD];exact e.up (h4 j (by rwa [qav] at hj)).2⟩⟩
 | row g k dp l=>
  obtain⟨h1,h2,h3,h4,h5⟩:=h
  refine⟨h1,h2,h3,h4,?_⟩
  rcases h5 with h5|⟨b,rest,arr,ty,e1,e2,e3,e4⟩
  ·exact .inl h5
  ·refine .inr ⟨b,rest,arr,ty,e1,e2,e3,?_⟩
   cases dp with
   | fz=>exact e4
   | own hs=>
    rw[qh2]
    obtain⟨F,f1,f2,f3⟩:=e4
    refine⟨F,f1,fun h hm=>?_,fun j hj=>?_⟩
    ·obtain⟨h',hm',rfl⟩:=List.mem_map.1 hm
     exact f2 h' hm'
    ·have hc:=f3 j hj
     rw[qed]
     generalize qan k hs j=o at hc
     cases o with
     | none=>exact hc
     | some x=>exact⟨hc.1,hc.2.1,hc.2.2.1,e.up hc.2.2.2⟩
 | map es=>exact h
 | val x=>trivial
 | dead g=>trivial
def rho (is:List Nat) (N:Nat) (j:Nat):Nat:=if j<is.length then is.getD j 0 else N+(j-is.length)
def putR {α : Type}:List Nat→List α→List α→List α
 | i::is,r::rs,l=>putR is rs (l.set i r)
 | _,rs,l=>l++rs
theorem qdC {α : Type} : ∀ (is:List Nat) (rs l:List α),is.length≤rs.length→(putR is rs l).length=l.length+(rs.length-is.length)
 | [],rs,l,_=>by simp[putR]
 | i::is,[],l,h=>by simp at h
 | i::is,r::rs,l,h=>by
  simp only[putR]
  rw[qdC is rs _ (by simpa using h)]
  simp
theorem qda {α : Type} : ∀ (is:List Nat) (rs l:List α) (i:Nat),is.length≤rs.length→i<l.length→i∉is→(putR is rs l)[i]?=l[i]?
 | [],rs,l,i,_,hi,_=>by simp only[putR];rw[List.getElem?_append_left hi]
 | i0::is,[],l,i,h,_,_=>by simp at h
 | i0::is,r::rs,l,i,h,hi,hn=>by
  simp only[putR]
  rw[qda is rs _ i (by simpa using h) (by simpa using hi) (fun hm=>hn (List.mem_cons_of_mem _ hm))]
  have:i0≠i:=fun e=>hn (by simp[e])
  simp[List.getElem?_set,this]
theorem qhz {α : Type} : ∀ (is:List Nat) (rs l:List α) (j:Nat),is.Nodup→(∀ i∈is,i<l.length)→is.length≤rs.length→j<rs.length→(putR is rs l)[rho is l.length j]?=rs[j]?
 | [],rs,l,j,_,_,_,hj=>by
  simp only[putR,rho,List.length_nil,Nat.not_lt_zero,if_false,Nat.sub_zero]
  rw[List.getElem?_append_right (by omega)]
  congr 1
  omega
 | i0::is,[],l,j,_,_,h,_=>by simp at h
 | i0::is,r::rs,l,0,hnd,hlt,h,hj=>by
  have hi0:=hlt i0 (by simp)
  have hni:=(List.nodup_cons.1 hnd).1
  simp only[putR,rho,List.length_cons,Nat.zero_lt_succ,if_true]
  show(putR is rs (l.set i0 r))[i0]?=some r
  rw[qda is rs _ i0 (by simpa using h) (by simpa using hi0) hni]
  simp[hi0]
 | i0::is,r::rs,l,j+1,hnd,hlt,h,hj=>by
  have:=qhz is rs (l.set i0 r) j (List.nodup_cons.1 hnd).2 (fun i hi=>by simpa using hlt i (by simp[hi])) (by simpa using h) (by simpa using hj)
  simp only[putR]
  have e:rho (i0::is) l.length (j+1)=rho is (l.set i0 r).length j:=by
   simp only[rho,List.length_cons,List.length_set]
   by_cases hj2:j<is.length
   ·rw[if_pos (by omega),if_pos hj2]
    simp[List.getD]
   ·rw[if_neg (by omega),if_neg hj2]
    omega
  rw[e,this]
  simp
theorem qjW (is:List Nat) (N M i:Nat) (hi:i<N+(M-is.length)) (hm:is.length≤M):(∃ j,j<M∧i=rho is N j)∨(i<N∧i∉is):=by
 by_cases h1:i∈is
 ·obtain⟨j,hj,rfl⟩:=List.getElem_of_mem h1
  exact .inl ⟨j,by omega,by simp[rho,hj]⟩
 ·by_cases h2:i<N
  ·exact .inr ⟨h2,h1⟩
  ·exact .inl ⟨is.length+(i-N),by omega,by unfold rho;rw[if_neg (by omega)];omega⟩
theorem rho_inj {is:List Nat}{N:Nat}(hnd:is.Nodup) (hlt : ∀ i∈is,i<N) {j j':Nat}(h:rho is N j=rho is N j'):j=j':=by
 have hmem : ∀ j,j<is.length→is.getD j 0∈is:=fun j hj=>by simp[List.getD,hj]
 unfold rho at h
 split at h
 ·rename_i h1
  split at h
  ·rename_i h2
   have e1:is.getD j 0=is[j]:=by simp[List.getD,h1]
   have e2:is.getD j' 0=is[j']:=by simp[List.getD,h2]
   rw[e1,e2] at h
   exact(List.getElem?_inj h1 hnd).1 (by rw[List.getElem?_eq_getElem h1,List.getElem?_eq_getElem h2,h])
  ·have:=hlt _ (hmem j h1);omega
 ·split at h
  ·rename_i h2
   have:=hlt _ (hmem j' h2);omega
  ·omega
theorem qgo {α : Type}{l l':List α}{i j:Nat}(z : α) (h:l[i]?=l'[j]?):l.getD i z=l'.getD j z:=by simp only[List.getD,h]
set_option maxHeartbeats 1000000 in
theorem ICall.frame {P:Program}{f:Nat}{args:List I}{H0:List R}{Po:I→List R→Prop}(h:ICall P f args H0 Po) (is:List Nat) (hnd:is.Nodup) (hlen:is.length=H0.length) {H:List R}(hlt : ∀ i∈is,i<H.length)
  (hH : ∀ j,j<H0.length→H.getD (rho is H.length j) (.dead 0)=renR (rho is H.length) (H0.getD j (.dead 0))) (ha : ∀ x∈args,x.idlt H0.length) (hb : ∀ r∈H0,r.idlt H0.length) :
  ICall P f (args.map (renI (rho is H.length))) H (fun r' H''=>∃ r H',Po r H'∧r'=renI (rho is H.length) r∧H''=putR is (H'.map (renR (rho is H.length))) H):=by
 refine⟨h.1,?_⟩
 intro S φ vs w Rr s hvl hv hr
 have hmem : ∀ j,j<is.length→is.getD j 0∈is:=fun j hj=>by simp[List.getD,hj]
 have hrlt : ∀ j,j<H0.length→rho is H.length j=is.getD j 0∧rho is H.length j<H.length:=by
  intro j hj
  have:rho is H.length j=is.getD j 0:=by unfold rho;rw[if_pos (by omega)]
  exact⟨this,this▸hlt _ (hmem j (by omega))⟩
 have e0:Emb (rho is H.length) H0.length H0 (is.map fun i=>φ.getD i []) H φ:=by
  refine⟨rfl,fun j hj=>(hrlt j hj).2,hH,fun j hj=>?_⟩
  rw[(hrlt j hj).1]
  simp[List.getD,show j<is.length by omega]
 have fp0 : ∀ j,j<H0.length→(is.map fun i=>φ.getD i []).getD j [] = φ.getD (rho is H.length j) []:=fun j hj=>(e0.fp j hj).symm
 have fpo : ∀ j,¬ j<H0.length→(is.map fun i=>φ.getD i []).getD j []=[]:=fun j hj=>by
  rw[List.getD,List.getElem?_eq_none (by simp;omega)];rfl
 have foot0 : ∀ b,Foot (is.map fun i=>φ.getD i []) b→∃ i,i∈is∧b∈φ.getD i []:=by
  rintro b ⟨j,hj⟩
  by_cases hj2:j<H0.length
  ·rw[fp0 j hj2,(hrlt j hj2).1] at hj
   exact⟨_,hmem j (by omega),hj⟩
  ·rw[fpo j hj2] at hj;simp at hj
 have foot0' : ∀ b,Foot (is.map fun i=>φ.getD i []) b→Foot φ b:=fun b hb=>let ⟨i,_,h⟩:=foot0 b hb;⟨i,h⟩
 have s0:Sim S (is.map fun i=>φ.getD i []) H0 w:=by
  refine⟨by simp[hlen],?_,?_,fun b hb=>s.lt b (foot0' b hb),fun b hb=>s.off b (foot0' b hb),s.slt,?_⟩
  ·intro j
   by_cases hj:j<H0.length
   ·rw[fp0 j hj];exact s.nd _
   ·rw[fpo j hj];simp
  ·intro i j b hi hj
   by_cases hi2:i<H0.length
   ·by_cases hj2:j<H0.length
    ·rw[fp0 _ hi2] at hi
     rw[fp0 _ hj2] at hj
     exact rho_inj hnd hlt (s.dj _ _ b hi hj)
    ·rw[fpo j hj2] at hj;simp at hj
   ·rw[fpo i hi2] at hi;simp at hi
  ·intro j r hj
   obtain⟨hj2,hje⟩:=qaO (.dead 0) hj
   have:=s.rel _ _ (getD_some (.dead 0) (hrlt j hj2).2)
   rw[hH j hj2,hje] at this
   rw[fp0 j hj2]
   exact e0.rdown this (hb r (List.mem_of_getElem? hj))
 have hmap : ∀ j,j<args.length→(args.map (renI (rho is H.length))).getD j .junk=renI (rho is H.length) (args.getD j .junk):=by
  intro j hj
  simp[List.getD,hj]
 refine h.2 S (is.map fun i=>φ.getD i []) vs w Rr s0 (by simpa using hvl) (fun j hj=>?_) ?_
 ·have:=hv j (by simpa using hj)
  rw[hmap j hj] at this
  exact e0.down this (ha _ (by simp[List.getD,hj]))
 intro v w' S' φ' r H' s' hvr he ht hpo
 have hle:is.length≤φ'.length:=by rw[s'.len,hlen];exact ht.len
 have hle':is.length≤(H'.map (renR (rho is H.length))).length:=by simp;rw[hlen];exact ht.len
 have hφl : φ.length=H.length:=s.len
 have hltφ : ∀ i∈is,i < φ.length:=fun i hi=>by rw[hφl];exact hlt i hi
 have gH : ∀ j,j<H'.length→(putR is (H'.map (renR (rho is H.length))) H)[rho is H.length j]?=some (renR (rho is H.length) (H'.getD j (.dead 0))):=by
  intro j hj
  rw[qhz is _ H j hnd hlt hle' (by simpa using hj)]
  simp[List.getD,hj]
 have gφ : ∀ j,j<H'.length→(putR is φ' φ).getD (rho is H.length j) [] = φ'.getD j []:=by
  intro j hj
  have:=qhz is φ' φ j hnd hltφ hle (by rw[s'.len];exact hj)
  rw[hφl] at this
  exact qgo _ this
 have oH : ∀ i,i<H.length→i∉is→(putR is (H'.map (renR (rho is H.length))) H)[i]?=H[i]?:=fun i hi hn=>qda is _ H i hle' hi hn
 have oφ : ∀ i,i<H.length→i∉is→(putR is φ' φ).getD i [] = φ.getD i []:=fun i hi hn=>qgo _ (qda is φ' φ i hle (by rw[hφl];exact hi) hn)
 have lH:(putR is (H'.map (renR (rho is H.length))) H).length=H.length+(H'.length-is.length):=by rw[qdC _ _ _ hle'];simp
 have lφ : (putR is φ' φ).length=H.length+(H'.length-is.length):=by rw[qdC _ _ _ hle,s'.len,hφl]
 have cases' : ∀ i,i<H.length+(H'.length-is.length)→(∃ j,j<H'.length∧i=rho is H.length j)∨(i<H.length∧i∉is):=fun i hi=>qjW is H.length H'.length i hi (by simpa using hle')
 have fpbig : ∀ i b,b∈(putR is φ' φ).getD i []→i<H.length+(H'.length-is.length):=by
  intro i b hb
  by_cases hi:i<(putR is φ' φ).length
  ·rw[lφ] at hi;exact hi
  ·rw[List.getD,List.getElem?_eq_none (by omega)] at hb;simp at hb
 have e1:Emb (rho is H.length) H'.length H' φ' (putR is (H'.map (renR (rho is H.length))) H) (putR is φ' φ):=by
  refine⟨rfl,fun j hj=>?_,fun j hj=>(qaO _ (gH j hj)).2,fun j hj=>gφ j hj⟩
  exact(List.getElem?_eq_some_iff.1 (gH j hj)).1
 have offother : ∀ i b,i<H.length→i∉is→b∈φ.getD i []→¬ Foot (is.map fun i=>φ.getD i []) b:=by
  intro i b hi hn hb hf
  obtain⟨i',hi',hb'⟩:=foot0 b hf
  exact hn (s.dj i i' b hb hb'▸hi')
 have keepo : ∀ i b,i<H.length→i∉is→b∈φ.getD i []→w'.heap[b]?=w.heap[b]?:=fun i b hi hn hb=>he.keep b (s.lt b ⟨i,hb⟩) (offother i b hi hn hb)
 have footc : ∀ b,Foot (putR is φ' φ) b→Foot φ' b∨∃ i,i<H.length∧i∉is∧b∈φ.getD i []:=by
  rintro b ⟨i,hb⟩
  rcases cases' i (fpbig i b hb) with⟨j,hj,rfl⟩|⟨hi,hn⟩
  ·rw[gφ j hj] at hb;exact .inl ⟨j,hb⟩
  ·rw[oφ i hi hn] at hb;exact .inr ⟨i,hi,hn,hb⟩
 have sepo : ∀ i b,i<H.length→i∉is→b∈φ.getD i []→¬ Foot φ' b:=by
  intro i b hi hn hb hf
  rcases he.fp b hf with h1|h1
  ·exact offother i b hi hn hb h1
  ·have:=s.lt b ⟨i,hb⟩;omega
 have tr:Tr H.length S φ H w S' (putR is φ' φ) (putR is (H'.map (renR (rho is H.length))) H) w':=by
  have split : ∀ i,i<H.length→(∃ j,j<H0.length∧i=rho is H.length j)∨i∉is:=by
   intro i hi
   by_cases hm:i∈is
   ·obtain⟨j,hj,rfl⟩:=List.getElem_of_mem hm
    exact .inl ⟨j,by omega,by simp[rho,hj]⟩
   ·exact .inr hm
  have hH0 : ∀ j,j<H0.length→H[rho is H.length j]?=some (renR (rho is H.length) (H0.getD j (.dead 0))):=fun j hj=>by rw[getD_some (.dead 0) (hrlt j hj).2,hH j hj]
  have hl0:H0.length≤H'.length:=ht.len
  refine⟨he.sub,ht.keep,Nat.le_refl _,by rw[lH];omega,?_,?_,?_,?_,?_⟩
  ·intro i hi
   rcases split i hi with⟨j,hj,rfl⟩|hn
   ·rw[hH j hj,(qaO (.dead 0) (gH j (by omega))).2]
    have:=ht.gen j hj
    generalize H0.getD j (.dead 0)=a at this
    generalize H'.getD j (.dead 0)=b at this
    cases a <;> cases b <;> simpa only[renR,R.gen] using this
   ·rw[qgo (.dead 0) (oH i hi hn)];exact Nat.le_refl _
  ·intro i g k dp' l' hi hl'
   rcases split i hi with⟨j,hj,rfl⟩|hn
   ·rw[gH j (by omega)] at hl'
    have hrow : ∃ dp0,H'[j]?=some (.row g k dp0 l'):=by
     rw[getD_some (.dead 0) (show j<H'.length by omega)]
     generalize H'.getD j (.dead 0)=b at hl'
     cases b <;> simp only[renR,Option.some.injEq,R.row.injEq,reduceCtorEq] at hl'
     obtain⟨rfl,rfl,_,rfl⟩:=hl'
     exact⟨_,rfl⟩
    obtain⟨dp0,hrow⟩:=hrow
    rcases ht.row j g k dp0 l' hj hrow with h1|⟨dp,l,h1,h2,h3,h4⟩
    ·left
     rw[hH j hj]
     generalize H0.getD j (.dead 0)=a at h1
     cases a <;> simpa only[renR,R.gen] using h1
    ·right
     refine⟨renD (rho is H.length) dp,l,?_,?_,h3,?_⟩
     ·rw[hH0 j hj,(qaO (.dead 0) h1).2];rfl
     ·rw[gφ j (by omega),h2,fp0 j hj]
     ·rw[←fp0 j hj];exact h4
   ·rw[oH i hi hn] at hl'
    exact .inr ⟨dp',l',hl',by rw[oφ i hi hn],Nat.le_refl _,fun b rest arr ty e1 e2=>⟨arr,ty,by rw[keepo i b hi hn (by rw[e1];simp)];exact e2,Nat.le_refl _⟩⟩
  ·intro i cs' hi hl'
   rcases split i hi with⟨j,hj,rfl⟩|hn
   ·rw[gH j (by omega)] at hl'
    have hroot : ∃ cs0,H'[j]?=some (.box cs0):=by
     rw[getD_some (.dead 0) (show j<H'.length by omega)]
     generalize H'.getD j (.dead 0)=b at hl'
     cases b <;> simp only[renR,Option.some.injEq,reduceCtorEq] at hl'
     exact⟨_,rfl⟩
    obtain⟨cs0,h0⟩:=hroot
    obtain⟨cs,h1,h2⟩:=ht.box j cs0 hj h0
    exact⟨renL _ cs,by rw[hH0 j hj,(qaO (.dead 0) h1).2];rfl,by rw[gφ j (by omega),h2,fp0 j hj]⟩
   ·rw[oH i hi hn] at hl'
    exact⟨cs',hl',oφ i hi hn⟩
  ·intro i es' hi hl'
   rcases split i hi with⟨j,hj,rfl⟩|hn
   ·rw[gH j (by omega)] at hl'
    have hroot : ∃ cs0,H'[j]?=some (.map cs0):=by
     rw[getD_some (.dead 0) (show j<H'.length by omega)]
     generalize H'.getD j (.dead 0)=b at hl'
     cases b <;> simp only[renR,Option.some.injEq,reduceCtorEq] at hl'
     exact⟨_,rfl⟩
    obtain⟨cs0,h0⟩:=hroot
    obtain⟨cs,h1,h2⟩:=ht.map j cs0 hj h0
    exact⟨cs,by rw[hH0 j hj,(qaO (.dead 0) h1).2];rfl,by rw[gφ j (by omega),h2,fp0 j hj]⟩
   ·rw[oH i hi hn] at hl'
    exact⟨es',hl',oφ i hi hn⟩
  ·intro i x hi hl'
   rcases split i hi with⟨j,hj,rfl⟩|hn
   ·rw[gH j (by omega)] at hl'
    have hroot:H'[j]?=some (.val x):=by
     rw[getD_some (.dead 0) (show j<H'.length by omega)]
     generalize H'.getD j (.dead 0)=b at hl'
     cases b <;> simp only[renR,Option.some.injEq,reduceCtorEq] at hl'
     rw[hl']
    obtain⟨h1,h2,h3⟩:=ht.val j x hj hroot
    exact⟨by rw[hH0 j hj,(qaO (.dead 0) h1).2];rfl,by rw[gφ j (by omega),h2,fp0 j hj],by rw[←fp0 j hj];exact h3⟩
   ·rw[oH i hi hn] at hl'
    exact⟨hl',oφ i hi hn,fun b hb=>keepo i b hi hn hb⟩
 refine hr v w' S' (putR is φ' φ) _ _ ⟨by rw[lφ,lH],?_,?_,?_,?_,s'.slt,?_⟩ (e1.up hvr) ?_ tr ⟨r,H',hpo,rfl,rfl⟩
 ·intro i
  by_cases hi:i<H.length+(H'.length-is.length)
  ·rcases cases' i hi with⟨j,hj,rfl⟩|⟨hi,hn⟩
   ·rw[gφ j hj];exact s'.nd j
   ·rw[oφ i hi hn];exact s.nd i
  ·rw[List.getD,List.getElem?_eq_none (by omega)];simp
 ·intro i j b hi hj
  rcases cases' i (fpbig i b hi) with⟨i',hi',rfl⟩|⟨hi',hn⟩
  ·rw[gφ i' hi'] at hi
   rcases cases' j (fpbig j b hj) with⟨j',hj',rfl⟩|⟨hj',hn'⟩
   ·rw[gφ j' hj'] at hj
    rw[s'.dj i' j' b hi hj]
   ·rw[oφ j hj' hn'] at hj
    exact absurd ⟨i',hi⟩ (sepo j b hj' hn' hj)
  ·rw[oφ i hi' hn] at hi
   rcases cases' j (fpbig j b hj) with⟨j',hj',rfl⟩|⟨hj',hn'⟩
   ·rw[gφ j' hj'] at hj
    exact absurd ⟨j',hj⟩ (sepo i b hi' hn hi)
   ·rw[oφ j hj' hn'] at hj
    exact s.dj i j b hi hj
 ·intro b hb
  rcases footc b hb with h1|⟨i,hi,hn,h1⟩
  ·exact s'.lt b h1
  ·exact Nat.lt_of_lt_of_le (s.lt b ⟨i,h1⟩) he.size
 ·intro b hb hS
  rcases footc b hb with h1|⟨i,hi,hn,h1⟩
  ·exact s'.off b h1 hS
  ·rcases he.sfp b hS with h2|h2|h2
   ·exact s.off b ⟨i,h1⟩ h2
   ·exact offother i b hi hn h1 h2
   ·have:=s.lt b ⟨i,h1⟩;omega
 ·intro i r0 hr0
  have hi:=(List.getElem?_eq_some_iff.1 hr0).1
  rw[lH] at hi
  rcases cases' i hi with⟨j,hj,rfl⟩|⟨hi,hn⟩
  ·rw[gH j hj] at hr0
   simp only[Option.some.injEq] at hr0
   subst hr0
   rw[gφ j hj]
   exact e1.rup (s'.rel j _ (getD_some (.dead 0) hj))
  ·rw[oH i hi hn] at hr0
   rw[oφ i hi hn]
   exact(s.rel i r0 hr0).tr tr fun b hb=>keepo i b hi hn hb
 ·refine⟨he.os,he.tape,he.output,he.size,fun b hb hf=>he.keep b hb fun h1=>hf (foot0' b h1),?_,he.sub,?_⟩
  ·intro b hb
   rcases footc b hb with h1|⟨i,hi,hn,h1⟩
   ·exact(he.fp b h1).imp (foot0' b) id
   ·exact .inl ⟨i,h1⟩
  ·intro b hb
   rcases he.sfp b hb with h2|h2|h2
   ·exact .inl h2
   ·exact .inr (.inl (foot0' b h2))
   ·exact .inr (.inr h2)
end Go.VL
namespace Go.VL
variable {E:Env}{P:Program}{S:Nat→Prop}{φ : List (List Nat)}{H:List R}{w:World}{n:Nat}{fr:Fr}
def Proc (P:Program) (f:Nat) (args:List I) (H:List R) (r0:I) (H1:List R):Prop:=ICall P f args H (fun r H'=>r=r0∧H'=H1)
def fitE (n:Nat) (r:I) (H:List R) (r0:I) (H1:List R):Prop:=fit1 (qaZ H1.length H) r r0∧n≤H1.length∧fitH H H1∧r0.idlt H1.length∧qbL H1.length H1
@[go_sem] theorem fitE_eq {r:I}{r0:I}{H1:List R}:fitE n r H r0 H1=(fit1 (qaZ H1.length H) r r0∧n≤H1.length∧fitH H H1∧r0.idlt H1.length∧qbL H1.length H1):=rfl
@[go_sem] theorem fit1_tup {K:List R}{xs:List I}{y:I}:fit1 K (.tup xs) y=fitS K (.tup xs) y:=qg2 nofun
@[go_sem] theorem idlt_tup {m:Nat}{cs:List I}:(I.tup cs).idlt m=qdw m cs:=by simp only[I.idlt]
attribute [go_sem] I.tup.injEq
theorem ql4 {E:Env}(hT:TOK E.P E.T) {f:Nat}{fn:Func}{c:Code}{nt:Nat}{args:List I}{H:List R}{Po:I→List R→Prop}(hn:E.n=H.length) (fuel:Nat) (hf:E.P.funcs[f]?=some fn) (hb:fn.body=some c)
  (hnm : (fn.name == "runtime.NumGoroutine") = false) (hnt : fn.ntmps = nt) (hl : args.length ≤ nt)
  (h:qaB E fuel c [] (endsWith E.T fn (fun fr r H'=>∃ r0 H1,fitE H.length r H' r0 H1∧Po r0 H1)) ⟨nt,qcv 0 args⟩ H):ICall E.P f args H Po:=by
 subst hnt
 refine qe3 hT hf hb hnm hl ?_
 have:=qc9 hT fuel h
 rw[hn] at this
 refine qf1 this ?_
 have fin : ∀ (fr':Fr) (r:I) (H':List R),(∃ r0 H1,fitE H.length r H' r0 H1∧Po r0 H1)→∃ fr'' H'',Ghost H.length (⟨1,[(0,r)]⟩:Fr) H' fr'' H''∧fr''.n=1∧Po (fr''.get 0) H'':=by
  rintro fr' r H' ⟨r0,H1,⟨h1,h2,h3,h4,h5⟩,hpo⟩
  refine⟨⟨1,[(0,r0)]⟩,H1,qdT ⟨rfl,h2,⟨?_,trivial⟩,h3,⟨h4,trivial⟩,h5⟩,rfl,?_⟩
  ·show fit1 _ (look 0 [(0,r)]) r0
   simpa [look] using h1
  ·show Po (look 0 [(0,r0)]) H1
   simpa [look] using hpo
 intro e fr' H' hq
 cases e with
 | normal=>
  simp only[endsWith] at hq ⊢
  cases hr:resI E.T H' fr' fn.results.toList with
  | none=>simp only[hr] at hq
  | some r=>simp only[hr] at hq;exact⟨hq.1,fin fr' r.2 H' hq.2⟩
 | ret=>
  simp only[endsWith] at hq ⊢
  cases hr:resI E.T H' fr' fn.results.toList with
  | none=>simp only[hr] at hq
  | some r=>simp only[hr] at hq;exact⟨hq.1,fin fr' r.2 H' hq.2⟩
 | exit id=>exact hq.elim
 | goto l=>exact hq.elim
 | panic ch=>exact hq.elim
 | outgrown=>exact hq.elim
theorem qhA {E:Env}(hT:TOK E.P E.T) {f:Nat}{fn:Func}{c:Code}{nt:Nat}{args:List I}{H:List R}{r0:I}{H1:List R}(hn:E.n=H.length) (fuel:Nat) (hf:E.P.funcs[f]?=some fn) (hb:fn.body=some c)
  (hnm : (fn.name == "runtime.NumGoroutine") = false) (hnt : fn.ntmps = nt) (hl : args.length ≤ nt)
  (h:qaB E fuel c [] (endsWith E.T fn (fun fr r H'=>fitE H.length r H' r0 H1)) ⟨nt,qcv 0 args⟩ H):Proc E.P f args H r0 H1:=by
 refine ql4 hT hn fuel hf hb hnm hnt hl ?_
 have:(fun(fr:Fr) (r:I) (H':List R)=>fitE H.length r H' r0 H1)=(fun fr r H'=>∃ r0' H1',fitE H.length r H' r0' H1'∧r0'=r0∧H1'=H1):=by
  funext fr r H'
  exact propext ⟨fun h=>⟨r0,H1,h,rfl,rfl⟩,fun⟨_,_,h,e1,e2⟩=>by rw[e1,e2] at h;exact h⟩
 rw[this] at h
 exact h
def qcy (ρ : Nat→Nat) (H:List R):List Nat→List R→Prop
 | i::is,r::rs=>qaj H i=some (renR ρ r)∧qcy ρ H is rs
 | [],_=>True
 | _::_,[]=>True
theorem qfh {ρ : Nat→Nat}{H:List R} : ∀ {is:List Nat}{rs:List R},qcy ρ H is rs→is.length=rs.length→∀ j,j<is.length→H[is.getD j 0]?=some (renR ρ (rs.getD j (.dead 0)))
 | [],_,_,_,j,hj=>by simp at hj
 | i::is,[],_,h,j,_=>by simp at h
 | i::is,r::rs,h,hl,0,_=>by simpa [←qam] using h.1
 | i::is,r::rs,h,hl,j+1,hj=>by simpa using qfh h.2 (by simpa using hl) j (by simpa using hj)
def callC (is:List Nat) (args args0:List I) (H H0:List R):Prop:=
 is.Nodup∧is.length=H0.length∧args=args0.map (renI (rho is H.length))∧qcy (rho is H.length) H is H0∧qdw H0.length args0∧qbL H0.length H0
@[go_sem] theorem callC_eq {is:List Nat}{args args0:List I}{H H0:List R}:callC is args args0 H H0 =
 (is.Nodup∧is.length=H0.length∧args=args0.map (renI (rho is H.length))∧qcy (rho is H.length) H is H0∧qdw H0.length args0∧qbL H0.length H0):=rfl
@[go_sem] theorem frameOk_nil {ρ : Nat→Nat}{H rs:List R}:qcy ρ H [] rs=True:=by simp only[qcy]
@[go_sem] theorem qnl {ρ : Nat→Nat}{H rs:List R}{i:Nat}{is:List Nat}{r:R}:qcy ρ H (i::is) (r::rs)=(qaj H i=some (renR ρ r)∧qcy ρ H is rs):=by simp only[qcy]
attribute [go_sem] Option.some.injEq
theorem qbk {f:Nat}{args0 args:List I}{H0:List R}{Po K:I→List R→Prop}(h:ICall P f args0 H0 Po) (is:List Nat) {H:List R}(hc:callC is args args0 H H0)
  (hk : ∀ r0 H1,Po r0 H1→K (renI (rho is H.length) r0) (putR is (H1.map (renR (rho is H.length))) H)):ICall P f args H K:=by
 obtain⟨h1,h2,rfl,h5,h6,h7⟩:=hc
 have hg:=qfh h5 h2
 refine(ICall.frame h is h1 h2 ?_ ?_ ?_ ?_).mono ?_
 ·intro i hi
  obtain⟨j,hj,rfl⟩:=List.getElem_of_mem hi
  have:=(List.getElem?_eq_some_iff.1 (hg j hj)).1
  simpa [List.getD,hj] using this
 ·intro j hj
  have e:rho is H.length j=is.getD j 0:=by unfold rho;rw[if_pos (by omega)]
  have:=(qaO (.dead 0) (hg j (by omega))).2
  rw[e]
  exact this
 ·intro x hx
  obtain⟨j,hj,rfl⟩:=List.getElem_of_mem hx
  have:=qaT h6 j hj
  simpa [List.getD,hj] using this
 ·intro r hr
  obtain⟨j,hj,rfl⟩:=List.getElem_of_mem hr
  exact qcU h7 j _ (List.getElem?_eq_getElem hj)
 rintro r H' ⟨r',H'',hp,rfl,rfl⟩
 exact hk _ _ hp
theorem qbr {f:Nat}{args0 args:List I}{H0:List R}{r0:I}{H1:List R}{K:I→List R→Prop}(h:Proc P f args0 H0 r0 H1) (is:List Nat) {H:List R}(hc:callC is args args0 H H0)
  (hk:K (renI (rho is H.length) r0) (putR is (H1.map (renR (rho is H.length))) H)):ICall P f args H K:=
 qbk h is hc fun r H' hp=>by obtain⟨rfl,rfl⟩:=hp;exact hk
section rules
variable {ρ : Nat→Nat}
@[go_sem] theorem renI_d {x:D}:renI ρ (.d x)=.d x:=by simp only[renI]
@[go_sem] theorem renI_sl {i g k lo n:Nat}:renI ρ (.sl i g k lo n)=.sl (ρ i) g k lo n:=by simp only[renI]
@[go_sem] theorem renI_ptr {i off:Nat}:renI ρ (.ptr i off)=.ptr (ρ i) off:=by simp only[renI]
@[go_sem] theorem renI_eptr {i g k idx off:Nat}{z:D}:renI ρ (.eptr i g k idx off z)=.eptr (ρ i) g k idx off z:=by simp only[renI]
@[go_sem] theorem renI_map {i:Nat}:renI ρ (.map i)=.map (ρ i):=by simp only[renI]
@[go_sem] theorem renI_agg {cs:List I}:renI ρ (.agg cs)=.agg (renL ρ cs):=by simp only[renI]
@[go_sem] theorem renI_tup {cs:List I}:renI ρ (.tup cs)=.tup (renL ρ cs):=by simp only[renI]
@[go_sem] theorem renL_nil:renL ρ []=[]:=rfl
@[go_sem] theorem renL_cons {x:I}{r:List I}:renL ρ (x::r)=renI ρ x::renL ρ r:=by simp only[renL]
@[go_sem] theorem renR_box {cs:List I}:renR ρ (.box cs)=.box (renL ρ cs):=by simp only[renR]
@[go_sem] theorem renR_row {g k:Nat}{l:List D}:renR ρ (.row g k (.own []) l)=.row g k (.own []) l:=rfl
@[go_sem] theorem renR_rowf {g k:Nat}{l:List D}:renR ρ (.row g k .fz l)=.row g k .fz l:=rfl
@[go_sem] theorem renR_rowb {g k:Nat}{b:Bool}{l:List D}:renR ρ (.row g k (.ofB b) l)=.row g k (.ofB b) l:=by cases b <;> rfl
@[go_sem] theorem renR_map {l:List (D×D)}:renR ρ (.map l)=.map l:=by simp only[renR]
@[go_sem] theorem putR_nil {α : Type}{rs l:List α}:putR [] rs l=l++rs:=by simp only[putR]
@[go_sem] theorem putR_cons {α : Type}{i:Nat}{is:List Nat}{r : α}{rs l:List α}:putR (i::is) (r::rs) l=putR is rs (l.set i r):=by simp only[putR]
@[go_sem] theorem rho_eq {is:List Nat}{N j:Nat}:rho is N j=if j<is.length then is.getD j 0 else N+(j-is.length):=rfl
end rules
mutual
def unpI:D→Nat→I×List R
 | .lst k l,N=>(.sl N 0 k 0 l.length,[.row 0 k (.own []) l])
 | .agg cs,N=>(.agg (unpL cs N).1,(unpL cs N).2)
 | .tup cs,N=>(.tup (unpL cs N).1,(unpL cs N).2)
 | x,N=>(.d x,[])
def unpL:List D→Nat→List I×List R
 | [],N=>([],[])
 | x::r,N=>((unpI x N).1::(unpL r (N+(unpI x N).2.length)).1,(unpI x N).2++(unpL r (N+(unpI x N).2.length)).2)
end
theorem Sim.push2 (s:Sim S φ H w) {r':R}{fp':List Nat}(hnd:fp'.Nodup) (hnew : ∀ b∈fp',¬ Foot φ b∧¬ S b∧b<w.heap.size)
  (hr:Tr H.length S φ H w S (φ ++ [fp']) (H ++ [r']) w→RRel S (φ ++ [fp']) (H ++ [r']) w fp' r') :
  Sim S (φ ++ [fp']) (H ++ [r']) w∧Tr H.length S φ H w S (φ ++ [fp']) (H ++ [r']) w∧∀ b,Foot (φ ++ [fp']) b→Foot φ b∨b∈fp':=by
 have hget : ∀ j,(φ ++ [fp']).getD j []=if j=H.length then fp' else φ.getD j []:=by
  intro j
  rw[qcK,s.len]
 have hH : ∀ j,j<H.length→(H ++ [r'])[j]?=H[j]?:=fun j hj=>by simp[List.getElem?_append,hj]
 have htr:Tr H.length S φ H w S (φ ++ [fp']) (H ++ [r']) w:=by
  refine⟨fun _ h=>h,fun _ _=>rfl,Nat.le_refl _,by simp,?_,?_,?_,?_,?_⟩
  ·intro j hj
   simp only[List.getD,hH j hj]
   exact Nat.le_refl _
  ·intro j g k dp' l' hj hl'
   rw[hH j hj] at hl'
   exact .inr ⟨dp',l',hl',by rw[hget,if_neg (Nat.ne_of_lt hj)],Nat.le_refl _,fun b rest arr ty e1 e2=>⟨arr,ty,e2,Nat.le_refl _⟩⟩
  ·intro j cs' hj hl'
   rw[hH j hj] at hl'
   exact⟨cs',hl',by rw[hget,if_neg (Nat.ne_of_lt hj)]⟩
  ·intro j cs' hj hl'
   rw[hH j hj] at hl'
   exact⟨cs',hl',by rw[hget,if_neg (Nat.ne_of_lt hj)]⟩
  ·intro j x hj hl'
   rw[hH j hj] at hl'
   exact⟨hl',by rw[hget,if_neg (Nat.ne_of_lt hj)],fun b hb=>rfl⟩
 have hfoot : ∀ b,Foot (φ ++ [fp']) b→Foot φ b∨b∈fp':=by
  rintro b ⟨j,hj⟩
  rw[hget] at hj
  by_cases h:j=H.length
  ·rw[if_pos h] at hj
   exact .inr hj
  ·rw[if_neg h] at hj
   exact .inl ⟨j,hj⟩
 refine⟨⟨by simp[s.len],?_,?_,?_,?_,s.slt,?_⟩,htr,hfoot⟩
 ·intro j
  rw[hget]
  split
  ·exact hnd
  ·exact s.nd j
 ·intro j j' b hb hb'
  rw[hget] at hb hb'
  by_cases h:j=H.length <;> by_cases h':j'=H.length
  ·rw[h,h']
  ·rw[if_pos h] at hb
   rw[if_neg h'] at hb'
   exact absurd ⟨j',hb'⟩ (hnew b hb).1
  ·rw[if_neg h] at hb
   rw[if_pos h'] at hb'
   exact absurd ⟨j,hb⟩ (hnew b hb').1
  ·rw[if_neg h] at hb
   rw[if_neg h'] at hb'
   exact s.dj j j' b hb hb'
 ·intro b hb
  rcases hfoot b hb with h1|h1
  ·exact s.lt b h1
  ·exact(hnew b h1).2.2
 ·intro b hb hS
  rcases hfoot b hb with h1|h1
  ·exact s.off b h1 hS
  ·exact(hnew b h1).2.1 hS
 ·intro j r hj
  rw[hget]
  by_cases h:j=H.length
  ·subst h
   have:r'=r:=by simpa using hj
   subst this
   rw[if_pos rfl]
   exact hr htr
  ·rw[if_neg h]
   have hlt:j<H.length:=by
    have:=(List.getElem?_eq_some_iff.1 hj).1
    simp at this
    omega
   rw[hH j hlt] at hj
   exact(s.rel j r hj).tr htr fun b hb=>rfl
structure UnpR (S:Nat→Prop) (φ : List (List Nat)) (H:List R) (w:World) (fp:List Nat) (rs:List R) (φ':List (List Nat)):Prop where
 sim:Sim S φ' (H++rs) w
 tr:Tr H.length S φ H w S φ' (H++rs) w
 foot : ∀ b,Foot φ' b→Foot φ b∨b∈fp
theorem UnpR.nil (s:Sim S φ H w) (fp:List Nat):UnpR S φ H w fp [] φ:=⟨by simpa using s,by simpa using Tr.refl (Nat.le_refl _),fun b h=>.inl h⟩
mutual
theorem qfP : ∀ (x:D) {S:Nat→Prop}{φ : List (List Nat)}{H:List R}{w:World}{v:Value}{fp:List Nat},Sim S φ H w→OW w x v fp→fp.Nodup→(∀ b∈fp,¬ Foot φ b∧¬ S b)→
  ∃ φ',UnpR S φ H w fp (unpI x H.length).2 φ'∧V S φ' (H++(unpI x H.length).2) w (unpI x H.length).1 v
 | .int k n,S,φ,H,w,v,fp,s,ho,hnd,hnew=>⟨φ,UnpR.nil s fp,by simpa [unpI] using V.d (by cases ho;exact .int (by assumption))⟩
 | .bool b,S,φ,H,w,v,fp,s,ho,hnd,hnew=>⟨φ,UnpR.nil s fp,by simpa [unpI] using V.d (by cases ho;exact .bool)⟩
 | .raw b,S,φ,H,w,v,fp,s,ho,hnd,hnew=>⟨φ,UnpR.nil s fp,by simpa [unpI] using V.d (by cases ho;exact .raw (by assumption))⟩
 | .nil,S,φ,H,w,v,fp,s,ho,hnd,hnew=>⟨φ,UnpR.nil s fp,by simpa [unpI] using V.d (by cases ho;exact .nil)⟩
 | .ptr cs,S,φ,H,w,v,fp,s,ho,hnd,hnew=>by cases ho
 | .fn f cs,S,φ,H,w,v,fp,s,ho,hnd,hnew=>by cases ho
 | .agg cs,S,φ,H,w,v,fp,s,ho,hnd,hnew=>by
  cases ho with
  | @agg _ vs F hl h1 hj=>
   obtain⟨φ',u,e1,e2⟩:=qee cs (g:=fun j=>vs.getD j undef) s hj hnd hnew
   refine⟨φ',by simpa only[unpI] using u,?_⟩
   simp only[unpI]
   refine .agg (e1.trans hl) (fun j hj'=>?_) (fun j hj'=>e2 j (e1▸hj'))
   exact((hj j (e1▸hj')).fz (S:=fun _=>True) fun _ _=>trivial).one (h1 _ (by simp[List.getD,show j<cs.length from e1▸hj']))
 | .tup cs,S,φ,H,w,v,fp,s,ho,hnd,hnew=>by
  cases ho with
  | @tup _ vs F hl hj=>
   obtain⟨φ',u,e1,e2⟩:=qee cs (g:=fun j=>vs.getD j undef) s hj hnd hnew
   refine⟨φ',by simpa only[unpI] using u,?_⟩
   simp only[unpI]
   exact .tup (e1.trans hl) (fun j hj'=>e2 j (e1▸hj'))
 | .lst k l,S,φ,H,w,v,fp,s,ho,hnd,hnew=>by
  have hlt:=ho.lt
  simp only[unpI]
  cases ho with
  | lst0 hk=>
   obtain⟨g1,g2,g3⟩:=s.push2 (r':=.row 0 k (.own []) []) (fp':=[]) (by simp) (by simp) (fun _=>⟨hk,by simp,by simp[flat],Nat.zero_le _,.inl ⟨rfl,rfl⟩⟩)
   refine⟨_,⟨g1,g2,g3⟩,.sl (by simp) (Nat.zero_le _) (fun dp l hl=>?_) rfl⟩
   have:(φ ++ [[]]).getD H.length []=[]:=by rw[qcK,if_pos s.len.symm]
   rw[this]
   exact⟨.inl ⟨rfl,rfl,rfl,rfl⟩,by simp⟩
  | @lst _ _ b cap arr ty F hk he h1 hn hcap hlim hb hfit hf=>
   obtain⟨g1,g2,g3⟩:=s.push2 (r':=.row 0 k (.own []) l) (fp':=b::(List.range (flat l).length).flatMap F) hnd (fun b' hb'=>⟨(hnew b' hb').1,(hnew b' hb').2,hlt b' hb'⟩)
    (fun _=>⟨hk,he,h1,hlim,.inr ⟨b,_,arr,ty,rfl,hb,Nat.le_trans (Nat.mul_le_mul_right _ hn) hfit,⟨F,rfl,by simp,hf⟩⟩⟩)
   refine⟨_,⟨g1,g2,g3⟩,.sl (by simp) (Nat.zero_le _) (fun dp l' hl=>?_) rfl⟩
   have e:(φ ++ [b::(List.range (flat l).length).flatMap F]).getD H.length []=b::(List.range (flat l).length).flatMap F:=by rw[qcK,if_pos s.len.symm]
   rw[e]
   simp only[List.getElem?_append_right (Nat.le_refl H.length),Nat.sub_self,List.getElem?_cons_zero,Option.some.injEq,R.row.injEq] at hl
   obtain⟨_,_,_,rfl⟩:=hl
   exact⟨.inr ⟨b,_,cap,arr,ty,_,rfl,rfl,hn,hcap,hlim,hb,fun _=>⟨by simp,by simpa using hfit⟩⟩,by simp⟩
theorem qee : ∀ (cs:List D) {S:Nat→Prop}{φ : List (List Nat)}{H:List R}{w:World}{g:Nat→Value}{F:Nat→List Nat},Sim S φ H w→(∀ j,j<cs.length→OW w (cs.getD j .nil) (g j) (F j))→
  ((List.range cs.length).flatMap F).Nodup→(∀ b∈(List.range cs.length).flatMap F,¬ Foot φ b∧¬ S b)→
  ∃ φ',UnpR S φ H w ((List.range cs.length).flatMap F) (unpL cs H.length).2 φ'∧(unpL cs H.length).1.length=cs.length∧∀ j,j<cs.length→V S φ' (H++(unpL cs H.length).2) w ((unpL cs H.length).1.getD j .junk) (g j)
 | [],S,φ,H,w,g,F,s,ho,hnd,hnew=>⟨φ,UnpR.nil s _,by simp[unpL],by simp⟩
 | x::r,S,φ,H,w,g,F,s,ho,hnd,hnew=>by
  have hsplit:(List.range (x::r).length).flatMap F=F 0++(List.range r.length).flatMap (fun j=>F (j+1)):=by
   simp[List.range_succ_eq_map,List.flatMap_cons,List.flatMap_map]
  rw[hsplit] at hnd hnew
  obtain⟨n1,n2,n3⟩:=List.nodup_append.1 hnd
  obtain⟨φ1,u1,v1⟩:=qfP x s (by simpa using ho 0 (by simp)) n1 (fun b hb=>hnew b (by simp[hb]))
  obtain⟨φ2,u2,e2,v2⟩:=qee r (g:=fun j=>g (j+1)) (F:=fun j=>F (j+1)) u1.sim (fun j hj=>by simpa using ho (j+1) (by simpa using hj)) n2 (fun b hb=>by
   refine⟨fun hf=>?_,(hnew b (by rw[List.mem_append];exact .inr hb)).2⟩
   rcases u1.foot b hf with h|h
   ·exact(hnew b (by rw[List.mem_append];exact .inr hb)).1 h
   ·exact n3 b h b hb rfl)
  have eN:H.length+(unpI x H.length).2.length=(H++(unpI x H.length).2).length:=by simp
  rw[hsplit]
  simp only[unpL]
  rw[eN,←List.append_assoc]
  refine⟨φ2,⟨by rw[←List.append_assoc];exact u2.sim,by rw[←List.append_assoc];exact u1.tr.trans (u2.tr.weaken (by simp)),?_⟩,by simpa using e2,?_⟩
  ·intro b hb
   rcases u2.foot b hb with h|h
   ·rcases u1.foot b h with h|h
    ·exact .inl h
    ·exact .inr (List.mem_append.2 (.inl h))
   ·exact .inr (List.mem_append.2 (.inr h))
  ·intro j hj
   cases j with
   | zero=>simpa using v1.tr u2.tr
   | succ j=>simpa using v2 j (by simpa using hj)
end
theorem unp_of (x:D) (H:List R):Unp x H (unpI x H.length).1 (H++(unpI x H.length).2):=by
 intro S φ w w' v fp s ho hnd hnew hg
 obtain⟨s1,t1,e1⟩:=qct s hg S (fun b h=>h) (fun b h=>.inl h) (fun b h=>Nat.lt_of_lt_of_le (s.slt b h) hg.size)
 obtain⟨φ',u,hv⟩:=qfP x s1 ho hnd (fun b hb=>⟨fun hf=>by have:=s.lt b hf;have:=hnew b hb;omega,fun hS=>by have:=s.slt b hS;have:=hnew b hb;omega⟩)
 refine⟨S,φ',u.sim,t1.trans u.tr,⟨hg.os,hg.tape,hg.output,hg.size,fun b hb _=>hg.keep b hb,?_,fun _ h=>h,fun b h=>.inl h⟩,hv⟩
 intro b hb
 rcases u.foot b hb with h|h
 ·exact .inl h
 ·exact .inr (hnew b h)
theorem qdU {f:Nat}{ds:List D}{k:I→List R→Prop}{x:D}(h:Pure E.P f ds x) (hk:k (unpI x H.length).1 (H++(unpI x H.length).2)):qjq E f ds H k:=⟨_,h.toE,fun y hy=>by rw[hy];exact .inr ⟨_,_,unp_of x H,hk⟩⟩
@[go_sem] theorem unpI_lst {k N:Nat}{l:List D}:unpI (.lst k l) N=(.sl N 0 k 0 l.length,[.row 0 k (.own []) l]):=by simp only[unpI]
@[go_sem] theorem unpI_int {k:IntKind}{n:Int}{N:Nat}:unpI (.int k n) N=(.d (.int k n),[]):=by simp only[unpI]
@[go_sem] theorem unpI_bool {b:Bool}{N:Nat}:unpI (.bool b) N=(.d (.bool b),[]):=by simp only[unpI]
@[go_sem] theorem unpI_nil {N:Nat}:unpI .nil N=(.d .nil,[]):=by simp only[unpI]
@[go_sem] theorem unpI_agg {cs:List D}{N:Nat}:unpI (.agg cs) N=(.agg (unpL cs N).1,(unpL cs N).2):=by simp only[unpI]
@[go_sem] theorem unpI_tup {cs:List D}{N:Nat}:unpI (.tup cs) N=(.tup (unpL cs N).1,(unpL cs N).2):=by simp only[unpI]
@[go_sem] theorem unpL_nil {N:Nat}:unpL [] N=([],[]):=by simp only[unpL]
@[go_sem] theorem unpL_cons {x:D}{r:List D}{N:Nat}:unpL (x::r) N=((unpI x N).1::(unpL r (N+(unpI x N).2.length)).1,(unpI x N).2++(unpL r (N+(unpI x N).2.length)).2):=by simp only[unpL]
end Go.VL
namespace Go.VL
open Go.WideShapes Go.ChangeShapes
theorem Grow.kept {w w':World}(g:Grow w w') (may:MemPlace→Prop):w.keptBut w' may:=by
 refine⟨g.os,g.output,fun i hi=>?_⟩
 rw[g.keep i hi]
 split
 ·rename_i h1 h2
  rw[h1] at h2
  simp only[Option.some.injEq,Obj.cells.injEq] at h2
  obtain⟨rfl,rfl,rfl⟩:=h2
  exact⟨rfl,rfl,rfl,fun _ _=>rfl⟩
 ·rename_i h1 h2
  rw[h1] at h2
  simp only[Option.some.injEq,Obj.map.injEq] at h2
  exact Or.inr ⟨h2.1.symm,h2.2.symm⟩
 ·rfl
theorem Grow.frz {w w':World}(g:Grow w w') (a:Addr) (ha:a.block<w.heap.size):w'.frozen? a=w.frozen? a:=by
 simp only[World.frozen?,g.keep _ ha]
theorem qhB {H:Type}{enc:TypeId×Value→H}{P:Program}{f:Func}{s:ChangeSpec}{apart fresh handsOn again:Bool}{W W':World}{args:Array Value}{v:Value}{ds gs:List (DataW H)}{before pa pv:List MemPlace}
  (hW:DataW.Whole enc P f.params.toList s.vars apart W args.toList ds gs before)
  (hres : ∀ (b:Nat) (sp:Nat→Bool) (hd:Bool),DataW.TrodAll enc P W' b sp hd f.resultTypes.toList (v.resultList f.resultTypes.size) (s.fn H (ds++gs)).results [])
  (hargs : ∀ sp:Nat→Bool,(∀ p∈before,sp p.block=true)→DataW.TrodAll enc P W' 0 sp true f.params.toList args.toList (s.fn H (ds++gs)).args pa)
  (hvars : ∀ sp:Nat→Bool,(∀ p∈before,sp p.block=true)→DataW.TrodVars enc P W' sp s.vars (s.fn H (ds++gs)).vars pv)
  (hps:before=pa++pv) (hg:Grow W W')
  (hok : ∀ (j:Nat) (t:TypeId) (r:Value),f.resultTypes[j]?=some t→(v.resultList f.resultTypes.size)[j]?=some r→Value.okWide P W' .any 0 t r) :
  s.post enc P f apart fresh handsOn again W args v W':=by
 have hlt:=fun p hp=>hW.lt p hp
 have hold : ∀ p∈before,(fun b=>decide (b<W.heap.size)) p.block=true:=fun p hp=>by simpa using hW.lt p hp
 refine⟨ds,gs,before,[],pa,pv,hW,hres _ _ _,hargs _ hold,hvars _ hold,World.keptBut_mono (fun p hp=>⟨hp,?_⟩) (hg.kept _),fun _=>?_⟩
 ·rw[hps,List.mem_append] at hp
  exact Or.inr hp
 ·obtain⟨_,_,_,_,_,hz,hn⟩:=hW
  refine⟨hok,_,_,([]++pa)++pv,⟨[]++pa,pv,trodAll_append (hargs _ (fun _ _=>rfl)) (hres _ _ _),hvars _ (fun _ _=>rfl),rfl,?_,?_⟩,?_⟩
  ·intro b off hp
   have hm:MemPlace.cell b off∈before:=by rw[hps];simpa using hp
   rw[hg.frz _ (hlt _ hm)]
   exact hz b off hm
  ·intro ha
   have:=hn ha
   rw[hps] at this
   simpa using this
  ·intro p hp _
   rw[hps]
   simpa using hp
theorem inK_wf {k:IntKind}{n:Int}(h:(Lit.int k n).wf=true):InK k n:=by
 simp only[Lit.wf,Bool.and_eq_true,decide_eq_true_eq] at h
 exact h
end Go.VL
namespace Go.VL
open Go.WideShapes Go.ChangeShapes
def known (T:Nat→Option TI):Nat→Nat→Prop
 | 0,_=>False
 | f+1,t=>
  match T t with
  | some ti=>
   match ti.ty with
   | .int _=>True
   | .bool=>True
   | .slice e=>(match T e with|some ei=>0<ei.bytes∧0<ei.size|none=>False)∧known T f e
   | .struct fs=>∀ p∈fs,known T f p.2
   | _=>False
  | none=>False
def shpF (R:Nat→D→Prop):List (Nat×Nat)→List D→Prop
 | [],[]=>True
 | p::fs,y::ys=>R p.2 y∧shpF R fs ys
 | _,_=>False
def shp (T:Nat→Option TI):Nat→Nat→D→Prop
 | 0,_,_=>False
 | f+1,t,x=>
  match T t with
  | some ti=>
   match ti.ty with
   | .int k=>∃ n,x=.int k n
   | .bool=>∃ b,x=.bool b
   | .slice e=>(match T e with|some ei=>∃ l,x=.lst ei.size l∧∀ y∈l,shp T f e y|none=>False)
   | .struct fs=>∃ ys,x=.agg (ys.flatMap D.cells)∧shpF (shp T f) fs ys
   | _=>False
  | none=>False
structure CellsR (w:World) (x:D) (cs:List Value):Prop where
 len:x.cells.length=cs.length
 one : ∀ c∈x.cells,c.one=true
 fz : ∀ j,j<cs.length→FZ (fun b=>b<w.heap.size) w (x.cells.getD j .nil) (cs.getD j undef)
structure CellsL (w:World) (l:List D) (cs:List Value):Prop where
 len:l.length=cs.length
 one : ∀ c∈l,c.one=true
 fz : ∀ j,j<cs.length→FZ (fun b=>b<w.heap.size) w (l.getD j .nil) (cs.getD j undef)
theorem CellsR.single {w:World}{x:D}{v:Value}(h:FZ (fun b=>b<w.heap.size) w x v) (h1:x.one=true):CellsR w x [v]:=by
 have e:x.cells=[x]:=by cases x <;> first|rfl|simp[D.one] at h1
 refine⟨by rw[e];rfl,by rw[e];simpa using h1,fun j hj=>?_⟩
 rw[e]
 have:j=0:=by simpa using hj
 subst this
 exact h
theorem qbE {α : Type}(l l':List α) (j:Nat) (z : α):(l++l').getD j z=if j<l.length then l.getD j z else l'.getD (j-l.length) z:=by
 simp only[List.getD]
 by_cases h:j<l.length
 ·rw[if_pos h,List.getElem?_append_left h]
 ·rw[if_neg h,List.getElem?_append_right (by omega)]
theorem CellsL.append {w:World}{l l':List D}{cs cs':List Value}(h:CellsL w l cs) (h':CellsL w l' cs'):CellsL w (l++l') (cs++cs'):=by
 refine⟨by simp[h.len,h'.len],?_,?_⟩
 ·intro c hc
  rcases List.mem_append.1 hc with hc|hc
  ·exact h.one c hc
  ·exact h'.one c hc
 ·intro j hj
  rw[qbE,qbE,h.len]
  split
  ·exact h.fz j (by assumption)
  ·exact h'.fz _ (by simp at hj;omega)
theorem weightsAll_mem {H:Type}{P:Program}{e:TypeId} : ∀ {l:List (DataW H)}{i:Nat}{d:DataW H},l[i]?=some d→∀ n∈d.weights P e,n∈DataW.weightsAll P e l
 | [],i,d,h,_,_=>by simp at h
 | x::r,0,d,h,n,hn=>by
  simp at h;subst h
  simp only[DataW.weightsAll,List.mem_append]
  exact .inl hn
 | x::r,i+1,d,h,n,hn=>by
  simp only[DataW.weightsAll,List.mem_append]
  exact .inr (weightsAll_mem (by simpa using h) n hn)
section
variable {P:Program}{T:Nat→Option TI}{H:Type}{enc:TypeId×Value→H}{w:World}{sp:Nat→Bool}{held:Bool}
theorem qfQ {base:Nat}{a:Addr}{n:Nat}{cs:List Value}(h:w.cells? base a n=some cs):base≤a.block∧cs.length=n∧∀ i,i<n→w.cell? (a.add i)=some (cs.getD i undef):=by
 unfold World.cells? at h
 split at h
 ·refine⟨by assumption,by simpa using mapM_some_length h,fun i hi=>?_⟩
  have h1:=mapM_some_get h i i (by simp[hi])
  have hl:cs.length=n:=by simpa using mapM_some_length h
  rw[h1]
  simp[List.getD,show i<cs.length by omega]
 ·simp at h
theorem qg3 (R:Nat→D→Prop) (sz:Nat→Nat) : ∀ (fs:List Field) (base:Nat) (cs:List Value),cs.length=base+(fs.map fun(f:Field)=>sz f.type).sum→
  (∀ (i:Nat) (f:Field),fs[i]?=some f→f.offset=base+((fs.take i).map fun(f:Field)=>sz f.type).sum)→
  (∀ (i:Nat) (f:Field),fs[i]?=some f→∃ y,R f.type y∧CellsR w y ((cs.drop f.offset).take (sz f.type)))→
  ∃ ys,shpF R (fs.map fun(f:Field)=>(f.offset,f.type)) ys∧CellsL w (ys.flatMap D.cells) (cs.drop base)
 | [],base,cs,hl,_,_=>⟨[],trivial,by
   have:cs.drop base=[]:=List.drop_eq_nil_of_le (by simp at hl;omega)
   rw[this]
   exact⟨rfl,by simp,by simp⟩⟩
 | f::fs,base,cs,hl,ho,hy=>by
  simp only[List.map_cons,List.sum_cons] at hl
  obtain⟨y,hR,hc⟩:=hy 0 f rfl
  have e0:f.offset=base:=by simpa using ho 0 f rfl
  rw[e0] at hc
  obtain⟨ys,h1,h2⟩:=qg3 R sz fs (base+sz f.type) cs (by omega) (fun i g hg=>by
   have:=ho (i+1) g (by simpa using hg)
   simpa [Nat.add_assoc] using this) (fun i g hg=>hy (i+1) g (by simpa using hg))
  refine⟨y::ys,⟨hR,h1⟩,?_⟩
  have e:cs.drop base=(cs.drop base).take (sz f.type)++cs.drop (base+sz f.type):=by
   rw[←List.drop_drop,List.take_append_drop]
  rw[e]
  exact CellsL.append ⟨hc.len,hc.one,hc.fz⟩ h2
theorem aadd (a:Addr) (x y:Nat):(a.add x).add y=a.add (x+y):=by
 by_cases hx:x=0
 ·subst hx;simp[Addr.add]
 ·by_cases hy:y=0
  ·subst hy;simp[Addr.add]
  ·simp only[Addr.add,if_neg hx,if_neg hy,if_neg (show ¬ x+y=0 by omega),Nat.add_assoc]
theorem qg4 (b off x:Nat):Addr.add ⟨b,off,none⟩ x=⟨b,off+x,none⟩:=by
 by_cases hx:x=0
 ·subst hx;simp[Addr.add]
 ·simp[Addr.add,hx]
theorem qjX (a:Addr):a.add 0=a:=by simp[Addr.add]
theorem qiF {α : Type} [Inhabited α] {n:Nat}{p:Nat→α→Prop}(h : ∀ i,i<n→∃ x,p i x) : ∃ l:List α,l.length=n∧∀ i,i<n→p i (l.getD i default):=by
 induction n with
 | zero=>exact⟨[],rfl,by simp⟩
 | succ n ih=>
  obtain⟨l,hl,hp⟩:=ih fun i hi=>h i (by omega)
  obtain⟨x,hx⟩:=h n (by omega)
  refine⟨l ++ [x],by simp[hl],fun i hi=>?_⟩
  rw[qbE,hl]
  by_cases hin:i<n
  ·rw[if_pos hin];exact hp i hin
  ·rw[if_neg hin]
   have:i=n:=by omega
   subst this
   simpa using hx
set_option maxHeartbeats 1000000 in
theorem trod_fz (hT:TOK P T) (K:Kids P (fun t=>t<P.types.size)) : ∀ (f:Nat) (t:Nat) (fuel:Nat) (cs:List Value) (x:DataW H×List MemPlace),known T f t→t<P.types.size→
  DataW.trod enc P w 0 sp held fuel t cs=some x→(∀ n∈x.1.weights P t,n≤reachBytes)→∃ d,shp T f t d∧CellsR w d cs:=by
 intro f
 induction f with
 | zero=>intro t fuel cs x hk;exact hk.elim
 | succ f ih=>
  intro t fuel cs x hk htt h hwt
  simp only[known] at hk
  simp only[shp]
  split at hk
  ·rename_i ti hti
   obtain⟨i,d,hinfo,hsz,hby,hz,hund,hty⟩:=(hT t ti hti).ex
   cases fuel with
   | zero=>simp[DataW.trod] at h
   | succ fuel=>
   split at hk
   ·
    rename_i k hk'
    rw[hk'] at hty
    cases d <;> simp only[tyOf,Ty.int.injEq,reduceCtorEq] at hty
    subst hty
    unfold DataW.trod at h
    rw[hund] at h
    split at h <;> simp_all
    rename_i k' n _
    obtain⟨⟨rfl,hw⟩,rfl⟩:=h
    exact⟨_,⟨_,rfl⟩,CellsR.single (.int (inK_wf hw)) rfl⟩
   ·
    rename_i hk'
    rw[hk'] at hty
    cases d <;> simp only[tyOf,reduceCtorEq] at hty
    unfold DataW.trod at h
    rw[hund] at h
    split at h <;> simp_all
    rename_i b
    cases b
    ·exact .inl (CellsR.single .bool rfl)
    ·exact .inr (CellsR.single .bool rfl)
   ·
    rename_i e hk'
    rw[hk'] at hty
    cases d <;> simp only[tyOf,Ty.slice.injEq,reduceCtorEq] at hty
    subst hty
    rename_i e
    obtain⟨hk1,hk2⟩:=hk
    split at hk1
    ·rename_i ei hei
     obtain⟨i',d',hinfo',hsz',hby',_,hund',_⟩:=(hT e ei hei).ex
     have hcells:P.cellsOf e=ei.size:=by simp[Program.cellsOf,hinfo',hsz']
     have hbytes:P.bytesOf e=ei.bytes:=by simp[Program.bytesOf,hinfo',hby']
     have hlt:=K.slice htt hund
     rcases DataW.trod_slice hund h with⟨rfl,rfl⟩|⟨a,len,cap,elems,rest,n,_,rfl,rfl,hb,hl,hm,hlen,hel,hsp,hns⟩
     ·exact⟨.lst ei.size [],⟨[],rfl,by simp⟩,CellsR.single (.lst0 hk1.2) rfl⟩
     ·have hw1:(elems.length+rest.length)*ei.bytes≤reachBytes:=by
       refine hwt _ ?_
       simp[DataW.weights,hund,hbytes]
      have hweach : ∀ (j:Nat) (y:DataW H×List MemPlace),elems[j]?=some y→∀ n∈y.1.weights P e,n≤reachBytes:=by
       intro j y hy n hn
       refine hwt _ ?_
       simp only[DataW.weights,hund,List.mem_cons,List.mem_append]
       exact .inr (.inl (weightsAll_mem (i:=j) (by simp[hy]) n hn))
      have hone : ∀ j,j<len→∃ y:D,shp T f e y∧∃ cs',w.cells? 0 (a.add (j*P.cellsOf e)) (P.cellsOf e)=some cs'∧CellsR w y cs':=by
       intro j hj
       have h1:=hel j hj
       have hje:elems[j]?=some elems[j]:=List.getElem?_eq_getElem (by omega)
       rw[hje,Option.bind_eq_some_iff] at h1
       obtain⟨cs',hc',ht'⟩:=h1
       obtain⟨y,hy1,hy2⟩:=ih e n cs' _ hk2 hlt ht' (hweach j _ hje)
       exact⟨y,hy1,cs',hc',hy2⟩
      obtain⟨l,hll,hlp⟩:=qiF hone
      have hgetD : ∀ j,j<len→l.getD j default=l.getD j .nil:=fun j hj=>by simp[List.getD,show j<l.length by omega]
      refine⟨.lst ei.size l,⟨l,rfl,?_⟩,?_⟩
      ·intro y hy
       obtain⟨j,hj,rfl⟩:=List.getElem_of_mem hy
       have:=(hlp j (by omega)).1
       simpa [List.getD,hj] using this
      ·refine CellsR.single ?_ rfl
       by_cases hl0:len=0
       ·subst hl0
        have:l=[]:=by simpa using hll
        subst this
        exact .lst0 hk1.2
       ·have hsize : ∀ x∈l,x.cells.length=ei.size:=by
         intro y hy
         obtain⟨j,hj,rfl⟩:=List.getElem_of_mem hy
         obtain⟨_,cs',hc',hr⟩:=hlp j (by omega)
         have e1:l.getD j default=l[j]:=by simp[List.getD,hj]
         rw[e1] at hr
         rw[hr.len,(qfQ hc').2.1,hcells]
        have hfl:=flat_length hsize
        have hcell : ∀ j,j<len*ei.size→∃ v,w.cell? (a.add j)=some v∧FZ (fun b=>b<w.heap.size) w ((flat l).getD j .nil) v:=by
         intro j hj
         have hq:j/ei.size<len:=Nat.div_lt_of_lt_mul (by rw[Nat.mul_comm];exact hj)
         have hr':j%ei.size<ei.size:=Nat.mod_lt _ hk1.2
         obtain⟨_,cs',hc',hrr⟩:=hlp (j/ei.size) hq
         obtain⟨c1,c2,c3⟩:=qfQ hc'
         rw[hcells] at c2 c3
         have hjj:j/ei.size*ei.size+j%ei.size=j:=Nat.div_add_mod' j ei.size
         refine⟨cs'.getD (j%ei.size) undef,?_,?_⟩
         ·have:=c3 _ hr'
          rw[←this,aadd,hjj]
         ·have:=hrr.fz (j%ei.size) (by omega)
          rw[←qaF hsize (by omega) hr' default,hjj] at this
          exact this
        obtain⟨v0,hv0,_⟩:=hcell 0 (Nat.mul_pos (by omega) hk1.2)
        have hspot:a.spot=none∧a.block<w.heap.size:=by
         rw[qjX] at hv0
         unfold World.cell? at hv0
         split at hv0
         ·rename_i c _ _ hb0
          have:=(Array.getElem?_eq_some_iff.1 hb0).1
          split at hv0
          ·simp at hv0
          ·rename_i hs
           exact⟨by simpa using hs,this⟩
         ·simp at hv0
        obtain⟨b,off,spot⟩:=a
        simp only at hspot
        obtain⟨rfl,hblk⟩:=hspot
        have hlim:len≤281474976710656:=by
         have:len*1≤(elems.length+rest.length)*ei.bytes:=Nat.mul_le_mul (by omega) hk1.1
         have hrb:reachBytes=140737488351232:=rfl
         omega
        subst hll
        refine .lst (fun j=>((w.cell? ⟨b,off+j,none⟩).getD undef)) hk1.2 hsize ?_ hl hlim hblk ?_ ?_
        ·intro c hc
         obtain⟨y,hy,hc⟩:=List.mem_flatMap.1 hc
         obtain⟨j,hj,rfl⟩:=List.getElem_of_mem hy
         obtain⟨_,cs',hc',hr⟩:=hlp j hj
         have e1:l.getD j default=l[j]:=by simp[List.getD,hj]
         rw[e1] at hr
         exact hr.one c hc
        ·intro j hj
         obtain⟨v,hv,_⟩:=hcell j (by omega)
         rw[qg4] at hv
         rw[hv];rfl
        ·intro j hj
         obtain⟨v,hv,hz⟩:=hcell j (by omega)
         rw[qg4] at hv
         rw[hv];exact hz
    ·exact hk1.elim
   ·
    rename_i fs hk'
    rw[hk'] at hty
    cases d <;> simp only[tyOf,Ty.struct.injEq,reduceCtorEq] at hty
    rename_i fa
    subst hty
    obtain⟨xs,n,_,rfl,hcl,hxl,hx⟩:=DataW.trod_struct hund h
    obtain⟨k1,k2,k3⟩:=K.struct htt hund
    obtain⟨ys,h1,h2⟩:=qg3 (w:=w) (shp T f) P.cellsOf fa.toList 0 cs (by rw[hcl,k2];simp) (fun i g hg=>by rw[k3 i g hg];simp) (fun i g hg=>by
     have hgi:fa[i]?=some g:=by simpa using hg
     have hlt:i<fa.size:=(Array.getElem?_eq_some_iff.1 hgi).1
     have h3:=hx i g hgi
     have hxe:xs[i]?=some xs[i]:=List.getElem?_eq_getElem (by omega)
     rw[hxe] at h3
     have hmem:(g.offset,g.type)∈fa.toList.map fun(f:Field)=>(f.offset,f.type):=List.mem_map.2 ⟨g,List.mem_of_getElem? hg,rfl⟩
     exact ih g.type n _ _ (hk _ hmem) (k1 g (List.mem_of_getElem? hg)) h3 (fun m hm=>hwt m (by
      simp only[DataW.weights,hund]
      exact DataW.weights_mem_each (j:=i) (t:=g.type) (d:=xs[i].1) (by simp[hg]) (by simp[hxe]) m hm)))
    exact⟨.agg (ys.flatMap D.cells),⟨ys,rfl,h1⟩,⟨by simpa [D.cells] using h2.len,by simpa [D.cells] using h2.one,by simpa [D.cells] using h2.fz⟩⟩
   ·exact hk.elim
  ·exact hk.elim
end
end Go.VL
namespace Go.VL
open Go.WideShapes Go.ChangeShapes
section
variable {P:Program}{T:Nat→Option TI}{H:Type}{enc:TypeId×Value→H}{w:World}{sp:Nat→Bool}
theorem arg_fz (hT:TOK P T) (K:Kids P (fun t=>t<P.types.size)) {f t:Nat}(hk:known T f t) (htt:t<P.types.size) {r:Reach}{b:Nat}{v:Value}{d:DataW H}{p:List MemPlace}
  (hv:Value.okWide P w r b t v) (h:DataW.Trod enc P w 0 sp true t v d p) (hwt : ∀ n∈d.weights P t,n≤reachBytes) : ∃ x,shp T f t x∧FZ (fun b=>b<w.heap.size) w x v:=by
 obtain⟨n,hn⟩:=h
 obtain⟨x,hs,hc⟩:=trod_fz hT K f t n _ _ hk htt hn hwt
 refine⟨x,hs,?_⟩
 have single:x.cells=[x]→(∀ cs,v≠.agg cs)→FZ (fun b=>b<w.heap.size) w x v:=by
  intro hx hna
  have e:v.cells.toList=[v]:=by
   cases v <;> first|rfl|exact absurd rfl (hna _)
  have:=hc.fz 0 (by rw[e];simp)
  rw[hx,e] at this
  exact this
 cases f with
 | zero=>exact hk.elim
 | succ f=>
 simp only[known] at hk
 simp only[shp] at hs
 split at hk
 ·rename_i ti hti
  obtain⟨i,d',hinfo,hsz,hby,hz,hund,hty⟩:=(hT t ti hti).ex
  split at hk
  ·rename_i k hk'
   simp only[hti,hk'] at hs
   obtain⟨m,rfl⟩:=hs
   rw[hk'] at hty
   cases d' <;> simp only[tyOf,reduceCtorEq] at hty
   refine single rfl fun cs e=>?_
   subst e
   simp[Value.okWide,Cell.okWide,Cell.ok,hund] at hv
  ·rename_i hk'
   simp only[hti,hk'] at hs
   obtain⟨m,rfl⟩:=hs
   rw[hk'] at hty
   cases d' <;> simp only[tyOf,reduceCtorEq] at hty
   refine single rfl fun cs e=>?_
   subst e
   simp[Value.okWide,Cell.okWide,Cell.ok,hund] at hv
  ·rename_i e hk'
   simp only[hti,hk'] at hs
   rw[hk'] at hty
   cases d' <;> simp only[tyOf,reduceCtorEq] at hty
   split at hs
   ·obtain⟨l,rfl,_⟩:=hs
    refine single rfl fun cs e=>?_
    subst e
    simp[Value.okWide,Cell.okWide,Cell.ok,hund] at hv
   ·exact hs.elim
  ·rename_i fs hk'
   simp only[hti,hk'] at hs
   rw[hk'] at hty
   cases d' <;> simp only[tyOf,reduceCtorEq] at hty
   obtain⟨ys,rfl,_⟩:=hs
   obtain⟨cs,rfl,_⟩:=okWide_struct hund hv
   have h1:=hc.len
   have h2:=hc.one
   have h3:=hc.fz
   simp only[D.cells,Value.cells] at h1 h2 h3
   exact .agg (by simpa using h1) h2 fun j hj=>by
    have:=h3 j (by omega)
    simpa [Array.getD_eq_getD_getElem?,List.getD] using this
  ·exact hk.elim
 ·exact hk.elim
def shpAll (T:Nat→Option TI) (f:Nat):List Nat→List D→Prop
 | [],[]=>True
 | t::ts,x::xs=>shp T f t x∧shpAll T f ts xs
 | _,_=>False
theorem shpAll_cons {f t:Nat}{ts:List Nat}{ds:List D}(h:shpAll T f (t::ts) ds) : ∃ x xs,ds=x::xs∧shp T f t x∧shpAll T f ts xs:=by
 cases ds with
 | nil=>exact h.elim
 | cons x xs=>exact⟨x,xs,rfl,h.1,h.2⟩
theorem shpAll_nil {f:Nat}{ds:List D}(h:shpAll T f [] ds):ds=[]:=by
 cases ds with
 | nil=>rfl
 | cons x xs=>exact h.elim
def knownAll (T:Nat→Option TI) (f:Nat):List Nat→Prop
 | []=>True
 | t::ts=>known T f t∧knownAll T f ts
theorem qjY (hT:TOK P T) (K:Kids P (fun t=>t<P.types.size)) {f:Nat}{r:Reach}{b:Nat} : ∀ (ts:List Nat) (vs:List Value) (ds:List (DataW H)) (p:List MemPlace),knownAll T f ts→(∀ t∈ts,t<P.types.size)→
  (∀ (j:Nat) t v,ts[j]?=some t→vs[j]?=some v→Value.okWide P w r b t v)→DataW.TrodAll enc P w 0 sp true ts vs ds p→(∀ n∈DataW.weightsEach P ts ds,n≤reachBytes)→
  ∃ xs,shpAll T f ts xs∧vs.length=xs.length∧∀ j,j<xs.length→FZ (fun b=>b<w.heap.size) w (xs.getD j .nil) (vs.getD j undef)
 | [],vs,ds,p,_,_,_,h,_=>by
  obtain⟨rfl,rfl,rfl⟩:=trodAll_nil h
  exact⟨[],trivial,rfl,by simp⟩
 | t::ts,vs,ds,p,hk,htt,hv,h,hw=>by
  obtain⟨v,vs1,d,ds1,p1,p2,rfl,rfl,rfl,h1,h2⟩:=trodAll_cons h
  have hw':(∀ n∈d.weights P t,n≤reachBytes)∧∀ n∈DataW.weightsEach P ts ds1,n≤reachBytes:=by
   simp only[DataW.weightsEach,List.mem_append] at hw
   exact⟨fun n hn=>hw n (.inl hn),fun n hn=>hw n (.inr hn)⟩
  obtain⟨x,hx1,hx2⟩:=arg_fz hT K hk.1 (htt t (by simp)) (hv 0 t v rfl rfl) h1 hw'.1
  obtain⟨xs,hs1,hs2,hs3⟩:=qjY hT K ts vs1 ds1 p2 hk.2 (fun t ht=>htt t (by simp[ht])) (fun j t v ht hv'=>hv (j+1) t v (by simpa using ht) (by simpa using hv')) h2 hw'.2
  refine⟨x::xs,⟨hx1,hs1⟩,by simp[hs2],fun j hj=>?_⟩
  cases j with
  | zero=>simpa using hx2
  | succ j=>simpa using hs3 j (by simpa using hj)
theorem qep {base:Nat}{held:Bool} : ∀ {ts:List TypeId}{vs:List Value}{ds:List (DataW H)}{ps:List MemPlace},DataW.TrodAll enc P w base sp held ts vs ds ps→ds.length=ts.length
 | [],vs,ds,ps,h=>by
  obtain⟨rfl,rfl,rfl⟩:=trodAll_nil h
  rfl
 | t::ts,vs,ds,ps,h=>by
  obtain⟨v,vs1,d,ds1,p1,p2,rfl,rfl,rfl,h1,h2⟩:=trodAll_cons h
  simp[qep h2]
theorem qdV {w':World}{base:Nat}{held:Bool} : ∀ {ts:List TypeId}{vs:List Value}{ds:List (DataW H)}{ps:List MemPlace},DataW.TrodAll enc P w base sp held ts vs ds ps→(∀ p∈ps,w.sameAt w' p)→
  DataW.TrodAll enc P w' base sp held ts vs ds ps
 | [],vs,ds,ps,h,_=>by
  obtain⟨rfl,rfl,rfl⟩:=trodAll_nil h
  exact rfl
 | t::ts,vs,ds,ps,h,hs=>by
  obtain⟨v,vs1,d,ds1,p1,p2,rfl,rfl,rfl,⟨n,h1⟩,h2⟩:=trodAll_cons h
  exact⟨p1,p2,⟨n,DataW.trod_carry n t _ _ h1 fun p hp=>hs p (List.mem_append.2 (.inl hp))⟩,qdV h2 (fun p hp=>hs p (List.mem_append.2 (.inr hp))),rfl⟩
theorem Grow.sameAt {w':World}(g:Grow w w') {p:MemPlace}(hp:p.block<w.heap.size):w.sameAt w' p:=by
 cases p with
 | cell b o=>exact World.cell?_of_block (w:=w) (g.keep b hp)
 | map b=>exact g.keep b hp
theorem calls_law (hT:TOK P T) (K:Kids P (fun t=>t<P.types.size)) (hz : ∀ t e,t<P.types.size→P.underlying t=some (.slice e)→0<P.cellsOf e) {fn:Func}{fi:Nat}{s:ChangeSpec}{base:Nat}{args:Array Value}{ds gs:List (DataW H)}{before:List MemPlace}
  (hvars:s.vars=[]) {f:Nat}(hk:knownAll T f fn.params.toList) (htt : ∀ t∈fn.params.toList,t<P.types.size)
  (hval : ∀ (j:Nat) t v,fn.params[j]?=some t→args[j]?=some v→Value.okWide P w .any base t v)
  (hW:DataW.Whole enc P fn.params.toList s.vars false w args.toList ds gs before)
  (hwt:(DataW.weightsEach P (fn.params.toList++s.plain.varTypes P) (ds++gs)).all (·≤reachBytes)=true) (hvt:s.plain.varTypes P=[])
  (hfn : ∀ (ds:List (DataW H)),ds.length=fn.params.size→s.fn H ds={ results:=[.lit (.bool true)],args:=ds })
  (hres : ∀ (W':World) (b:Nat) (sp:Nat→Bool) (hd:Bool),DataW.TrodAll enc P W' b sp hd fn.resultTypes.toList ((Value.bool true).resultList fn.resultTypes.size) [.lit (.bool true)] [])
  (hok : ∀ (W':World) (j:Nat) (t:TypeId) (r:Value),fn.resultTypes[j]?=some t→((Value.bool true).resultList fn.resultTypes.size)[j]?=some r→Value.okWide P W' .any 0 t r)
  (hc : ∀ xs,shpAll T f fn.params.toList xs→Pure P fi xs (.bool true)) :
  Calls P fi args w fun e W'=>∃ v,e=.returned v∧s.post enc P fn false true false false w args v W':=by
 have hW':=hW
 obtain⟨p,q,hA,hV,rfl,hfz,hnd⟩:=hW
 rw[hvars] at hV
 obtain⟨rfl,rfl⟩:=trodVars_none hV
 rw[hvt] at hwt
 simp only[List.append_nil] at hwt hW' hfz hnd
 have hw : ∀ n∈DataW.weightsEach P fn.params.toList ds,n≤reachBytes:=by simpa using hwt
 obtain⟨xs,hs1,hs2,hs3⟩:=qjY hT K fn.params.toList args.toList ds p hk htt (fun j t v h1 h2=>hval j t v (by simpa using h1) (by simpa using h2)) hA hw
 have hp:=hc xs hs1
 refine hp.2 (fun b=>b<w.heap.size) args w _ (fun b hb=>hb) ⟨by simpa using hs2,fun j hj=>?_⟩ ?_
 ·have:=hs3 j hj
  simpa [Array.getD_eq_getD_getElem?,List.getD] using this
 ·intro v W' fp how _ _ hg
  cases how
  have hlen:ds.length=fn.params.size:=by simpa using qep hA
  refine⟨_,rfl,qhB (pa:=p) (pv:=[]) hW' ?_ ?_ ?_ (by simp) hg ?_⟩
  ·simp only[List.append_nil,hfn ds hlen];exact hres W'
  ·intro sp' hsp
   simp only[List.append_nil,hfn ds hlen]
   exact qdV (DataW.TrodAll.respare K hz htt hA hsp) fun p' hp'=>hg.sameAt (hA.lt p' hp')
  ·intro sp' _
   simp only[List.append_nil,hfn ds hlen,hvars]
   exact rfl
  ·exact hok W'
end
theorem qg5 {α : Type}{f : α→D} : ∀ {l:List D},(∀ y∈l,∃ a,y=f a)→∃ as:List α,l=as.map f
 | [],_=>⟨[],rfl⟩
 | y::r,h=>by
  obtain⟨a,rfl⟩:=h y (by simp)
  obtain⟨as,rfl⟩:=qg5 (l:=r) (fun z hz=>h z (by simp[hz]))
  exact⟨a::as,rfl⟩
section shapes
variable {T:Nat→Option TI}{f t e:Nat}{x:D}{sz b:Nat}{z:D}
theorem shp_int {k:IntKind}(ht:T t=some ⟨.int k,sz,b,z⟩) (h:shp T (f+1) t x) : ∃ n,x=.int k n:=by simpa only[shp,ht] using h
theorem shp_bool (ht:T t=some ⟨.bool,sz,b,z⟩) (h:shp T (f+1) t x) : ∃ n,x=.bool n:=by simpa only[shp,ht] using h
theorem shp_slice {sz' b':Nat}{z':D}{ty':Ty}(ht:T t=some ⟨.slice e,sz,b,z⟩) (he:T e=some ⟨ty',sz',b',z'⟩) {α : Type}{g : α→D}(hg : ∀ y,shp T f e y→∃ a,y=g a) (h:shp T (f+1) t x) : ∃ l:List α,x=.lst sz' (l.map g):=by
 simp only[shp,ht,he] at h
 obtain⟨l,rfl,hl⟩:=h
 obtain⟨as,rfl⟩:=qg5 (fun y hy=>hg y (hl y hy))
 exact⟨as,rfl⟩
theorem shp_struct {fs:List (Nat×Nat)}(ht:T t=some ⟨.struct fs,sz,b,z⟩) (h:shp T (f+1) t x) : ∃ ys,x=.agg (ys.flatMap D.cells)∧shpF (shp T f) fs ys:=by simpa only[shp,ht] using h
end shapes
end Go.VL
namespace Go.VL
variable {E:Env}{P:Program}{S:Nat→Prop}{φ : List (List Nat)}{H:List R}{w:World}{n:Nat}{fr:Fr}
def endI (n:Nat) (Po:I→List R→Prop) (r:I) (H:List R):Prop:=
 ∃ fr' H',Ghost n (⟨1,[(0,r)]⟩:Fr) H fr' H'∧fr'.n=1∧Po (fr'.get 0) H'
theorem qcj {Po:I→List R→Prop}{r:I}(h:Po r H):endI n Po r H:=
 ⟨⟨1,[(0,r)]⟩,H,Ghost.refl _ _ _,rfl,by simpa [Fr.get,look] using h⟩
theorem ql5 {Po:I→List R→Prop}{r r0:I}{H1:List R}(hf:fitE n r H r0 H1) (h:Po r0 H1):endI n Po r H:=by
 obtain⟨h1,h2,h3,h4,h5⟩:=hf
 refine⟨⟨1,[(0,r0)]⟩,H1,qdT ⟨rfl,h2,⟨?_,trivial⟩,h3,⟨h4,trivial⟩,h5⟩,rfl,?_⟩
 ·show fit1 _ (look 0 [(0,r)]) r0
  simpa [look] using h1
 ·show Po (look 0 [(0,r0)]) H1
  simpa [look] using h
theorem qcY {E:Env}(hT:TOK E.P E.T) {f:Nat}{fn:Func}{c:Code}{nt:Nat}{args:List I}{H:List R}{Po:I→List R→Prop}(hn:E.n=H.length) (fuel:Nat) (hf:E.P.funcs[f]?=some fn) (hb:fn.body=some c)
  (hnm : (fn.name == "runtime.NumGoroutine") = false) (hnt : fn.ntmps = nt) (hl : args.length ≤ nt)
  (h:qaB E fuel c [] (endsWith E.T fn (fun fr r H'=>endI E.n Po r H')) ⟨nt,qcv 0 args⟩ H):ICall E.P f args H Po:=by
 subst hnt
 refine qe3 hT hf hb hnm hl ?_
 have:=qc9 hT fuel h
 rw[hn] at this
 exact this
def frzO (Po:I→List R→Prop) (H:List R):Option (Prop×D)→Prop
 | some (vc,d)=>vc∧Po (.d d) H
 | none=>False
@[go_sem] theorem frzO_s {Po:I→List R→Prop}{vc:Prop}{d:D}:frzO Po H (some (vc,d))=(vc∧Po (.d d) H):=rfl
theorem qh3 {Po:I→List R→Prop}{r:I}(hn:n≤H.length) (hH:qbL n (H.take n)) (h:frzO Po (H.take n) (view (qaZ n H) 3 r)):endI n Po r H:=by
 unfold frzO at h
 split at h
 ·rename_i vc d hv
  refine⟨⟨1,[(0,.d d)]⟩,H.take n,?_,rfl,by simpa [Fr.get,look] using h.2⟩
  intro S φ w a _ s hf
  obtain⟨s1,t1⟩:=s.kill n
  have h0:=(hf.val 0).tr t1
  have hr:(⟨1,[(0,r)]⟩:Fr).get 0=r:=by simp[Fr.get,look]
  rw[hr] at h0
  have hz:=qbQ s1 3 h0 hv h.1
  obtain⟨s2,t2,e2⟩:=qfd s hn hH
  refine⟨_,_,s2,⟨hf.defers,hf.size,fun t=>?_⟩,e2,t2⟩
  show V _ _ _ _ (look t [(0,.d d)]) _
  simp only[look]
  by_cases ht:0=t
  ·subst ht
   rw[if_pos rfl]
   exact .d hz
  ·rw[if_neg ht]
   exact .junk
 ·exact h.elim
def pkE (ψ : D→Prop):Option (Prop×D×List Nat)→Prop
 | some (vc,x',ids)=>vc∧ids.Nodup∧∃ x,wk x' x∧ψ x
 | none=>False
def vwE (ψ : D→Prop):Option (Prop×D)→Prop
 | some (vc,x')=>vc∧∃ x,wk x' x∧ψ x
 | none=>False
@[go_sem] theorem pkE_s {ψ : D→Prop}{vc:Prop}{x:D}{ids:List Nat}:pkE ψ (some (vc,x,ids))=(vc∧ids.Nodup∧∃ y,wk x y∧ψ y):=rfl
@[go_sem] theorem vwE_s {ψ : D→Prop}{vc:Prop}{x:D}:vwE ψ (some (vc,x))=(vc∧∃ y,wk x y∧ψ y):=rfl
end Go.VL
