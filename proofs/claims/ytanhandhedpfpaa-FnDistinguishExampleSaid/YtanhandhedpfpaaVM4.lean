/- Part 18: functions: from a body's verification condition to its contract. Conditions: none; lemmas. -/
import Derived.Test.YtanhandhedpfpaaVM3
import Derived.Deep.Quiet
set_option linter.unusedVariables false
set_option linter.unusedSimpArgs false
namespace Go.VL
variable {P:Program}{S:Nat→Prop}{φ : List (List Nat)}{H:List R}{w:World}{T:Nat→Option TI}{fr:Fr}{a:Act}{n:Nat}
def resC (T:Nat→Option TI) (H:List R) (fr:Fr):List ResultVar→Option (Prop×List I)
 | []=>some (True,[])
 | .tmp t::r=>
  match resC T H fr r with
  | some (vc,l)=>some (vc,fr.get t::l)
  | none=>none
 | .cell a ty::r=>
  match qdl T H ty (fr.get a),resC T H fr r with
  | some (c,x),some (vc,l)=>some (c∧vc,x::l)
  | _,_=>none
def resI (T:Nat→Option TI) (H:List R) (fr:Fr) (rs:List ResultVar):Option (Prop×I):=
 match resC T H fr rs with
 | some (vc,[x])=>some (vc,x)
 | some (vc,l)=>some (vc,.tup l)
 | none=>none
def actR (tmps:Array Value):ResultVar→Sem Value
 | .tmp t=>pure (tmps.getD t undef)
 | .cell a t=>do loadVar t (←asAddr (tmps.getD a undef))
theorem qjm {tmps:Array Value}{x:Nat}{t:TypeId}{v:Value}(h:(Instr.loadAt t (tmps.getD x undef)).run P w=.ok v w):(actR tmps (.cell x t)).run P w=.ok v w:=by
 have e:actR tmps (.cell x t)=(do loadVar t (←asAddr (tmps.getD x undef)):Sem Value):=rfl
 rw[e]
 unfold Instr.loadAt at h
 generalize tmps.getD x undef=u at *
 have nope : ∀ {α : Type}(s:String) (k:Addr→Sem Value),((stuck s:Sem Addr) >>= k).run P w≠.ok v w:=fun s k hk=>by
  simp only[Sem.run_bind,stuck] at hk
  cases hk
 cases u with
 | pointer a=>
  cases a with
  | some a=>exact h
  | none=>exact absurd h (nope (α:=Value) _ _)
 | _=>exact absurd h (nope (α:=Value) _ _)
theorem qem {α β : Type}(f : α→Sem β) (g : α→β) (w:World) : ∀ (l:List α),(∀ x∈l,(f x).run P w=.ok (g x) w)→(l.mapM f).run P w=.ok (l.map g) w
 | [],_=>rfl
 | x::r,h=>by
  rw[List.mapM_cons]
  simp only[Sem.run_bind]
  rw[h x (by simp)]
  simp only[Result.andThen_ok,Sem.run_bind]
  rw[qem f g w r fun y hy=>h y (by simp[hy])]
  rfl
theorem qhp {α β : Type}(l:Array α) (f : α→Sem β) (g : α→β) (w:World) (h : ∀ x∈l,(f x).run P w=.ok (g x) w):(l.mapM f).run P w=.ok (l.map g) w:=by
 rw[Array.mapM_eq_mapM_toList,Sem.run_map,qem f g w l.toList (fun x hx=>h x (by simpa using hx))]
 simp only[Result.andThen_ok]
 rw[←Array.toList_map]
theorem qea (hT:TOK P T) (s:Sim S φ H w) (hf:FrR S φ H w fr a) : ∀ {rs:List ResultVar}{vc:Prop}{l:List I},resC T H fr rs=some (vc,l)→vc→
  l.length=rs.length∧∀ j,j<rs.length→∃ v,(actR a.tmps (rs.getD j (.tmp 0))).run P w=.ok v w∧V S φ H w (l.getD j .junk) v
 | [],vc,l,h,_=>by
  simp only[resC,Option.some.injEq,Prod.mk.injEq] at h
  obtain⟨_,rfl⟩:=h
  exact⟨rfl,by simp⟩
 | .tmp t::r,vc,l,h,hvc=>by
  simp only[resC] at h
  split at h
  ·rename_i vc' l' hr
   simp only[Option.some.injEq,Prod.mk.injEq] at h
   obtain⟨rfl,rfl⟩:=h
   obtain⟨h1,h2⟩:=qea hT s hf hr hvc
   refine⟨by simp[h1],fun j hj=>?_⟩
   cases j with
   | zero=>exact⟨_,rfl,by simpa using hf.val t⟩
   | succ j=>simpa using h2 j (by simpa using hj)
  ·simp at h
 | .cell x ty::r,vc,l,h,hvc=>by
  simp only[resC] at h
  split at h
  ·rename_i c y vc' l' hl hr
   simp only[Option.some.injEq,Prod.mk.injEq] at h
   obtain⟨rfl,rfl⟩:=h
   obtain⟨h1,h2⟩:=qea hT s hf hr hvc.2
   refine⟨by simp[h1],fun j hj=>?_⟩
   cases j with
   | zero=>
    obtain⟨v,hv,hrun⟩:=qeL hT s (hf.val x) hl hvc.1
    exact⟨v,by simpa using qjm (hrun w (Agree.refl w)),by simpa using hv⟩
   | succ j=>simpa using h2 j (by simpa using hj)
  ·simp at h
open Classical in
noncomputable def gR (P:Program) (w:World) (tmps:Array Value) (rv:ResultVar):Value:=if h : ∃ v,(actR tmps rv).run P w=.ok v w then Classical.choose h else undef
theorem gR_eq {tmps:Array Value}{rv:ResultVar}{v:Value}(h:(actR tmps rv).run P w=.ok v w):gR P w tmps rv=v:=by
 have he : ∃ v,(actR tmps rv).run P w=.ok v w:=⟨v,h⟩
 unfold gR
 rw[dif_pos he]
 have:=h.symm.trans (Classical.choose_spec he)
 injection this with h1
 exact h1.symm
theorem qeb (hT:TOK P T) (s:Sim S φ H w) (hf:FrR S φ H w fr a) {fn:Func}{vc:Prop}{r:I}(h:resI T H fr fn.results.toList=some (vc,r)) (hvc:vc) : ∃ v,(results fn a.tmps).run P w=.ok v w∧V S φ H w r v:=by
 unfold resI at h
 have main : ∀ {vc:Prop}{l:List I},resC T H fr fn.results.toList=some (vc,l)→vc→(results fn a.tmps).run P w=.ok (if h:(fn.results.map (gR P w a.tmps)).size=1 then(fn.results.map (gR P w a.tmps))[0] else .tuple (fn.results.map (gR P w a.tmps))) w∧
   l.length=fn.results.size∧∀ j,j<l.length→V S φ H w (l.getD j .junk) ((fn.results.map (gR P w a.tmps)).getD j undef):=by
  intro vc l hc hvc
  obtain⟨h1,h2⟩:=qea hT s hf hc hvc
  have hev : ∀ x∈fn.results,(actR a.tmps x).run P w=.ok (gR P w a.tmps x) w:=by
   intro x hx
   obtain⟨j,hj,rfl⟩:=Array.getElem_of_mem hx
   obtain⟨v,hv,_⟩:=h2 j (by simpa using hj)
   have e:fn.results.toList.getD j (.tmp 0)=fn.results[j]:=by simp[List.getD,hj]
   rw[e] at hv
   rw[hv,gR_eq hv]
  refine⟨?_,by simpa using h1,fun j hj=>?_⟩
  ·have er:results fn a.tmps=(do let vs←fn.results.mapM (actR a.tmps);pure (if h:vs.size=1 then vs[0] else .tuple vs):Sem Value):=rfl
   rw[er]
   simp only[Sem.run_bind]
   rw[qhp fn.results _ (gR P w a.tmps) w (fun x hx=>hev x hx)]
   simp only[Result.andThen_ok,Sem.run_pure]
  ·have hj':j<fn.results.toList.length:=by omega
   obtain⟨v,hv,hV⟩:=h2 j hj'
   have hj2:j<fn.results.size:=by simpa using hj'
   have e:fn.results.toList.getD j (.tmp 0)=fn.results[j]:=by simp[List.getD,hj2]
   rw[e] at hv
   have e2:(fn.results.map (gR P w a.tmps)).getD j undef=v:=by
    simp[Array.getD,hj2,gR_eq hv]
   rw[e2]
   exact hV
 split at h
 ·rename_i vc' x hc
  simp only[Option.some.injEq,Prod.mk.injEq] at h
  obtain⟨rfl,rfl⟩:=h
  obtain⟨m1,m2,m3⟩:=main hc hvc
  have hs:(fn.results.map (gR P w a.tmps)).size=1:=by simpa using m2.symm
  rw[dif_pos hs] at m1
  refine⟨_,m1,?_⟩
  have:=m3 0 (by simp)
  have e:(fn.results.map (gR P w a.tmps)).getD 0 undef=(fn.results.map (gR P w a.tmps))[0]:=by simp[Array.getD,hs]
  rw[e] at this
  simpa using this
 ·rename_i vc' l hne hc
  simp only[Option.some.injEq,Prod.mk.injEq] at h
  obtain⟨rfl,rfl⟩:=h
  obtain⟨m1,m2,m3⟩:=main hc hvc
  have hs : ¬ (fn.results.map (gR P w a.tmps)).size=1:=by
   intro h1
   have hl1:l.length=1:=by rw[m2];simpa using h1
   match l,hne,hl1 with
   | [x],hne,_=>exact hne x rfl
  rw[dif_neg hs] at m1
  exact⟨_,m1,.tup (by simp[m2]) m3⟩
 ·simp at h
def qgf:D→Bool
 | .int _ _=>true
 | .bool _=>true
 | .raw _=>true
 | .nil=>true
 | _=>false
def qgg:D→Bool
 | .agg cs=>cs.all qgf
 | x=>qgf x
def qe0:D→Bool
 | .tup xs=>xs.all qgg
 | x=>qgg x
def pkL (f:I→Option (Prop×D×List Nat)):List I→Option (Prop×List D×List Nat)
 | []=>some (True,[],[])
 | x::r=>
  match f x,pkL f r with
  | some (vc,d,l),some (vc',ds,l')=>some (vc∧vc',d::ds,l++l')
  | _,_=>none
def ones:List D→Prop
 | []=>True
 | x::r=>x.one=true∧ones r
def pk (H:List R):Nat→I→Option (Prop×D×List Nat)
 | _,.d x=>some (qe0 x=true,x,[])
 | _,.sl i g k lo m=>
  match H[i]? with
  | some (.row g' k' (.own []) l)=>some (g=g'∧k=k'∧lo=0∧m=l.length,.lst k l,[i])
  | _=>none
 | f+1,.agg cs=>
  match pkL (pk H f) cs with
  | some (vc,ds,l)=>some (vc∧ones ds,.agg ds,l)
  | none=>none
 | f+1,.tup cs=>
  match pkL (pk H f) cs with
  | some (vc,ds,l)=>some (vc,.tup ds,l)
  | none=>none
 | _,.own i=>
  match H[i]? with
  | some (.val x)=>some (True,x,[i])
  | _=>none
 | _,_=>none
theorem qhR {x:D}{v:Value}(h:FZ S w x v) (hx:qgf x=true):OW w x v []:=by
 cases h <;> simp[qgf] at hx
 ·exact .int (by assumption)
 ·exact .bool
 ·exact .raw (by assumption)
 ·exact .nil
theorem flatMap_nil (m:Nat):(List.range m).flatMap (fun _=>([]:List Nat))=[]:=by simp
theorem qhS {x:D}{v:Value}(h:FZ S w x v) (hx:qgg x=true):OW w x v []:=by
 cases x with
 | agg cs=>
  cases h with
  | agg hl h1 hj=>
   simp only[qgg,List.all_eq_true] at hx
   have:=OW.agg (w:=w) (cs:=cs) (fun _=>[]) hl h1 (fun j hj'=>qhR (hj j hj') (hx _ (getD_mem hj')))
   rwa [flatMap_nil] at this
 | _=>exact qhR h hx
theorem qlf {x:D}{v:Value}(h:FZ S w x v) (hx:qe0 x=true):OW w x v []:=by
 cases x with
 | tup cs=>
  cases h with
  | tup hl hj=>
   simp only[qe0,List.all_eq_true] at hx
   have:=OW.tup (w:=w) (xs:=cs) (fun _=>[]) hl (fun j hj'=>qhS (hj j hj') (hx _ (getD_mem hj')))
   rwa [flatMap_nil] at this
 | _=>exact qhS h hx
def fps (φ : List (List Nat)) (ids:List Nat):List Nat:=ids.flatMap fun i=>φ.getD i []
theorem qe1 {f:I→Option (Prop×D×List Nat)}(hf : ∀ x v vc d l,V S φ H w x v→f x=some (vc,d,l)→vc→OW w d v (fps φ l)) :
  ∀ (cs:List I) {vc:Prop}{ds:List D}{l:List Nat},pkL f cs=some (vc,ds,l)→vc→ds.length=cs.length∧
   ∃ F:Nat→List Nat,fps φ l=(List.range cs.length).flatMap F∧∀ j,j<cs.length→∀ v,V S φ H w (cs.getD j .junk) v→OW w (ds.getD j .nil) v (F j)
 | [],vc,ds,l,h,hvc=>by
  simp only[pkL,Option.some.injEq,Prod.mk.injEq] at h
  obtain⟨_,rfl,rfl⟩:=h
  exact⟨rfl,fun _=>[],by simp[fps],by simp⟩
 | x::r,vc,ds,l,h,hvc=>by
  simp only[pkL] at h
  split at h
  ·rename_i vc1 d l1 vc2 ds' l2 h1 h2
   simp only[Option.some.injEq,Prod.mk.injEq] at h
   obtain⟨rfl,rfl,rfl⟩:=h
   obtain⟨e1,F,e2,e3⟩:=qe1 hf r h2 hvc.2
   refine⟨by simp[e1],fun j=>match j with|0=>fps φ l1|j+1=>F j,?_,fun j hj v hv=>?_⟩
   ·simp only[List.length_cons,List.range_succ_eq_map,List.flatMap_cons,List.flatMap_map]
    rw[←e2]
    simp[fps]
   ·cases j with
    | zero=>exact hf x v vc1 d l1 (by simpa [List.getD] using hv) h1 hvc.1
    | succ j=>simpa [List.getD] using e3 j (by simpa using hj) v (by simpa [List.getD] using hv)
  ·simp at h
theorem qhT : ∀ {ds:List D},ones ds→∀ c∈ds,c.one=true
 | [],_,c,hc=>by simp at hc
 | x::r,h,c,hc=>by
  rcases List.mem_cons.1 hc with rfl|hc
  ·exact h.1
  ·exact qhT h.2 c hc
theorem qlg (s:Sim S φ H w) : ∀ (f:Nat) {x:I}{v:Value}{vc:Prop}{d:D}{l:List Nat},V S φ H w x v→pk H f x=some (vc,d,l)→vc→OW w d v (fps φ l):=by
 have row : ∀ {i g k lo m:Nat}{v:Value}{vc:Prop}{d:D}{l:List Nat},V S φ H w (.sl i g k lo m) v→
   (match H[i]? with|some (.row g' k' (.own []) l)=>some (g=g'∧k=k'∧lo=0∧m=l.length,D.lst k l,[i])|_=>none)=some (vc,d,l)→vc→OW w d v (fps φ l):=by
  intro i g k lo m v vc d l hv h hvc
  split at h
  ·rename_i g' k' L hi
   simp only[Option.some.injEq,Prod.mk.injEq] at h
   obtain⟨rfl,rfl,rfl⟩:=h
   obtain⟨rfl,rfl,rfl,rfl⟩:=hvc
   have hfp:fps φ [i] = φ.getD i []:=by simp[fps]
   rw[hfp]
   cases hv with
   | sl hlt hg hrel h1=>
    obtain⟨hsl,hle⟩:=hrel true L hi
    obtain⟨hk,he,ho,hlim,hr⟩:=s.rel i _ hi
    rcases hsl with⟨hfp,_,hl0,rfl⟩|⟨b,rest,cap,arr,ty,a,hfp,rfl,hn,hcp,hlim',hb,hfit⟩
    ·rw[hfp,List.eq_nil_of_length_eq_zero hl0]
     exact .lst0 hk
    ·obtain⟨rfl,hfit'⟩:=hfit (.inr rfl)
     rcases hr with⟨e,_⟩|⟨b',rest',arr',ty',e,hb',hsz,F,rfl,hF⟩
     ·rw[hfp] at e;simp at e
     ·rw[hfp] at e
      simp at e
      obtain⟨rfl,rfl⟩:=e
      rw[hb] at hb'
      simp at hb'
      obtain⟨rfl,rfl⟩:=hb'
      rw[hfp]
      have:=OW.lst (w:=w) F hk he ho hn hcp hlim' hb (by omega) hF.2
      simpa using this
  ·simp at h
 have own : ∀ {i:Nat}{v:Value}{vc:Prop}{d:D}{l:List Nat},V S φ H w (.own i) v→
   (match H[i]? with|some (.val x)=>some (True,x,[i])|_=>none)=some (vc,d,l)→vc→OW w d v (fps φ l):=by
  intro i v vc d l hv h hvc
  split at h
  ·rename_i x hi
   simp only[Option.some.injEq,Prod.mk.injEq] at h
   obtain⟨rfl,rfl,rfl⟩:=h
   have hfp:fps φ [i] = φ.getD i []:=by simp[fps]
   rw[hfp]
   cases hv with
   | own hlt hrel=>exact hrel x hi
  ·simp at h
 have dat : ∀ {x:D}{v:Value}{vc:Prop}{d:D}{l:List Nat},V S φ H w (.d x) v→some (qe0 x=true,x,([]:List Nat))=some (vc,d,l)→vc→OW w d v (fps φ l):=by
  intro x v vc d l hv h hvc
  simp only[Option.some.injEq,Prod.mk.injEq] at h
  obtain⟨rfl,rfl,rfl⟩:=h
  exact qlf hv.fz hvc
 intro f
 induction f with
 | zero=>
  intro x v vc d l hv h hvc
  cases x <;> simp only[pk,reduceCtorEq] at h
  ·exact dat hv h hvc
  ·exact row hv h hvc
  ·exact own hv h hvc
 | succ f ih=>
  intro x v vc d l hv h hvc
  cases x <;> simp only[pk,reduceCtorEq] at h
  ·exact dat hv h hvc
  ·rename_i cs
   split at h
   ·rename_i vc' ds l' hp
    simp only[Option.some.injEq,Prod.mk.injEq] at h
    obtain⟨rfl,rfl,rfl⟩:=h
    obtain⟨e1,F,e2,e3⟩:=qe1 (fun x v vc d l h1 h2 h3=>ih h1 h2 h3) cs hp hvc.1
    cases hv with
    | agg hl h1 hj=>
     rw[e2,←e1]
     exact .agg F (by omega) (qhT hvc.2) fun j hj'=>e3 j (by omega) _ (hj j (by omega))
   ·simp at h
  ·exact row hv h hvc
  ·rename_i cs
   split at h
   ·rename_i vc' ds l' hp
    simp only[Option.some.injEq,Prod.mk.injEq] at h
    obtain⟨rfl,rfl,rfl⟩:=h
    obtain⟨e1,F,e2,e3⟩:=qe1 (fun x v vc d l h1 h2 h3=>ih h1 h2 h3) cs hp hvc
    cases hv with
    | tup hl hj=>
     rw[e2,←e1]
     exact .tup F (by omega) fun j hj'=>e3 j (by omega) _ (hj j (by omega))
   ·simp at h
  ·exact own hv h hvc
def wk1:D→D→Prop
 | .nil,.lst k l=>0<k∧l=[]
 | x,y=>x=y
def wkL:List D→List D→Prop
 | [],[]=>True
 | x::r,y::s=>wk1 x y∧wkL r s
 | _,_=>False
def wk2:D→D→Prop
 | .agg xs,.agg ys=>wkL xs ys
 | x,y=>wk1 x y
def wkT:List D→List D→Prop
 | [],[]=>True
 | x::r,y::s=>wk2 x y∧wkT r s
 | _,_=>False
def wk:D→D→Prop
 | .tup xs,.tup ys=>wkT xs ys
 | x,y=>wk2 x y
theorem qjn {x y:D}(h:wk1 x y):y.one=x.one:=by
 unfold wk1 at h
 split at h
 ·rfl
 ·rw[h]
theorem qhq : ∀ {xs ys:List D},wkL xs ys→xs.length=ys.length∧∀ j,j<xs.length→wk1 (xs.getD j .nil) (ys.getD j .nil)
 | [],[],_=>⟨rfl,by simp⟩
 | x::r,y::s,h=>by
  obtain⟨h1,h2⟩:=qhq h.2
  refine⟨by simp[h1],fun j hj=>?_⟩
  cases j with
  | zero=>simpa [List.getD] using h.1
  | succ j=>simpa [List.getD] using h2 j (by simpa using hj)
 | [],_::_,h=>h.elim
 | _::_,[],h=>h.elim
theorem qe2 : ∀ {xs ys:List D},wkT xs ys→xs.length=ys.length∧∀ j,j<xs.length→wk2 (xs.getD j .nil) (ys.getD j .nil)
 | [],[],_=>⟨rfl,by simp⟩
 | x::r,y::s,h=>by
  obtain⟨h1,h2⟩:=qe2 h.2
  refine⟨by simp[h1],fun j hj=>?_⟩
  cases j with
  | zero=>simpa [List.getD] using h.1
  | succ j=>simpa [List.getD] using h2 j (by simpa using hj)
 | [],_::_,h=>h.elim
 | _::_,[],h=>h.elim
theorem qmt {x y:D}{v:Value}{fp:List Nat}(h:wk1 x y) (ho:OW w x v fp):OW w y v fp:=by
 unfold wk1 at h
 split at h
 ·obtain⟨hk,rfl⟩:=h
  cases ho
  exact .lst0 hk
 ·rw[←h];exact ho
theorem qmu {x y:D}{v:Value}{fp:List Nat}(h:wk2 x y) (ho:OW w x v fp):OW w y v fp:=by
 unfold wk2 at h
 split at h
 ·rename_i xs ys
  obtain⟨hl,hg⟩:=qhq h
  cases ho with
  | agg F hl' h1 hj=>
   rw[hl]
   refine .agg F (by omega) ?_ fun j hj'=>qmt (hg j (by omega)) (hj j (by omega))
   intro c hc
   obtain⟨j,hj',rfl⟩:=List.getElem_of_mem hc
   rw[qak _ _ _ .nil,qjn (hg j (by omega))]
   exact h1 _ (getD_mem (by omega))
 ·exact qmt h ho
theorem ow_wk {x y:D}{v:Value}{fp:List Nat}(h:wk x y) (ho:OW w x v fp):OW w y v fp:=by
 unfold wk at h
 split at h
 ·rename_i xs ys
  obtain⟨hl,hg⟩:=qe2 h
  cases ho with
  | tup F hl' hj=>
   rw[hl]
   exact .tup F (by omega) fun j hj'=>qmu (hg j (by omega)) (hj j (by omega))
 ·exact qmu h ho
theorem qmv {x y:D}{v:Value}(h:wk1 x y) (ho:FZ S w x v):FZ S w y v:=by
 unfold wk1 at h
 split at h
 ·obtain⟨hk,rfl⟩:=h
  cases ho
  exact .lst0 hk
 ·rw[←h];exact ho
theorem qhU {x y:D}{v:Value}(h:wk2 x y) (ho:FZ S w x v):FZ S w y v:=by
 unfold wk2 at h
 split at h
 ·rename_i xs ys
  obtain⟨hl,hg⟩:=qhq h
  cases ho with
  | agg hl' h1 hj=>
   refine .agg (by omega) ?_ fun j hj'=>qmv (hg j (by omega)) (hj j (by omega))
   intro c hc
   obtain⟨j,hj',rfl⟩:=List.getElem_of_mem hc
   rw[qak _ _ _ .nil,qjn (hg j (by omega))]
   exact h1 _ (getD_mem (by omega))
 ·exact qmv h ho
theorem fz_wk {x y:D}{v:Value}(h:wk x y) (ho:FZ S w x v):FZ S w y v:=by
 unfold wk at h
 split at h
 ·rename_i xs ys
  obtain⟨hl,hg⟩:=qe2 h
  cases ho with
  | tup hl' hj=>exact .tup (by omega) fun j hj'=>qhU (hg j (by omega)) (hj j (by omega))
 ·exact qhU h ho
theorem tiok_of {t:Nat}{ti:TI}(h1:(P.info? t).map (fun i=>(i.size,i.bytes,i.zero))=some (ti.size,ti.bytes,some (qac ti.zero))) (h2:(P.underlying t).map tyOf=some ti.ty)
  (h3:qdF ti.zero=true) (h4:ti.zero.cells.length=ti.size) (h5:(match ti.zero with|.agg _=>true|_=>false)=ti.ty.agg) (h6:qi4 P t=true):TIOK P t ti:=by
 cases hi:P.info? t with
 | none=>simp[hi] at h1
 | some i=>
  cases hu:P.underlying t with
  | none=>simp[hu] at h2
  | some d=>
   simp[hi] at h1
   simp[hu] at h2
   exact⟨⟨i,d,hi,h1.1,h1.2.1,h1.2.2,hu,h2⟩,h3,h4,h5,h6⟩
def pkR (x:D):Option (Prop×D×List Nat)→Prop
 | some (vc,x',ids)=>vc∧ids.Nodup∧wk x' x
 | none=>False
def vwR (x:D):Option (Prop×D)→Prop
 | some (vc,x')=>vc∧wk x' x
 | none=>False
def qcv:Nat→List I→List (Nat×I)
 | _,[]=>[]
 | t,x::r=>(t,x)::qcv (t+1) r
theorem qiu (args:List I) (t s:Nat):look s (qcv t args)=if t≤s∧s<t+args.length then args.getD (s-t) .junk else .junk:=by
 induction args generalizing t with
 | nil=>simp[qcv,look]
 | cons x r ih=>
  simp only[qcv,look,ih,List.length_cons]
  by_cases h:t=s
  ·subst h
   simp[List.getD]
  ·rw[if_neg h]
   by_cases h2:t+1≤s∧s<t+1+r.length
   ·rw[if_pos h2,if_pos (by omega),show s-t=(s-(t+1))+1 by omega]
    simp[List.getD]
   ·rw[if_neg h2,if_neg (by omega)]
theorem qdx {args:List I}{vs:Array Value}{nt:Nat}(hl:vs.size=args.length) (hv : ∀ j,j<args.length→V S φ H w (args.getD j .junk) (vs.getD j undef)) (hn:args.length≤nt) :
  FrR S φ H w ⟨nt,qcv 0 args⟩ { tmps:=vs++Array.replicate (nt-vs.size) undef,defers:=[] }:=by
 refine⟨rfl,by simp;omega,fun t=>?_⟩
 show V S φ H w (look t (qcv 0 args)) _
 rw[qiu]
 by_cases h:t<args.length
 ·rw[if_pos ⟨Nat.zero_le _,by omega⟩]
  have e:(vs++Array.replicate (nt-vs.size) undef).getD t undef=vs.getD t undef:=by
   simp only[Array.getD_eq_getD_getElem?]
   rw[Array.getElem?_append_left (by omega)]
  rw[e]
  exact hv t h
 ·rw[if_neg (by omega)]
  exact .junk
def endsWith (T:Nat→Option TI) (fn:Func) (Po:Fr→I→List R→Prop):Post:=fun e fr H=>
 match e with
 | .normal=>match resI T H fr fn.results.toList with|some (vc,r)=>vc∧Po fr r H|none=>False
 | .ret=>match resI T H fr fn.results.toList with|some (vc,r)=>vc∧Po fr r H|none=>False
 | _=>False
theorem qe3 (hT : TOK P T) {f : Nat} {fn : Func} {c : Code} {args : List I} {Po : I → List R → Prop} (hf : P.funcs[f]? = some fn) (hb : fn.body = some c) (hnm : (fn.name == "runtime.NumGoroutine") = false) (hn : args.length ≤ fn.ntmps)
  (h:iwp P H.length c (endsWith T fn (fun fr r H'=>∃ fr' H'',Ghost H.length (⟨1,[(0,r)]⟩:Fr) H' fr' H''∧fr'.n=1∧Po (fr'.get 0) H'')) ⟨fn.ntmps,qcv 0 args⟩ H):ICall P f args H Po:=by
 refine⟨qgQ hf hb hnm,fun S φ vs w Rr s hl hv hr=>calls_of_wp hf hb ?_⟩
 refine h S φ _ w _ (Nat.le_refl _) s (qdx hl hv hn) ?_
 intro e a' w' S' φ' fr' H' s' hf' he ht hq
 have fin : ∀ vc r,resI T H' fr' fn.results.toList=some (vc,r)→vc∧(∃ fr'' H'',Ghost H.length (⟨1,[(0,r)]⟩:Fr) H' fr'' H''∧fr''.n=1∧Po (fr''.get 0) H'')→a'.defers=[]∧∃ v,(results fn a'.tmps).run P w'=.ok v w'∧Rr (.returned v) w':=by
  rintro vc0 r hres ⟨hvc0,fr'',H'',g,hn1,hpo⟩
  obtain⟨v,hrun,hv⟩:=qeb hT s' hf' hres hvc0
  refine⟨hf'.defers,v,hrun,?_⟩
  obtain⟨S2,φ2,s2,hf2,he2,ht2⟩:=g S' φ' w' { tmps:=#[v],defers:=[] } ht.len s' ⟨rfl,rfl,fun t=>by
   show V S' φ' H' w' (look t [(0,r)]) _
   simp only[look]
   by_cases h0:0=t
   ·subst h0;rw[if_pos rfl];exact hv
   ·rw[if_neg h0];exact .junk⟩
  exact hr v w' S2 φ2 _ H'' s2 (hf2.val 0) (he.trans he2) (ht.trans ht2) hpo
 cases e <;> simp only[endsWith] at hq
 ·split at hq
  ·exact fin _ _ (by assumption) hq
  ·exact hq.elim
 all_goals first
  | exact hq.elim
  | (
    split at hq
    ·exact fin _ _ (by assumption) hq
    ·exact hq.elim)
theorem qe4 {S':Nat→Prop}{φ':List (List Nat)}{w':World}(he:Ext S [] w S' φ' w'):Grow w w':=
 ⟨he.os,he.tape,he.output,he.size,fun b hb=>he.keep b hb (by rintro⟨i,hi⟩;simp[List.getD] at hi)⟩
theorem qjo (hS : ∀ b,S b→b<w.heap.size):Sim S [] [] w:=
 ⟨rfl,fun i=>by simp[List.getD],fun i j b hb=>by simp[List.getD] at hb,fun b ⟨i,hi⟩=>by simp[List.getD] at hi,fun b ⟨i,hi⟩=>by simp[List.getD] at hi,hS,fun i r hr=>by simp at hr⟩
theorem qjp (s:Sim S φ H w) {ids:List Nat}(h:ids.Nodup):(fps φ ids).Nodup:=by
 unfold fps
 induction ids with
 | nil=>simp
 | cons i r ih=>
  rw[List.nodup_cons] at h
  simp only[List.flatMap_cons]
  rw[List.nodup_append]
  refine⟨s.nd i,ih h.2,?_⟩
  intro b hb c hc hbc
  subst hbc
  obtain⟨j,hj,hc⟩:=List.mem_flatMap.1 hc
  have:=s.dj i j b hb hc
  subst this
  exact h.1 hj
theorem qfJ (hT : TOK P T) {f : Nat} {fn : Func} {c : Code} {ds : List D} {x : D} (hf : P.funcs[f]? = some fn) (hb : fn.body = some c) (hnm : (fn.name == "runtime.NumGoroutine") = false) (hn : ds.length ≤ fn.ntmps)
  (h:iwp P 0 c (endsWith T fn (fun fr r H'=>pkR x (pk H' 3 r))) ⟨fn.ntmps,qcv 0 (ds.map .d)⟩ []):Pure P f ds x:=by
 refine⟨qgQ hf hb hnm,fun S vs w Rr hS ha hr=>calls_of_wp hf hb ?_⟩
 have s:=qjo hS
 refine h S [] _ w _ (Nat.le_refl _) s (qdx (by simpa using ha.1) (fun j hj=>?_) (by simpa using hn)) ?_
 ·simp only[List.length_map] at hj
  have e:(ds.map I.d).getD j .junk=.d (ds.getD j .nil):=by simp[List.getD,hj]
  rw[e]
  exact .d (ha.2 j hj)
 intro e a' w' S' φ' fr' H' s' hf' he ht hq
 have fin : ∀ vc r,resI T H' fr' fn.results.toList=some (vc,r)→vc∧(pkR x (pk H' 3 r))→a'.defers=[]∧∃ v,(results fn a'.tmps).run P w'=.ok v w'∧Rr (.returned v) w':=by
  rintro vc0 r hres ⟨hvc0,hp⟩
  obtain⟨v,hrun,hv⟩:=qeb hT s' hf' hres hvc0
  refine⟨hf'.defers,v,hrun,?_⟩
  unfold pkR at hp
  split at hp
  ·rename_i vc x' ids hpk
   obtain⟨hvc,hnd,hw⟩:=hp
   have how:=ow_wk hw (qlg s' 3 hv hpk hvc)
   refine hr v w' _ how (qjp s' hnd) ?_ (qe4 he)
   intro b hb
   obtain⟨i,_,hb⟩:=List.mem_flatMap.1 hb
   rcases he.fp b ⟨i,hb⟩ with⟨j,hj⟩|h
   ·simp[List.getD] at hj
   ·exact h
  ·exact hp.elim
 cases e <;> simp only[endsWith] at hq
 ·split at hq
  ·exact fin _ _ (by assumption) hq
  ·exact hq.elim
 all_goals first
  | exact hq.elim
  | (
    split at hq
    ·exact fin _ _ (by assumption) hq
    ·exact hq.elim)
theorem qhr (hT : TOK P T) {f : Nat} {fn : Func} {c : Code} {ds : List D} {x : D} (hf : P.funcs[f]? = some fn) (hb : fn.body = some c) (hnm : (fn.name == "runtime.NumGoroutine") = false) (hn : ds.length ≤ fn.ntmps)
  (h:iwp P 0 c (endsWith T fn (fun fr r H'=>vwR x (view H' 3 r))) ⟨fn.ntmps,qcv 0 (ds.map .d)⟩ []):PureF P f ds x:=by
 refine⟨qgQ hf hb hnm,fun S vs w Rr hS ha hr=>calls_of_wp hf hb ?_⟩
 have s:=qjo hS
 refine h S [] _ w _ (Nat.le_refl _) s (qdx (by simpa using ha.1) (fun j hj=>?_) (by simpa using hn)) ?_
 ·simp only[List.length_map] at hj
  have e:(ds.map I.d).getD j .junk=.d (ds.getD j .nil):=by simp[List.getD,hj]
  rw[e]
  exact .d (ha.2 j hj)
 intro e a' w' S' φ' fr' H' s' hf' he ht hq
 have fin : ∀ vc r,resI T H' fr' fn.results.toList=some (vc,r)→vc∧(vwR x (view H' 3 r))→a'.defers=[]∧∃ v,(results fn a'.tmps).run P w'=.ok v w'∧Rr (.returned v) w':=by
  rintro vc0 r hres ⟨hvc0,hp⟩
  obtain⟨v,hrun,hv⟩:=qeb hT s' hf' hres hvc0
  refine⟨hf'.defers,v,hrun,?_⟩
  unfold vwR at hp
  split at hp
  ·rename_i vc x' hvw
   refine hr v w' (Lent S' φ') (fun b hb=>.inl (he.sub b hb)) ?_ (fun b hb=>hb.elim (s'.slt b) (s'.lt b)) (fz_wk hp.2 (qbQ s' 3 hv hvw hp.1)) (qe4 he)
   intro b hb
   have hno : ¬ Foot [] b:=by rintro⟨i,hi⟩;simp[List.getD] at hi
   rcases hb with hb|hb
   ·rcases he.sfp b hb with h|h|h
    ·exact .inl h
    ·exact absurd h hno
    ·exact .inr h
   ·rcases he.fp b hb with h|h
    ·exact absurd h hno
    ·exact .inr h
  ·exact hp.elim
 cases e <;> simp only[endsWith] at hq
 ·split at hq
  ·exact fin _ _ (by assumption) hq
  ·exact hq.elim
 all_goals first
  | exact hq.elim
  | (
    split at hq
    ·exact fin _ _ (by assumption) hq
    ·exact hq.elim)
end Go.VL
namespace Go.VL
inductive LitM where
 | low
 | both
 | frz
def LitM.agg:LitM→Bool
 | .frz=>false
 | _=>true
def LitM.sl:LitM→Bool
 | .both=>true
 | _=>false
structure Env where
 P:Program
 T:Nat→Option TI
 pf:Nat→Kind
 n:Nat
 deep:LitM:=.low
inductive Item where
 | code (c:Code)
 | blk (id:Nat)
def qaQ (E:Env):List Item→Post→Post
 | [],Q=>Q
 | .code c::ks,Q=>qf0 (fun fr H=>iwp E.P E.n c (qaQ E ks Q) fr H) (qaQ E ks Q)
 | .blk id::ks,Q=>qeA id (qaQ E ks Q)
def exK (id:Nat):List Item→Option (List Item)
 | []=>none
 | .code _::ks=>exK id ks
 | .blk id'::ks=>if id=id' then some ks else exK id ks
def Unp (x:D) (H:List R) (r:I) (H':List R):Prop:=
 ∀ (S:Nat→Prop) (φ : List (List Nat)) (w w':World) (v:Value) (fp:List Nat),Sim S φ H w→OW w' x v fp→fp.Nodup→(∀ b∈fp,w.heap.size≤b)→Grow w w'→
  ∃ S' φ',Sim S' φ' H' w'∧Tr H.length S φ H w S' φ' H' w'∧Ext S φ w S' φ' w'∧V S' φ' H' w' r v
def retK (x:D) (H:List R) (k:I→List R→Prop):Prop:=k (.d x) H∨∃ r H',Unp x H r H'∧k r H'
def qjq (E:Env) (f:Nat) (ds:List D) (H:List R) (k:I→List R→Prop):Prop:=∃ ψ,PureE E.P f ds ψ∧∀ x,ψ x→retK x H k
def qjr (E:Env) (f:Nat) (ds:List D) (H:List R) (k:I→List R→Prop):Prop:=∃ ψ,PureFE E.P f ds ψ∧∀ x,ψ x→k (.d x) H
def qlh (E:Env) (e:Bool) (f:Nat) (ds:List D) (k:I→Prop):Prop:=∃ x,(e=true→Pure E.P f ds x)∧k (.cond e (.d x))
def qdS (E:Env) (c:Prop) (fn:Option (Nat×List I)) (args:List I) (H:List R) (K:I→List R→Prop):Prop:=
 match fn with
 | some (f,caps)=>
  match E.pf f with
  | .own=>
   match qcT H (args++caps) with
   | some (vc,ds)=>c∧vc∧qjq E f ds H K
   | none=>False
  | .fz=>
   match qew (args++caps) with
   | some (vc,ds)=>c∧vc∧qjr E f ds H K
   | none=>False
  | .proc=>c∧ICall E.P f (args++caps) H K
 | none=>False
def qhs (E:Env) (c:Prop) (e:Bool) (fn:Option (Nat×List I)) (args:List I) (H:List R) (K:List R→I→Prop):Prop:=
 match fn with
 | some (f,caps)=>
  match E.pf f with
  | .own=>
   match qcT H (args++caps) with
   | some (vc,ds)=>(e=true→c∧vc)∧qlh E e f ds (K H)
   | none=>False
  | .proc=>(e=false→∃ x,K H (.cond e x))∧(e=true→c∧ICall E.P f (args++caps) H (fun r H'=>K H' (.cond e r)))
  | .fz=>(e=false→∃ x,K H (.cond e x))∧(e=true→match qew (args++caps) with
   | some (vc,ds)=>c∧vc∧qjr E f ds H (fun r H'=>K H' (.cond e r))
   | none=>False)
 | none=>False
section frz
variable {S:Nat→Prop}{φ : List (List Nat)}{H:List R}{w:World}
theorem Sim.freeze (s:Sim S φ H w) {i g k:Nat}{dp:DP}{l:List D}(hd:dp.shut=true) (hi:H[i]?=some (.row g k dp l)) :
  Sim (fun b=>S b∨b∈φ.getD i []) (φ.set i []) (H.set i (.dead g)) w∧Tr H.length S φ H w (fun b=>S b∨b∈φ.getD i []) (φ.set i []) (H.set i (.dead g)) w∧
  Ext S φ w (fun b=>S b∨b∈φ.getD i []) (φ.set i []) w∧
  ∀ {lo n:Nat}{v:Value},V S φ H w (.sl i g k lo n) v→FZ (fun b=>S b∨b∈φ.getD i []) w (.lst k ((l.drop lo).take n)) v:=by
 have hlt:i<H.length:=(List.getElem?_eq_some_iff.1 hi).1
 have hget : ∀ j,(φ.set i []).getD j []=if i=j∧j < φ.length then [] else φ.getD j []:=fun j=>qcZ φ i j []
 have hne : ∀ j,j≠i→(φ.set i []).getD j [] = φ.getD j []:=fun j h=>by rw[hget,if_neg (by omega)]
 have heq:(φ.set i []).getD i []=[]:=by rw[hget,if_pos ⟨rfl,by rw[s.len];exact hlt⟩]
 have hfoot : ∀ b,Foot (φ.set i []) b→Foot φ b∧b∉φ.getD i []:=by
  rintro b ⟨j,hj⟩
  by_cases h:j=i
  ·subst h;rw[heq] at hj;simp at hj
  ·rw[hne j h] at hj
   exact⟨⟨j,hj⟩,fun h2=>h (s.dj j i b hj h2)⟩
 have hsome : ∀ j r,(H.set i (.dead g))[j]?=some r→(j=i∧r=.dead g)∨(j≠i∧H[j]?=some r):=by
  intro j r hr
  rw[List.getElem?_set] at hr
  split at hr
  ·rename_i h
   simp at hr
   exact .inl ⟨h.symm,hr.symm⟩
  ·rename_i h
   exact .inr ⟨fun h2=>h h2.symm,hr⟩
 have htr:Tr H.length S φ H w (fun b=>S b∨b∈φ.getD i []) (φ.set i []) (H.set i (.dead g)) w:=by
  refine⟨fun _ h=>.inl h,fun _ _=>rfl,Nat.le_refl _,by simp,?_,?_,?_,?_,?_⟩
  ·intro j hj
   by_cases h:j=i
   ·subst h
    have e1:H.getD j (.dead 0)=.row g k dp l:=by simp only[List.getD,hi,Option.getD_some]
    have e2:(H.set j (.dead g)).getD j (.dead 0)=.dead g:=by simp[List.getD,hlt]
    rw[e1,e2]
    exact Nat.le_refl _
   ·have e1:(H.set i (.dead g)).getD j (.dead 0)=H.getD j (.dead 0):=by simp[List.getD,List.getElem?_set,Ne.symm h]
    rw[e1]
    exact Nat.le_refl _
  ·intro j g2 k2 dp' l' hj hl'
   rcases hsome j _ hl' with⟨_,h⟩|⟨h,h2⟩
   ·cases h
   ·exact .inr ⟨dp',l',h2,by rw[hne j h],Nat.le_refl _,fun b rest arr ty e1 e2=>⟨arr,ty,e2,Nat.le_refl _⟩⟩
  ·intro j cs hj hl'
   rcases hsome j _ hl' with⟨_,h⟩|⟨h,h2⟩
   ·cases h
   ·exact⟨cs,h2,hne j h⟩
  ·intro j cs hj hl'
   rcases hsome j _ hl' with⟨_,h⟩|⟨h,h2⟩
   ·cases h
   ·exact⟨cs,h2,hne j h⟩
  ·intro j x hj hl'
   rcases hsome j _ hl' with⟨_,h⟩|⟨h,h2⟩
   ·cases h
   ·exact⟨h2,hne j h,fun _ _=>rfl⟩
 refine⟨⟨by simp[s.len],?_,?_,fun b hb=>s.lt b (hfoot b hb).1,?_,?_,?_⟩,htr,⟨rfl,rfl,rfl,Nat.le_refl _,fun _ _ _=>rfl,fun b hb=>.inl (hfoot b hb).1,fun _ h=>.inl h,?_⟩,?_⟩
 ·intro j
  by_cases h:j=i
  ·subst h;rw[heq];simp
  ·rw[hne j h];exact s.nd j
 ·intro j m b hb hb'
  by_cases h:j=i
  ·subst h;rw[heq] at hb;simp at hb
  ·by_cases h':m=i
   ·subst h';rw[heq] at hb';simp at hb'
   ·rw[hne j h] at hb;rw[hne m h'] at hb';exact s.dj j m b hb hb'
 ·rintro b hb (h|h)
  ·exact s.off b (hfoot b hb).1 h
  ·exact(hfoot b hb).2 h
 ·rintro b (h|h)
  ·exact s.slt b h
  ·exact s.lt b ⟨i,h⟩
 ·intro j r hr
  rcases hsome j r hr with⟨rfl,rfl⟩|⟨h,h2⟩
  ·trivial
  ·rw[hne j h]
   exact(s.rel j r h2).tr htr fun _ _=>rfl
 ·rintro b (h|h)
  ·exact .inl h
  ·exact .inr (.inl ⟨i,h⟩)
 ·intro lo n v hv
  cases hv with
  | sl hlt hg hrel h1=>
   obtain⟨hsl,hle⟩:=hrel dp l hi
   obtain⟨hk,he,ho,hlim,hr⟩:=s.rel i _ hi
   have hlen:((l.drop lo).take n).length=n:=by simp;omega
   rcases hsl with⟨hfp,rfl,rfl,rfl⟩|⟨b,rest,cap,arr,ty,a,hfp,rfl,hn,hcp,hlim',hb,hfit⟩
   ·simp only[List.take_zero]
    exact .lst0 hk
   ·by_cases hn0:n=0
    ·subst hn0
     simp only[List.take_zero]
     exact .lst0 hk
    ·obtain⟨rfl,hfit'⟩:=hfit (.inl hn0)
     rcases hr with⟨e,_⟩|⟨b',rest',arr',ty',e,hb',hsz,hrr⟩
     ·rw[hfp] at e;simp at e
     ·have e2:=e
      rw[hfp] at e
      simp at e
      obtain⟨rfl,rfl⟩:=e
      rw[hb] at hb'
      simp at hb'
      obtain⟨rfl,rfl⟩:=hb'
      have hz : ∀ j,j<(flat l).length→FZ (fun b=>S b∨b∈φ.getD i []) w ((flat l).getD j .nil) (arr.getD j undef):=by
       match dp,hd with
       | .fz,_=>exact fun j hj=>(hrr.2 j hj).mono (fun b hb=>.inl hb) (fun _ _=>rfl)
       | .own [],_=>
        obtain⟨F,hF0,_,hF⟩:=hrr
        exact fun j hj=>OW.fz (hF j hj) fun b2 hb2=>.inr (by rw[hfp,hF0];exact List.mem_cons_of_mem _ (qal hj hb2))
       | .own (_::_),hd=>simp[DP.shut] at hd
      have hmemE : ∀ x∈(l.drop lo).take n,x∈l:=fun x hx=>List.mem_of_mem_drop (List.mem_of_mem_take hx)
      have g1 : ∀ x∈(l.drop lo).take n,x.cells.length=k:=fun x hx=>he x (hmemE x hx)
      have hfl':=flat_length g1
      rw[hlen] at hfl'
      have hnk:n*k≤cap*k:=Nat.mul_le_mul_right _ hn
      have:=FZ.lst (S:=fun b=>S b∨b∈φ.getD i []) (w:=w) (k:=k) (l:=(l.drop lo).take n) (b:=b) (off:=lo*k) (cap:=cap) (fun j=>arr.getD (lo*k+j) undef) hk g1 ?_ (by omega) (by omega) (.inr (by rw[hfp];simp)) ?_ ?_
      ·rw[hlen] at this
       exact this
      ·intro c hc'
       obtain⟨x,hx,hcx⟩:=qaY.1 hc'
       exact ho c (qaY.2 ⟨x,hmemE x hx,hcx⟩)
      ·intro j hj
       have:lo*k+j<arr.size:=by omega
       rw[cell_of_row w b _ arr ty (0,0) hb]
       simp[Array.getD,this]
      ·intro j hj
       obtain⟨f1,f2⟩:=qeC hk he hle j (by omega)
       rw[f2]
       exact hz _ f1
end frz
theorem FZ.one' {S:Nat→Prop}{w:World}{x:D}{v:Value}(h:FZ S w x v) (h1:v.oneCell'=true):x.one=true:=by
 cases h <;> first|rfl|simp[Value.oneCell'] at h1
def qb6:List I→List R→Option (Prop×List D×List R)
 | [],H=>some (True,[],H)
 | .d x::r,H=>
  match qb6 r H with
  | some (c,xs,H')=>some (c,x::xs,H')
  | none=>none
 | .sl i g k lo n::r,H=>
  match H[i]? with
  | some (.row g' k' dp l)=>
   match qb6 r (H.set i (.dead g')) with
   | some (c,xs,H')=>some ((g=g'∧k=k'∧dp.shut=true)∧c,.lst k ((l.drop lo).take n)::xs,H')
   | none=>none
  | _=>none
 | _::_,_=>none
theorem qdy {w:World} : ∀ (cs:List I) {S:Nat→Prop}{φ : List (List Nat)}{H:List R}{vals:Nat→Value}{fc:Prop}{cs':List D}{H':List R},Sim S φ H w→(∀ j,j<cs.length→V S φ H w (cs.getD j .junk) (vals j))→qb6 cs H=some (fc,cs',H')→fc→
  ∃ S' φ',Sim S' φ' H' w∧Ext S φ w S' φ' w∧Tr H.length S φ H w S' φ' H' w∧cs'.length=cs.length∧∀ j,j<cs.length→FZ S' w (cs'.getD j .nil) (vals j)
 | [],S,φ,H,vals,fc,cs',H',s,hv,h,hfc=>by
  simp only[qb6,Option.some.injEq,Prod.mk.injEq] at h
  obtain⟨_,rfl,rfl⟩:=h
  exact⟨S,φ,s,Ext.refl ..,Tr.refl (Nat.le_refl _),rfl,fun j hj=>by simp at hj⟩
 | x::r,S,φ,H,vals,fc,cs',H',s,hv,h,hfc=>by
  have hx:V S φ H w x (vals 0):=hv 0 (by simp)
  have hr : ∀ j,j<r.length→V S φ H w (r.getD j .junk) (vals (j+1)):=fun j hj=>by simpa using hv (j+1) (by simpa using hj)
  cases x with
  | d y=>
   simp only[qb6] at h
   split at h
   ·rename_i c xs H2 he
    simp only[Option.some.injEq,Prod.mk.injEq] at h
    obtain⟨rfl,rfl,rfl⟩:=h
    obtain⟨S',φ',s',e',t',hl,hk⟩:=qdy r s hr he hfc
    refine⟨S',φ',s',e',t',by simp[hl],fun j hj=>?_⟩
    cases j with
    | zero=>exact(hx.tr t').fz
    | succ j=>simpa using hk j (by simpa using hj)
   ·cases h
  | sl i g k lo n=>
   simp only[qb6] at h
   split at h
   ·rename_i g' k' dp l hi
    split at h
    ·rename_i c xs H2 he
     simp only[Option.some.injEq,Prod.mk.injEq] at h
     obtain⟨rfl,rfl,rfl⟩:=h
     obtain⟨⟨rfl,rfl,hsh⟩,hc⟩:=hfc
     obtain⟨s1,t1,e1,z1⟩:=s.freeze hsh hi
     have hlen:(H.set i (.dead g)).length=H.length:=by simp
     obtain⟨S',φ',s',e',t',hl,hk⟩:=qdy r s1 (fun j hj=>(hr j hj).tr t1) he hc
     rw[hlen] at t'
     refine⟨S',φ',s',e1.trans e',t1.trans t',by simp[hl],fun j hj=>?_⟩
     cases j with
     | zero=>exact(z1 hx).mono t'.sub t'.keep
     | succ j=>simpa using hk j (by simpa using hj)
    ·cases h
   ·cases h
  | _=>simp only[qb6] at h;cases h
def qgh (fr:Fr) (H:List R):Op→Option (Prop×Fr×List R)
 | .buildSlice _ _ parts=>
  match parts.toList with
  | [(_,.tmp t)]=>
   match fr.get t with
   | .sl i g k lo n=>
    match H[i]? with
    | some (.row g' k' dp l)=>some (g=g'∧k=k'∧dp.shut=true,fr.put (some t) (.d (.lst k ((l.drop lo).take n))),H.set i (.dead g'))
    | _=>none
   | .agg cs=>
    match qb6 cs H with
    | some (fc,cs',H')=>some (fc,fr.put (some t) (.d (.agg cs')),H')
    | none=>none
   | _=>none
  | _=>none
 | _=>none
theorem qe5 {S:Nat→Prop}{φ : List (List Nat)}{H:List R}{w:World}{fr:Fr}{a:Act}(s:Sim S φ H w) (hf:FrR S φ H w fr a) {op:Op}{fc:Prop}{fr':Fr}{H':List R}(h:qgh fr H op=some (fc,fr',H')) (hfc:fc) :
  ∃ S' φ',Sim S' φ' H' w∧FrR S' φ' H' w fr' a∧Ext S φ w S' φ' w∧Tr H.length S φ H w S' φ' H' w:=by
 unfold qgh at h
 split at h
 ·split at h
  ·rename_i t _
   split at h
   ·rename_i i g k lo n hg
    split at h
    ·rename_i g' k' dp l hi
     simp only[Option.some.injEq,Prod.mk.injEq] at h
     obtain⟨rfl,rfl,rfl⟩:=h
     obtain⟨rfl,rfl,hsh⟩:=hfc
     obtain⟨s1,t1,e1,z1⟩:=s.freeze hsh hi
     have hv:=hf.val t
     rw[hg] at hv
     have hz:=z1 hv
     have hf1:=hf.tr t1
     refine⟨_,_,s1,⟨hf1.defers,?_,?_⟩,e1,t1⟩
     ·rw[hf1.size]
      simp only[Fr.put]
      split <;> rfl
     ·intro t'
      simp only[Fr.put]
      split
      ·simp only[Fr.get,look]
       split
       ·rename_i ht
        subst ht
        exact .d hz
       ·exact hf1.val t'
      ·exact hf1.val t'
    ·cases h
   ·rename_i cs hg
    split at h
    ·rename_i fc0 cs' H2 he
     simp only[Option.some.injEq,Prod.mk.injEq] at h
     obtain⟨rfl,rfl,rfl⟩:=h
     have hv:=hf.val t
     rw[hg] at hv
     obtain⟨vs,hvs,hsz,h1,hcs⟩ : ∃ vs:Array Value,a.tmps.getD t undef=.agg vs∧cs.length=vs.size∧(∀ j,j<cs.length→(vs.getD j undef).oneCell'=true)∧∀ j,j<cs.length→V S φ H w (cs.getD j .junk) (vs.getD j undef):=by
      generalize a.tmps.getD t undef=v at hv
      cases hv with
      | agg hl h1 h=>exact⟨_,rfl,hl,h1,h⟩
     obtain⟨S',φ',s',e',t',hl,hk⟩:=qdy cs s hcs he hfc
     have hf1:=hf.tr t'
     refine⟨S',φ',s',⟨hf1.defers,?_,?_⟩,e',t'⟩
     ·rw[hf1.size]
      simp only[Fr.put]
      split <;> rfl
     ·intro t2
      simp only[Fr.put]
      split
      ·simp only[Fr.get,look]
       split
       ·rename_i ht
        subst ht
        rw[hvs]
        refine .d (.agg (by rw[hl];exact hsz) (fun c hc=>?_) (fun j hj=>hk j (by omega)))
        obtain⟨m,hm,rfl⟩:=List.getElem_of_mem hc
        rw[qak _ _ _ .nil]
        exact(hk m (by omega)).one' (h1 m (by omega))
       ·exact hf1.val t2
      ·exact hf1.val t2
    ·cases h
   ·cases h
  ·cases h
 ·cases h
theorem qe6 {fr:Fr}{H:List R}{op:Op}{p:Prop×Fr×List R}(h:qgh fr H op=some p) : ∃ t n q,op=.buildSlice t n q:=by
 unfold qgh at h
 split at h
 ·exact⟨_,_,_,rfl⟩
 ·cases h
section opn
variable {P:Program}{S:Nat→Prop}{φ : List (List Nat)}{H:List R}{w:World}{T:Nat→Option TI}{fr:Fr}{a:Act}
def qcV (H:List R) (i:Nat):Option (Prop×List R):=
 match H[i]? with
 | some (.row g k (.own ((idx,off,.sl r g' k' 0 n)::hs)) l)=>
  match H[r]? with
  | some (.row g2 k2 (.own []) es)=>some (g'=g2∧k'=k2∧r≠i∧apart idx off hs∧off<k∧idx<l.length,
    (H.set i (.row g k (.own hs) (putC k l idx off (.lst k' (es.take n))))).set r (.dead g2))
  | _=>none
 | _=>none
theorem qgi (s:Sim S φ H w) {i:Nat}{vc:Prop}{H':List R}(h:qcV H i=some (vc,H')) (hvc:vc) : ∃ φ',Sim S φ' H' w∧Tr H.length S φ H w S φ' H' w∧Ext S φ w S φ' w:=by
 unfold qcV at h
 split at h
 ·rename_i g k idx off r g' k' n hs l hi
  split at h
  ·rename_i g2 k2 es hr
   simp only[Option.some.injEq,Prod.mk.injEq] at h
   obtain⟨rfl,rfl⟩:=h
   obtain⟨rfl,rfl,h1,h2,h3,h4⟩:=hvc
   exact s.close hi hr h1 h2 h3 h4
  ·simp at h
 ·simp at h
def qcI:List Nat→List R→Prop×List R
 | [],H=>(True,H)
 | i::is,H=>
  match qcV H i with
  | some (vc,H')=>(vc∧(qcI is H').1,(qcI is H').2)
  | none=>qcI is H
theorem qdz : ∀ (is:List Nat) {φ : List (List Nat)}{H:List R},Sim S φ H w→(qcI is H).1→∃ φ',Sim S φ' (qcI is H).2 w∧Tr H.length S φ H w S φ' (qcI is H).2 w∧Ext S φ w S φ' w
 | [],φ,H,s,_=>⟨φ,s,Tr.refl (Nat.le_refl _),Ext.refl ..⟩
 | i::is,φ,H,s,hvc=>by
  simp only[qcI] at hvc ⊢
  cases h:qcV H i with
  | none=>
   rw[h] at hvc
   exact qdz is s hvc
  | some p=>
   obtain⟨vc,H'⟩:=p
   rw[h] at hvc
   obtain⟨φ1,s1,t1,e1⟩:=qgi s h hvc.1
   obtain⟨φ2,s2,t2,e2⟩:=qdz is s1 hvc.2
   exact⟨φ2,s2,t1.trans (t2.weaken t1.len),e1.trans e2⟩
def qdg:List R→Bool
 | []=>false
 | .row _ _ (.own (_::_)) _::_=>true
 | _::r=>qdg r
def idxs:List R→Nat→List Nat
 | [],_=>[]
 | _::r,n=>n::idxs r (n+1)
def shut (H:List R):Prop×List R:=
 match qdg H with
 | true=>qcI (idxs H 0++(idxs H 0++(idxs H 0++(idxs H 0++(idxs H 0++idxs H 0))))) H
 | false=>(True,H)
theorem qfK (s:Sim S φ H w) (hvc:(shut H).1) : ∃ φ',Sim S φ' (shut H).2 w∧Tr H.length S φ H w S φ' (shut H).2 w∧Ext S φ w S φ' w:=by
 unfold shut at hvc ⊢
 revert hvc
 cases qdg H with
 | true=>exact fun hvc=>qdz _ s hvc
 | false=>exact fun _=>⟨φ,s,Tr.refl (Nat.le_refl _),Ext.refl ..⟩
def lkD:D→Nat
 | .lst k _=>k
 | _=>0
def lstD:D→Prop
 | .lst _ _=>True
 | _=>False
def qbh:List D→Nat→List Nat
 | [],_=>[]
 | .nil::r,n=>n::qbh r (n+1)
 | _::r,n=>qbh r (n+1)
def qbZ (z:D) (i idx:Nat):List Nat→List R→Option (Prop×List R)
 | [],H=>some (True,H)
 | o::os,H=>
  match H[i]? with
  | some (.row g k (.own hs) l)=>
   match qbZ z i idx os (H.set i (.row g k (.own ((idx,o,.sl H.length 1 (lkD ((l.getD idx z).cellAt o)) 0 ((l.getD idx z).cellAt o).elems.length)::hs)) l) ++
     [.row 1 (lkD ((l.getD idx z).cellAt o)) (.own []) ((l.getD idx z).cellAt o).elems]) with
   | some (vc,H')=>some ((lstD ((l.getD idx z).cellAt o)∧apart idx o hs∧o<k∧idx<l.length)∧vc,H')
   | none=>none
  | _=>none
theorem qen {z:D}{i idx:Nat} : ∀ (os:List Nat) {φ : List (List Nat)}{H:List R}{vc:Prop}{H':List R},Sim S φ H w→qbZ z i idx os H=some (vc,H')→vc→∃ φ',Sim S φ' H' w∧Tr H.length S φ H w S φ' H' w∧Ext S φ w S φ' w
 | [],φ,H,vc,H',s,h,hvc=>by
  simp only[qbZ,Option.some.injEq,Prod.mk.injEq] at h
  obtain⟨_,rfl⟩:=h
  exact⟨φ,s,Tr.refl (Nat.le_refl _),Ext.refl ..⟩
 | o::os,φ,H,vc,H',s,h,hvc=>by
  simp only[qbZ] at h
  split at h
  ·rename_i g k hs l hi
   split at h
   ·rename_i vc' H2 hop
    simp only[Option.some.injEq,Prod.mk.injEq] at h
    obtain⟨rfl,rfl⟩:=h
    obtain⟨⟨h1,h2,h3,h4⟩,hvc'⟩:=hvc
    have e:l.getD idx z=l.getD idx .nil:=by simp[List.getD,h4]
    rw[e] at h1 hop
    have hc:(l.getD idx .nil).cellAt o=.lst (lkD ((l.getD idx .nil).cellAt o)) ((l.getD idx .nil).cellAt o).elems:=by
     generalize (l.getD idx .nil).cellAt o=c at h1
     cases c <;> first|rfl|exact h1.elim
    obtain⟨φ1,s1,t1,e1⟩:=s.opn hi h2 h3 h4 hc
    obtain⟨φ2,s2,t2,e2⟩:=qen os s1 hop hvc'
    exact⟨φ2,s2,t1.trans (t2.weaken t1.len),e1.trans e2⟩
   ·simp at h
  ·simp at h
def qeo (T:Nat→Option TI) (H:List R) (t:Nat) (p:I):Option (Prop×I):=
 match T t,p with
 | some ti,.eptr i g k idx off z=>
  match H[i]? with
  | some (.row g' k' (.own (h::hs)) l)=>
   match ti.ty.agg with
   | true=>
    match qaK k' (h::hs) idx (l.getD idx z) ti.zero.cells off with
    | some (vc,xs)=>some (g=g'∧k=k'∧idx<l.length∧off+ti.size≤k∧ti.zero.cells.length=ti.size∧vc∧qa1 xs,mkAgg xs)
    | none=>none
   | false=>
    match slTy ti.ty with
    | true=>
     match qan k' (h::hs) (idx*k'+off) with
     | some x=>some (g=g'∧k=k'∧idx<l.length∧off<k∧qde ti.ty x,tnormI ti.ty x)
     | none=>none
    | false=>none
  | _=>none
 | _,_=>none
theorem qli {t:Nat}{p:I}{q:Prop×I}(h:qeo T H t p=some q):qbv T H t p=some q:=by
 unfold qeo at h
 split at h
 ·rename_i ti i g k idx off z hT
  split at h
  ·rename_i g' k' h0 hs l hi
   simp only[qbv,hT,hi]
   cases ha:ti.ty.agg with
   | true=>
    rw[ha] at h
    simp only at h ⊢
    cases qdG ti.zero <;> exact h
   | false=>
    rw[ha] at h
    simp only at h ⊢
    cases hn:slTy ti.ty with
    | true=>rw[hn] at h;exact h
    | false=>rw[hn] at h;simp at h
  ·simp at h
 ·simp at h
def qe7 (T:Nat→Option TI) (H:List R) (t:Nat) (p:I):Option (Prop×I×List R):=
 match T t,p with
 | some ti,.eptr i g k idx off z=>
  match qbZ z i idx (qbh ti.zero.cells off) (shut H).2 with
  | some (vc,H')=>
   match qeo T H' t p with
   | some (vc',x)=>some ((shut H).1∧vc∧vc',x,H')
   | none=>none
  | none=>none
 | _,_=>none
theorem qgV (hT:TOK P T) (s:Sim S φ H w) {t:Nat}{p:I}{vp:Value}(hp:V S φ H w p vp) {vc:Prop}{y:I}{H':List R}(h:qe7 T H t p=some (vc,y,H')) (hvc:vc) :
  ∃ v φ',Sim S φ' H' w∧Tr H.length S φ H w S φ' H' w∧Ext S φ w S φ' w∧V S φ' H' w y v∧∀ w2,Agree w w2→(Instr.loadAt t vp).run P w2=.ok v w2:=by
 unfold qe7 at h
 split at h
 ·split at h
  ·rename_i vc1 H2 hop
   split at h
   ·rename_i vc2 x hl
    simp only[Option.some.injEq,Prod.mk.injEq] at h
    obtain⟨rfl,rfl,rfl⟩:=h
    obtain⟨φ1,s1,t1,e1⟩:=qfK s hvc.1
    obtain⟨φ2,s2,t2,e2⟩:=qen _ s1 hop hvc.2.1
    have t12:=t1.trans (t2.weaken t1.len)
    obtain⟨v,hv,hr⟩:=qeg hT s2 (hp.tr t12) (qli hl) hvc.2.2
    exact⟨v,φ2,s2,t12,e1.trans e2,hv,hr⟩
   ·simp at h
  ·simp at h
 ·simp at h
def litD (agg:Bool) (cs:List I):D:=
 match agg with
 | true=>.agg (cs.map qaX)
 | false=>qaX (cs.getD 0 .junk)
def qht (T:Nat→Option TI) (H:List R) (t len:Nat) (i:Nat) (x:I):Option (Prop×I×List R):=
 match T t with
 | some ti=>
  match ti.ty with
  | .slice e=>
   match T e with
   | some ei=>
    match qaR ei x with
    | some (vc,cs)=>some (vc∧i=0∧len=1∧0<ei.size∧ei.size≤1000∧qbw cs,.sl H.length 0 ei.size 0 1,H ++ [.row 0 ei.size (.own (qaw 0 0 cs)) [litD ei.ty.agg cs]])
    | none=>none
   | none=>none
  | _=>none
 | none=>none
theorem qfL {x:I}(h:qgI x):(qaX x).one=true∧(qaX x).cells=[qaX x]:=by
 cases x with
 | d c=>simp only[qgI] at h;cases c <;> first|exact⟨rfl,rfl⟩|simp[D.scalar] at h
 | _=>exact⟨rfl,rfl⟩
theorem qiv {agg:Bool}{cs:List I}(hs:qbw cs) (h1:agg=false→cs.length=1):(litD agg cs).cells=cs.map qaX:=by
 cases agg with
 | true=>rfl
 | false=>
  match cs,h1 rfl with
  | [x],_=>exact(qfL hs.1).2
theorem qhu (hT:TOK P T) (s:Sim S φ H w) {t len i:Nat}{x:I}{vx:Value}(hx:V S φ H w x vx) {vc:Prop}{y:I}{H':List R}(h:qht T H t len i x=some (vc,y,H')) (hvc:vc) :
  ∃ v w' φ',(do pure (.value (←Instr.buildSlice t len #[(i,vx)])):Sem Next).run P w=.ok (.value v) w'∧Agree w w'∧Sim S φ' H' w'∧Tr H.length S φ H w S φ' H' w'∧Ext S φ w S φ' w'∧V S φ' H' w' y v:=by
 unfold qht at h
 split at h
 ·rename_i ti hti
  have ht:=hT _ _ hti
  split at h
  ·rename_i e hy
   split at h
   ·rename_i ei hei
    have he:=hT _ _ hei
    split at h
    ·rename_i vc' cs hc
     simp only[Option.some.injEq,Prod.mk.injEq] at h
     obtain⟨rfl,rfl,rfl⟩:=h
     obtain⟨hvc',rfl,rfl,hs,hsmall,hsc⟩:=hvc
     obtain⟨c1,c2,c3⟩:=qaW hx hc hvc'
     have hu:=ht.und_slice hy
     have hagg1:ei.ty.agg=false→cs.length=1:=by
      intro ha
      unfold qaR at hc
      rw[ha] at hc
      cases x <;> simp only[Option.some.injEq,Prod.mk.injEq,reduceCtorEq] at hc
      all_goals obtain⟨_,rfl⟩:=hc
      all_goals rfl
     have hcells:=qiv hsc hagg1
     have hmap:(cs.map qaX).length=ei.size:=by simp[c1]
     obtain⟨zc,hzc⟩ : ∃ zc:Array Value,zc=(qac ei.zero).cells:=⟨_,rfl⟩
     obtain⟨f1,f2⟩:=qd2 vx.cells (0*ei.size) ((Array.range (1*ei.size)).map (zc[· % zc.size]!)) (by simp[c2])
     obtain⟨arr',harr⟩ : ∃ arr',arr'=vx.cells.zipIdx.foldl (fun cs (c,j)=>cs.setIfInBounds (0*ei.size+j) c) ((Array.range (1*ei.size)).map (zc[· % zc.size]!)):=⟨_,rfl⟩
     rw[←harr] at f1 f2
     have hsz:arr'.size=ei.size:=by rw[f1];simp
     have hget : ∀ j,j<ei.size→arr'.getD j undef=vx.cells.getD j undef:=by
      intro j hj
      rw[f2,if_pos (by omega)]
      simp
     have hfl:flat [litD ei.ty.agg cs]=cs.map qaX:=by simp[flat,hcells]
     obtain⟨φ',a1,a2,a3,a4⟩:=qeQ s (k:=ei.size) (l:=[litD ei.ty.agg cs]) (cap:=1) (dp:=.own (qaw 0 0 cs)) (arr:=arr') hs (by
       intro z hz
       simp only[List.mem_singleton] at hz
       subst hz
       rw[hcells,hmap]) (by
       rw[hfl]
       intro c hc
       obtain⟨z,hz,rfl⟩:=List.mem_map.1 hc
       obtain⟨m,hm,rfl⟩:=List.getElem_of_mem hz
       have:=qcb hsc hm
       rw[←qak _ _ hm] at this
       exact(qfL this).1) (by simp[VL.lim]) (by simp) (by simp[maxLen]) (by omega) e (qcQ s _) (heap_alloc_new w _) (by
       rw[hfl]
       refine⟨fun _=>[],by simp,fun h hm=>?_,fun j hj=>?_⟩
       ·have:=qbR hm
        simp only[List.length_map]
        have e0:h.1=0:=this.1
        rw[e0]
        omega
       ·simp only[List.length_map] at hj
        have hp:(cs.map qaX).getD j .nil=qaX (cs.getD j .junk):=by simp[List.getD,hj]
        have hat:=qc7 (k:=ei.size) (idx:=0) (o:=0) hj
        simp only[Nat.zero_mul,Nat.zero_add] at hat
        rw[hp,hat,hget j (by omega)]
        obtain⟨o1,v1⟩:=c3 j (by omega)
        have hsj:=qcb hsc hj
        generalize cs.getD j .junk=z at v1 hsj
        cases z with
        | d c=>exact qgG v1.fz hsj
        | _=>exact⟨rfl,rfl,o1,v1⟩)
     refine⟨_,_,φ',?_,fun b hb=>heap_alloc_old w _ hb,a1,a2,a3,a4⟩
     have hrun:(Instr.buildSlice t 1 #[(0,vx)]).run P w=.ok (.slice (some ⟨w.heap.size,0,none⟩) 1 1) (w.alloc (.cells arr' e)):=by
      simp only[Instr.buildSlice,Sem.run_bind,run_underlying hu,Result.andThen_ok,he.run_sizeOf]
      rw[if_neg (by omega),if_neg (by omega)]
      have hfill:Instr.fill (fun i=>some (i*ei.size,ei.size)) ((Array.range (1*ei.size)).map (zc[· % zc.size]!)) [(0,vx)]=some arr':=by
       simp only[Instr.fill]
       rw[if_neg (by simp;omega)]
       rw[harr]
      subst hzc
      simp only[Sem.run_bind,Sem.run_pure,Result.andThen_ok,he.run_zero,hfill,newRow,run_newObj]
      rfl
     simp only[Sem.run_bind,hrun,Result.andThen_ok,Sem.run_pure]
     rfl
    ·simp at h
   ·simp at h
  ·simp at h
 ·simp at h
def qcW (deep:LitM):I→Bool
 | .agg _=>deep.agg
 | .sl ..=>deep.sl
 | _=>false
def sopO (deep:LitM) (T:Nat→Option TI) (fr:Fr) (H:List R):Op→Option (Prop×I×List R)
 | .buildSlice t len parts=>
  match parts.toList with
  | [(i,x)]=>
   match qcW deep (evx fr x) with
   | true=>qaP (evc fr x) (qht T H t len i (evx fr x))
   | false=>none
  | _=>none
 | .load t p=>qaP (evc fr p) (qe7 T H t (evx fr p))
 | _=>none
theorem qdA (hT:TOK P T) (s:Sim S φ H w) (hf:FrR S φ H w fr a) {deep:LitM}{o:Oper}{vc:Prop}{x:I}{H':List R}(h:sopO deep T fr H o.op=some (vc,x,H')) (hvc:vc) :
  ∃ v w' φ',(execOp a.eval o).run P w=.ok (.value v) w'∧Agree w w'∧Sim S φ' H' w'∧Tr H.length S φ H w S φ' H' w'∧Ext S φ w S φ' w'∧V S φ' H' w' x v∧
   ((∃ t q,o.op=.load t q)→w'=w∧∀ w2,Agree w w2→(execOp a.eval o).run P w2=.ok (.value v) w2):=by
 obtain⟨dst,op,ty,pos,after,guard⟩:=o
 simp only at h
 cases op with
 | buildSlice t len parts=>
  simp only[sopO] at h
  split at h
  ·rename_i i y hp
   split at h
   ·obtain⟨hc,vc',h,hvc⟩:=qbB h hvc
    have:=qhu hT s (hf.evx y hc) h hvc
    have e:(parts.map fun(i,x)=>(i,a.eval x)) = #[(i,a.eval y)]:=by
     rw[←Array.toArray_toList (xs:=parts),hp]
     simp
    rw[←e] at this
    obtain⟨v,w',φ',h1,h2,h3,h4,h5,h6⟩:=this
    exact⟨v,w',φ',h1,h2,h3,h4,h5,h6,by rintro⟨t,q,h⟩;cases h⟩
   ·simp at h
  ·simp at h
 | load t p=>
  obtain⟨hc,vc',h,hvc⟩:=qbB h hvc
  obtain⟨v,φ',h1,h2,h3,h4,h5⟩:=qgV hT s (hf.evx p hc) h hvc
  exact⟨v,w,φ',by simp[execOp,h5 w (Agree.refl w)],Agree.refl w,h1,h2,h3,h4,fun _=>⟨rfl,fun w2 hw2=>by simp[execOp,h5 w2 hw2]⟩⟩
 | _=>simp[sopO] at h
theorem qiw (hT:TOK P T) (s:Sim S φ H w) (hf:FrR S φ H w fr a) {deep:LitM}{o:Oper}{vc:Prop}{x:I}{H':List R}(h:sopO deep T fr H o.op=some (vc,x,H')) (hvc:vc) :
  qb9 S φ H w ((execOp a.eval o).run P w) x H':=by
 obtain⟨v,w',φ',h1,_,h3,h4,h5,h6,_⟩:=qdA hT s hf h hvc
 exact⟨v,w',φ',.inl h1,h3,h4,h5,h6⟩
theorem qjs {deep:LitM}{T:Nat→Option TI}{fr:Fr}{H:List R}{op:Op}{p:Prop×I×List R}(h:sopO deep T fr H op=some p):(∃ t n q,op=.buildSlice t n q)∨∃ t q,op=.load t q:=by
 unfold sopO at h
 split at h
 ·exact .inl ⟨_,_,_,rfl⟩
 ·exact .inr ⟨_,_,rfl⟩
 ·cases h
end opn
def scal:D→Prop
 | .int k n=>InK k n
 | .bool _=>True
 | _=>False
def qaE:Op→Bool
 | .move _|.assign _|.pick _ _ _|.build _ _|.load _ _|.nilCheck _|.binOp _ _ _ _ _|.unOp _ _ _|.convert _ _ _|.slice _ _ _ _ _|.fieldAddr _ _ _|.field _ _ _|.indexAddr _ _ _|.index _ _ _|.extract _ _=>true
 | .makeFunc _ _ _=>true
 | .lookup _ _ _ _=>true
 | .call ⟨.builtin .len,_,_⟩=>true
 | .call ⟨.builtin .cap,_,_⟩=>true
 | .call ⟨.builtin .min,_,_⟩=>true
 | .call ⟨.builtin .max,_,_⟩=>true
 | .call ⟨.value _,_,_⟩=>true
 | _=>false
def qao:List Oper→Bool
 | []=>true
 | o::r=>qaE o.op&&qao r
def qe8:Option TI→Bool
 | some ⟨.int _,_,_,_⟩=>true
 | some ⟨.bool,_,_,_⟩=>true
 | _=>false
def qbq (T:Nat→Option TI) (ty:Nat):Op→Bool
 | .call ⟨.value _,_,_⟩=>qe8 (T ty)
 | _=>true
def qix (T:Nat→Option TI):List Oper→Bool
 | []=>true
 | o::r=>qbq T o.type o.op&&qix T r
def quiet (T:Nat→Option TI) (l:List Oper):Bool:=qao l&&qix T l
def qe9:Kind→Bool
 | .proc=>true
 | _=>false
def qbl (pf:Nat→Kind):Op→Bool
 | .call ⟨.value (.func g),_,_⟩=>qe9 (pf g)
 | _=>false
def qec (pf:Nat→Kind):List Oper→Bool
 | []=>true
 | o::r=>!qbl pf o.op&&qec pf r
def qlj (E:Env) (e:Bool) (f:Nat) (ds:List D) (k:D→Prop):Prop:=∃ x,(e=true→Pure E.P f ds x∧scal x)∧k x
def qex (E:Env) (c:Prop) (e:Bool) (fn:Option (Nat×List I)) (args:List I) (H:List R) (K:D→Prop):Prop:=
 match fn with
 | some (f,caps)=>
  match qcT H (args++caps) with
  | some (vc,ds)=>(e=true→c∧vc)∧qlj E e f ds K
  | none=>False
 | none=>False
def opsQ (E:Env) (all:List Oper) (H:List R) (K:Fr→Prop):List Oper→Fr→Prop
 | [],fr=>K fr
 | o::rest,fr=>
  match o.guard with
  | none=>
   match qar o.op with
   | some (g,args)=>qex E (evc fr g∧evcs fr args) true (fnOf (evx fr g)) (evs fr args) H (fun x=>opsQ E all H K rest (fr.put o.dst (.d x)))
   | none=>
    match sopP E.T fr H o.op with
    | some (vc,x)=>vc∧opsQ E all H K rest (fr.put o.dst x)
    | none=>False
  | some (j,want)=>
   match guardOf all fr j want with
   | some (gc,e)=>
    match qar o.op with
    | some (g,args)=>gc∧qex E (evc fr g∧evcs fr args) e (fnOf (evx fr g)) (evs fr args) H (fun x=>opsQ E all H K rest (fr.put o.dst (.cond e (.d x))))
    | none=>
     match sopP E.T fr H o.op with
     | some (vc,x)=>gc∧(e=true→vc)∧opsQ E all H K rest (fr.put o.dst (.cond e x))
     | none=>False
   | none=>False
theorem qlk {S:Nat→Prop}{w:World}{x:D}(h:scal x) : ∃ v,FZ S w x v∧∀ (w2:World) (v2:Value) (fp:List Nat),OW w2 x v2 fp→v2=v:=by
 cases x <;> simp only[scal] at h
 ·exact⟨_,.int h,fun w2 v2 fp h=>by cases h;rfl⟩
 ·exact⟨_,.bool,fun w2 v2 fp h=>by cases h;rfl⟩
theorem Grow.draw (w:World):Grow w { w with drawn:=w.drawn+1 }:=⟨rfl,rfl,rfl,Nat.le_refl _,fun _ _=>rfl⟩
theorem Grow.agree {w w':World}(g:Grow w w'):Agree w w':=g.keep
theorem Grow.trans' {w w' w'':World}(g:Grow w w') (g':Grow w' w''):Grow w w'':=
 ⟨g'.os.trans g.os,g'.tape.trans g.tape,g'.output.trans g.output,Nat.le_trans g.size g'.size,fun b hb=>(g'.keep b (Nat.lt_of_lt_of_le hb g.size)).trans (g.keep b hb)⟩
theorem qiy {E:Env}(hT:TOK E.P E.T) {all:List Oper}{H:List R}{K:Fr→Prop}{S:Nat→Prop}{φ : List (List Nat)}{w:World}(s:Sim S φ H w) {K':Act→Prop}
  (hK : ∀ fr a,FrR S φ H w fr a→K fr→K' a) : ∀ (l:List Oper) {fr:Fr}{a:Act},FrR S φ H w fr a→opsQ E all H K l fr→wpQuiet E.P all.toArray (Grow w) K' l a:=by
 intro l
 induction l with
 | nil=>exact fun {fr a} hf h=>hK fr a hf h
 | cons o rest ih=>
  intro fr a hf h
  have reads : ∀ {vc:Prop}{x:I},sopP E.T fr H o.op=some (vc,x)→vc→∃ v,V S φ H w x v∧∀ w',Grow w w'→o.quietAt E.P a (Grow w) w' v:=by
   intro vc x hp hvc
   obtain⟨v,hv,hr⟩:=qbi hT s hf hp hvc
   refine⟨v,hv,fun w' hw'=>?_⟩
   unfold Oper.quietAt
   rw[hr w' fun _=>hw'.agree]
   exact⟨rfl,rfl⟩
  have calls : ∀ {g:Operand}{args:List Operand}{f:Nat}{caps:List I}{vc:Prop}{ds:List D}{x:D},qar o.op=some (g,args)→fnOf (evx fr g)=some (f,caps)→qcT H (evs fr args++caps)=some (vc,ds)→
    (evc fr g∧evcs fr args)→vc→Pure E.P f ds x→scal x→∃ v,V S φ H w (.d x) v∧∀ w',Grow w w'→o.quietAt E.P a (Grow w) w' v:=by
   intro g args f caps vc ds x ho hfn hv hc hvc hp hx
   obtain⟨hc1,hc2⟩:=hc
   obtain⟨vs,e1,e2,e3⟩:=qd8 (hf.evx g hc1) hfn
   obtain⟨l1,l2⟩:=qcP hf args hc2
   obtain⟨m1,m2⟩:=qd9 (va:=(args.map a.eval).toArray) (by simp[l1]) (fun j hj=>l2 j (by omega)) e2 e3
   have hargs:=qce (fun x v vc d h1 h2 h3=>qbQ s 3 h1 h2 h3) m1 m2 hv hvc
   have hlt : ∀ b,Lent S φ b→b<w.heap.size:=fun b hb=>hb.elim (s.slt b) (s.lt b)
   have hargs' : ∀ w',Grow w w'→qfI (Lent S φ) w' ds ((args.map a.eval).toArray++vs):=fun w' hw'=>⟨hargs.1,fun j hj=>(hargs.2 j hj).mono (fun _ h=>h) (fun b hb=>hw'.keep b (hlt b hb))⟩
   have hcall : ∀ w',Grow w w'→Calls E.P f ((args.map a.eval).toArray++vs) w' (fun e w''=>∃ v fp,e=.returned v∧OW w'' x v fp∧Grow w w''):=fun w' hw'=>
    hp.2 (Lent S φ) _ w' _ (fun b hb=>Nat.lt_of_lt_of_le (hlt b hb) hw'.size) (hargs' w' hw') fun v w'' fp how _ _ hg=>⟨v,fp,rfl,how,hw'.trans' hg⟩
   obtain⟨v,hvv,hdet⟩:=qlk (S:=S) (w:=w) hx
   refine⟨v,.d hvv,fun w' hw'=>?_⟩
   unfold Oper.quietAt
   rw[qcu ho e1 hp.1 w']
   refine⟨rfl,(hcall w' hw').mono ?_⟩
   rintro e w'' ⟨v2,fp,rfl,how,hg⟩
   exact⟨by rw[hdet _ _ _ how],hg⟩
  simp only[opsQ] at h
  split at h
  ·rename_i hgd
   have hw:Region.wanted o (yielded all.toArray a.tmps)=true:=by simp only[Region.wanted,hgd]
   simp only[wpQuiet,hw,if_true]
   split at h
   ·rename_i g args ho
    unfold qex at h
    split at h
    ·rename_i f caps hfn
     split at h
     ·rename_i vc ds hv
      obtain⟨hc,x,hp,hk⟩:=h
      obtain⟨v,hvv,hq⟩:=calls ho hfn hv (hc rfl).1 (hc rfl).2 (hp rfl).1 (hp rfl).2
      exact⟨v,hq,ih (hf.put o.dst hvv) hk⟩
     ·exact h.elim
    ·exact h.elim
   ·split at h
    ·rename_i vc x hp
     obtain⟨v,hvv,hq⟩:=reads hp h.1
     exact⟨v,hq,ih (hf.put o.dst hvv) h.2⟩
    ·exact h.elim
  ·rename_i j want hgd
   split at h
   ·rename_i gc e hg
    have wanted:gc→Region.wanted o (yielded all.toArray a.tmps)=e:=by
     intro hgc
     exact qbK hf hgd hg hgc
    split at h
    ·rename_i g args ho
     obtain⟨hgc,h⟩:=h
     have hw:=wanted hgc
     unfold qex at h
     split at h
     ·rename_i f caps hfn
      split at h
      ·rename_i vc ds hv
       obtain⟨hc,x,hp,hk⟩:=h
       cases e with
       | false=>
        simp only[wpQuiet,hw,Bool.false_eq_true,if_false]
        exact ih (hf.skip o.dst rfl _) hk
       | true=>
        simp only[wpQuiet,hw,if_true]
        obtain⟨v,hvv,hq⟩:=calls ho hfn hv (hc rfl).1 (hc rfl).2 (hp rfl).1 (hp rfl).2
        exact⟨v,hq,ih (hf.put o.dst (.cond (fun _=>hvv) fun h=>by cases h)) hk⟩
      ·exact h.elim
     ·exact h.elim
    ·split at h
     ·rename_i vc x hp
      obtain⟨hgc,hvc,hk⟩:=h
      have hw:=wanted hgc
      cases e with
      | false=>
       simp only[wpQuiet,hw,Bool.false_eq_true,if_false]
       exact ih (hf.skip o.dst rfl _) hk
      | true=>
       simp only[wpQuiet,hw,if_true]
       obtain⟨v,hvv,hq⟩:=reads hp (hvc rfl)
       exact⟨v,hq,ih (hf.put o.dst (.cond (fun _=>hvv) fun h=>by cases h)) hk⟩
     ·exact h.elim
   ·exact h.elim
theorem qjt {E:Env}{all:List Oper}{H:List R}{K K':Fr→Prop}(hK : ∀ fr,K fr→K' fr) : ∀ (l:List Oper) {fr:Fr},opsQ E all H K l fr→opsQ E all H K' l fr:=by
 intro l
 have cq : ∀ {c:Prop}{e:Bool}{fn:Option (Nat×List I)}{args:List I}{K K':D→Prop},(∀ x,K x→K' x)→qex E c e fn args H K→qex E c e fn args H K':=by
  intro c e fn args K K' hk h
  unfold qex at *
  split at h
  ·split at h
   ·rename_i hv
    try simp only[hv]
    obtain⟨h1,x,h2,h3⟩:=h
    exact⟨h1,x,h2,hk x h3⟩
   ·exact h.elim
  ·exact h.elim
 induction l with
 | nil=>exact fun {fr} h=>hK fr h
 | cons o rest ih=>
  intro fr h
  simp only[opsQ] at h ⊢
  split at h
  ·rename_i hgd
   try simp only[hgd]
   split at h
   ·rename_i ho
    try simp only[ho]
    exact cq (fun x hx=>ih hx) h
   ·rename_i ho
    try simp only[ho]
    split at h
    ·rename_i hp
     try simp only[hp]
     exact⟨h.1,ih h.2⟩
    ·exact h.elim
  ·rename_i hgd
   try simp only[hgd]
   split at h
   ·rename_i hg
    try simp only[hg]
    split at h
    ·rename_i ho
     try simp only[ho]
     exact⟨h.1,cq (fun x hx=>ih hx) h.2⟩
    ·rename_i ho
     try simp only[ho]
     split at h
     ·rename_i hp
      try simp only[hp]
      exact⟨h.1,h.2.1,ih h.2.2⟩
     ·exact h.elim
   ·exact h.elim
theorem qll {E:Env}(hT:TOK E.P E.T) (hm:E.P.follows .mixedOrders=true) {id:Nat}{ops:Array Oper}(hB:Region.lexB .any ops=true) {Q:Post}{H:List R}{fr:Fr}
  (h:opsQ E ops.toList H (fun fr'=>Q .normal fr' H) ops.toList fr):iwp E.P E.n (.region id ops true) Q fr H:=by
 intro S φ a w Qr hn s hf hq
 refine wp_region_quiet (C:=Grow w) hm hB (Grow.draw w) ?_
 have:=qiy hT s (K:=fun fr'=>Q .normal fr' H) (K':=fun a'=>∀ w',Grow w w'→Qr .normal a' w') (fun fr' a' hf' hk w' hg=>by
  obtain⟨s1,s2,s3⟩:=qct s hg S (fun b h=>h) (fun b h=>.inl h) (fun b h=>Nat.lt_of_lt_of_le (s.slt b h) hg.size)
  exact hq _ a' w' S φ fr' H s1 (hf'.tr s2) s3 (s2.weaken hn) hk) ops.toList hf h
 simpa using this
mutual
def exec (E:Env):Nat→List Item→Post→Fr→List R→Prop
 | 0,_,_,_,_=>False
 | _+1,[],Q,fr,H=>Q .normal fr H
 | f+1,.blk _::ks,Q,fr,H=>exec E f ks Q fr H
 | f+1,.code c::ks,Q,fr,H=>qaB E f c ks Q fr H
def qaB (E:Env):Nat→Code→List Item→Post→Fr→List R→Prop
 | 0,_,_,_,_,_=>False
 | f+1,.skip,ks,Q,fr,H=>exec E f ks Q fr H
 | f+1,.label _,ks,Q,fr,H=>exec E f ks Q fr H
 | f+1,.seq x y,ks,Q,fr,H=>qaB E f x (.code y::ks) Q fr H
 | f+1,.block id c,ks,Q,fr,H=>qaB E f c (.blk id::ks) Q fr H
 | f+1,.exit id,ks,Q,fr,H=>qbS E f (exK id ks) id ks Q fr H
 | f+1,.ret,ks,Q,fr,H=>Q .ret fr H
 | f+1,.cond c x y,ks,Q,fr,H=>qhv E f (ev fr c) x y ks Q fr H
 | f+1,.region _ ops false,ks,Q,fr,H=>ops' E f ops.toList ops.toList ks Q fr H
 | f+1,.region id ops true,ks,Q,fr,H=>
  if(quiet E.T ops.toList&&qec E.pf ops.toList)=true then E.P.follows .mixedOrders=true∧Region.lexB .any ops=true∧opsQ E ops.toList H (fun fr'=>exec E f ks Q fr' H) ops.toList fr
  else iwp E.P E.n (.region id ops true) (qaQ E ks Q) fr H
 | f+1,.loop c,ks,Q,fr,H=>iwp E.P E.n (.loop c) (qaQ E ks Q) fr H
 | f+1,.scope c,ks,Q,fr,H=>iwp E.P E.n (.scope c) (qaQ E ks Q) fr H
 | f+1,.goto l,ks,Q,fr,H=>iwp E.P E.n (.goto l) (qaQ E ks Q) fr H
 | f+1,.refuse s,ks,Q,fr,H=>iwp E.P E.n (.refuse s) (qaQ E ks Q) fr H
 | f+1,.rangeFunc g ps c1 c2,ks,Q,fr,H=>iwp E.P E.n (.rangeFunc g ps c1 c2) (qaQ E ks Q) fr H
def qbS (E:Env):Nat→Option (List Item)→Nat→List Item→Post→Fr→List R→Prop
 | 0,_,_,_,_,_,_=>False
 | f+1,some ks',_,_,Q,fr,H=>exec E f ks' Q fr H
 | _+1,none,id,_,Q,fr,H=>Q (.exit id) fr H
def qhv (E:Env):Nat→I→Code→Code→List Item→Post→Fr→List R→Prop
 | 0,_,_,_,_,_,_,_=>False
 | f+1,.d d,x,y,ks,Q,fr,H=>d.isBool∧(d.toBool=true→qaB E f x ks Q fr H)∧(d.toBool=false→qaB E f y ks Q fr H)
 | _+1,_,_,_,_,_,_,_=>False
def ops' (E:Env):Nat→List Oper→List Oper→List Item→Post→Fr→List R→Prop
 | 0,_,_,_,_,_,_=>False
 | f+1,_,[],ks,Q,fr,H=>exec E f ks Q fr H
 | f+1,all,o::rest,ks,Q,fr,H=>
  match o.guard with
  | none=>
   match qar o.op with
   | some (g,args)=>qdS E (evc fr g∧evcs fr args) (fnOf (evx fr g)) (evs fr args) H (opsK E f all rest ks Q fr o.dst)
   | none=>
    match sopP E.T fr H o.op with
    | some (vc,x)=>vc∧ops' E f all rest ks Q (fr.put o.dst x) H
    | none=>
     match sopI E.T fr H o.op with
     | some (vc,x,H')=>vc∧ops' E f all rest ks Q (fr.put o.dst x) H'
     | none=>
      match sopO E.deep E.T fr H o.op with
      | some (vc,x,H')=>vc∧ops' E f all rest ks Q (fr.put o.dst x) H'
      | none=>
      match qgh fr H o.op with
      | some (fc,fr',H')=>
       match sopI E.T fr' H' o.op with
       | some (vc,x,H'')=>fc∧vc∧ops' E f all rest ks Q (fr'.put o.dst x) H''
       | none=>False
      | none=>False
  | some (j,want)=>
   match guardOf all fr j want with
   | some (gc,e)=>
    match qar o.op with
    | some (g,args)=>gc∧qhs E (evc fr g∧evcs fr args) e (fnOf (evx fr g)) (evs fr args) H (opsG E f all rest ks Q fr o.dst)
    | none=>
     match sopP E.T fr H o.op with
     | some (vc,x)=>gc∧(e=true→vc)∧ops' E f all rest ks Q (fr.put o.dst (.cond e x)) H
     | none=>
      match sopI E.T fr H o.op with
      | some (vc,x,H')=>gc∧(e=false→∃ y,ops' E f all rest ks Q (fr.put o.dst (.cond e y)) H)∧(e=true→vc∧ops' E f all rest ks Q (fr.put o.dst (.cond e x)) H')
      | none=>False
   | none=>False
def opsK (E:Env):Nat→List Oper→List Oper→List Item→Post→Fr→Option Tmp→I→List R→Prop
 | 0,_,_,_,_,_,_,_,_=>False
 | f+1,all,rest,ks,Q,fr,dst,r,H=>ops' E f all rest ks Q (fr.put dst r) H
def opsG (E:Env):Nat→List Oper→List Oper→List Item→Post→Fr→Option Tmp→List R→I→Prop
 | 0,_,_,_,_,_,_,_,_=>False
 | f+1,all,rest,ks,Q,fr,dst,H,r=>ops' E f all rest ks Q (fr.put dst r) H
end
variable {E:Env}{Q:Post}{fr:Fr}{H:List R}
theorem qfa : ∀ (ks:List Item),Q .ret fr H→qaQ E ks Q .ret fr H
 | [],h=>h
 | .code c::ks,h=>qfa ks h
 | .blk id::ks,h=>qfa ks h
theorem qcf (id:Nat) : ∀ (ks:List Item),(match exK id ks with|some ks'=>qaQ E ks' Q .normal fr H|none=>Q (.exit id) fr H)→qaQ E ks Q (.exit id) fr H
 | [],h=>h
 | .code c::ks,h=>qcf id ks h
 | .blk id'::ks,h=>by
  simp only[qaQ,qeA]
  simp only[exK] at h
  by_cases hid:id=id'
  ·rw[if_pos hid]
   rw[if_pos hid] at h
   exact h
  ·rw[if_neg hid]
   rw[if_neg hid] at h
   exact qcf id ks h
def opsW (E:Env) (all:List Oper) (l:List Oper) (ks:List Item) (Q:Post) (fr:Fr) (H:List R):Prop:=
 iops E.P E.n all.toArray l (fun fr H=>qaQ E ks Q .normal fr H) fr H
variable {S:Nat→Prop}{φ : List (List Nat)}{w:World}{a:Act}
theorem qcw {f:Operand}{args:List Operand}{o:Oper}(ho:qar o.op=some (f,args)) (s:Sim S φ H w) (hf:FrR S φ H w fr a)
  {Kc:I→List R→Prop}(h:qdS E (evc fr f∧evcs fr args) (fnOf (evx fr f)) (evs fr args) H Kc) {Qr:Exit→Act→World→Prop}{Kr:Act→World→Prop}
  (hK : ∀ S' φ' H' w' r v,Sim S' φ' H' w'→FrR S' φ' H' w' fr a→V S' φ' H' w' r v→Ext S φ w S' φ' w'→Tr H.length S φ H w S' φ' H' w'→Kc r H'→Kr (a.put o.dst v) w'):o.wp E.P a w Kr Qr:=by
 unfold qdS at h
 split at h
 ·rename_i g caps hfn
  have common:(evc fr f∧evcs fr args)→∃ vs,a.eval f=.func (.func g) #[] vs∧((args.map a.eval).toArray++vs).size=(evs fr args++caps).length∧
    ∀ j,j<(evs fr args++caps).length→V S φ H w ((evs fr args++caps).getD j .junk) (((args.map a.eval).toArray++vs).getD j undef):=by
   rintro⟨hc1,hc2⟩
   obtain⟨vs,e1,e2,e3⟩:=qd8 (hf.evx f hc1) hfn
   obtain⟨l1,l2⟩:=qcP hf args hc2
   obtain⟨m1,m2⟩:=qd9 (va:=(args.map a.eval).toArray) (by simp[l1]) (fun j hj=>l2 j (by omega)) e2 e3
   exact⟨vs,e1,m1,m2⟩
  split at h
  ·split at h
   ·rename_i vc ds hv
    obtain⟨hc,hvc,ψ,hp,hk⟩:=h
    obtain⟨vs,e1,e2,e3⟩:=common hc
    refine qba (qcu ho e1 hp.1 w) (hp.2 (Lent S φ) _ w _ (fun b hb=>hb.elim (s.slt b) (s.lt b)) (qce (fun x v vc d h1 h2 h3=>qbQ s 3 h1 h2 h3) e2 e3 hv hvc) ?_)
    intro x v w' fp hx how hnd hfp hg
    rcases hk x hx with hk|⟨r,H',hu,hk⟩
    ·obtain⟨s1,s2,s3⟩:=qct s hg (fun b=>S b∨b∈fp) (fun b h=>.inl h) (fun b h=>h.imp id (hfp b)) (fun b h=>h.elim (fun h=>Nat.lt_of_lt_of_le (s.slt b h) hg.size) (how.lt b))
     exact hK _ _ _ _ _ _ s1 (hf.tr s2) (.d (how.fz fun b hb=>.inr hb)) s3 s2 hk
    ·obtain⟨S',φ',s1,s2,s3,hv⟩:=hu S φ w w' v fp s how hnd hfp hg
     exact hK _ _ _ _ _ _ s1 (hf.tr s2) hv s3 s2 hk
   ·exact h.elim
  ·split at h
   ·rename_i vc ds hv
    obtain⟨hc,hvc,ψ,hp,hk⟩:=h
    obtain⟨vs,e1,e2,e3⟩:=common hc
    refine qba (qcu ho e1 hp.1 w) (hp.2 S _ w _ s.slt (qce qhQ e2 e3 hv hvc) ?_)
    intro x v w' S' hx h1 h2 h3 hz hg
    obtain⟨s1,s2,s3⟩:=qct s hg S' h1 h2 h3
    exact hK _ _ _ _ _ _ s1 (hf.tr s2) (.d hz) s3 s2 (hk x hx)
   ·exact h.elim
  ·obtain⟨hc,hp⟩:=h
   obtain⟨vs,e1,e2,e3⟩:=common hc
   refine qba (qcu ho e1 hp.1 w) (hp.2 S φ _ w _ s e2 e3 ?_)
   intro v w' S' φ' r H' s1 hv s3 s2 hk
   exact hK _ _ _ _ _ _ s1 (hf.tr s2) hv s3 s2 hk
 ·exact h.elim
set_option maxHeartbeats 1000000 in
theorem qfM (hT:TOK E.P E.T) : ∀ (f:Nat),
  (∀ (ks:List Item) {fr:Fr}{H:List R},exec E f ks Q fr H→qaQ E ks Q .normal fr H)∧
  (∀ (c:Code) (ks:List Item) {fr:Fr}{H:List R},qaB E f c ks Q fr H→iwp E.P E.n c (qaQ E ks Q) fr H)∧
  (∀ (all l:List Oper) (ks:List Item) {fr:Fr}{H:List R},ops' E f all l ks Q fr H→opsW E all l ks Q fr H):=by
 intro f
 induction f using Nat.strongRecOn with
 | _ f ih=>
 refine⟨?_,?_,?_⟩
 ·intro ks fr H h
  match f,ks with
  | 0,_=>simp only[exec] at h
  | f+1,[]=>
   simp only[exec] at h
   exact h
  | f+1,.blk id::ks=>
   simp only[exec] at h
   exact(ih f (Nat.lt_succ_self f)).1 ks h
  | f+1,.code c::ks=>
   simp only[exec] at h
   exact(ih f (Nat.lt_succ_self f)).2.1 c ks h
 ·intro c ks fr H h
  match f with
  | 0=>simp only[qaB] at h
  | f+1=>
   have ih0:=ih f (Nat.lt_succ_self f)
   cases c with
   | skip=>simp only[qaB] at h;exact qkX (ih0.1 ks h)
   | label l=>simp only[qaB] at h;exact qi1 (ih0.1 ks h)
   | exit id=>
    simp only[qaB] at h
    refine qkY (qcf id ks ?_)
    generalize exK id ks=o at h
    match f,o with
    | 0,_=>simp only[qbS] at h
    | f+1,some ks'=>
     simp only[qbS] at h
     exact(ih f (by omega)).1 ks' h
    | f+1,none=>
     simp only[qbS] at h
     exact h
   | ret=>simp only[qaB] at h;exact iwp_ret (qfa ks h)
   | seq x y=>simp only[qaB] at h;exact qi2 (ih0.2.1 x (.code y::ks) h)
   | block id c=>simp only[qaB] at h;exact qi3 (ih0.2.1 c (.blk id::ks) h)
   | cond c x y=>
    simp only[qaB] at h
    generalize hev:ev fr c=i at h
    match f,i with
    | 0,_=>simp only[qhv] at h
    | f+1,.d d=>
     simp only[qhv] at h
     exact qkZ hev h.1 (fun e=>(ih f (by omega)).2.1 x ks (h.2.1 e)) (fun e=>(ih f (by omega)).2.1 y ks (h.2.2 e))
    | f+1,.agg _|f+1,.sl .. | f+1,.ptr .. | f+1,.eptr .. | f+1,.bor .. | f+1,.bptr .. | f+1,.map _|f+1,.fn .. | f+1,.tup _|f+1,.own _|f+1,.cond .. | f+1,.junk=>simp only[qhv] at h
   | region id ops draw=>
    cases draw with
    | false=>
     simp only[qaB] at h
     exact qfB (by have:=ih0.2.2 ops.toList ops.toList ks h;unfold opsW at this;simpa using this)
    | true=>
     simp only[qaB] at h
     split at h
     ·obtain⟨hm,hB,h⟩:=h
      refine qll hT hm hB (qjt (fun fr' h=>ih0.1 ks h) _ h)
     ·exact h
   | loop c=>simpa only[qaB] using h
   | scope c=>simpa only[qaB] using h
   | goto l=>simpa only[qaB] using h
   | refuse s=>simpa only[qaB] using h
   | rangeFunc g ps c1 c2=>simpa only[qaB] using h
 ·intro all l ks fr H h
  match f,l with
  | 0,_=>simp only[ops'] at h
  | f+1,[]=>
   simp only[ops'] at h
   intro S φ a w Qr hn s hf hq
   exact hq a w S φ fr H s hf (Ext.refl ..) (Tr.refl hn) ((ih f (Nat.lt_succ_self f)).1 ks h)
  | f+1,o::rest=>
   have ih0:=(ih f (Nat.lt_succ_self f)).2.2
   intro S φ a w Qr hn s hf hq
   simp only[ops'] at h
   split at h
   ·rename_i hgd
    refine wpList_plain hgd fun Kr hKr=>?_
    split at h
    ·rename_i g args ho
     refine qcw ho s hf h fun S' φ' H' w' r v s' hf' hv he ht hk=>hKr _ _ ?_
     match f with
     | 0=>simp only[opsK] at hk
     | f+1=>
      simp only[opsK] at hk
      exact(ih f (by omega)).2.2 all rest ks hk S' φ' _ w' Qr (Nat.le_trans hn ht.len) s' (hf'.put o.dst hv) fun a2 w2 S2 φ2 fr2 H2 a3 a4 a5 a6 a7=>hq a2 w2 S2 φ2 fr2 H2 a3 a4 (he.trans a5) ((ht.weaken hn).trans a6) a7
    ·split at h
     ·rename_i vc x hp
      obtain⟨hvc,hk⟩:=h
      obtain⟨v,hv,hr⟩:=qbi hT s hf hp hvc
      unfold Oper.wp
      rw[hr w (fun _=>Agree.refl w),Oper.upon_value]
      exact hKr _ _ (ih0 all rest ks hk S φ _ w Qr hn s (hf.put o.dst hv) hq)
     ·split at h
      ·rename_i vc x H' hp
       obtain⟨hvc,hk⟩:=h
       obtain⟨v,w',φ',hr,s',ht,he,hv⟩:=qbz hT s hf hp hvc
       have fin:Kr (a.put o.dst v) w':=hKr _ _ (ih0 all rest ks hk S φ' _ w' Qr (Nat.le_trans hn ht.len) s' ((hf.tr ht).put o.dst hv) fun a2 w2 S2 φ2 fr2 H2 a3 a4 a5 a6 a7=>
        hq a2 w2 S2 φ2 fr2 H2 a3 a4 (he.trans a5) ((ht.weaken hn).trans a6) a7)
       unfold Oper.wp
       rcases hr with hr|⟨hr,rfl⟩
       ·rw[hr,Oper.upon_value];exact fin
       ·rw[hr,Oper.upon_skip];exact fin
      ·split at h
       ·rename_i vc x H' hp
        obtain⟨hvc,hk⟩:=h
        obtain⟨v,w',φ',hr,s',ht,he,hv⟩:=qiw hT s hf hp hvc
        have fin:Kr (a.put o.dst v) w':=hKr _ _ (ih0 all rest ks hk S φ' _ w' Qr (Nat.le_trans hn ht.len) s' ((hf.tr ht).put o.dst hv) fun a2 w2 S2 φ2 fr2 H2 a3 a4 a5 a6 a7=>
         hq a2 w2 S2 φ2 fr2 H2 a3 a4 (he.trans a5) ((ht.weaken hn).trans a6) a7)
        unfold Oper.wp
        rcases hr with hr|⟨hr,rfl⟩
        ·rw[hr,Oper.upon_value];exact fin
        ·rw[hr,Oper.upon_skip];exact fin
       split at h
       ·rename_i fc fr' H' hfz
        split at h
        ·rename_i vc x H'' hp
         obtain⟨hfc,hvc,hk⟩:=h
         obtain⟨S1,φ1,s1,hf1,e1,t1⟩:=qe5 s hf hfz hfc
         obtain⟨v,w',φ',hr,s',ht,he,hv⟩:=qbz hT s1 hf1 hp hvc
         have hn1:=Nat.le_trans hn t1.len
         have fin:Kr (a.put o.dst v) w':=hKr _ _ (ih0 all rest ks hk S1 φ' _ w' Qr (Nat.le_trans hn1 ht.len) s' ((hf1.tr ht).put o.dst hv) fun a2 w2 S2 φ2 fr2 H2 a3 a4 a5 a6 a7=>
          hq a2 w2 S2 φ2 fr2 H2 a3 a4 (e1.trans (he.trans a5)) ((t1.weaken hn).trans ((ht.weaken hn1).trans a6)) a7)
         unfold Oper.wp
         rcases hr with hr|⟨hr,rfl⟩
         ·rw[hr,Oper.upon_value];exact fin
         ·rw[hr,Oper.upon_skip];exact fin
        ·exact h.elim
       ·exact h.elim
   ·rename_i j want hgd
    split at h
    ·rename_i gc e hg
     have wanted:gc→Region.wanted o (yielded all.toArray a.tmps)=e:=by
      intro hgc
      exact qbK hf hgd hg hgc
     split at h
     ·rename_i g args ho
      obtain⟨hgc,h⟩:=h
      have hw:=wanted hgc
      unfold wpList
      rw[hw]
      unfold qhs at h
      split at h
      ·rename_i g caps hfn
       split at h
       ·rename_i hpf
        split at h
        ·rename_i vc ds hv
         obtain⟨hc,x,hp,hk⟩:=h
         match f with
         | 0=>simp only[opsG] at hk
         | f+1=>
         simp only[opsG] at hk
         have ih1:=(ih f (by omega)).2.2
         cases e with
         | false=>
          simp only[Bool.false_eq_true,if_false]
          exact ih1 all rest ks hk S φ _ w Qr hn s (hf.skip o.dst rfl _) hq
         | true=>
          simp only[if_true]
          left
          obtain⟨hc,hvc⟩:=hc rfl
          have hp:=hp rfl
          refine qcw (E:=E) ho s hf (Kc:=fun r H'=>H'=H∧r=.d x) ?_ ?_
          ·simp only[qdS,hfn,hpf,hv]
           exact⟨hc,hvc,fun y=>y=x,hp.toE,fun y hy=>.inl ⟨rfl,by rw[hy]⟩⟩
          ·rintro S' φ' H' w' r v s' hf' hv' he ht ⟨rfl,rfl⟩
           exact ih1 all rest ks hk S' φ' _ w' Qr (Nat.le_trans hn ht.len) s' (hf'.put o.dst (.cond (fun _=>hv') fun h=>by cases h)) fun a2 w2 S2 φ2 fr2 H2 a3 a4 a5 a6 a7=>hq a2 w2 S2 φ2 fr2 H2 a3 a4 (he.trans a5) ((ht.weaken hn).trans a6) a7
        ·exact h.elim
       ·rename_i hpf
        cases e with
        | false=>
         obtain⟨x,hk⟩:=h.1 rfl
         simp only[Bool.false_eq_true,if_false]
         match f with
         | 0=>simp only[opsG] at hk
         | f+1=>
         simp only[opsG] at hk
         exact(ih f (by omega)).2.2 all rest ks hk S φ _ w Qr hn s (hf.skip o.dst rfl _) hq
        | true=>
         simp only[if_true]
         left
         obtain⟨hc,hp⟩:=h.2 rfl
         refine qcw (E:=E) ho s hf (Kc:=fun r H'=>opsG E f all rest ks Q fr o.dst H' (.cond true r)) ?_ ?_
         ·simp only[qdS,hfn,hpf]
          exact⟨hc,hp⟩
         ·intro S' φ' H' w' r v s' hf' hv' he ht hk
          match f with
          | 0=>simp only[opsG] at hk
          | f+1=>
          simp only[opsG] at hk
          exact(ih f (by omega)).2.2 all rest ks hk S' φ' _ w' Qr (Nat.le_trans hn ht.len) s' (hf'.put o.dst (.cond (fun _=>hv') fun h=>by cases h)) fun a2 w2 S2 φ2 fr2 H2 a3 a4 a5 a6 a7=>hq a2 w2 S2 φ2 fr2 H2 a3 a4 (he.trans a5) ((ht.weaken hn).trans a6) a7
       ·rename_i hpf
        cases e with
        | false=>
         obtain⟨x,hk⟩:=h.1 rfl
         simp only[Bool.false_eq_true,if_false]
         match f with
         | 0=>simp only[opsG] at hk
         | f+1=>
         simp only[opsG] at hk
         exact(ih f (by omega)).2.2 all rest ks hk S φ _ w Qr hn s (hf.skip o.dst rfl _) hq
        | true=>
         simp only[if_true]
         left
         have hp:=h.2 rfl
         refine qcw (E:=E) ho s hf (Kc:=fun r H'=>opsG E f all rest ks Q fr o.dst H' (.cond true r)) ?_ ?_
         ·simp only[qdS,hfn,hpf]
          exact hp
         ·intro S' φ' H' w' r v s' hf' hv' he ht hk
          match f with
          | 0=>simp only[opsG] at hk
          | f+1=>
          simp only[opsG] at hk
          exact(ih f (by omega)).2.2 all rest ks hk S' φ' _ w' Qr (Nat.le_trans hn ht.len) s' (hf'.put o.dst (.cond (fun _=>hv') fun h=>by cases h)) fun a2 w2 S2 φ2 fr2 H2 a3 a4 a5 a6 a7=>hq a2 w2 S2 φ2 fr2 H2 a3 a4 (he.trans a5) ((ht.weaken hn).trans a6) a7
      ·exact h.elim
     ·split at h
      ·rename_i vc x hp
       obtain⟨hgc,hvc,hk⟩:=h
       have hw:=wanted hgc
       unfold wpList
       rw[hw]
       cases e with
       | false=>
        simp only[Bool.false_eq_true,if_false]
        exact ih0 all rest ks hk S φ _ w Qr hn s (hf.skip o.dst rfl _) hq
       | true=>
        simp only[if_true]
        left
        obtain⟨v,hv,hr⟩:=qbi hT s hf hp (hvc rfl)
        unfold Oper.wp
        rw[hr w (fun _=>Agree.refl w),Oper.upon_value]
        exact ih0 all rest ks hk S φ _ w Qr hn s (hf.put o.dst (.cond (fun _=>hv) fun h=>by cases h)) hq
      ·split at h
       ·rename_i vc x H' hp
        obtain⟨hgc,hk0,hk1⟩:=h
        have hw:=wanted hgc
        unfold wpList
        rw[hw]
        cases e with
        | false=>
         obtain⟨y,hk⟩:=hk0 rfl
         simp only[Bool.false_eq_true,if_false]
         exact ih0 all rest ks hk S φ _ w Qr hn s (hf.skip o.dst rfl _) hq
        | true=>
         obtain⟨hvc,hk⟩:=hk1 rfl
         simp only[if_true]
         left
         obtain⟨v,w',φ',hr,s',ht,he,hv⟩:=qbz hT s hf hp hvc
         unfold Oper.wp
         have fin:=ih0 all rest ks hk S φ' _ w' Qr (Nat.le_trans hn ht.len) s' ((hf.tr ht).put o.dst (.cond (fun _=>hv) fun h=>by cases h)) fun a2 w2 S2 φ2 fr2 H2 a3 a4 a5 a6 a7=>
          hq a2 w2 S2 φ2 fr2 H2 a3 a4 (he.trans a5) ((ht.weaken hn).trans a6) a7
         rcases hr with hr|⟨hr,rfl⟩
         ·rw[hr,Oper.upon_value];exact fin
         ·rw[hr,Oper.upon_skip];exact fin
       ·exact h.elim
    ·exact h.elim
theorem qc9 (hT:TOK E.P E.T) (f:Nat) {c:Code}(h:qaB E f c [] Q fr H):iwp E.P E.n c Q fr H:=(qfM hT f).2.1 c [] h
theorem qeD (hT:TOK E.P E.T) (f:Nat) {ks:List Item}(h:exec E f ks Q fr H):qaQ E ks Q .normal fr H:=(qfM hT f).1 ks h
end Go.VL
