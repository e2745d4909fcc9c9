/- Part 18: functions: from a body's verification condition to its contract. Conditions: none; lemmas. -/
import Derived.Test.YteikeianenfhaaaGreatVM3
import Derived.Deep.Quiet
set_option linter.unusedVariables false
set_option linter.unusedSimpArgs false
set_option maxHeartbeats 2000000
set_option linter.defProp false
namespace Go.VL
variable {tmps:Array Value}{x y:D}{v:Value}{fn:Func}{fp:ZC}{args:ZE}{f:Nat}{c:Code}{ds:ZD}
variable {P:Program}{S:Nat->Prop}{φ : List ZC}{H:ZF}{w:World}{T:Nat->Option TI}{fr:Fr}{a:Act}{n:Nat}
def eY (T:Nat->Option TI) (H:ZF) (fr:Fr):List ResultVar->Option (Prop×ZE)
 | []=>some (True,[])
 | .tmp t::r=>
  match eY T H fr r with
  | some (vc,l)=>some (vc,fr.get t::l)
  | none=>none
 | .cell a ty::r=>
  match nE T H ty (fr.get a),eY T H fr r with
  | some (c,x),some (vc,l)=>some (c/\vc,x::l)
  | _,_=>none
def fl (T:Nat->Option TI) (H:ZF) (fr:Fr) (rs:List ResultVar):Option (Prop×I):=
 match eY T H fr rs with
 | some (vc,[x])=>some (vc,x)
 | some (vc,l)=>some (vc,.tup l)
 | none=>none
def mQ (tmps:Array Value):ResultVar->Sem Value
 | .tmp t=>pure (tmps.getD t undef)
 | .cell a t=>do loadVar t (←asAddr (tmps.getD a undef))
def Of {x:Nat}{t:TypeId}(h:(Instr.loadAt t (tmps.getD x undef)).run P w=.ok v w):(mQ tmps (.cell x t)).run P w=.ok v w:=by
 have e:mQ tmps (.cell x t)=(do loadVar t (←asAddr (tmps.getD x undef)):Sem Value):=rfl;rw[e];unfold Instr.loadAt at h;generalize tmps.getD x undef=u at *
 have nope : ∀ {α : Type}(s:String) (k:Addr->Sem Value),((stuck s:Sem Addr) >>= k).run P w≠.ok v w:=fun s k hk=>by
  simp only[Sem.run_bind,stuck] at hk;cases hk
 cases u with
 | pointer a=>
  cases a with
  | some a=>exact h
  | none=>exact absurd h (nope (α:=Value) _ _)
 | _=>exact absurd h (nope (α:=Value) _ _)
def IP {α β : Type}(f : α->Sem β) (g : α->β) (w:World) : ∀ (l:List α),(∀ x∈l,(f x).run P w=.ok (g x) w)->(l.mapM f).run P w=.ok (l.map g) w
 | [],_=>rfl
 | x::r,h=>by
  rw[List.mapM_cons];simp only[Sem.run_bind];rw[h x (by simp)];simp only[Result.andThen_ok,Sem.run_bind];rw[IP f g w r fun y hy=>h y (by simp[hy])];rfl
def N9 {α β : Type}(l:Array α) (f : α->Sem β) (g : α->β) (w:World) (h : ∀ x∈l,(f x).run P w=.ok (g x) w):(l.mapM f).run P w=.ok (l.map g) w:=by
 rw[Array.mapM_eq_mapM_toList,Sem.run_map,IP f g w l.toList (fun x hx=>h x (by simpa using hx))];simp only[Result.andThen_ok];rw[<-Array.toList_map]
def DL (hT:bQ P T) (s:aQ S φ H w) (hf:de S φ H w fr a) : ∀ {rs:List ResultVar}{vc:Prop}{l:ZE},eY T H fr rs=some (vc,l)->vc->
  l.length=rs.length/\∀ j,j<rs.length->∃ v,(mQ a.tmps (rs.getD j (.tmp 0))).run P w=.ok v w/\V S φ H w (l.getD j .junk) v
 | [],vc,l,h,_=>by
  simp only[eY,aE,aK] at h;obtain⟨_,rfl⟩:=h;exact⟨rfl,by simp⟩
 | .tmp t::r,vc,l,h,hvc=>by
  simp only[eY] at h;split at h
  ·rename_i vc' l' hr;simp only[aE,aK] at h;obtain⟨rfl,rfl⟩:=h;obtain⟨h1,h2⟩:=DL hT s hf hr hvc;refine⟨by simp[h1],fun j hj=>?_⟩;cases j with
   | zero=>exact⟨_,rfl,by simpa using hf.val t⟩
   | succ j=>simpa using h2 j (by simpa using hj)
  ·simp at h
 | .cell x ty::r,vc,l,h,hvc=>by
  simp only[eY] at h;split at h
  ·rename_i c y vc' l' hl hr;simp only[aE,aK] at h;obtain⟨rfl,rfl⟩:=h;obtain⟨h1,h2⟩:=DL hT s hf hr hvc.2;refine⟨by simp[h1],fun j hj=>?_⟩;cases j with
   | zero=>
    obtain⟨v,hv,hrun⟩:=NA hT s (hf.val x) hl hvc.1;exact⟨v,by simpa using Of (hrun w (au.refl w)),by simpa using hv⟩
   | succ j=>simpa using h2 j (by simpa using hj)
  ·simp at h
open Classical in
noncomputable def gR (P:Program) (w:World) (tmps:Array Value) (rv:ResultVar):Value:=if h : ∃ v,(mQ tmps rv).run P w=.ok v w then Classical.choose h else undef
def vS {rv:ResultVar}(h:(mQ tmps rv).run P w=.ok v w):gR P w tmps rv=v:=by
 have he : ∃ v,(mQ tmps rv).run P w=.ok v w:=⟨v,h⟩;unfold gR;rw[dif_pos he];have:=h.symm.trans (Classical.choose_spec he);injection this with h1
 exact h1.symm
def zB (hT:bQ P T) (s:aQ S φ H w) (hf:de S φ H w fr a) {vc:Prop}{r:I}(h:fl T H fr fn.results.toList=some (vc,r)) (hvc:vc) : ∃ v,(results fn a.tmps).run P w=.ok v w/\V S φ H w r v:=by
 unfold fl at h;have main : ∀ {vc:Prop}{l:ZE},eY T H fr fn.results.toList=some (vc,l)->vc->(results fn a.tmps).run P w=.ok (if h:(fn.results.map (gR P w a.tmps)).size=1 then(fn.results.map (gR P w a.tmps))[0] else .tuple (fn.results.map (gR P w a.tmps))) w/\
   l.length=fn.results.size/\∀ j,j<l.length->V S φ H w (l.getD j .junk) ((fn.results.map (gR P w a.tmps)).getD j undef):=by
  intro vc l hc hvc;obtain⟨h1,h2⟩:=DL hT s hf hc hvc;have hev : ∀ x∈fn.results,(mQ a.tmps x).run P w=.ok (gR P w a.tmps x) w:=by
   intro x hx;obtain⟨j,hj,rfl⟩:=Array.getElem_of_mem hx;obtain⟨v,hv,_⟩:=h2 j (by simpa using hj);have e:fn.results.toList.getD j (.tmp 0)=fn.results[j]:=by simp[List.getD,hj]
   rw[e] at hv;rw[hv,vS hv]
  refine⟨?_,by simpa using h1,fun j hj=>?_⟩
  ·have er:results fn a.tmps=(do let vs←fn.results.mapM (mQ a.tmps);pure (if h:vs.size=1 then vs[0] else .tuple vs):Sem Value):=rfl;rw[er];simp only[Sem.run_bind];rw[N9 fn.results _ (gR P w a.tmps) w (fun x hx=>hev x hx)];simp only[Result.andThen_ok,Sem.run_pure]
  ·have hj':j<fn.results.toList.length:=by omega
   obtain⟨v,hv,hV⟩:=h2 j hj';have hj2:j<fn.results.size:=by simpa using hj'
   have e:fn.results.toList.getD j (.tmp 0)=fn.results[j]:=by simp[List.getD,hj2]
   rw[e] at hv;have e2:(fn.results.map (gR P w a.tmps)).getD j undef=v:=by
    simp[Array.getD,hj2,vS hv]
   rw[e2];exact hV
 split at h
 ·rename_i vc' x hc;simp only[aE,aK] at h;obtain⟨rfl,rfl⟩:=h;obtain⟨m1,m2,m3⟩:=main hc hvc;have hs:(fn.results.map (gR P w a.tmps)).size=1:=by simpa using m2.symm
  rw[dif_pos hs] at m1;refine⟨_,m1,?_⟩;have:=m3 0 (by simp);have e:(fn.results.map (gR P w a.tmps)).getD 0 undef=(fn.results.map (gR P w a.tmps))[0]:=by simp[Array.getD,hs]
  rw[e] at this;simpa using this
 ·rename_i vc' l hne hc;simp only[aE,aK] at h;obtain⟨rfl,rfl⟩:=h;obtain⟨m1,m2,m3⟩:=main hc hvc;have hs : ¬ (fn.results.map (gR P w a.tmps)).size=1:=by
   intro h1;have hl1:l.length=1:=by rw[m2];simpa using h1
   match l,hne,hl1 with
   | [x],hne,_=>exact hne x rfl
  rw[dif_neg hs] at m1;exact⟨_,m1,.tup (by simp[m2]) m3⟩
 ·simp at h
def yN:D->Bool
 | .int _ _=>true
 | .bool _=>true
 | .raw _=>true
 | .nil=>true
 | _=>false
def CH:D->Bool
 | .agg cs=>cs.all yN
 | x=>yN x
def uX:D->Bool
 | .tup xs=>xs.all CH
 | x=>CH x
def oo (f:I->Option (Prop×D×ZC)):ZE->Option (Prop×ZD×ZC)
 | []=>some (True,[],[])
 | x::r=>
  match f x,oo f r with
  | some (vc,d,l),some (vc',ds,l')=>some (vc/\vc',d::ds,l++l')
  | _,_=>none
def mB:ZD->Prop
 | []=>True
 | x::r=>x.one=true/\mB r
def pk (H:ZF):Nat->I->Option (Prop×D×ZC)
 | _,.d x=>some (uX x=true,x,[])
 | _,.sl i g k lo m=>
  match H[i]? with
  | some (.row g' k' (.own []) l)=>some (g=g'/\k=k'/\lo=0/\m=l.length,.lst k l,[i])
  | _=>none
 | f+1,.agg cs=>
  match oo (pk H f) cs with
  | some (vc,ds,l)=>some (vc/\mB ds,.agg ds,l)
  | none=>none
 | f+1,.tup cs=>
  match oo (pk H f) cs with
  | some (vc,ds,l)=>some (vc,.tup ds,l)
  | none=>none
 | _,.own i=>
  match H[i]? with
  | some (.val x)=>some (True,x,[i])
  | _=>none
 | _,_=>none
def Nq (h:FZ S w x v) (hx:yN x=true):OW w x v []:=by
 cases h <;> simp[yN] at hx
 ·exact .int (by assumption)
 ·exact .bool
 ·exact .raw (by assumption)
 ·exact .nil
def flatMap_nil (m:Nat):(List.range m).flatMap (fun _=>([]:ZC))=[]:=by simp
def Mi (h:FZ S w x v) (hx:CH x=true):OW w x v []:=by
 cases x with
 | agg cs=>
  cases h with
  | agg hl h1 hj=>
   simp only[CH,l6] at hx;have:=OW.agg (w:=w) (cs:=cs) (fun _=>[]) hl h1 (fun j hj'=>Nq (hj j hj') (hx _ (av hj')))
   rwa [flatMap_nil] at this
 | _=>exact Nq h hx
def Oq (h:FZ S w x v) (hx:uX x=true):OW w x v []:=by
 cases x with
 | tup cs=>
  cases h with
  | tup hl hj=>
   simp only[uX,l6] at hx;have:=OW.tup (w:=w) (xs:=cs) (fun _=>[]) hl (fun j hj'=>Mi (hj j hj') (hx _ (av hj')))
   rwa [flatMap_nil] at this
 | _=>exact Mi h hx
def n6 (φ : List ZC) (ids:ZC):ZC:=ids.flatMap fun i=>φ.getD i []
def Ej {f:I->Option (Prop×D×ZC)}(hf : ∀ x v vc d l,V S φ H w x v->f x=some (vc,d,l)->vc->OW w d v (n6 φ l)) :
  ∀ (cs:ZE) {vc:Prop}{ds:ZD}{l:ZC},oo f cs=some (vc,ds,l)->vc->ds.length=cs.length/\
   ∃ F:Nat->ZC,n6 φ l=(List.range cs.length).flatMap F/\∀ j,j<cs.length->∀ v,V S φ H w (cs.getD j .junk) v->OW w (ds.getD j .nil) v (F j)
 | [],vc,ds,l,h,hvc=>by
  simp only[oo,aE,aK] at h;obtain⟨_,rfl,rfl⟩:=h;exact⟨rfl,fun _=>[],by simp[n6],by simp⟩
 | x::r,vc,ds,l,h,hvc=>by
  simp only[oo] at h;split at h
  ·rename_i vc1 d l1 vc2 ds' l2 h1 h2;simp only[aE,aK] at h;obtain⟨rfl,rfl,rfl⟩:=h;obtain⟨e1,F,e2,e3⟩:=Ej hf r h2 hvc.2;refine⟨by simp[e1],fun j=>match j with|0=>n6 φ l1|j+1=>F j,?_,fun j hj v hv=>?_⟩
   ·simp only[eD,List.range_succ_eq_map,l7,List.flatMap_map];rw[<-e2];simp[n6]
   ·cases j with
    | zero=>exact hf x v vc1 d l1 (by simpa [List.getD] using hv) h1 hvc.1
    | succ j=>simpa [List.getD] using e3 j (by simpa using hj) v (by simpa [List.getD] using hv)
  ·simp at h
def JM : ∀ {ds:ZD},mB ds->∀ c∈ds,c.one=true
 | [],_,c,hc=>by simp at hc
 | x::r,h,c,hc=>by
  rcases List.mem_cons.1 hc with rfl|hc
  ·exact h.1
  ·exact JM h.2 c hc
def En (s:aQ S φ H w) : ∀ (f:Nat) {x:I}{v:Value}{vc:Prop}{d:D}{l:ZC},V S φ H w x v->pk H f x=some (vc,d,l)->vc->OW w d v (n6 φ l):=by
 have row : ∀ {i g k lo m:Nat}{v:Value}{vc:Prop}{d:D}{l:ZC},V S φ H w (.sl i g k lo m) v->
   (match H[i]? with|some (.row g' k' (.own []) l)=>some (g=g'/\k=k'/\lo=0/\m=l.length,D.lst k l,[i])|_=>none)=some (vc,d,l)->vc->OW w d v (n6 φ l):=by
  intro i g k lo m v vc d l hv h hvc;split at h
  ·rename_i g' k' L hi;simp only[aE,aK] at h;obtain⟨rfl,rfl,rfl⟩:=h;obtain⟨rfl,rfl,rfl,rfl⟩:=hvc;have hfp:n6 φ [i] = φ.getD i []:=by simp[n6]
   rw[hfp];cases hv with
   | sl hlt hg hrel h1=>
    obtain⟨hsl,hle⟩:=hrel true L hi;obtain⟨hk,he,ho,hlim,hr⟩:=s.rel i _ hi;rcases hsl with⟨hfp,_,hl0,rfl⟩|⟨b,rest,cap,arr,ty,a,hfp,rfl,hn,hcp,hlim',hb,hfit⟩
    ·rw[hfp,AB hl0];exact .lst0 hk
    ·obtain⟨rfl,hfit'⟩:=hfit (.inr rfl);rcases hr with⟨e,_⟩|⟨b',rest',arr',ty',e,hb',hsz,F,rfl,hF⟩
     ·rw[hfp] at e;simp at e
     ·rw[hfp] at e;simp at e;obtain⟨rfl,rfl⟩:=e;rw[hb] at hb';simp at hb';obtain⟨rfl,rfl⟩:=hb';rw[hfp];have:=OW.lst (w:=w) F hk he ho hn hcp hlim' hb (by omega) hF.2;simpa using this
  ·simp at h
 have own : ∀ {i:Nat}{v:Value}{vc:Prop}{d:D}{l:ZC},V S φ H w (.own i) v->
   (match H[i]? with|some (.val x)=>some (True,x,[i])|_=>none)=some (vc,d,l)->vc->OW w d v (n6 φ l):=by
  intro i v vc d l hv h hvc;split at h
  ·rename_i x hi;simp only[aE,aK] at h;obtain⟨rfl,rfl,rfl⟩:=h;have hfp:n6 φ [i] = φ.getD i []:=by simp[n6]
   rw[hfp];cases hv with
   | own hlt hrel=>exact hrel x hi
  ·simp at h
 have dat : ∀ {x:D}{v:Value}{vc:Prop}{d:D}{l:ZC},V S φ H w (.d x) v->some (uX x=true,x,([]:ZC))=some (vc,d,l)->vc->OW w d v (n6 φ l):=by
  intro x v vc d l hv h hvc;simp only[aE,aK] at h;obtain⟨rfl,rfl,rfl⟩:=h;exact Oq hv.fz hvc
 intro f;induction f with
 | zero=>
  intro x v vc d l hv h hvc;cases x <;> simp only[pk,reduceCtorEq] at h
  ·exact dat hv h hvc
  ·exact row hv h hvc
  ·exact own hv h hvc
 | succ f ih=>
  intro x v vc d l hv h hvc;cases x <;> simp only[pk,reduceCtorEq] at h
  ·exact dat hv h hvc
  ·rename_i cs;split at h
   ·rename_i vc' ds l' hp;simp only[aE,aK] at h;obtain⟨rfl,rfl,rfl⟩:=h;obtain⟨e1,F,e2,e3⟩:=Ej (fun x v vc d l h1 h2 h3=>ih h1 h2 h3) cs hp hvc.1;cases hv with
    | agg hl h1 hj=>
     rw[e2,<-e1];exact .agg F (by omega) (JM hvc.2) fun j hj'=>e3 j (by omega) _ (hj j (by omega))
   ·simp at h
  ·exact row hv h hvc
  ·rename_i cs;split at h
   ·rename_i vc' ds l' hp;simp only[aE,aK] at h;obtain⟨rfl,rfl,rfl⟩:=h;obtain⟨e1,F,e2,e3⟩:=Ej (fun x v vc d l h1 h2 h3=>ih h1 h2 h3) cs hp hvc;cases hv with
    | tup hl hj=>
     rw[e2,<-e1];exact .tup F (by omega) fun j hj'=>e3 j (by omega) _ (hj j (by omega))
   ·simp at h
  ·exact own hv h hvc
def gF:D->D->Prop
 | .nil,.lst k l=>0<k/\l=[]
 | x,y=>x=y
def jM:ZD->ZD->Prop
 | [],[]=>True
 | x::r,y::s=>gF x y/\jM r s
 | _,_=>False
def gP:D->D->Prop
 | .agg xs,.agg ys=>jM xs ys
 | x,y=>gF x y
def pi:ZD->ZD->Prop
 | [],[]=>True
 | x::r,y::s=>gP x y/\pi r s
 | _,_=>False
def wk:D->D->Prop
 | .tup xs,.tup ys=>pi xs ys
 | x,y=>gP x y
def Ii (h:gF x y):y.one=x.one:=by
 unfold gF at h;split at h
 ·rfl
 ·rw[h]
def Ey : ∀ {xs ys:ZD},jM xs ys->xs.length=ys.length/\∀ j,j<xs.length->gF (xs.getD j .nil) (ys.getD j .nil)
 | [],[],_=>⟨rfl,by simp⟩
 | x::r,y::s,h=>by
  obtain⟨h1,h2⟩:=Ey h.2;refine⟨by simp[h1],fun j hj=>?_⟩;cases j with
  | zero=>simpa [List.getD] using h.1
  | succ j=>simpa [List.getD] using h2 j (by simpa using hj)
 | [],_::_,h=>h.elim
 | _::_,[],h=>h.elim
def AN : ∀ {xs ys:ZD},pi xs ys->xs.length=ys.length/\∀ j,j<xs.length->gP (xs.getD j .nil) (ys.getD j .nil)
 | [],[],_=>⟨rfl,by simp⟩
 | x::r,y::s,h=>by
  obtain⟨h1,h2⟩:=AN h.2;refine⟨by simp[h1],fun j hj=>?_⟩;cases j with
  | zero=>simpa [List.getD] using h.1
  | succ j=>simpa [List.getD] using h2 j (by simpa using hj)
 | [],_::_,h=>h.elim
 | _::_,[],h=>h.elim
def Ig (h:gF x y) (ho:OW w x v fp):OW w y v fp:=by
 unfold gF at h;split at h
 ·obtain⟨hk,rfl⟩:=h;cases ho;exact .lst0 hk
 ·rw[<-h];exact ho
def MM (h:gP x y) (ho:OW w x v fp):OW w y v fp:=by
 unfold gP at h;split at h
 ·rename_i xs ys;obtain⟨hl,hg⟩:=Ey h;cases ho with
  | agg F hl' h1 hj=>
   rw[hl];refine .agg F (by omega) ?_ fun j hj'=>Ig (hg j (by omega)) (hj j (by omega))
   intro c hc;obtain⟨j,hj',rfl⟩:=gJ hc;rw[lb _ _ _ .nil,Ii (hg j (by omega))];exact h1 _ (av (by omega))
 ·exact Ig h ho
def qJ (h:wk x y) (ho:OW w x v fp):OW w y v fp:=by
 unfold wk at h;split at h
 ·rename_i xs ys;obtain⟨hl,hg⟩:=AN h;cases ho with
  | tup F hl' hj=>
   rw[hl];exact .tup F (by omega) fun j hj'=>MM (hg j (by omega)) (hj j (by omega))
 ·exact MM h ho
def JT (h:gF x y) (ho:FZ S w x v):FZ S w y v:=by
 unfold gF at h;split at h
 ·obtain⟨hk,rfl⟩:=h;cases ho;exact .lst0 hk
 ·rw[<-h];exact ho
def Dt (h:gP x y) (ho:FZ S w x v):FZ S w y v:=by
 unfold gP at h;split at h
 ·rename_i xs ys;obtain⟨hl,hg⟩:=Ey h;cases ho with
  | agg hl' h1 hj=>
   refine .agg (by omega) ?_ fun j hj'=>JT (hg j (by omega)) (hj j (by omega))
   intro c hc;obtain⟨j,hj',rfl⟩:=gJ hc;rw[lb _ _ _ .nil,Ii (hg j (by omega))];exact h1 _ (av (by omega))
 ·exact JT h ho
def Ct (h:wk x y) (ho:FZ S w x v):FZ S w y v:=by
 unfold wk at h;split at h
 ·rename_i xs ys;obtain⟨hl,hg⟩:=AN h;cases ho with
  | tup hl' hj=>exact .tup (by omega) fun j hj'=>Dt (hg j (by omega)) (hj j (by omega))
 ·exact Dt h ho
def ue {t:Nat}{ti:TI}(h1:(P.info? t).map (fun i=>(i.size,i.bytes,i.zero))=some (ti.size,ti.bytes,some (bc ti.zero))) (h2:(P.underlying t).map ff=some ti.ty)
  (h3:vn ti.zero=true) (h4:ti.zero.cells.length=ti.size) (h5:(match ti.zero with|.agg _=>true|_=>false)=ti.ty.agg) (h6:AU P t=true):a0 P t ti:=by
 cases hi:P.info? t with
 | none=>simp[hi] at h1
 | some i=>
  cases hu:P.underlying t with
  | none=>simp[hu] at h2
  | some d=>
   simp[hi] at h1;simp[hu] at h2;exact⟨⟨i,d,hi,h1.1,h1.2.1,h1.2.2,hu,h2⟩,h3,h4,h5,h6⟩
def qG (x:D):Option (Prop×D×ZC)->Prop
 | some (vc,x',ids)=>vc/\ids.Nodup/\wk x' x
 | none=>False
def yU (x:D):Option (Prop×D)->Prop
 | some (vc,x')=>vc/\wk x' x
 | none=>False
def jF:Nat->ZE->List (Nat×I)
 | _,[]=>[]
 | t,x::r=>(t,x)::jF (t+1) r
def Re (args:ZE) (t s:Nat):look s (jF t args)=if t<=s/\s<t+args.length then args.getD (s-t) .junk else .junk:=by
 induction args generalizing t with
 | nil=>simp[jF,look]
 | cons x r ih=>
  simp only[jF,look,ih,eD];by_cases h:t=s
  ·subst h;simp[List.getD]
  ·rw[if_neg h];by_cases h2:t+1<=s/\s<t+1+r.length
   ·rw[if_pos h2,if_pos (by omega),show s-t=(s-(t+1))+1 by omega];simp[List.getD]
   ·rw[if_neg h2,if_neg (by omega)]
def zS {vs:Array Value}{nt:Nat}(hl:vs.size=args.length) (hv : ∀ j,j<args.length->V S φ H w (args.getD j .junk) (vs.getD j undef)) (hn:args.length<=nt) :
  de S φ H w ⟨nt,jF 0 args⟩ { tmps:=vs++Array.replicate (nt-vs.size) undef,defers:=[] }:=by
 refine⟨rfl,by simp;omega,fun t=>?_⟩;show V S φ H w (look t (jF 0 args)) _
 rw[Re];by_cases h:t<args.length
 ·rw[if_pos ⟨kM _,by omega⟩];have e:(vs++Array.replicate (nt-vs.size) undef).getD t undef=vs.getD t undef:=by
   simp only[Array.getD_eq_getD_getElem?];rw[Array.getElem?_append_left (by omega)]
  rw[e];exact hv t h
 ·rw[if_neg (by omega)];exact .junk
def endsWith (T:Nat->Option TI) (fn:Func) (Po:Fr->I->ZF->Prop):aT:=fun e fr H=>
 match e with
 | .normal=>match fl T H fr fn.results.toList with|some (vc,r)=>vc/\Po fr r H|none=>False
 | .ret=>match fl T H fr fn.results.toList with|some (vc,r)=>vc/\Po fr r H|none=>False
 | _=>False
def Lu (hT : bQ P T)     {Po : I -> ZF -> Prop} (hf : P.funcs[f]? = some fn) (hb : fn.body = some c) (hnm : (fn.name == "runtime.NumGoroutine") = false) (hn : args.length <= fn.ntmps)
  (h:cK P H.length c (endsWith T fn (fun fr r H'=>∃ fr' H'',a8 H.length (⟨1,[(0,r)]⟩:Fr) H' fr' H''/\fr'.n=1/\Po (fr'.get 0) H'')) ⟨fn.ntmps,jF 0 args⟩ H):aA P f args H Po:=by
 refine⟨rh hf hb hnm,fun S φ vs w Rr s hl hv hr=>calls_of_wp hf hb ?_⟩;refine h S φ _ w _ (aD _) s (zS hl hv hn) ?_;intro e a' w' S' φ' fr' H' s' hf' he ht hq;have fin : ∀ vc r,fl T H' fr' fn.results.toList=some (vc,r)->vc/\(∃ fr'' H'',a8 H.length (⟨1,[(0,r)]⟩:Fr) H' fr'' H''/\fr''.n=1/\Po (fr''.get 0) H'')->a'.defers=[]/\∃ v,(results fn a'.tmps).run P w'=.ok v w'/\Rr (.returned v) w':=by
  rintro vc0 r hres ⟨hvc0,fr'',H'',g,hn1,hpo⟩;obtain⟨v,hrun,hv⟩:=zB hT s' hf' hres hvc0;refine⟨hf'.defers,v,hrun,?_⟩;obtain⟨S2,φ2,s2,hf2,he2,ht2⟩:=g S' φ' w' { tmps:=#[v],defers:=[] } ht.len s' ⟨rfl,rfl,fun t=>by
   show V S' φ' H' w' (look t [(0,r)]) _
   simp only[look];by_cases h0:0=t
   ·subst h0;rw[if_pos rfl];exact hv
   ·rw[if_neg h0];exact .junk⟩
  exact hr v w' S2 φ2 _ H'' s2 (hf2.val 0) (he.trans he2) (ht.trans ht2) hpo
 cases e <;> simp only[endsWith] at hq
 ·split at hq
  ·exact fin _ _ (by assumption) hq
  ·exact hq.elim
 all_goals first
  | exact hq.elim
  | (
    split at hq
    ·exact fin _ _ (by assumption) hq
    ·exact hq.elim)
def Ai {S':Nat->Prop}{φ':List ZC}{w':World}(he:Ext S [] w S' φ' w'):b9 w w':=
 ⟨he.os,he.tape,he.output,he.size,fun b hb=>he.bf b hb (by rintro⟨i,hi⟩;simp[List.getD] at hi)⟩
def BQ (hS : ∀ b,S b->b<w.heap.size):aQ S [] [] w:=
 ⟨rfl,fun i=>by simp[List.getD],fun i j b hb=>by simp[List.getD] at hb,fun b ⟨i,hi⟩=>by simp[List.getD] at hi,fun b ⟨i,hi⟩=>by simp[List.getD] at hi,hS,fun i r hr=>by simp at hr⟩
def Gn (s:aQ S φ H w) {ids:ZC}(h:ids.Nodup):(n6 φ ids).Nodup:=by
 unfold n6;induction ids with
 | nil=>simp
 | cons i r ih=>
  rw[List.nodup_cons] at h;simp only[l7];rw[vF];refine⟨s.nd i,ih h.2,?_⟩;intro b hb c hc hbc;subst hbc;obtain⟨j,hj,hc⟩:=List.mem_flatMap.1 hc;have:=s.dj i j b hb hc;subst this;exact h.1 hj
def Lz (hT : bQ P T)      (hf : P.funcs[f]? = some fn) (hb : fn.body = some c) (hnm : (fn.name == "runtime.NumGoroutine") = false) (hn : ds.length <= fn.ntmps)
  (h:cK P 0 c (endsWith T fn (fun fr r H'=>qG x (pk H' 3 r))) ⟨fn.ntmps,jF 0 (ds.map .d)⟩ []):Pure P f ds x:=by
 refine⟨rh hf hb hnm,fun S vs w Rr hS ha hr=>calls_of_wp hf hb ?_⟩;have s:=BQ hS;refine h S [] _ w _ (aD _) s (zS (by simpa using ha.1) (fun j hj=>?_) (by simpa using hn)) ?_
 ·simp only[gQ] at hj;have e:(ds.map I.d).getD j .junk=.d (ds.getD j .nil):=by simp[List.getD,hj]
  rw[e];exact .d (ha.2 j hj)
 intro e a' w' S' φ' fr' H' s' hf' he ht hq;have fin : ∀ vc r,fl T H' fr' fn.results.toList=some (vc,r)->vc/\(qG x (pk H' 3 r))->a'.defers=[]/\∃ v,(results fn a'.tmps).run P w'=.ok v w'/\Rr (.returned v) w':=by
  rintro vc0 r hres ⟨hvc0,hp⟩;obtain⟨v,hrun,hv⟩:=zB hT s' hf' hres hvc0;refine⟨hf'.defers,v,hrun,?_⟩;unfold qG at hp;split at hp
  ·rename_i vc x' ids hpk;obtain⟨hvc,hnd,hw⟩:=hp;have how:=qJ hw (En s' 3 hv hpk hvc);refine hr v w' _ how (Gn s' hnd) ?_ (Ai he);intro b hb;obtain⟨i,_,hb⟩:=List.mem_flatMap.1 hb;rcases he.fp b ⟨i,hb⟩ with⟨j,hj⟩|h
   ·simp[List.getD] at hj
   ·exact h
  ·exact hp.elim
 cases e <;> simp only[endsWith] at hq
 ·split at hq
  ·exact fin _ _ (by assumption) hq
  ·exact hq.elim
 all_goals first
  | exact hq.elim
  | (
    split at hq
    ·exact fin _ _ (by assumption) hq
    ·exact hq.elim)
def PX (hT : bQ P T)      (hf : P.funcs[f]? = some fn) (hb : fn.body = some c) (hnm : (fn.name == "runtime.NumGoroutine") = false) (hn : ds.length <= fn.ntmps)
  (h:cK P 0 c (endsWith T fn (fun fr r H'=>yU x (view H' 3 r))) ⟨fn.ntmps,jF 0 (ds.map .d)⟩ []):bk P f ds x:=by
 refine⟨rh hf hb hnm,fun S vs w Rr hS ha hr=>calls_of_wp hf hb ?_⟩;have s:=BQ hS;refine h S [] _ w _ (aD _) s (zS (by simpa using ha.1) (fun j hj=>?_) (by simpa using hn)) ?_
 ·simp only[gQ] at hj;have e:(ds.map I.d).getD j .junk=.d (ds.getD j .nil):=by simp[List.getD,hj]
  rw[e];exact .d (ha.2 j hj)
 intro e a' w' S' φ' fr' H' s' hf' he ht hq;have fin : ∀ vc r,fl T H' fr' fn.results.toList=some (vc,r)->vc/\(yU x (view H' 3 r))->a'.defers=[]/\∃ v,(results fn a'.tmps).run P w'=.ok v w'/\Rr (.returned v) w':=by
  rintro vc0 r hres ⟨hvc0,hp⟩;obtain⟨v,hrun,hv⟩:=zB hT s' hf' hres hvc0;refine⟨hf'.defers,v,hrun,?_⟩;unfold yU at hp;split at hp
  ·rename_i vc x' hvw;refine hr v w' (jv S' φ') (fun b hb=>.inl (he.sub b hb)) ?_ (fun b hb=>hb.elim (s'.slt b) (s'.lt b)) (Ct hp.2 (xB s' 3 hv hvw hp.1)) (Ai he);intro b hb;have hno : ¬ aU [] b:=by rintro⟨i,hi⟩;simp[List.getD] at hi
   rcases hb with hb|hb
   ·rcases he.sfp b hb with h|h|h
    ·exact .inl h
    ·exact absurd h hno
    ·exact .inr h
   ·rcases he.fp b hb with h|h
    ·exact absurd h hno
    ·exact .inr h
  ·exact hp.elim
 cases e <;> simp only[endsWith] at hq
 ·split at hq
  ·exact fin _ _ (by assumption) hq
  ·exact hq.elim
 all_goals first
  | exact hq.elim
  | (
    split at hq
    ·exact fin _ _ (by assumption) hq
    ·exact hq.elim)
end Go.VL
namespace Go.VL
variable {i t:Nat}{x y:I}{op:Op}{H':ZF}{vc:Prop}{o:Oper}{w':World}{all:List Oper}{K:Fr->Prop}
inductive gG where
 | low
 | both
 | s6
variable {deep:gG}
def gG.agg:gG->Bool
 | .s6=>false
 | _=>true
def gG.sl:gG->Bool
 | .both=>true
 | _=>false
structure Env where
 P:Program
 T:Nat->Option TI
 pf:Nat->Kind
 n:Nat
 deep:gG:=.low
inductive Item where
 | code (c:Code)
 | blk (id:Nat)
def dZ (E:Env):List Item->aT->aT
 | [],Q=>Q
 | .code c::ks,Q=>zt (fun fr H=>cK E.P E.n c (dZ E ks Q) fr H) (dZ E ks Q)
 | .blk id::ks,Q=>De id (dZ E ks Q)
def jJ (id:Nat):List Item->Option (List Item)
 | []=>none
 | .code _::ks=>jJ id ks
 | .blk id'::ks=>if id=id' then some ks else jJ id ks
def Ke (x:D) (H:ZF) (r:I) (H':ZF):Prop:=
 ∀ (S:Nat->Prop) (φ : List ZC) (w w':World) (v:Value) (fp:ZC),aQ S φ H w->OW w' x v fp->fp.Nodup->(∀ b∈fp,w.heap.size<=b)->b9 w w'->
  ∃ S' φ',aQ S' φ' H' w'/\Tr H.length S φ H w S' φ' H' w'/\Ext S φ w S' φ' w'/\V S' φ' H' w' r v
def GT (x:D) (H:ZF) (k:I->ZF->Prop):Prop:=k (.d x) H∨∃ r H',Ke x H r H'/\k r H'
def zP (E:Env) (f:Nat) (ds:ZD) (H:ZF) (k:I->ZF->Prop):Prop:=∃ ψ,ep E.P f ds ψ/\∀ x,ψ x->GT x H k
def za (E:Env) (f:Nat) (ds:ZD) (H:ZF) (k:I->ZF->Prop):Prop:=∃ ψ,dX E.P f ds ψ/\∀ x,ψ x->k (.d x) H
def Ds (E:Env) (e:Bool) (f:Nat) (ds:ZD) (k:I->Prop):Prop:=∃ x,(e=true->Pure E.P f ds x)/\k (.cond e (.d x))
def oK (E:Env) (c:Prop) (fn:Option (Nat×ZE)) (args:ZE) (H:ZF) (K:I->ZF->Prop):Prop:=
 match fn with
 | some (f,caps)=>
  match E.pf f with
  | .own=>
   match mC H (args++caps) with
   | some (vc,ds)=>c/\vc/\zP E f ds H K
   | none=>False
  | .fz=>
   match qs (args++caps) with
   | some (vc,ds)=>c/\vc/\za E f ds H K
   | none=>False
  | .proc=>c/\aA E.P f (args++caps) H K
 | none=>False
def xC (E:Env) (c:Prop) (e:Bool) (fn:Option (Nat×ZE)) (args:ZE) (H:ZF) (K:ZF->I->Prop):Prop:=
 match fn with
 | some (f,caps)=>
  match E.pf f with
  | .own=>
   match mC H (args++caps) with
   | some (vc,ds)=>(e=true->c/\vc)/\Ds E e f ds (K H)
   | none=>False
  | .proc=>(e=false->∃ x,K H (.cond e x))/\(e=true->c/\aA E.P f (args++caps) H (fun r H'=>K H' (.cond e r)))
  | .fz=>(e=false->∃ x,K H (.cond e x))/\(e=true->match qs (args++caps) with
   | some (vc,ds)=>c/\vc/\za E f ds H (fun r H'=>K H' (.cond e r))
   | none=>False)
 | none=>False
section frz
variable {S:Nat->Prop}{φ : List ZC}{H:ZF}{w:World}
def aQ.freeze (s:aQ S φ H w) {g k:Nat}{dp:DP}{l:ZD}(hd:dp.shut=true) (hi:H[i]?=some (.row g k dp l)) :
  aQ (fun b=>S b∨b∈φ.getD i []) (φ.set i []) (H.set i (.dead g)) w/\Tr H.length S φ H w (fun b=>S b∨b∈φ.getD i []) (φ.set i []) (H.set i (.dead g)) w/\
  Ext S φ w (fun b=>S b∨b∈φ.getD i []) (φ.set i []) w/\
  ∀ {lo n:Nat}{v:Value},V S φ H w (.sl i g k lo n) v->FZ (fun b=>S b∨b∈φ.getD i []) w (.lst k ((l.drop lo).take n)) v:=by
 have hlt:i<H.length:=(List.getElem?_eq_some_iff.1 hi).1;have hget : ∀ j,(φ.set i []).getD j []=if i=j/\j < φ.length then [] else φ.getD j []:=fun j=>zp φ i j []
 have hne : ∀ j,j≠i->(φ.set i []).getD j [] = φ.getD j []:=fun j h=>by rw[hget,if_neg (by omega)]
 have heq:(φ.set i []).getD i []=[]:=by rw[hget,if_pos ⟨rfl,by rw[s.len];exact hlt⟩]
 have hfoot : ∀ b,aU (φ.set i []) b->aU φ b/\b∉φ.getD i []:=by
  rintro b ⟨j,hj⟩;by_cases h:j=i
  ·subst h;rw[heq] at hj;simp at hj
  ·rw[hne j h] at hj;exact⟨⟨j,hj⟩,fun h2=>h (s.dj j i b hj h2)⟩
 have hsome : ∀ j r,(H.set i (.dead g))[j]?=some r->(j=i/\r=.dead g)∨(j≠i/\H[j]?=some r):=by
  intro j r hr;rw[List.getElem?_set] at hr;split at hr
  ·rename_i h;simp at hr;exact .inl ⟨h.symm,hr.symm⟩
  ·rename_i h;exact .inr ⟨fun h2=>h h2.symm,hr⟩
 have htr:Tr H.length S φ H w (fun b=>S b∨b∈φ.getD i []) (φ.set i []) (H.set i (.dead g)) w:=by
  refine⟨fun _ h=>.inl h,fun _ _=>rfl,aD _,by simp,?_,?_,?_,?_,?_⟩
  ·intro j hj;by_cases h:j=i
   ·subst h;have e1:H.getD j (.dead 0)=.row g k dp l:=by simp only[List.getD,hi,cP]
    have e2:(H.set j (.dead g)).getD j (.dead 0)=.dead g:=by simp[List.getD,hlt]
    rw[e1,e2];exact aD _
   ·have e1:(H.set i (.dead g)).getD j (.dead 0)=H.getD j (.dead 0):=by simp[List.getD,List.getElem?_set,Ne.symm h]
    rw[e1];exact aD _
  ·intro j g2 k2 dp' l' hj hl';rcases hsome j _ hl' with⟨_,h⟩|⟨h,h2⟩
   ·cases h
   ·exact .inr ⟨dp',l',h2,by rw[hne j h],aD _,fun b rest arr ty e1 e2=>⟨arr,ty,e2,aD _⟩⟩
  ·intro j cs hj hl';rcases hsome j _ hl' with⟨_,h⟩|⟨h,h2⟩
   ·cases h
   ·exact⟨cs,h2,hne j h⟩
  ·intro j cs hj hl';rcases hsome j _ hl' with⟨_,h⟩|⟨h,h2⟩
   ·cases h
   ·exact⟨cs,h2,hne j h⟩
  ·intro j x hj hl';rcases hsome j _ hl' with⟨_,h⟩|⟨h,h2⟩
   ·cases h
   ·exact⟨h2,hne j h,fun _ _=>rfl⟩
 refine⟨⟨by simp[s.len],?_,?_,fun b hb=>s.lt b (hfoot b hb).1,?_,?_,?_⟩,htr,⟨rfl,rfl,rfl,aD _,fun _ _ _=>rfl,fun b hb=>.inl (hfoot b hb).1,fun _ h=>.inl h,?_⟩,?_⟩
 ·intro j;by_cases h:j=i
  ·subst h;rw[heq];simp
  ·rw[hne j h];exact s.nd j
 ·intro j m b hb hb';by_cases h:j=i
  ·subst h;rw[heq] at hb;simp at hb
  ·by_cases h':m=i
   ·subst h';rw[heq] at hb';simp at hb'
   ·rw[hne j h] at hb;rw[hne m h'] at hb';exact s.dj j m b hb hb'
 ·rintro b hb (h|h)
  ·exact s.off b (hfoot b hb).1 h
  ·exact(hfoot b hb).2 h
 ·rintro b (h|h)
  ·exact s.slt b h
  ·exact s.lt b ⟨i,h⟩
 ·intro j r hr;rcases hsome j r hr with⟨rfl,rfl⟩|⟨h,h2⟩
  ·trivial
  ·rw[hne j h];exact(s.rel j r h2).tr htr fun _ _=>rfl
 ·rintro b (h|h)
  ·exact .inl h
  ·exact .inr (.inl ⟨i,h⟩)
 ·intro lo n v hv;cases hv with
  | sl hlt hg hrel h1=>
   obtain⟨hsl,hle⟩:=hrel dp l hi;obtain⟨hk,he,ho,hlim,hr⟩:=s.rel i _ hi;have hlen:((l.drop lo).take n).length=n:=by simp;omega
   rcases hsl with⟨hfp,rfl,rfl,rfl⟩|⟨b,rest,cap,arr,ty,a,hfp,rfl,hn,hcp,hlim',hb,hfit⟩
   ·simp only[List.take_zero];exact .lst0 hk
   ·by_cases hn0:n=0
    ·subst hn0;simp only[List.take_zero];exact .lst0 hk
    ·obtain⟨rfl,hfit'⟩:=hfit (.inl hn0);rcases hr with⟨e,_⟩|⟨b',rest',arr',ty',e,hb',hsz,hrr⟩
     ·rw[hfp] at e;simp at e
     ·have e2:=e;rw[hfp] at e;simp at e;obtain⟨rfl,rfl⟩:=e;rw[hb] at hb';simp at hb';obtain⟨rfl,rfl⟩:=hb';have hz : ∀ j,j<(flat l).length->FZ (fun b=>S b∨b∈φ.getD i []) w ((flat l).getD j .nil) (arr.getD j undef):=by
       match dp,hd with
       | .fz,_=>exact fun j hj=>(hrr.2 j hj).mono (fun b hb=>.inl hb) (fun _ _=>rfl)
       | .own [],_=>
        obtain⟨F,hF0,_,hF⟩:=hrr;exact fun j hj=>OW.fz (hF j hj) fun b2 hb2=>.inr (by rw[hfp,hF0];exact fX _ (m8 hj hb2))
       | .own (_::_),hd=>simp[DP.shut] at hd
      have hmemE : ∀ x∈(l.drop lo).take n,x∈l:=fun x hx=>o6 (kG hx)
      have g1 : ∀ x∈(l.drop lo).take n,x.cells.length=k:=fun x hx=>he x (hmemE x hx)
      have hfl':=an g1;rw[hlen] at hfl';have hnk:n*k<=cap*k:=kD _ hn;have:=FZ.lst (S:=fun b=>S b∨b∈φ.getD i []) (w:=w) (k:=k) (l:=(l.drop lo).take n) (b:=b) (off:=lo*k) (cap:=cap) (fun j=>arr.getD (lo*k+j) undef) hk g1 ?_ (by omega) (by omega) (.inr (by rw[hfp];simp)) ?_ ?_
      ·rw[hlen] at this;exact this
      ·intro c hc';obtain⟨x,hx,hcx⟩:=nK.1 hc';exact ho c (nK.2 ⟨x,hmemE x hx,hcx⟩)
      ·intro j hj;have:lo*k+j<arr.size:=by omega
       rw[cell_of_row w b _ arr ty (0,0) hb];simp[Array.getD,this]
      ·intro j hj;obtain⟨f1,f2⟩:=Co hk he hle j (by omega);rw[f2];exact hz _ f1
end frz
def FZ.EP {S:Nat->Prop}{w:World}{x:D}{v:Value}(h:FZ S w x v) (h1:v.oneCell'=true):x.one=true:=by
 cases h <;> first|rfl|simp[Value.oneCell'] at h1
def kP:ZE->ZF->Option (Prop×ZD×ZF)
 | [],H=>some (True,[],H)
 | .d x::r,H=>
  match kP r H with
  | some (c,xs,H')=>some (c,x::xs,H')
  | none=>none
 | .sl i g k lo n::r,H=>
  match H[i]? with
  | some (.row g' k' dp l)=>
   match kP r (H.set i (.dead g')) with
   | some (c,xs,H')=>some ((g=g'/\k=k'/\dp.shut=true)/\c,.lst k ((l.drop lo).take n)::xs,H')
   | none=>none
  | _=>none
 | _::_,_=>none
def Ft {w:World} : ∀ (cs:ZE) {S:Nat->Prop}{φ : List ZC}{H:ZF}{vals:Nat->Value}{fc:Prop}{cs':ZD}{H':ZF},aQ S φ H w->(∀ j,j<cs.length->V S φ H w (cs.getD j .junk) (vals j))->kP cs H=some (fc,cs',H')->fc->
  ∃ S' φ',aQ S' φ' H' w/\Ext S φ w S' φ' w/\Tr H.length S φ H w S' φ' H' w/\cs'.length=cs.length/\∀ j,j<cs.length->FZ S' w (cs'.getD j .nil) (vals j)
 | [],S,φ,H,vals,fc,cs',H',s,hv,h,hfc=>by
  simp only[kP,aE,aK] at h;obtain⟨_,rfl,rfl⟩:=h;exact⟨S,φ,s,Ext.refl ..,Tr.refl (aD _),rfl,fun j hj=>by simp at hj⟩
 | x::r,S,φ,H,vals,fc,cs',H',s,hv,h,hfc=>by
  have hx:V S φ H w x (vals 0):=hv 0 (by simp);have hr : ∀ j,j<r.length->V S φ H w (r.getD j .junk) (vals (j+1)):=fun j hj=>by simpa using hv (j+1) (by simpa using hj)
  cases x with
  | d y=>
   simp only[kP] at h;split at h
   ·rename_i c xs H2 he;simp only[aE,aK] at h;obtain⟨rfl,rfl,rfl⟩:=h;obtain⟨S',φ',s',e',t',hl,hk⟩:=Ft r s hr he hfc;refine⟨S',φ',s',e',t',by simp[hl],fun j hj=>?_⟩;cases j with
    | zero=>exact(hx.tr t').fz
    | succ j=>simpa using hk j (by simpa using hj)
   ·cases h
  | sl i g k lo n=>
   simp only[kP] at h;split at h
   ·rename_i g' k' dp l hi;split at h
    ·rename_i c xs H2 he;simp only[aE,aK] at h;obtain⟨rfl,rfl,rfl⟩:=h;obtain⟨⟨rfl,rfl,hsh⟩,hc⟩:=hfc;obtain⟨s1,t1,e1,z1⟩:=s.freeze hsh hi;have hlen:(H.set i (.dead g)).length=H.length:=by simp
     obtain⟨S',φ',s',e',t',hl,hk⟩:=Ft r s1 (fun j hj=>(hr j hj).tr t1) he hc;rw[hlen] at t';refine⟨S',φ',s',e1.trans e',t1.trans t',by simp[hl],fun j hj=>?_⟩;cases j with
     | zero=>exact(z1 hx).mono t'.sub t'.bf
     | succ j=>simpa using hk j (by simpa using hj)
    ·cases h
   ·cases h
  | _=>simp only[kP] at h;cases h
def uT (fr:Fr) (H:ZF):Op->Option (Prop×Fr×ZF)
 | .buildSlice _ _ parts=>
  match parts.toList with
  | [(_,.tmp t)]=>
   match fr.get t with
   | .sl i g k lo n=>
    match H[i]? with
    | some (.row g' k' dp l)=>some (g=g'/\k=k'/\dp.shut=true,fr.put (some t) (.d (.lst k ((l.drop lo).take n))),H.set i (.dead g'))
    | _=>none
   | .agg cs=>
    match kP cs H with
    | some (fc,cs',H')=>some (fc,fr.put (some t) (.d (.agg cs')),H')
    | none=>none
   | _=>none
  | _=>none
 | _=>none
def G9 {S:Nat->Prop}{φ : List ZC}{H:ZF}{w:World}{fr:Fr}{a:Act}(s:aQ S φ H w) (hf:de S φ H w fr a) {fc:Prop}{fr':Fr}(h:uT fr H op=some (fc,fr',H')) (hfc:fc) :
  ∃ S' φ',aQ S' φ' H' w/\de S' φ' H' w fr' a/\Ext S φ w S' φ' w/\Tr H.length S φ H w S' φ' H' w:=by
 unfold uT at h;split at h
 ·split at h
  ·rename_i t _;split at h
   ·rename_i i g k lo n hg;split at h
    ·rename_i g' k' dp l hi;simp only[aE,aK] at h;obtain⟨rfl,rfl,rfl⟩:=h;obtain⟨rfl,rfl,hsh⟩:=hfc;obtain⟨s1,t1,e1,z1⟩:=s.freeze hsh hi;have hv:=hf.val t;rw[hg] at hv;have hz:=z1 hv;have hf1:=hf.tr t1;refine⟨_,_,s1,⟨hf1.defers,?_,?_⟩,e1,t1⟩
     ·rw[hf1.size];simp only[Fr.put];split <;> rfl
     ·intro t';simp only[Fr.put];split
      ·simp only[Fr.get,look];split
       ·rename_i ht;subst ht;exact .d hz
       ·exact hf1.val t'
      ·exact hf1.val t'
    ·cases h
   ·rename_i cs hg;split at h
    ·rename_i fc0 cs' H2 he;simp only[aE,aK] at h;obtain⟨rfl,rfl,rfl⟩:=h;have hv:=hf.val t;rw[hg] at hv;obtain⟨vs,hvs,hsz,h1,hcs⟩ : ∃ vs:Array Value,a.tmps.getD t undef=.agg vs/\cs.length=vs.size/\(∀ j,j<cs.length->(vs.getD j undef).oneCell'=true)/\∀ j,j<cs.length->V S φ H w (cs.getD j .junk) (vs.getD j undef):=by
      generalize a.tmps.getD t undef=v at hv;cases hv with
      | agg hl h1 h=>exact⟨_,rfl,hl,h1,h⟩
     obtain⟨S',φ',s',e',t',hl,hk⟩:=Ft cs s hcs he hfc;have hf1:=hf.tr t';refine⟨S',φ',s',⟨hf1.defers,?_,?_⟩,e',t'⟩
     ·rw[hf1.size];simp only[Fr.put];split <;> rfl
     ·intro t2;simp only[Fr.put];split
      ·simp only[Fr.get,look];split
       ·rename_i ht;subst ht;rw[hvs];refine .d (.agg (by rw[hl];exact hsz) (fun c hc=>?_) (fun j hj=>hk j (by omega)));obtain⟨m,hm,rfl⟩:=gJ hc;rw[lb _ _ _ .nil];exact(hk m (by omega)).EP (h1 m (by omega))
       ·exact hf1.val t2
      ·exact hf1.val t2
    ·cases h
   ·cases h
  ·cases h
 ·cases h
def HL {fr:Fr}{H:ZF}{p:Prop×Fr×ZF}(h:uT fr H op=some p) : ∃ t n q,op=.buildSlice t n q:=by
 unfold uT at h;split at h
 ·exact⟨_,_,_,rfl⟩
 ·cases h
section opn
variable {P:Program}{S:Nat->Prop}{φ : List ZC}{H:ZF}{w:World}{T:Nat->Option TI}{fr:Fr}{a:Act}
def vC (H:ZF) (i:Nat):Option (Prop×ZF):=
 match H[i]? with
 | some (.row g k (.own ((idx,off,.sl r g' k' 0 n)::hs)) l)=>
  match H[r]? with
  | some (.row g2 k2 (.own []) es)=>some (g'=g2/\k'=k2/\r≠i/\apart idx off hs/\off<k/\idx<l.length,
    (H.set i (.row g k (.own hs) (dg k l idx off (.lst k' (es.take n))))).set r (.dead g2))
  | _=>none
 | _=>none
def Pt (s:aQ S φ H w) (h:vC H i=some (vc,H')) (hvc:vc) : ∃ φ',aQ S φ' H' w/\Tr H.length S φ H w S φ' H' w/\Ext S φ w S φ' w:=by
 unfold vC at h;split at h
 ·rename_i g k idx off r g' k' n hs l hi;split at h
  ·rename_i g2 k2 es hr;simp only[aE,aK] at h;obtain⟨rfl,rfl⟩:=h;obtain⟨rfl,rfl,h1,h2,h3,h4⟩:=hvc;exact s.close hi hr h1 h2 h3 h4
  ·simp at h
 ·simp at h
def md:ZC->ZF->Prop×ZF
 | [],H=>(True,H)
 | i::is,H=>
  match vC H i with
  | some (vc,H')=>(vc/\(md is H').1,(md is H').2)
  | none=>md is H
def Fu : ∀ (is:ZC) {φ : List ZC}{H:ZF},aQ S φ H w->(md is H).1->∃ φ',aQ S φ' (md is H).2 w/\Tr H.length S φ H w S φ' (md is H).2 w/\Ext S φ w S φ' w
 | [],φ,H,s,_=>⟨φ,s,Tr.refl (aD _),Ext.refl ..⟩
 | i::is,φ,H,s,hvc=>by
  simp only[md] at hvc ⊢;cases h:vC H i with
  | none=>
   rw[h] at hvc;exact Fu is s hvc
  | some p=>
   obtain⟨vc,H'⟩:=p;rw[h] at hvc;obtain⟨φ1,s1,t1,e1⟩:=Pt s h hvc.1;obtain⟨φ2,s2,t2,e2⟩:=Fu is s1 hvc.2;exact⟨φ2,s2,t1.trans (t2.weaken t1.len),e1.trans e2⟩
def nh:ZF->Bool
 | []=>false
 | .row _ _ (.own (_::_)) _::_=>true
 | _::r=>nh r
def idxs:ZF->Nat->ZC
 | [],_=>[]
 | _::r,n=>n::idxs r (n+1)
def shut (H:ZF):Prop×ZF:=
 match nh H with
 | true=>md (idxs H 0++(idxs H 0++(idxs H 0++(idxs H 0++(idxs H 0++idxs H 0))))) H
 | false=>(True,H)
def GR (s:aQ S φ H w) (hvc:(shut H).1) : ∃ φ',aQ S φ' (shut H).2 w/\Tr H.length S φ H w S φ' (shut H).2 w/\Ext S φ w S φ' w:=by
 unfold shut at hvc ⊢;revert hvc
 cases nh H with
 | true=>exact fun hvc=>Fu _ s hvc
 | false=>exact fun _=>⟨φ,s,Tr.refl (aD _),Ext.refl ..⟩
def sI:D->Nat
 | .lst k _=>k
 | _=>0
def un:D->Prop
 | .lst _ _=>True
 | _=>False
def o0:ZD->Nat->ZC
 | [],_=>[]
 | .nil::r,n=>n::o0 r (n+1)
 | _::r,n=>o0 r (n+1)
def oR (z:D) (i idx:Nat):ZC->ZF->Option (Prop×ZF)
 | [],H=>some (True,H)
 | o::os,H=>
  match H[i]? with
  | some (.row g k (.own hs) l)=>
   match oR z i idx os (H.set i (.row g k (.own ((idx,o,.sl H.length 1 (sI ((l.getD idx z).cellAt o)) 0 ((l.getD idx z).cellAt o).elems.length)::hs)) l) ++
     [.row 1 (sI ((l.getD idx z).cellAt o)) (.own []) ((l.getD idx z).cellAt o).elems]) with
   | some (vc,H')=>some ((un ((l.getD idx z).cellAt o)/\apart idx o hs/\o<k/\idx<l.length)/\vc,H')
   | none=>none
  | _=>none
def LX {z:D}{i idx:Nat} : ∀ (os:ZC) {φ : List ZC}{H:ZF}{vc:Prop}{H':ZF},aQ S φ H w->oR z i idx os H=some (vc,H')->vc->∃ φ',aQ S φ' H' w/\Tr H.length S φ H w S φ' H' w/\Ext S φ w S φ' w
 | [],φ,H,vc,H',s,h,hvc=>by
  simp only[oR,aE,aK] at h;obtain⟨_,rfl⟩:=h;exact⟨φ,s,Tr.refl (aD _),Ext.refl ..⟩
 | o::os,φ,H,vc,H',s,h,hvc=>by
  simp only[oR] at h;split at h
  ·rename_i g k hs l hi;split at h
   ·rename_i vc' H2 kC;simp only[aE,aK] at h;obtain⟨rfl,rfl⟩:=h;obtain⟨⟨h1,h2,h3,h4⟩,hvc'⟩:=hvc;have e:l.getD idx z=l.getD idx .nil:=by simp[List.getD,h4]
    rw[e] at h1 kC;have hc:(l.getD idx .nil).cellAt o=.lst (sI ((l.getD idx .nil).cellAt o)) ((l.getD idx .nil).cellAt o).elems:=by
     generalize (l.getD idx .nil).cellAt o=c at h1;cases c <;> first|rfl|exact h1.elim
    obtain⟨φ1,s1,t1,e1⟩:=s.Fe hi h2 h3 h4 hc;obtain⟨φ2,s2,t2,e2⟩:=LX os s1 kC hvc';exact⟨φ2,s2,t1.trans (t2.weaken t1.len),e1.trans e2⟩
   ·simp at h
  ·simp at h
def wz (T:Nat->Option TI) (H:ZF) (t:Nat) (p:I):Option (Prop×I):=
 match T t,p with
 | some ti,.eptr i g k idx off z=>
  match H[i]? with
  | some (.row g' k' (.own (h::hs)) l)=>
   match ti.ty.agg with
   | true=>
    match gW k' (h::hs) idx (l.getD idx z) ti.zero.cells off with
    | some (vc,xs)=>some (g=g'/\k=k'/\idx<l.length/\off+ti.size<=k/\ti.zero.cells.length=ti.size/\vc/\jA xs,bI xs)
    | none=>none
   | false=>
    match im ti.ty with
    | true=>
     match cy k' (h::hs) (idx*k'+off) with
     | some x=>some (g=g'/\k=k'/\idx<l.length/\off<k/\pU ti.ty x,ct ti.ty x)
     | none=>none
    | false=>none
  | _=>none
 | _,_=>none
def Oh {p:I}{q:Prop×I}(h:wz T H t p=some q):ma T H t p=some q:=by
 unfold wz at h;split at h
 ·rename_i ti i g k idx off z hT;split at h
  ·rename_i g' k' h0 hs l hi;simp only[ma,hT,hi];cases ha:ti.ty.agg with
   | true=>
    rw[ha] at h;simp only at h ⊢;cases tM ti.zero <;> exact h
   | false=>
    rw[ha] at h;simp only at h ⊢;cases hn:im ti.ty with
    | true=>rw[hn] at h;exact h
    | false=>rw[hn] at h;simp at h
  ·simp at h
 ·simp at h
def ra (T:Nat->Option TI) (H:ZF) (t:Nat) (p:I):Option (Prop×I×ZF):=
 match T t,p with
 | some ti,.eptr i g k idx off z=>
  match oR z i idx (o0 ti.zero.cells off) (shut H).2 with
  | some (vc,H')=>
   match wz T H' t p with
   | some (vc',x)=>some ((shut H).1/\vc/\vc',x,H')
   | none=>none
  | none=>none
 | _,_=>none
def Sr (hT:bQ P T) (s:aQ S φ H w) {p:I}{vp:Value}(hp:V S φ H w p vp) (h:ra T H t p=some (vc,y,H')) (hvc:vc) :
  ∃ v φ',aQ S φ' H' w/\Tr H.length S φ H w S φ' H' w/\Ext S φ w S φ' w/\V S φ' H' w y v/\∀ w2,au w w2->(Instr.loadAt t vp).run P w2=.ok v w2:=by
 unfold ra at h;split at h
 ·split at h
  ·rename_i vc1 H2 kC;split at h
   ·rename_i vc2 x hl;simp only[aE,aK] at h;obtain⟨rfl,rfl,rfl⟩:=h;obtain⟨φ1,s1,t1,e1⟩:=GR s hvc.1;obtain⟨φ2,s2,t2,e2⟩:=LX _ s1 kC hvc.2.1;have t12:=t1.trans (t2.weaken t1.len);obtain⟨v,hv,hr⟩:=Hv hT s2 (hp.tr t12) (Oh hl) hvc.2.2;exact⟨v,φ2,s2,t12,e1.trans e2,hv,hr⟩
   ·simp at h
  ·simp at h
 ·simp at h
def mM (agg:Bool) (cs:ZE):D:=
 match agg with
 | true=>.agg (cs.map iY)
 | false=>iY (cs.getD 0 .junk)
def yg (T:Nat->Option TI) (H:ZF) (t len:Nat) (i:Nat) (x:I):Option (Prop×I×ZF):=
 match T t with
 | some ti=>
  match ti.ty with
  | .slice e=>
   match T e with
   | some ei=>
    match iN ei x with
    | some (vc,cs)=>some (vc/\i=0/\len=1/\0<ei.size/\ei.size<=1000/\lZ cs,.sl H.length 0 ei.size 0 1,H ++ [.row 0 ei.size (.own (fS 0 0 cs)) [mM ei.ty.agg cs]])
    | none=>none
   | none=>none
  | _=>none
 | none=>none
def No (h:we x):(iY x).one=true/\(iY x).cells=[iY x]:=by
 cases x with
 | d c=>simp only[we] at h;cases c <;> first|exact⟨rfl,rfl⟩|simp[D.scalar] at h
 | _=>exact⟨rfl,rfl⟩
def QA {agg:Bool}{cs:ZE}(hs:lZ cs) (h1:agg=false->cs.length=1):(mM agg cs).cells=cs.map iY:=by
 cases agg with
 | true=>rfl
 | false=>
  match cs,h1 rfl with
  | [x],_=>exact(No hs.1).2
def Oc (hT:bQ P T) (s:aQ S φ H w) {len:Nat}{vx:Value}(hx:V S φ H w x vx) (h:yg T H t len i x=some (vc,y,H')) (hvc:vc) :
  ∃ v w' φ',(do pure (.value (←Instr.buildSlice t len #[(i,vx)])):Sem Next).run P w=.ok (.value v) w'/\au w w'/\aQ S φ' H' w'/\Tr H.length S φ H w S φ' H' w'/\Ext S φ w S φ' w'/\V S φ' H' w' y v:=by
 unfold yg at h;split at h
 ·rename_i ti hti;have ht:=hT _ _ hti;split at h
  ·rename_i e hy;split at h
   ·rename_i ei hei;have he:=hT _ _ hei;split at h
    ·rename_i vc' cs hc;simp only[aE,aK] at h;obtain⟨rfl,rfl,rfl⟩:=h;obtain⟨hvc',rfl,rfl,hs,hsmall,hsc⟩:=hvc;obtain⟨c1,c2,c3⟩:=wr hx hc hvc';have hu:=ht.aH hy;have hagg1:ei.ty.agg=false->cs.length=1:=by
      intro ha;unfold iN at hc;rw[ha] at hc;cases x <;> simp only[aE,aK,reduceCtorEq] at hc
      all_goals obtain⟨_,rfl⟩:=hc
      all_goals rfl
     have hcells:=QA hsc hagg1;have hmap:(cs.map iY).length=ei.size:=by simp[c1]
     obtain⟨zc,hzc⟩ : ∃ zc:Array Value,zc=(bc ei.zero).cells:=⟨_,rfl⟩;obtain⟨f1,f2⟩:=F7 vx.cells (0*ei.size) ((Array.range (1*ei.size)).map (zc[· % zc.size]!)) (by simp[c2]);obtain⟨arr',harr⟩ : ∃ arr',arr'=vx.cells.zipIdx.foldl (fun cs (c,j)=>cs.setIfInBounds (0*ei.size+j) c) ((Array.range (1*ei.size)).map (zc[· % zc.size]!)):=⟨_,rfl⟩;rw[<-harr] at f1 f2;have hsz:arr'.size=ei.size:=by rw[f1];simp
     have hget : ∀ j,j<ei.size->arr'.getD j undef=vx.cells.getD j undef:=by
      intro j hj;rw[f2,if_pos (by omega)];simp
     have hfl:flat [mM ei.ty.agg cs]=cs.map iY:=by simp[flat,hcells]
     obtain⟨φ',a1,a2,a3,a4⟩:=Am s (k:=ei.size) (l:=[mM ei.ty.agg cs]) (cap:=1) (dp:=.own (fS 0 0 cs)) (arr:=arr') hs (by
       intro z hz;simp only[m5] at hz;subst hz;rw[hcells,hmap]) (by
       rw[hfl];intro c hc;obtain⟨z,hz,rfl⟩:=List.mem_map.1 hc;obtain⟨m,hm,rfl⟩:=gJ hz;have:=Aq hsc hm;rw[<-lb _ _ hm] at this;exact(No this).1) (by simp[VL.fW]) (by simp) (by simp[maxLen]) (by omega) e (Az s _) (heap_alloc_new w _) (by
       rw[hfl];refine⟨fun _=>[],by simp,fun h hm=>?_,fun j hj=>?_⟩
       ·have:=Bh hm;simp only[gQ];have e0:h.1=0:=this.1;rw[e0];omega
       ·simp only[gQ] at hj;have hp:(cs.map iY).getD j .nil=iY (cs.getD j .junk):=by simp[List.getD,hj]
        have hat:=Dk (k:=ei.size) (idx:=0) (o:=0) hj;simp only[Nat.zero_mul,lN] at hat;rw[hp,hat,hget j (by omega)];obtain⟨o1,v1⟩:=c3 j (by omega);have hsj:=Aq hsc hj;generalize cs.getD j .junk=z at v1 hsj;cases z with
        | d c=>exact wB v1.fz hsj
        | _=>exact⟨rfl,rfl,o1,v1⟩)
     refine⟨_,_,φ',?_,fun b hb=>heap_alloc_old w _ hb,a1,a2,a3,a4⟩;have hrun:(Instr.buildSlice t 1 #[(0,vx)]).run P w=.ok (.slice (some ⟨w.heap.size,0,none⟩) 1 1) (w.alloc (.cells arr' e)):=by
      simp only[Instr.buildSlice,Sem.run_bind,run_underlying hu,Result.andThen_ok,he.run_sizeOf];rw[if_neg (by omega),if_neg (by omega)];have hfill:Instr.fill (fun i=>some (i*ei.size,ei.size)) ((Array.range (1*ei.size)).map (zc[· % zc.size]!)) [(0,vx)]=some arr':=by
       simp only[Instr.fill];rw[if_neg (by simp;omega)];rw[harr]
      subst hzc;simp only[Sem.run_bind,Sem.run_pure,Result.andThen_ok,he.dl,hfill,newRow,run_newObj];rfl
     simp only[Sem.run_bind,hrun,Result.andThen_ok,Sem.run_pure];rfl
    ·simp at h
   ·simp at h
  ·simp at h
 ·simp at h
def wT (deep:gG):I->Bool
 | .agg _=>deep.agg
 | .sl ..=>deep.sl
 | _=>false
def jt (deep:gG) (T:Nat->Option TI) (fr:Fr) (H:ZF):Op->Option (Prop×I×ZF)
 | .buildSlice t len parts=>
  match parts.toList with
  | [(i,x)]=>
   match wT deep (aq fr x) with
   | true=>eF (aF fr x) (yg T H t len i (aq fr x))
   | false=>none
  | _=>none
 | .load t p=>eF (aF fr p) (ra T H t (aq fr p))
 | _=>none
def Gw (hT:bQ P T) (s:aQ S φ H w) (hf:de S φ H w fr a) (h:jt deep T fr H o.op=some (vc,x,H')) (hvc:vc) :
  ∃ v w' φ',(execOp a.eval o).run P w=.ok (.value v) w'/\au w w'/\aQ S φ' H' w'/\Tr H.length S φ H w S φ' H' w'/\Ext S φ w S φ' w'/\V S φ' H' w' x v/\
   ((∃ t q,o.op=.load t q)->w'=w/\∀ w2,au w w2->(execOp a.eval o).run P w2=.ok (.value v) w2):=by
 obtain⟨dst,op,ty,pos,after,guard⟩:=o;simp only at h;cases op with
 | buildSlice t len parts=>
  simp only[jt] at h;split at h
  ·rename_i i y hp;split at h
   ·obtain⟨hc,vc',h,hvc⟩:=vN h hvc;have:=Oc hT s (hf.aq y hc) h hvc;have e:(parts.map fun(i,x)=>(i,a.eval x)) = #[(i,a.eval y)]:=by
     rw[<-vA (xs:=parts),hp];simp
    rw[<-e] at this;obtain⟨v,w',φ',h1,h2,h3,h4,h5,h6⟩:=this;exact⟨v,w',φ',h1,h2,h3,h4,h5,h6,by rintro⟨t,q,h⟩;cases h⟩
   ·simp at h
  ·simp at h
 | load t p=>
  obtain⟨hc,vc',h,hvc⟩:=vN h hvc;obtain⟨v,φ',h1,h2,h3,h4,h5⟩:=Sr hT s (hf.aq p hc) h hvc;exact⟨v,w,φ',by simp[execOp,h5 w (au.refl w)],au.refl w,h1,h2,h3,h4,fun _=>⟨rfl,fun w2 hw2=>by simp[execOp,h5 w2 hw2]⟩⟩
 | _=>simp[jt] at h
def Qa (hT:bQ P T) (s:aQ S φ H w) (hf:de S φ H w fr a) (h:jt deep T fr H o.op=some (vc,x,H')) (hvc:vc) :
  pT S φ H w ((execOp a.eval o).run P w) x H':=by
 obtain⟨v,w',φ',h1,_,h3,h4,h5,h6,_⟩:=Gw hT s hf h hvc;exact⟨v,w',φ',.inl h1,h3,h4,h5,h6⟩
def Pm {T:Nat->Option TI}{fr:Fr}{H:ZF}{p:Prop×I×ZF}(h:jt deep T fr H op=some p):(∃ t n q,op=.buildSlice t n q)∨∃ t q,op=.load t q:=by
 unfold jt at h;split at h
 ·exact .inl ⟨_,_,_,rfl⟩
 ·exact .inr ⟨_,_,rfl⟩
 ·cases h
end opn
def eW:D->Prop
 | .int k n=>cp k n
 | .bool _=>True
 | _=>False
def qB:Op->Bool
 | .move _|.assign _|.pick _ _ _|.build _ _|.load _ _|.nilCheck _|.binOp _ _ _ _ _|.unOp _ _ _|.convert _ _ _|.slice _ _ _ _ _|.fieldAddr _ _ _|.field _ _ _|.indexAddr _ _ _|.index _ _ _|.extract _ _=>true
 | .makeFunc _ _ _=>true
 | .lookup _ _ _ _=>true
 | .call ⟨.builtin .len,_,_⟩=>true
 | .call ⟨.builtin .cap,_,_⟩=>true
 | .call ⟨.builtin .min,_,_⟩=>true
 | .call ⟨.builtin .max,_,_⟩=>true
 | .call ⟨.value _,_,_⟩=>true
 | _=>false
def dk:List Oper->Bool
 | []=>true
 | o::r=>qB o.op&&dk r
def Bn:Option TI->Bool
 | some ⟨.int _,_,_,_⟩=>true
 | some ⟨.bool,_,_,_⟩=>true
 | _=>false
def jj (T:Nat->Option TI) (ty:Nat):Op->Bool
 | .call ⟨.value _,_,_⟩=>Bn (T ty)
 | _=>true
def zn (T:Nat->Option TI):List Oper->Bool
 | []=>true
 | o::r=>jj T o.type o.op&&zn T r
def quiet (T:Nat->Option TI) (l:List Oper):Bool:=dk l&&zn T l
def Ba:Kind->Bool
 | .proc=>true
 | _=>false
def jb (pf:Nat->Kind):Op->Bool
 | .call ⟨.value (.func g),_,_⟩=>Ba (pf g)
 | _=>false
def zM (pf:Nat->Kind):List Oper->Bool
 | []=>true
 | o::r=>!jb pf o.op&&zM pf r
def B3 (E:Env) (e:Bool) (f:Nat) (ds:ZD) (k:D->Prop):Prop:=∃ x,(e=true->Pure E.P f ds x/\eW x)/\k x
def qC (E:Env) (c:Prop) (e:Bool) (fn:Option (Nat×ZE)) (args:ZE) (H:ZF) (K:D->Prop):Prop:=
 match fn with
 | some (f,caps)=>
  match mC H (args++caps) with
  | some (vc,ds)=>(e=true->c/\vc)/\B3 E e f ds K
  | none=>False
 | none=>False
def bh (E:Env) (all:List Oper) (H:ZF) (K:Fr->Prop):List Oper->Fr->Prop
 | [],fr=>K fr
 | o::rest,fr=>
  match o.guard with
  | none=>
   match gz o.op with
   | some (g,args)=>qC E (aF fr g/\ee fr args) true (fe (aq fr g)) (iw fr args) H (fun x=>bh E all H K rest (fr.put o.dst (.d x)))
   | none=>
    match dH E.T fr H o.op with
    | some (vc,x)=>vc/\bh E all H K rest (fr.put o.dst x)
    | none=>False
  | some (j,want)=>
   match guardOf all fr j want with
   | some (gc,e)=>
    match gz o.op with
    | some (g,args)=>gc/\qC E (aF fr g/\ee fr args) e (fe (aq fr g)) (iw fr args) H (fun x=>bh E all H K rest (fr.put o.dst (.cond e (.d x))))
    | none=>
     match dH E.T fr H o.op with
     | some (vc,x)=>gc/\(e=true->vc)/\bh E all H K rest (fr.put o.dst (.cond e x))
     | none=>False
   | none=>False
def OD {S:Nat->Prop}{w:World}{x:D}(h:eW x) : ∃ v,FZ S w x v/\∀ (w2:World) (v2:Value) (fp:ZC),OW w2 x v2 fp->v2=v:=by
 cases x <;> simp only[eW] at h
 ·exact⟨_,.int h,fun w2 v2 fp h=>by cases h;rfl⟩
 ·exact⟨_,.bool,fun w2 v2 fp h=>by cases h;rfl⟩
def b9.draw (w:World):b9 w { w with drawn:=w.drawn+1 }:=⟨rfl,rfl,rfl,aD _,fun _ _=>rfl⟩
def b9.Bk {w:World}(g:b9 w w'):au w w':=g.bf
def b9.trans' {w w'':World}(g:b9 w w') (g':b9 w' w''):b9 w w'':=
 ⟨g'.os.trans g.os,g'.tape.trans g.tape,g'.output.trans g.output,g6 g.size g'.size,fun b hb=>(g'.bf b (iA hb g.size)).trans (g.bf b hb)⟩
def SI {E:Env}(hT:bQ E.P E.T) {H:ZF}{S:Nat->Prop}{φ : List ZC}{w:World}(s:aQ S φ H w) {K':Act->Prop}
  (hK : ∀ fr a,de S φ H w fr a->K fr->K' a) : ∀ (l:List Oper) {fr:Fr}{a:Act},de S φ H w fr a->bh E all H K l fr->wpQuiet E.P all.toArray (b9 w) K' l a:=by
 intro l;induction l with
 | nil=>exact fun {fr a} hf h=>hK fr a hf h
 | cons o rest ih=>
  intro fr a hf h;have reads : ∀ {vc:Prop}{x:I},dH E.T fr H o.op=some (vc,x)->vc->∃ v,V S φ H w x v/\∀ w',b9 w w'->o.quietAt E.P a (b9 w) w' v:=by
   intro vc x hp hvc;obtain⟨v,hv,hr⟩:=vG hT s hf hp hvc;refine⟨v,hv,fun w' hw'=>?_⟩;unfold Oper.quietAt;rw[hr w' fun _=>hw'.Bk];exact⟨rfl,rfl⟩
  have calls : ∀ {g:Operand}{args:List Operand}{f:Nat}{caps:ZE}{vc:Prop}{ds:ZD}{x:D},gz o.op=some (g,args)->fe (aq fr g)=some (f,caps)->mC H (iw fr args++caps)=some (vc,ds)->
    (aF fr g/\ee fr args)->vc->Pure E.P f ds x->eW x->∃ v,V S φ H w (.d x) v/\∀ w',b9 w w'->o.quietAt E.P a (b9 w) w' v:=by
   intro g args f caps vc ds x ho hfn hv hc hvc hp hx;obtain⟨hc1,hc2⟩:=hc;obtain⟨vs,e1,e2,e3⟩:=DK (hf.aq g hc1) hfn;obtain⟨l1,l2⟩:=BB hf args hc2;obtain⟨m1,m2⟩:=EL (va:=(args.map a.eval).toArray) (by simp[l1]) (fun j hj=>l2 j (by omega)) e2 e3;have hargs:=AV (fun x v vc d h1 h2 h3=>xB s 3 h1 h2 h3) m1 m2 hv hvc;have hlt : ∀ b,jv S φ b->b<w.heap.size:=fun b hb=>hb.elim (s.slt b) (s.lt b)
   have hargs' : ∀ w',b9 w w'->zL (jv S φ) w' ds ((args.map a.eval).toArray++vs):=fun w' hw'=>⟨hargs.1,fun j hj=>(hargs.2 j hj).mono (fun _ h=>h) (fun b hb=>hw'.bf b (hlt b hb))⟩
   have hcall : ∀ w',b9 w w'->Calls E.P f ((args.map a.eval).toArray++vs) w' (fun e w''=>∃ v fp,e=.returned v/\OW w'' x v fp/\b9 w w''):=fun w' hw'=>
    hp.2 (jv S φ) _ w' _ (fun b hb=>iA (hlt b hb) hw'.size) (hargs' w' hw') fun v w'' fp how _ _ hg=>⟨v,fp,rfl,how,hw'.trans' hg⟩
   obtain⟨v,hvv,hdet⟩:=OD (S:=S) (w:=w) hx;refine⟨v,.d hvv,fun w' hw'=>?_⟩;unfold Oper.quietAt;rw[yn ho e1 hp.1 w'];refine⟨rfl,(hcall w' hw').mono ?_⟩;rintro e w'' ⟨v2,fp,rfl,how,hg⟩;exact⟨by rw[hdet _ _ _ how],hg⟩
  simp only[bh] at h;split at h
  ·rename_i hgd;have hw:Region.wanted o (yielded all.toArray a.tmps)=true:=by simp only[Region.wanted,hgd]
   simp only[wpQuiet,hw,if_true];split at h
   ·rename_i g args ho;unfold qC at h;split at h
    ·rename_i f caps hfn;split at h
     ·rename_i vc ds hv;obtain⟨hc,x,hp,hk⟩:=h;obtain⟨v,hvv,hq⟩:=calls ho hfn hv (hc rfl).1 (hc rfl).2 (hp rfl).1 (hp rfl).2;exact⟨v,hq,ih (hf.put o.dst hvv) hk⟩
     ·exact h.elim
    ·exact h.elim
   ·split at h
    ·rename_i vc x hp;obtain⟨v,hvv,hq⟩:=reads hp h.1;exact⟨v,hq,ih (hf.put o.dst hvv) h.2⟩
    ·exact h.elim
  ·rename_i j want hgd;split at h
   ·rename_i gc e hg;have wanted:gc->Region.wanted o (yielded all.toArray a.tmps)=e:=by
     intro hgc;exact Cm hf hgd hg hgc
    split at h
    ·rename_i g args ho;obtain⟨hgc,h⟩:=h;have hw:=wanted hgc;unfold qC at h;split at h
     ·rename_i f caps hfn;split at h
      ·rename_i vc ds hv;obtain⟨hc,x,hp,hk⟩:=h;cases e with
       | false=>
        simp only[wpQuiet,hw,eE,if_false];exact ih (hf.skip o.dst rfl _) hk
       | true=>
        simp only[wpQuiet,hw,if_true];obtain⟨v,hvv,hq⟩:=calls ho hfn hv (hc rfl).1 (hc rfl).2 (hp rfl).1 (hp rfl).2;exact⟨v,hq,ih (hf.put o.dst (.cond (fun _=>hvv) fun h=>by cases h)) hk⟩
      ·exact h.elim
     ·exact h.elim
    ·split at h
     ·rename_i vc x hp;obtain⟨hgc,hvc,hk⟩:=h;have hw:=wanted hgc;cases e with
      | false=>
       simp only[wpQuiet,hw,eE,if_false];exact ih (hf.skip o.dst rfl _) hk
      | true=>
       simp only[wpQuiet,hw,if_true];obtain⟨v,hvv,hq⟩:=reads hp (hvc rfl);exact⟨v,hq,ih (hf.put o.dst (.cond (fun _=>hvv) fun h=>by cases h)) hk⟩
     ·exact h.elim
   ·exact h.elim
def Pa {E:Env}{H:ZF}{K':Fr->Prop}(hK : ∀ fr,K fr->K' fr) : ∀ (l:List Oper) {fr:Fr},bh E all H K l fr->bh E all H K' l fr:=by
 intro l;have cq : ∀ {c:Prop}{e:Bool}{fn:Option (Nat×ZE)}{args:ZE}{K K':D->Prop},(∀ x,K x->K' x)->qC E c e fn args H K->qC E c e fn args H K':=by
  intro c e fn args K K' hk h;unfold qC at *
  split at h
  ·split at h
   ·rename_i hv;try simp only[hv]
    obtain⟨h1,x,h2,h3⟩:=h;exact⟨h1,x,h2,hk x h3⟩
   ·exact h.elim
  ·exact h.elim
 induction l with
 | nil=>exact fun {fr} h=>hK fr h
 | cons o rest ih=>
  intro fr h;simp only[bh] at h ⊢;split at h
  ·rename_i hgd;try simp only[hgd]
   split at h
   ·rename_i ho;try simp only[ho]
    exact cq (fun x hx=>ih hx) h
   ·rename_i ho;try simp only[ho]
    split at h
    ·rename_i hp;try simp only[hp]
     exact⟨h.1,ih h.2⟩
    ·exact h.elim
  ·rename_i hgd;try simp only[hgd]
   split at h
   ·rename_i hg;try simp only[hg]
    split at h
    ·rename_i ho;try simp only[ho]
     exact⟨h.1,cq (fun x hx=>ih hx) h.2⟩
    ·rename_i ho;try simp only[ho]
     split at h
     ·rename_i hp;try simp only[hp]
      exact⟨h.1,h.2.1,ih h.2.2⟩
     ·exact h.elim
   ·exact h.elim
def Rk {E:Env}(hT:bQ E.P E.T) (hm:E.P.follows .mixedOrders=true) {id:Nat}{ops:Array Oper}(hB:Region.lexB .any ops=true) {Q:aT}{H:ZF}{fr:Fr}
  (h:bh E ops.toList H (fun fr'=>Q .normal fr' H) ops.toList fr):cK E.P E.n (.region id ops true) Q fr H:=by
 intro S φ a w Qr hn s hf hq;refine wp_region_quiet (C:=b9 w) hm hB (b9.draw w) ?_;have:=SI hT s (K:=fun fr'=>Q .normal fr' H) (K':=fun a'=>∀ w',b9 w w'->Qr .normal a' w') (fun fr' a' hf' hk w' hg=>by
  obtain⟨s1,s2,s3⟩:=yG s hg S (fun b h=>h) (fun b h=>.inl h) (fun b h=>iA (s.slt b h) hg.size);exact hq _ a' w' S φ fr' H s1 (hf'.tr s2) s3 (s2.weaken hn) hk) ops.toList hf h
 simpa using this
mutual
def exec (E:Env):Nat->List Item->aT->Fr->ZF->Prop
 | 0,_,_,_,_=>False
 | _+1,[],Q,fr,H=>Q .normal fr H
 | f+1,.blk _::ks,Q,fr,H=>exec E f ks Q fr H
 | f+1,.code c::ks,Q,fr,H=>cw E f c ks Q fr H
def cw (E:Env):Nat->Code->List Item->aT->Fr->ZF->Prop
 | 0,_,_,_,_,_=>False
 | f+1,.skip,ks,Q,fr,H=>exec E f ks Q fr H
 | f+1,.label _,ks,Q,fr,H=>exec E f ks Q fr H
 | f+1,.seq x y,ks,Q,fr,H=>cw E f x (.code y::ks) Q fr H
 | f+1,.block id c,ks,Q,fr,H=>cw E f c (.blk id::ks) Q fr H
 | f+1,.exit id,ks,Q,fr,H=>gZ E f (jJ id ks) id ks Q fr H
 | f+1,.ret,ks,Q,fr,H=>Q .ret fr H
 | f+1,.cond c x y,ks,Q,fr,H=>x7 E f (ev fr c) x y ks Q fr H
 | f+1,.region _ ops false,ks,Q,fr,H=>am E f ops.toList ops.toList ks Q fr H
 | f+1,.region id ops true,ks,Q,fr,H=>
  if(quiet E.T ops.toList&&zM E.pf ops.toList)=true then E.P.follows .mixedOrders=true/\Region.lexB .any ops=true/\bh E ops.toList H (fun fr'=>exec E f ks Q fr' H) ops.toList fr
  else cK E.P E.n (.region id ops true) (dZ E ks Q) fr H
 | f+1,.loop c,ks,Q,fr,H=>cK E.P E.n (.loop c) (dZ E ks Q) fr H
 | f+1,.scope c,ks,Q,fr,H=>cK E.P E.n (.scope c) (dZ E ks Q) fr H
 | f+1,.goto l,ks,Q,fr,H=>cK E.P E.n (.goto l) (dZ E ks Q) fr H
 | f+1,.refuse s,ks,Q,fr,H=>cK E.P E.n (.refuse s) (dZ E ks Q) fr H
 | f+1,.rangeFunc g ps c1 c2,ks,Q,fr,H=>cK E.P E.n (.rangeFunc g ps c1 c2) (dZ E ks Q) fr H
def gZ (E:Env):Nat->Option (List Item)->Nat->List Item->aT->Fr->ZF->Prop
 | 0,_,_,_,_,_,_=>False
 | f+1,some ks',_,_,Q,fr,H=>exec E f ks' Q fr H
 | _+1,none,id,_,Q,fr,H=>Q (.exit id) fr H
def x7 (E:Env):Nat->I->Code->Code->List Item->aT->Fr->ZF->Prop
 | 0,_,_,_,_,_,_,_=>False
 | f+1,.d d,x,y,ks,Q,fr,H=>d.isBool/\(d.toBool=true->cw E f x ks Q fr H)/\(d.toBool=false->cw E f y ks Q fr H)
 | _+1,_,_,_,_,_,_,_=>False
def am (E:Env):Nat->List Oper->List Oper->List Item->aT->Fr->ZF->Prop
 | 0,_,_,_,_,_,_=>False
 | f+1,_,[],ks,Q,fr,H=>exec E f ks Q fr H
 | f+1,all,o::rest,ks,Q,fr,H=>
  match o.guard with
  | none=>
   match gz o.op with
   | some (g,args)=>oK E (aF fr g/\ee fr args) (fe (aq fr g)) (iw fr args) H (mq E f all rest ks Q fr o.dst)
   | none=>
    match dH E.T fr H o.op with
    | some (vc,x)=>vc/\am E f all rest ks Q (fr.put o.dst x) H
    | none=>
     match bX E.T fr H o.op with
     | some (vc,x,H')=>vc/\am E f all rest ks Q (fr.put o.dst x) H'
     | none=>
      match jt E.deep E.T fr H o.op with
      | some (vc,x,H')=>vc/\am E f all rest ks Q (fr.put o.dst x) H'
      | none=>
      match uT fr H o.op with
      | some (fc,fr',H')=>
       match bX E.T fr' H' o.op with
       | some (vc,x,H'')=>fc/\vc/\am E f all rest ks Q (fr'.put o.dst x) H''
       | none=>False
      | none=>False
  | some (j,want)=>
   match guardOf all fr j want with
   | some (gc,e)=>
    match gz o.op with
    | some (g,args)=>gc/\xC E (aF fr g/\ee fr args) e (fe (aq fr g)) (iw fr args) H (cz E f all rest ks Q fr o.dst)
    | none=>
     match dH E.T fr H o.op with
     | some (vc,x)=>gc/\(e=true->vc)/\am E f all rest ks Q (fr.put o.dst (.cond e x)) H
     | none=>
      match bX E.T fr H o.op with
      | some (vc,x,H')=>gc/\(e=false->∃ y,am E f all rest ks Q (fr.put o.dst (.cond e y)) H)/\(e=true->vc/\am E f all rest ks Q (fr.put o.dst (.cond e x)) H')
      | none=>False
   | none=>False
def mq (E:Env):Nat->List Oper->List Oper->List Item->aT->Fr->Option Tmp->I->ZF->Prop
 | 0,_,_,_,_,_,_,_,_=>False
 | f+1,all,rest,ks,Q,fr,dst,r,H=>am E f all rest ks Q (fr.put dst r) H
def cz (E:Env):Nat->List Oper->List Oper->List Item->aT->Fr->Option Tmp->ZF->I->Prop
 | 0,_,_,_,_,_,_,_,_=>False
 | f+1,all,rest,ks,Q,fr,dst,H,r=>am E f all rest ks Q (fr.put dst r) H
end
variable {E:Env}{Q:aT}{fr:Fr}{H:ZF}
def GA : ∀ (ks:List Item),Q .ret fr H->dZ E ks Q .ret fr H
 | [],h=>h
 | .code c::ks,h=>GA ks h
 | .blk id::ks,h=>GA ks h
def yL (id:Nat) : ∀ (ks:List Item),(match jJ id ks with|some ks'=>dZ E ks' Q .normal fr H|none=>Q (.exit id) fr H)->dZ E ks Q (.exit id) fr H
 | [],h=>h
 | .code c::ks,h=>yL id ks h
 | .blk id'::ks,h=>by
  simp only[dZ,De];simp only[jJ] at h;by_cases hid:id=id'
  ·rw[if_pos hid];rw[if_pos hid] at h;exact h
  ·rw[if_neg hid];rw[if_neg hid] at h;exact yL id ks h
def kQ (E:Env) (all:List Oper) (l:List Oper) (ks:List Item) (Q:aT) (fr:Fr) (H:ZF):Prop:=
 AI E.P E.n all.toArray l (fun fr H=>dZ E ks Q .normal fr H) fr H
variable {S:Nat->Prop}{φ : List ZC}{w:World}{a:Act}
def CW {f:Operand}{args:List Operand}(ho:gz o.op=some (f,args)) (s:aQ S φ H w) (hf:de S φ H w fr a)
  {Kc:I->ZF->Prop}(h:oK E (aF fr f/\ee fr args) (fe (aq fr f)) (iw fr args) H Kc) {Qr:Exit->Act->World->Prop}{Kr:Act->World->Prop}
  (hK : ∀ S' φ' H' w' r v,aQ S' φ' H' w'->de S' φ' H' w' fr a->V S' φ' H' w' r v->Ext S φ w S' φ' w'->Tr H.length S φ H w S' φ' H' w'->Kc r H'->Kr (a.put o.dst v) w'):o.wp E.P a w Kr Qr:=by
 unfold oK at h;split at h
 ·rename_i g caps hfn;have common:(aF fr f/\ee fr args)->∃ vs,a.eval f=.func (.func g) #[] vs/\((args.map a.eval).toArray++vs).size=(iw fr args++caps).length/\
    ∀ j,j<(iw fr args++caps).length->V S φ H w ((iw fr args++caps).getD j .junk) (((args.map a.eval).toArray++vs).getD j undef):=by
   rintro⟨hc1,hc2⟩;obtain⟨vs,e1,e2,e3⟩:=DK (hf.aq f hc1) hfn;obtain⟨l1,l2⟩:=BB hf args hc2;obtain⟨m1,m2⟩:=EL (va:=(args.map a.eval).toArray) (by simp[l1]) (fun j hj=>l2 j (by omega)) e2 e3;exact⟨vs,e1,m1,m2⟩
  split at h
  ·split at h
   ·rename_i vc ds hv;obtain⟨hc,hvc,ψ,hp,hk⟩:=h;obtain⟨vs,e1,e2,e3⟩:=common hc;refine zg (yn ho e1 hp.1 w) (hp.2 (jv S φ) _ w _ (fun b hb=>hb.elim (s.slt b) (s.lt b)) (AV (fun x v vc d h1 h2 h3=>xB s 3 h1 h2 h3) e2 e3 hv hvc) ?_);intro x v w' fp hx how hnd hfp hg;rcases hk x hx with hk|⟨r,H',hu,hk⟩
    ·obtain⟨s1,s2,s3⟩:=yG s hg (fun b=>S b∨b∈fp) (fun b h=>.inl h) (fun b h=>h.imp id (hfp b)) (fun b h=>h.elim (fun h=>iA (s.slt b h) hg.size) (how.lt b));exact hK _ _ _ _ _ _ s1 (hf.tr s2) (.d (how.fz fun b hb=>.inr hb)) s3 s2 hk
    ·obtain⟨S',φ',s1,s2,s3,hv⟩:=hu S φ w w' v fp s how hnd hfp hg;exact hK _ _ _ _ _ _ s1 (hf.tr s2) hv s3 s2 hk
   ·exact h.elim
  ·split at h
   ·rename_i vc ds hv;obtain⟨hc,hvc,ψ,hp,hk⟩:=h;obtain⟨vs,e1,e2,e3⟩:=common hc;refine zg (yn ho e1 hp.1 w) (hp.2 S _ w _ s.slt (AV G7 e2 e3 hv hvc) ?_);intro x v w' S' hx h1 h2 h3 hz hg;obtain⟨s1,s2,s3⟩:=yG s hg S' h1 h2 h3;exact hK _ _ _ _ _ _ s1 (hf.tr s2) (.d hz) s3 s2 (hk x hx)
   ·exact h.elim
  ·obtain⟨hc,hp⟩:=h;obtain⟨vs,e1,e2,e3⟩:=common hc;refine zg (yn ho e1 hp.1 w) (hp.2 S φ _ w _ s e2 e3 ?_);intro v w' S' φ' r H' s1 hv s3 s2 hk;exact hK _ _ _ _ _ _ s1 (hf.tr s2) hv s3 s2 hk
 ·exact h.elim
def I0 (hT:bQ E.P E.T) : ∀ (f:Nat),
  (∀ (ks:List Item) {fr:Fr}{H:ZF},exec E f ks Q fr H->dZ E ks Q .normal fr H)/\
  (∀ (c:Code) (ks:List Item) {fr:Fr}{H:ZF},cw E f c ks Q fr H->cK E.P E.n c (dZ E ks Q) fr H)/\
  (∀ (all l:List Oper) (ks:List Item) {fr:Fr}{H:ZF},am E f all l ks Q fr H->kQ E all l ks Q fr H):=by
 intro f;induction f using Nat.strongRecOn with
 | _ f ih=>
 refine⟨?_,?_,?_⟩
 ·intro ks fr H h;match f,ks with
  | 0,_=>simp only[exec] at h
  | f+1,[]=>
   simp only[exec] at h;exact h
  | f+1,.blk id::ks=>
   simp only[exec] at h;exact(ih f (vt f)).1 ks h
  | f+1,.code c::ks=>
   simp only[exec] at h;exact(ih f (vt f)).2.1 c ks h
 ·intro c ks fr H h;match f with
  | 0=>simp only[cw] at h
  | f+1=>
   have ih0:=ih f (vt f);cases c with
   | skip=>simp only[cw] at h;exact Rb (ih0.1 ks h)
   | label l=>simp only[cw] at h;exact Sb (ih0.1 ks h)
   | exit id=>
    simp only[cw] at h;refine Pn (yL id ks ?_);generalize jJ id ks=o at h;match f,o with
    | 0,_=>simp only[gZ] at h
    | f+1,some ks'=>
     simp only[gZ] at h;exact(ih f (by omega)).1 ks' h
    | f+1,none=>
     simp only[gZ] at h;exact h
   | ret=>simp only[cw] at h;exact uV (GA ks h)
   | seq x y=>simp only[cw] at h;exact G3 (ih0.2.1 x (.code y::ks) h)
   | block id c=>simp only[cw] at h;exact QB (ih0.2.1 c (.blk id::ks) h)
   | cond c x y=>
    simp only[cw] at h;generalize hev:ev fr c=i at h;match f,i with
    | 0,_=>simp only[x7] at h
    | f+1,.d d=>
     simp only[x7] at h;exact Ow hev h.1 (fun e=>(ih f (by omega)).2.1 x ks (h.2.1 e)) (fun e=>(ih f (by omega)).2.1 y ks (h.2.2 e))
    | f+1,.agg _|f+1,.sl .. | f+1,.ptr .. | f+1,.eptr .. | f+1,.bor .. | f+1,.bptr .. | f+1,.map _|f+1,.fn .. | f+1,.tup _|f+1,.own _|f+1,.cond .. | f+1,.junk=>simp only[x7] at h
   | region id ops draw=>
    cases draw with
    | false=>
     simp only[cw] at h;exact Jv (by have:=ih0.2.2 ops.toList ops.toList ks h;unfold kQ at this;simpa using this)
    | true=>
     simp only[cw] at h;split at h
     ·obtain⟨hm,hB,h⟩:=h;refine Rk hT hm hB (Pa (fun fr' h=>ih0.1 ks h) _ h)
     ·exact h
   | loop c=>simpa only[cw] using h
   | scope c=>simpa only[cw] using h
   | goto l=>simpa only[cw] using h
   | refuse s=>simpa only[cw] using h
   | rangeFunc g ps c1 c2=>simpa only[cw] using h
 ·intro all l ks fr H h;match f,l with
  | 0,_=>simp only[am] at h
  | f+1,[]=>
   simp only[am] at h;intro S φ a w Qr hn s hf hq;exact hq a w S φ fr H s hf (Ext.refl ..) (Tr.refl hn) ((ih f (vt f)).1 ks h)
  | f+1,o::rest=>
   have ih0:=(ih f (vt f)).2.2;intro S φ a w Qr hn s hf hq;simp only[am] at h;split at h
   ·rename_i hgd;refine wpList_plain hgd fun Kr hKr=>?_
    split at h
    ·rename_i g args ho;refine CW ho s hf h fun S' φ' H' w' r v s' hf' hv he ht hk=>hKr _ _ ?_
     match f with
     | 0=>simp only[mq] at hk
     | f+1=>
      simp only[mq] at hk;exact(ih f (by omega)).2.2 all rest ks hk S' φ' _ w' Qr (g6 hn ht.len) s' (hf'.put o.dst hv) fun a2 w2 S2 φ2 fr2 H2 a3 a4 a5 a6 a7=>hq a2 w2 S2 φ2 fr2 H2 a3 a4 (he.trans a5) ((ht.weaken hn).trans a6) a7
    ·split at h
     ·rename_i vc x hp;obtain⟨hvc,hk⟩:=h;obtain⟨v,hv,hr⟩:=vG hT s hf hp hvc;unfold Oper.wp;rw[hr w (fun _=>au.refl w),Oper.upon_value];exact hKr _ _ (ih0 all rest ks hk S φ _ w Qr hn s (hf.put o.dst hv) hq)
     ·split at h
      ·rename_i vc x H' hp;obtain⟨hvc,hk⟩:=h;obtain⟨v,w',φ',hr,s',ht,he,hv⟩:=yf hT s hf hp hvc;have fin:Kr (a.put o.dst v) w':=hKr _ _ (ih0 all rest ks hk S φ' _ w' Qr (g6 hn ht.len) s' ((hf.tr ht).put o.dst hv) fun a2 w2 S2 φ2 fr2 H2 a3 a4 a5 a6 a7=>
        hq a2 w2 S2 φ2 fr2 H2 a3 a4 (he.trans a5) ((ht.weaken hn).trans a6) a7)
       unfold Oper.wp;rcases hr with hr|⟨hr,rfl⟩
       ·rw[hr,Oper.upon_value];exact fin
       ·rw[hr,Oper.upon_skip];exact fin
      ·split at h
       ·rename_i vc x H' hp;obtain⟨hvc,hk⟩:=h;obtain⟨v,w',φ',hr,s',ht,he,hv⟩:=Qa hT s hf hp hvc;have fin:Kr (a.put o.dst v) w':=hKr _ _ (ih0 all rest ks hk S φ' _ w' Qr (g6 hn ht.len) s' ((hf.tr ht).put o.dst hv) fun a2 w2 S2 φ2 fr2 H2 a3 a4 a5 a6 a7=>
         hq a2 w2 S2 φ2 fr2 H2 a3 a4 (he.trans a5) ((ht.weaken hn).trans a6) a7)
        unfold Oper.wp;rcases hr with hr|⟨hr,rfl⟩
        ·rw[hr,Oper.upon_value];exact fin
        ·rw[hr,Oper.upon_skip];exact fin
       split at h
       ·rename_i fc fr' H' hfz;split at h
        ·rename_i vc x H'' hp;obtain⟨hfc,hvc,hk⟩:=h;obtain⟨S1,φ1,s1,hf1,e1,t1⟩:=G9 s hf hfz hfc;obtain⟨v,w',φ',hr,s',ht,he,hv⟩:=yf hT s1 hf1 hp hvc;have hn1:=g6 hn t1.len;have fin:Kr (a.put o.dst v) w':=hKr _ _ (ih0 all rest ks hk S1 φ' _ w' Qr (g6 hn1 ht.len) s' ((hf1.tr ht).put o.dst hv) fun a2 w2 S2 φ2 fr2 H2 a3 a4 a5 a6 a7=>
          hq a2 w2 S2 φ2 fr2 H2 a3 a4 (e1.trans (he.trans a5)) ((t1.weaken hn).trans ((ht.weaken hn1).trans a6)) a7)
         unfold Oper.wp;rcases hr with hr|⟨hr,rfl⟩
         ·rw[hr,Oper.upon_value];exact fin
         ·rw[hr,Oper.upon_skip];exact fin
        ·exact h.elim
       ·exact h.elim
   ·rename_i j want hgd;split at h
    ·rename_i gc e hg;have wanted:gc->Region.wanted o (yielded all.toArray a.tmps)=e:=by
      intro hgc;exact Cm hf hgd hg hgc
     split at h
     ·rename_i g args ho;obtain⟨hgc,h⟩:=h;have hw:=wanted hgc;unfold wpList;rw[hw];unfold xC at h;split at h
      ·rename_i g caps hfn;split at h
       ·rename_i hpf;split at h
        ·rename_i vc ds hv;obtain⟨hc,x,hp,hk⟩:=h;match f with
         | 0=>simp only[cz] at hk
         | f+1=>
         simp only[cz] at hk;have ih1:=(ih f (by omega)).2.2;cases e with
         | false=>
          simp only[eE,if_false];exact ih1 all rest ks hk S φ _ w Qr hn s (hf.skip o.dst rfl _) hq
         | true=>
          simp only[if_true];left;obtain⟨hc,hvc⟩:=hc rfl;have hp:=hp rfl;refine CW (E:=E) ho s hf (Kc:=fun r H'=>H'=H/\r=.d x) ?_ ?_
          ·simp only[oK,hfn,hpf,hv];exact⟨hc,hvc,fun y=>y=x,hp.zv,fun y hy=>.inl ⟨rfl,by rw[hy]⟩⟩
          ·rintro S' φ' H' w' r v s' hf' hv' he ht ⟨rfl,rfl⟩;exact ih1 all rest ks hk S' φ' _ w' Qr (g6 hn ht.len) s' (hf'.put o.dst (.cond (fun _=>hv') fun h=>by cases h)) fun a2 w2 S2 φ2 fr2 H2 a3 a4 a5 a6 a7=>hq a2 w2 S2 φ2 fr2 H2 a3 a4 (he.trans a5) ((ht.weaken hn).trans a6) a7
        ·exact h.elim
       ·rename_i hpf;cases e with
        | false=>
         obtain⟨x,hk⟩:=h.1 rfl;simp only[eE,if_false];match f with
         | 0=>simp only[cz] at hk
         | f+1=>
         simp only[cz] at hk;exact(ih f (by omega)).2.2 all rest ks hk S φ _ w Qr hn s (hf.skip o.dst rfl _) hq
        | true=>
         simp only[if_true];left;obtain⟨hc,hp⟩:=h.2 rfl;refine CW (E:=E) ho s hf (Kc:=fun r H'=>cz E f all rest ks Q fr o.dst H' (.cond true r)) ?_ ?_
         ·simp only[oK,hfn,hpf];exact⟨hc,hp⟩
         ·intro S' φ' H' w' r v s' hf' hv' he ht hk;match f with
          | 0=>simp only[cz] at hk
          | f+1=>
          simp only[cz] at hk;exact(ih f (by omega)).2.2 all rest ks hk S' φ' _ w' Qr (g6 hn ht.len) s' (hf'.put o.dst (.cond (fun _=>hv') fun h=>by cases h)) fun a2 w2 S2 φ2 fr2 H2 a3 a4 a5 a6 a7=>hq a2 w2 S2 φ2 fr2 H2 a3 a4 (he.trans a5) ((ht.weaken hn).trans a6) a7
       ·rename_i hpf;cases e with
        | false=>
         obtain⟨x,hk⟩:=h.1 rfl;simp only[eE,if_false];match f with
         | 0=>simp only[cz] at hk
         | f+1=>
         simp only[cz] at hk;exact(ih f (by omega)).2.2 all rest ks hk S φ _ w Qr hn s (hf.skip o.dst rfl _) hq
        | true=>
         simp only[if_true];left;have hp:=h.2 rfl;refine CW (E:=E) ho s hf (Kc:=fun r H'=>cz E f all rest ks Q fr o.dst H' (.cond true r)) ?_ ?_
         ·simp only[oK,hfn,hpf];exact hp
         ·intro S' φ' H' w' r v s' hf' hv' he ht hk;match f with
          | 0=>simp only[cz] at hk
          | f+1=>
          simp only[cz] at hk;exact(ih f (by omega)).2.2 all rest ks hk S' φ' _ w' Qr (g6 hn ht.len) s' (hf'.put o.dst (.cond (fun _=>hv') fun h=>by cases h)) fun a2 w2 S2 φ2 fr2 H2 a3 a4 a5 a6 a7=>hq a2 w2 S2 φ2 fr2 H2 a3 a4 (he.trans a5) ((ht.weaken hn).trans a6) a7
      ·exact h.elim
     ·split at h
      ·rename_i vc x hp;obtain⟨hgc,hvc,hk⟩:=h;have hw:=wanted hgc;unfold wpList;rw[hw];cases e with
       | false=>
        simp only[eE,if_false];exact ih0 all rest ks hk S φ _ w Qr hn s (hf.skip o.dst rfl _) hq
       | true=>
        simp only[if_true];left;obtain⟨v,hv,hr⟩:=vG hT s hf hp (hvc rfl);unfold Oper.wp;rw[hr w (fun _=>au.refl w),Oper.upon_value];exact ih0 all rest ks hk S φ _ w Qr hn s (hf.put o.dst (.cond (fun _=>hv) fun h=>by cases h)) hq
      ·split at h
       ·rename_i vc x H' hp;obtain⟨hgc,hk0,hk1⟩:=h;have hw:=wanted hgc;unfold wpList;rw[hw];cases e with
        | false=>
         obtain⟨y,hk⟩:=hk0 rfl;simp only[eE,if_false];exact ih0 all rest ks hk S φ _ w Qr hn s (hf.skip o.dst rfl _) hq
        | true=>
         obtain⟨hvc,hk⟩:=hk1 rfl;simp only[if_true];left;obtain⟨v,w',φ',hr,s',ht,he,hv⟩:=yf hT s hf hp hvc;unfold Oper.wp;have fin:=ih0 all rest ks hk S φ' _ w' Qr (g6 hn ht.len) s' ((hf.tr ht).put o.dst (.cond (fun _=>hv) fun h=>by cases h)) fun a2 w2 S2 φ2 fr2 H2 a3 a4 a5 a6 a7=>
          hq a2 w2 S2 φ2 fr2 H2 a3 a4 (he.trans a5) ((ht.weaken hn).trans a6) a7
         rcases hr with hr|⟨hr,rfl⟩
         ·rw[hr,Oper.upon_value];exact fin
         ·rw[hr,Oper.upon_skip];exact fin
       ·exact h.elim
    ·exact h.elim
def rp (hT:bQ E.P E.T) (f:Nat) {c:Code}(h:cw E f c [] Q fr H):cK E.P E.n c Q fr H:=(I0 hT f).2.1 c [] h
def yZ (hT:bQ E.P E.T) (f:Nat) {ks:List Item}(h:exec E f ks Q fr H):dZ E ks Q .normal fr H:=(I0 hT f).1 ks h
end Go.VL
