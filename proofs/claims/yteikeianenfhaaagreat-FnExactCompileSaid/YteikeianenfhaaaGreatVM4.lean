/- Part 18: functions: from a body's verification condition to its contract. Conditions: none; lemmas. -/
import Derived.Test.YteikeianenfhaaaGreatVM3
import Derived.Deep.Quiet
set_option linter.unusedVariables false
set_option linter.unusedSimpArgs false
set_option maxHeartbeats 2000000
namespace Go.VL
set_option linter.defProp false
variable {tmps:Array Value}{x y:D}{v:Value}{fn:Func}{fp:List Nat}{args:List I}{f:Nat}{c:Code}{ds:List D}
variable {P:Program}{S:Nat->Prop}{φ : List (List Nat)}{H:List R}{w:World}{T:Nat->Option TI}{fr:Fr}{a:Act}{n:Nat}
def dX (T:Nat->Option TI) (H:List R) (fr:Fr):List ResultVar->Option (Prop×List I)
 | []=>some (True,[])
 | .tmp t::r=>
  match dX T H fr r with
  | some (vc,l)=>some (vc,fr.get t::l)
  | none=>none
 | .cell a ty::r=>
  match nl T H ty (fr.get a),dX T H fr r with
  | some (c,x),some (vc,l)=>some (c/\vc,x::l)
  | _,_=>none
def eT (T:Nat->Option TI) (H:List R) (fr:Fr) (rs:List ResultVar):Option (Prop×I):=
 match dX T H fr rs with
 | some (vc,[x])=>some (vc,x)
 | some (vc,l)=>some (vc,.tup l)
 | none=>none
def lw (tmps:Array Value):ResultVar->Sem Value
 | .tmp t=>pure (tmps.getD t undef)
 | .cell a t=>do loadVar t (←asAddr (tmps.getD a undef))
def Nz {x:Nat}{t:TypeId}(h:(Instr.loadAt t (tmps.getD x undef)).run P w=.ok v w):(lw tmps (.cell x t)).run P w=.ok v w:=by
 have e:lw tmps (.cell x t)=(do loadVar t (←asAddr (tmps.getD x undef)):Sem Value):=rfl;rw[e];unfold Instr.loadAt at h;generalize tmps.getD x undef=u at *
 have nope : ∀ {α : Type}(s:String) (k:Addr->Sem Value),((stuck s:Sem Addr) >>= k).run P w≠.ok v w:=fun s k hk=>by
  simp only[Sem.run_bind,stuck] at hk;cases hk
 cases u with
 | pointer a=>
  cases a with
  | some a=>exact h
  | none=>exact absurd h (nope (α:=Value) _ _)
 | _=>exact absurd h (nope (α:=Value) _ _)
def Ji {α β : Type}(f : α->Sem β) (g : α->β) (w:World) : ∀ (l:List α),(∀ x∈l,(f x).run P w=.ok (g x) w)->(l.mapM f).run P w=.ok (l.map g) w
 | [],_=>rfl
 | x::r,h=>by
  rw[List.mapM_cons];simp only[Sem.run_bind];rw[h x (by simp)];simp only[Result.andThen_ok,Sem.run_bind];rw[Ji f g w r fun y hy=>h y (by simp[hy])];rfl
def K4 {α β : Type}(l:Array α) (f : α->Sem β) (g : α->β) (w:World) (h : ∀ x∈l,(f x).run P w=.ok (g x) w):(l.mapM f).run P w=.ok (l.map g) w:=by
 rw[Array.mapM_eq_mapM_toList,Sem.run_map,Ji f g w l.toList (fun x hx=>h x (by simpa using hx))];simp only[Result.andThen_ok];rw[<-Array.toList_map]
def Di (hT:bO P T) (s:aK S φ H w) (hf:c7 S φ H w fr a) : ∀ {rs:List ResultVar}{vc:Prop}{l:List I},dX T H fr rs=some (vc,l)->vc->
  l.length=rs.length/\∀ j,j<rs.length->∃ v,(lw a.tmps (rs.getD j (.tmp 0))).run P w=.ok v w/\V S φ H w (l.getD j .junk) v
 | [],vc,l,h,_=>by
  simp only[dX,aD,aH] at h;obtain⟨_,rfl⟩:=h;exact⟨rfl,by simp⟩
 | .tmp t::r,vc,l,h,hvc=>by
  simp only[dX] at h;split at h
  ·rename_i vc' l' hr;simp only[aD,aH] at h;obtain⟨rfl,rfl⟩:=h;obtain⟨h1,h2⟩:=Di hT s hf hr hvc;refine⟨by simp[h1],fun j hj=>?_⟩;cases j with
   | zero=>exact⟨_,rfl,by simpa using hf.val t⟩
   | succ j=>simpa using h2 j (by simpa using hj)
  ·simp at h
 | .cell x ty::r,vc,l,h,hvc=>by
  simp only[dX] at h;split at h
  ·rename_i c y vc' l' hl hr;simp only[aD,aH] at h;obtain⟨rfl,rfl⟩:=h;obtain⟨h1,h2⟩:=Di hT s hf hr hvc.2;refine⟨by simp[h1],fun j hj=>?_⟩;cases j with
   | zero=>
    obtain⟨v,hv,hrun⟩:=IB hT s (hf.val x) hl hvc.1;exact⟨v,by simpa using Nz (hrun w (au.refl w)),by simpa using hv⟩
   | succ j=>simpa using h2 j (by simpa using hj)
  ·simp at h
open Classical in
noncomputable def gR (P:Program) (w:World) (tmps:Array Value) (rv:ResultVar):Value:=if h : ∃ v,(lw tmps rv).run P w=.ok v w then Classical.choose h else undef
def uL {rv:ResultVar}(h:(lw tmps rv).run P w=.ok v w):gR P w tmps rv=v:=by
 have he : ∃ v,(lw tmps rv).run P w=.ok v w:=⟨v,h⟩;unfold gR;rw[dif_pos he];have:=h.symm.trans (Classical.choose_spec he);injection this with h1
 exact h1.symm
def zW (hT:bO P T) (s:aK S φ H w) (hf:c7 S φ H w fr a) {vc:Prop}{r:I}(h:eT T H fr fn.results.toList=some (vc,r)) (hvc:vc) : ∃ v,(results fn a.tmps).run P w=.ok v w/\V S φ H w r v:=by
 unfold eT at h;have main : ∀ {vc:Prop}{l:List I},dX T H fr fn.results.toList=some (vc,l)->vc->(results fn a.tmps).run P w=.ok (if h:(fn.results.map (gR P w a.tmps)).size=1 then(fn.results.map (gR P w a.tmps))[0] else .tuple (fn.results.map (gR P w a.tmps))) w/\
   l.length=fn.results.size/\∀ j,j<l.length->V S φ H w (l.getD j .junk) ((fn.results.map (gR P w a.tmps)).getD j undef):=by
  intro vc l hc hvc;obtain⟨h1,h2⟩:=Di hT s hf hc hvc;have hev : ∀ x∈fn.results,(lw a.tmps x).run P w=.ok (gR P w a.tmps x) w:=by
   intro x hx;obtain⟨j,hj,rfl⟩:=Array.getElem_of_mem hx;obtain⟨v,hv,_⟩:=h2 j (by simpa using hj);have e:fn.results.toList.getD j (.tmp 0)=fn.results[j]:=by simp[List.getD,hj]
   rw[e] at hv;rw[hv,uL hv]
  refine⟨?_,by simpa using h1,fun j hj=>?_⟩
  ·have er:results fn a.tmps=(do let vs←fn.results.mapM (lw a.tmps);pure (if h:vs.size=1 then vs[0] else .tuple vs):Sem Value):=rfl;rw[er];simp only[Sem.run_bind];rw[K4 fn.results _ (gR P w a.tmps) w (fun x hx=>hev x hx)];simp only[Result.andThen_ok,Sem.run_pure]
  ·have hj':j<fn.results.toList.length:=by omega
   obtain⟨v,hv,hV⟩:=h2 j hj';have hj2:j<fn.results.size:=by simpa using hj'
   have e:fn.results.toList.getD j (.tmp 0)=fn.results[j]:=by simp[List.getD,hj2]
   rw[e] at hv;have e2:(fn.results.map (gR P w a.tmps)).getD j undef=v:=by
    simp[Array.getD,hj2,uL hv]
   rw[e2];exact hV
 split at h
 ·rename_i vc' x hc;simp only[aD,aH] at h;obtain⟨rfl,rfl⟩:=h;obtain⟨m1,m2,m3⟩:=main hc hvc;have hs:(fn.results.map (gR P w a.tmps)).size=1:=by simpa using m2.symm
  rw[dif_pos hs] at m1;refine⟨_,m1,?_⟩;have:=m3 0 (by simp);have e:(fn.results.map (gR P w a.tmps)).getD 0 undef=(fn.results.map (gR P w a.tmps))[0]:=by simp[Array.getD,hs]
  rw[e] at this;simpa using this
 ·rename_i vc' l hne hc;simp only[aD,aH] at h;obtain⟨rfl,rfl⟩:=h;obtain⟨m1,m2,m3⟩:=main hc hvc;have hs : ¬ (fn.results.map (gR P w a.tmps)).size=1:=by
   intro h1;have hl1:l.length=1:=by rw[m2];simpa using h1
   match l,hne,hl1 with
   | [x],hne,_=>exact hne x rfl
  rw[dif_neg hs] at m1;exact⟨_,m1,.tup (by simp[m2]) m3⟩
 ·simp at h
def vM:D->Bool
 | .int _ _=>true
 | .bool _=>true
 | .raw _=>true
 | .nil=>true
 | _=>false
def AZ:D->Bool
 | .agg cs=>cs.all vM
 | x=>vM x
def sZ:D->Bool
 | .tup xs=>xs.all AZ
 | x=>AZ x
def ny (f:I->Option (Prop×D×List Nat)):List I->Option (Prop×List D×List Nat)
 | []=>some (True,[],[])
 | x::r=>
  match f x,ny f r with
  | some (vc,d,l),some (vc',ds,l')=>some (vc/\vc',d::ds,l++l')
  | _,_=>none
def lR:List D->Prop
 | []=>True
 | x::r=>x.one=true/\lR r
def pk (H:List R):Nat->I->Option (Prop×D×List Nat)
 | _,.d x=>some (sZ x=true,x,[])
 | _,.sl i g k lo m=>
  match H[i]? with
  | some (.row g' k' (.own []) l)=>some (g=g'/\k=k'/\lo=0/\m=l.length,.lst k l,[i])
  | _=>none
 | f+1,.agg cs=>
  match ny (pk H f) cs with
  | some (vc,ds,l)=>some (vc/\lR ds,.agg ds,l)
  | none=>none
 | f+1,.tup cs=>
  match ny (pk H f) cs with
  | some (vc,ds,l)=>some (vc,.tup ds,l)
  | none=>none
 | _,.own i=>
  match H[i]? with
  | some (.val x)=>some (True,x,[i])
  | _=>none
 | _,_=>none
def Fu (h:FZ S w x v) (hx:vM x=true):OW w x v []:=by
 cases h <;> simp[vM] at hx
 ·exact .int (by assumption)
 ·exact .bool
 ·exact .raw (by assumption)
 ·exact .nil
def flatMap_nil (m:Nat):(List.range m).flatMap (fun _=>([]:List Nat))=[]:=by simp
def IV (h:FZ S w x v) (hx:AZ x=true):OW w x v []:=by
 cases x with
 | agg cs=>
  cases h with
  | agg hl h1 hj=>
   simp only[AZ,lj] at hx;have:=OW.agg (w:=w) (cs:=cs) (fun _=>[]) hl h1 (fun j hj'=>Fu (hj j hj') (hx _ (av hj')))
   rwa [flatMap_nil] at this
 | _=>exact Fu h hx
def Ls (h:FZ S w x v) (hx:sZ x=true):OW w x v []:=by
 cases x with
 | tup cs=>
  cases h with
  | tup hl hj=>
   simp only[sZ,lj] at hx;have:=OW.tup (w:=w) (xs:=cs) (fun _=>[]) hl (fun j hj'=>IV (hj j hj') (hx _ (av hj')))
   rwa [flatMap_nil] at this
 | _=>exact IV h hx
def nq (φ : List (List Nat)) (ids:List Nat):List Nat:=ids.flatMap fun i=>φ.getD i []
def DW {f:I->Option (Prop×D×List Nat)}(hf : ∀ x v vc d l,V S φ H w x v->f x=some (vc,d,l)->vc->OW w d v (nq φ l)) :
  ∀ (cs:List I) {vc:Prop}{ds:List D}{l:List Nat},ny f cs=some (vc,ds,l)->vc->ds.length=cs.length/\
   ∃ F:Nat->List Nat,nq φ l=(List.range cs.length).flatMap F/\∀ j,j<cs.length->∀ v,V S φ H w (cs.getD j .junk) v->OW w (ds.getD j .nil) v (F j)
 | [],vc,ds,l,h,hvc=>by
  simp only[ny,aD,aH] at h;obtain⟨_,rfl,rfl⟩:=h;exact⟨rfl,fun _=>[],by simp[nq],by simp⟩
 | x::r,vc,ds,l,h,hvc=>by
  simp only[ny] at h;split at h
  ·rename_i vc1 d l1 vc2 ds' l2 h1 h2;simp only[aD,aH] at h;obtain⟨rfl,rfl,rfl⟩:=h;obtain⟨e1,F,e2,e3⟩:=DW hf r h2 hvc.2;refine⟨by simp[e1],fun j=>match j with|0=>nq φ l1|j+1=>F j,?_,fun j hj v hv=>?_⟩
   ·simp only[cU,List.range_succ_eq_map,mA,List.flatMap_map];rw[<-e2];simp[nq]
   ·cases j with
    | zero=>exact hf x v vc1 d l1 (by simpa [List.getD] using hv) h1 hvc.1
    | succ j=>simpa [List.getD] using e3 j (by simpa using hj) v (by simpa [List.getD] using hv)
  ·simp at h
def IS : ∀ {ds:List D},lR ds->∀ c∈ds,c.one=true
 | [],_,c,hc=>by simp at hc
 | x::r,h,c,hc=>by
  rcases List.mem_cons.1 hc with rfl|hc
  ·exact h.1
  ·exact IS h.2 c hc
def CJ (s:aK S φ H w) : ∀ (f:Nat) {x:I}{v:Value}{vc:Prop}{d:D}{l:List Nat},V S φ H w x v->pk H f x=some (vc,d,l)->vc->OW w d v (nq φ l):=by
 have row : ∀ {i g k lo m:Nat}{v:Value}{vc:Prop}{d:D}{l:List Nat},V S φ H w (.sl i g k lo m) v->
   (match H[i]? with|some (.row g' k' (.own []) l)=>some (g=g'/\k=k'/\lo=0/\m=l.length,D.lst k l,[i])|_=>none)=some (vc,d,l)->vc->OW w d v (nq φ l):=by
  intro i g k lo m v vc d l hv h hvc;split at h
  ·rename_i g' k' L hi;simp only[aD,aH] at h;obtain⟨rfl,rfl,rfl⟩:=h;obtain⟨rfl,rfl,rfl,rfl⟩:=hvc;have hfp:nq φ [i] = φ.getD i []:=by simp[nq]
   rw[hfp];cases hv with
   | sl hlt hg hrel h1=>
    obtain⟨hsl,hle⟩:=hrel true L hi;obtain⟨hk,he,ho,hlim,hr⟩:=s.rel i _ hi;rcases hsl with⟨hfp,_,hl0,rfl⟩|⟨b,rest,cap,arr,ty,a,hfp,rfl,hn,hcp,hlim',hb,hfit⟩
    ·rw[hfp,zL hl0];exact .lst0 hk
    ·obtain⟨rfl,hfit'⟩:=hfit (.inr rfl);rcases hr with⟨e,_⟩|⟨b',rest',arr',ty',e,hb',hsz,F,rfl,hF⟩
     ·rw[hfp] at e;simp at e
     ·rw[hfp] at e;simp at e;obtain⟨rfl,rfl⟩:=e;rw[hb] at hb';simp at hb';obtain⟨rfl,rfl⟩:=hb';rw[hfp];have:=OW.lst (w:=w) F hk he ho hn hcp hlim' hb (by omega) hF.2;simpa using this
  ·simp at h
 have own : ∀ {i:Nat}{v:Value}{vc:Prop}{d:D}{l:List Nat},V S φ H w (.own i) v->
   (match H[i]? with|some (.val x)=>some (True,x,[i])|_=>none)=some (vc,d,l)->vc->OW w d v (nq φ l):=by
  intro i v vc d l hv h hvc;split at h
  ·rename_i x hi;simp only[aD,aH] at h;obtain⟨rfl,rfl,rfl⟩:=h;have hfp:nq φ [i] = φ.getD i []:=by simp[nq]
   rw[hfp];cases hv with
   | own hlt hrel=>exact hrel x hi
  ·simp at h
 have dat : ∀ {x:D}{v:Value}{vc:Prop}{d:D}{l:List Nat},V S φ H w (.d x) v->some (sZ x=true,x,([]:List Nat))=some (vc,d,l)->vc->OW w d v (nq φ l):=by
  intro x v vc d l hv h hvc;simp only[aD,aH] at h;obtain⟨rfl,rfl,rfl⟩:=h;exact Ls hv.fz hvc
 intro f;induction f with
 | zero=>
  intro x v vc d l hv h hvc;cases x <;> simp only[pk,reduceCtorEq] at h
  ·exact dat hv h hvc
  ·exact row hv h hvc
  ·exact own hv h hvc
 | succ f ih=>
  intro x v vc d l hv h hvc;cases x <;> simp only[pk,reduceCtorEq] at h
  ·exact dat hv h hvc
  ·rename_i cs;split at h
   ·rename_i vc' ds l' hp;simp only[aD,aH] at h;obtain⟨rfl,rfl,rfl⟩:=h;obtain⟨e1,F,e2,e3⟩:=DW (fun x v vc d l h1 h2 h3=>ih h1 h2 h3) cs hp hvc.1;cases hv with
    | agg hl h1 hj=>
     rw[e2,<-e1];exact .agg F (by omega) (IS hvc.2) fun j hj'=>e3 j (by omega) _ (hj j (by omega))
   ·simp at h
  ·exact row hv h hvc
  ·rename_i cs;split at h
   ·rename_i vc' ds l' hp;simp only[aD,aH] at h;obtain⟨rfl,rfl,rfl⟩:=h;obtain⟨e1,F,e2,e3⟩:=DW (fun x v vc d l h1 h2 h3=>ih h1 h2 h3) cs hp hvc;cases hv with
    | tup hl hj=>
     rw[e2,<-e1];exact .tup F (by omega) fun j hj'=>e3 j (by omega) _ (hj j (by omega))
   ·simp at h
  ·exact own hv h hvc
def fQ:D->D->Prop
 | .nil,.lst k l=>0<k/\l=[]
 | x,y=>x=y
def iW:List D->List D->Prop
 | [],[]=>True
 | x::r,y::s=>fQ x y/\iW r s
 | _,_=>False
def fY:D->D->Prop
 | .agg xs,.agg ys=>iW xs ys
 | x,y=>fQ x y
def og:List D->List D->Prop
 | [],[]=>True
 | x::r,y::s=>fY x y/\og r s
 | _,_=>False
def wk:D->D->Prop
 | .tup xs,.tup ys=>og xs ys
 | x,y=>fY x y
def Js (h:fQ x y):y.one=x.one:=by
 unfold fQ at h;split at h
 ·rfl
 ·rw[h]
def Cv : ∀ {xs ys:List D},iW xs ys->xs.length=ys.length/\∀ j,j<xs.length->fQ (xs.getD j .nil) (ys.getD j .nil)
 | [],[],_=>⟨rfl,by simp⟩
 | x::r,y::s,h=>by
  obtain⟨h1,h2⟩:=Cv h.2;refine⟨by simp[h1],fun j hj=>?_⟩;cases j with
  | zero=>simpa [List.getD] using h.1
  | succ j=>simpa [List.getD] using h2 j (by simpa using hj)
 | [],_::_,h=>h.elim
 | _::_,[],h=>h.elim
def zu : ∀ {xs ys:List D},og xs ys->xs.length=ys.length/\∀ j,j<xs.length->fY (xs.getD j .nil) (ys.getD j .nil)
 | [],[],_=>⟨rfl,by simp⟩
 | x::r,y::s,h=>by
  obtain⟨h1,h2⟩:=zu h.2;refine⟨by simp[h1],fun j hj=>?_⟩;cases j with
  | zero=>simpa [List.getD] using h.1
  | succ j=>simpa [List.getD] using h2 j (by simpa using hj)
 | [],_::_,h=>h.elim
 | _::_,[],h=>h.elim
def J2 (h:fQ x y) (ho:OW w x v fp):OW w y v fp:=by
 unfold fQ at h;split at h
 ·obtain⟨hk,rfl⟩:=h;cases ho;exact .lst0 hk
 ·rw[<-h];exact ho
def GX (h:fY x y) (ho:OW w x v fp):OW w y v fp:=by
 unfold fY at h;split at h
 ·rename_i xs ys;obtain⟨hl,hg⟩:=Cv h;cases ho with
  | agg F hl' h1 hj=>
   rw[hl];refine .agg F (by omega) ?_ fun j hj'=>J2 (hg j (by omega)) (hj j (by omega))
   intro c hc;obtain⟨j,hj',rfl⟩:=fM hc;rw[ko _ _ _ .nil,Js (hg j (by omega))];exact h1 _ (av (by omega))
 ·exact J2 h ho
def rb (h:wk x y) (ho:OW w x v fp):OW w y v fp:=by
 unfold wk at h;split at h
 ·rename_i xs ys;obtain⟨hl,hg⟩:=zu h;cases ho with
  | tup F hl' hj=>
   rw[hl];exact .tup F (by omega) fun j hj'=>GX (hg j (by omega)) (hj j (by omega))
 ·exact GX h ho
def JO (h:fQ x y) (ho:FZ S w x v):FZ S w y v:=by
 unfold fQ at h;split at h
 ·obtain⟨hk,rfl⟩:=h;cases ho;exact .lst0 hk
 ·rw[<-h];exact ho
def Bu (h:fY x y) (ho:FZ S w x v):FZ S w y v:=by
 unfold fY at h;split at h
 ·rename_i xs ys;obtain⟨hl,hg⟩:=Cv h;cases ho with
  | agg hl' h1 hj=>
   refine .agg (by omega) ?_ fun j hj'=>JO (hg j (by omega)) (hj j (by omega))
   intro c hc;obtain⟨j,hj',rfl⟩:=fM hc;rw[ko _ _ _ .nil,Js (hg j (by omega))];exact h1 _ (av (by omega))
 ·exact JO h ho
def pE (h:wk x y) (ho:FZ S w x v):FZ S w y v:=by
 unfold wk at h;split at h
 ·rename_i xs ys;obtain⟨hl,hg⟩:=zu h;cases ho with
  | tup hl' hj=>exact .tup (by omega) fun j hj'=>Bu (hg j (by omega)) (hj j (by omega))
 ·exact Bu h ho
def tD {t:Nat}{ti:TI}(h1:(P.info? t).map (fun i=>(i.size,i.bytes,i.zero))=some (ti.size,ti.bytes,some (bc ti.zero))) (h2:(P.underlying t).map eH=some ti.ty)
  (h3:rK ti.zero=true) (h4:ti.zero.cells.length=ti.size) (h5:(match ti.zero with|.agg _=>true|_=>false)=ti.ty.agg) (h6:yy P t=true):aZ P t ti:=by
 cases hi:P.info? t with
 | none=>simp[hi] at h1
 | some i=>
  cases hu:P.underlying t with
  | none=>simp[hu] at h2
  | some d=>
   simp[hi] at h1;simp[hu] at h2;exact⟨⟨i,d,hi,h1.1,h1.2.1,h1.2.2,hu,h2⟩,h3,h4,h5,h6⟩
def qC (x:D):Option (Prop×D×List Nat)->Prop
 | some (vc,x',ids)=>vc/\ids.Nodup/\wk x' x
 | none=>False
def ye (x:D):Option (Prop×D)->Prop
 | some (vc,x')=>vc/\wk x' x
 | none=>False
def jw:Nat->List I->List (Nat×I)
 | _,[]=>[]
 | t,x::r=>(t,x)::jw (t+1) r
def MN (args:List I) (t s:Nat):look s (jw t args)=if t<=s/\s<t+args.length then args.getD (s-t) .junk else .junk:=by
 induction args generalizing t with
 | nil=>simp[jw,look]
 | cons x r ih=>
  simp only[jw,look,ih,cU];by_cases h:t=s
  ·subst h;simp[List.getD]
  ·rw[if_neg h];by_cases h2:t+1<=s/\s<t+1+r.length
   ·rw[if_pos h2,if_pos (by omega),show s-t=(s-(t+1))+1 by omega];simp[List.getD]
   ·rw[if_neg h2,if_neg (by omega)]
def zU {vs:Array Value}{nt:Nat}(hl:vs.size=args.length) (hv : ∀ j,j<args.length->V S φ H w (args.getD j .junk) (vs.getD j undef)) (hn:args.length<=nt) :
  c7 S φ H w ⟨nt,jw 0 args⟩ { tmps:=vs++Array.replicate (nt-vs.size) undef,defers:=[] }:=by
 refine⟨rfl,by simp;omega,fun t=>?_⟩;show V S φ H w (look t (jw 0 args)) _
 rw[MN];by_cases h:t<args.length
 ·rw[if_pos ⟨kr _,by omega⟩];have e:(vs++Array.replicate (nt-vs.size) undef).getD t undef=vs.getD t undef:=by
   simp only[Array.getD_eq_getD_getElem?];rw[Array.getElem?_append_left (by omega)]
  rw[e];exact hv t h
 ·rw[if_neg (by omega)];exact .junk
def endsWith (T:Nat->Option TI) (fn:Func) (Po:Fr->I->List R->Prop):aX:=fun e fr H=>
 match e with
 | .normal=>match eT T H fr fn.results.toList with|some (vc,r)=>vc/\Po fr r H|none=>False
 | .ret=>match eT T H fr fn.results.toList with|some (vc,r)=>vc/\Po fr r H|none=>False
 | _=>False
def JR (hT : bO P T)     {Po : I -> List R -> Prop} (hf : P.funcs[f]? = some fn) (hb : fn.body = some c) (hnm : (fn.name == "runtime.NumGoroutine") = false) (hn : args.length <= fn.ntmps)
  (h:cJ P H.length c (endsWith T fn (fun fr r H'=>∃ fr' H'',a0 H.length (⟨1,[(0,r)]⟩:Fr) H' fr' H''/\fr'.n=1/\Po (fr'.get 0) H'')) ⟨fn.ntmps,jw 0 args⟩ H):aQ P f args H Po:=by
 refine⟨tP hf hb hnm,fun S φ vs w Rr s hl hv hr=>calls_of_wp hf hb ?_⟩;refine h S φ _ w _ (aC _) s (zU hl hv hn) ?_;intro e a' w' S' φ' fr' H' s' hf' he ht hq;have fin : ∀ vc r,eT T H' fr' fn.results.toList=some (vc,r)->vc/\(∃ fr'' H'',a0 H.length (⟨1,[(0,r)]⟩:Fr) H' fr'' H''/\fr''.n=1/\Po (fr''.get 0) H'')->a'.defers=[]/\∃ v,(results fn a'.tmps).run P w'=.ok v w'/\Rr (.returned v) w':=by
  rintro vc0 r hres ⟨hvc0,fr'',H'',g,hn1,hpo⟩;obtain⟨v,hrun,hv⟩:=zW hT s' hf' hres hvc0;refine⟨hf'.defers,v,hrun,?_⟩;obtain⟨S2,φ2,s2,hf2,he2,ht2⟩:=g S' φ' w' { tmps:=#[v],defers:=[] } ht.len s' ⟨rfl,rfl,fun t=>by
   show V S' φ' H' w' (look t [(0,r)]) _
   simp only[look];by_cases h0:0=t
   ·subst h0;rw[if_pos rfl];exact hv
   ·rw[if_neg h0];exact .junk⟩
  exact hr v w' S2 φ2 _ H'' s2 (hf2.val 0) (he.trans he2) (ht.trans ht2) hpo
 cases e <;> simp only[endsWith] at hq
 ·split at hq
  ·exact fin _ _ (by assumption) hq
  ·exact hq.elim
 all_goals first
  | exact hq.elim
  | (
    split at hq
    ·exact fin _ _ (by assumption) hq
    ·exact hq.elim)
def Bz {S':Nat->Prop}{φ':List (List Nat)}{w':World}(he:Ext S [] w S' φ' w'):b7 w w':=
 ⟨he.os,he.tape,he.output,he.size,fun b hb=>he.bi b hb (by rintro⟨i,hi⟩;simp[List.getD] at hi)⟩
def Ba (hS : ∀ b,S b->b<w.heap.size):aK S [] [] w:=
 ⟨rfl,fun i=>by simp[List.getD],fun i j b hb=>by simp[List.getD] at hb,fun b ⟨i,hi⟩=>by simp[List.getD] at hi,fun b ⟨i,hi⟩=>by simp[List.getD] at hi,hS,fun i r hr=>by simp at hr⟩
def Cq (s:aK S φ H w) {ids:List Nat}(h:ids.Nodup):(nq φ ids).Nodup:=by
 unfold nq;induction ids with
 | nil=>simp
 | cons i r ih=>
  rw[List.nodup_cons] at h;simp only[mA];rw[uf];refine⟨s.nd i,ih h.2,?_⟩;intro b hb c hc hbc;subst hbc;obtain⟨j,hj,hc⟩:=List.mem_flatMap.1 hc;have:=s.dj i j b hb hc;subst this;exact h.1 hj
def JN (hT : bO P T)      (hf : P.funcs[f]? = some fn) (hb : fn.body = some c) (hnm : (fn.name == "runtime.NumGoroutine") = false) (hn : ds.length <= fn.ntmps)
  (h:cJ P 0 c (endsWith T fn (fun fr r H'=>qC x (pk H' 3 r))) ⟨fn.ntmps,jw 0 (ds.map .d)⟩ []):Pure P f ds x:=by
 refine⟨tP hf hb hnm,fun S vs w Rr hS ha hr=>calls_of_wp hf hb ?_⟩;have s:=Ba hS;refine h S [] _ w _ (aC _) s (zU (by simpa using ha.1) (fun j hj=>?_) (by simpa using hn)) ?_
 ·simp only[ie] at hj;have e:(ds.map I.d).getD j .junk=.d (ds.getD j .nil):=by simp[List.getD,hj]
  rw[e];exact .d (ha.2 j hj)
 intro e a' w' S' φ' fr' H' s' hf' he ht hq;have fin : ∀ vc r,eT T H' fr' fn.results.toList=some (vc,r)->vc/\(qC x (pk H' 3 r))->a'.defers=[]/\∃ v,(results fn a'.tmps).run P w'=.ok v w'/\Rr (.returned v) w':=by
  rintro vc0 r hres ⟨hvc0,hp⟩;obtain⟨v,hrun,hv⟩:=zW hT s' hf' hres hvc0;refine⟨hf'.defers,v,hrun,?_⟩;unfold qC at hp;split at hp
  ·rename_i vc x' ids hpk;obtain⟨hvc,hnd,hw⟩:=hp;have how:=rb hw (CJ s' 3 hv hpk hvc);refine hr v w' _ how (Cq s' hnd) ?_ (Bz he);intro b hb;obtain⟨i,_,hb⟩:=List.mem_flatMap.1 hb;rcases he.fp b ⟨i,hb⟩ with⟨j,hj⟩|h
   ·simp[List.getD] at hj
   ·exact h
  ·exact hp.elim
 cases e <;> simp only[endsWith] at hq
 ·split at hq
  ·exact fin _ _ (by assumption) hq
  ·exact hq.elim
 all_goals first
  | exact hq.elim
  | (
    split at hq
    ·exact fin _ _ (by assumption) hq
    ·exact hq.elim)
def OM (hT : bO P T)      (hf : P.funcs[f]? = some fn) (hb : fn.body = some c) (hnm : (fn.name == "runtime.NumGoroutine") = false) (hn : ds.length <= fn.ntmps)
  (h:cJ P 0 c (endsWith T fn (fun fr r H'=>ye x (view H' 3 r))) ⟨fn.ntmps,jw 0 (ds.map .d)⟩ []):bk P f ds x:=by
 refine⟨tP hf hb hnm,fun S vs w Rr hS ha hr=>calls_of_wp hf hb ?_⟩;have s:=Ba hS;refine h S [] _ w _ (aC _) s (zU (by simpa using ha.1) (fun j hj=>?_) (by simpa using hn)) ?_
 ·simp only[ie] at hj;have e:(ds.map I.d).getD j .junk=.d (ds.getD j .nil):=by simp[List.getD,hj]
  rw[e];exact .d (ha.2 j hj)
 intro e a' w' S' φ' fr' H' s' hf' he ht hq;have fin : ∀ vc r,eT T H' fr' fn.results.toList=some (vc,r)->vc/\(ye x (view H' 3 r))->a'.defers=[]/\∃ v,(results fn a'.tmps).run P w'=.ok v w'/\Rr (.returned v) w':=by
  rintro vc0 r hres ⟨hvc0,hp⟩;obtain⟨v,hrun,hv⟩:=zW hT s' hf' hres hvc0;refine⟨hf'.defers,v,hrun,?_⟩;unfold ye at hp;split at hp
  ·rename_i vc x' hvw;refine hr v w' (jJ S' φ') (fun b hb=>.inl (he.sub b hb)) ?_ (fun b hb=>hb.elim (s'.slt b) (s'.lt b)) (pE hp.2 (xu s' 3 hv hvw hp.1)) (Bz he);intro b hb;have hno : ¬ aR [] b:=by rintro⟨i,hi⟩;simp[List.getD] at hi
   rcases hb with hb|hb
   ·rcases he.sfp b hb with h|h|h
    ·exact .inl h
    ·exact absurd h hno
    ·exact .inr h
   ·rcases he.fp b hb with h|h
    ·exact absurd h hno
    ·exact .inr h
  ·exact hp.elim
 cases e <;> simp only[endsWith] at hq
 ·split at hq
  ·exact fin _ _ (by assumption) hq
  ·exact hq.elim
 all_goals first
  | exact hq.elim
  | (
    split at hq
    ·exact fin _ _ (by assumption) hq
    ·exact hq.elim)
end Go.VL
namespace Go.VL
set_option linter.defProp false
variable {i t:Nat}{x y:I}{op:Op}{H':List R}{vc:Prop}{o:Oper}{w':World}{all:List Oper}{K:Fr->Prop}
inductive fL where
 | low
 | both
 | sD
variable {deep:fL}
def fL.agg:fL->Bool
 | .sD=>false
 | _=>true
def fL.sl:fL->Bool
 | .both=>true
 | _=>false
structure Env where
 P:Program
 T:Nat->Option TI
 pf:Nat->Kind
 n:Nat
 deep:fL:=.low
inductive Item where
 | code (c:Code)
 | blk (id:Nat)
def dG (E:Env):List Item->aX->aX
 | [],Q=>Q
 | .code c::ks,Q=>xZ (fun fr H=>cJ E.P E.n c (dG E ks Q) fr H) (dG E ks Q)
 | .blk id::ks,Q=>A0 id (dG E ks Q)
def iR (id:Nat):List Item->Option (List Item)
 | []=>none
 | .code _::ks=>iR id ks
 | .blk id'::ks=>if id=id' then some ks else iR id ks
def Fq (x:D) (H:List R) (r:I) (H':List R):Prop:=
 ∀ (S:Nat->Prop) (φ : List (List Nat)) (w w':World) (v:Value) (fp:List Nat),aK S φ H w->OW w' x v fp->fp.Nodup->(∀ b∈fp,w.heap.size<=b)->b7 w w'->
  ∃ S' φ',aK S' φ' H' w'/\Tr H.length S φ H w S' φ' H' w'/\Ext S φ w S' φ' w'/\V S' φ' H' w' r v
def CC (x:D) (H:List R) (k:I->List R->Prop):Prop:=k (.d x) H∨∃ r H',Fq x H r H'/\k r H'
def w9 (E:Env) (f:Nat) (ds:List D) (H:List R) (k:I->List R->Prop):Prop:=∃ ψ,dM E.P f ds ψ/\∀ x,ψ x->CC x H k
def yU (E:Env) (f:Nat) (ds:List D) (H:List R) (k:I->List R->Prop):Prop:=∃ ψ,jD E.P f ds ψ/\∀ x,ψ x->k (.d x) H
def Bm (E:Env) (e:Bool) (f:Nat) (ds:List D) (k:I->Prop):Prop:=∃ x,(e=true->Pure E.P f ds x)/\k (.cond e (.d x))
def nE (E:Env) (c:Prop) (fn:Option (Nat×List I)) (args:List I) (H:List R) (K:I->List R->Prop):Prop:=
 match fn with
 | some (f,caps)=>
  match E.pf f with
  | .own=>
   match mh H (args++caps) with
   | some (vc,ds)=>c/\vc/\w9 E f ds H K
   | none=>False
  | .fz=>
   match pz (args++caps) with
   | some (vc,ds)=>c/\vc/\yU E f ds H K
   | none=>False
  | .proc=>c/\aQ E.P f (args++caps) H K
 | none=>False
def u7 (E:Env) (c:Prop) (e:Bool) (fn:Option (Nat×List I)) (args:List I) (H:List R) (K:List R->I->Prop):Prop:=
 match fn with
 | some (f,caps)=>
  match E.pf f with
  | .own=>
   match mh H (args++caps) with
   | some (vc,ds)=>(e=true->c/\vc)/\Bm E e f ds (K H)
   | none=>False
  | .proc=>(e=false->∃ x,K H (.cond e x))/\(e=true->c/\aQ E.P f (args++caps) H (fun r H'=>K H' (.cond e r)))
  | .fz=>(e=false->∃ x,K H (.cond e x))/\(e=true->match pz (args++caps) with
   | some (vc,ds)=>c/\vc/\yU E f ds H (fun r H'=>K H' (.cond e r))
   | none=>False)
 | none=>False
section frz
variable {S:Nat->Prop}{φ : List (List Nat)}{H:List R}{w:World}
def aK.freeze (s:aK S φ H w) {g k:Nat}{dp:DP}{l:List D}(hd:dp.shut=true) (hi:H[i]?=some (.row g k dp l)) :
  aK (fun b=>S b∨b∈φ.getD i []) (φ.set i []) (H.set i (.dead g)) w/\Tr H.length S φ H w (fun b=>S b∨b∈φ.getD i []) (φ.set i []) (H.set i (.dead g)) w/\
  Ext S φ w (fun b=>S b∨b∈φ.getD i []) (φ.set i []) w/\
  ∀ {lo n:Nat}{v:Value},V S φ H w (.sl i g k lo n) v->FZ (fun b=>S b∨b∈φ.getD i []) w (.lst k ((l.drop lo).take n)) v:=by
 have hlt:i<H.length:=(List.getElem?_eq_some_iff.1 hi).1;have hget : ∀ j,(φ.set i []).getD j []=if i=j/\j < φ.length then [] else φ.getD j []:=fun j=>xN φ i j []
 have hne : ∀ j,j≠i->(φ.set i []).getD j [] = φ.getD j []:=fun j h=>by rw[hget,if_neg (by omega)]
 have heq:(φ.set i []).getD i []=[]:=by rw[hget,if_pos ⟨rfl,by rw[s.len];exact hlt⟩]
 have hfoot : ∀ b,aR (φ.set i []) b->aR φ b/\b∉φ.getD i []:=by
  rintro b ⟨j,hj⟩;by_cases h:j=i
  ·subst h;rw[heq] at hj;simp at hj
  ·rw[hne j h] at hj;exact⟨⟨j,hj⟩,fun h2=>h (s.dj j i b hj h2)⟩
 have hsome : ∀ j r,(H.set i (.dead g))[j]?=some r->(j=i/\r=.dead g)∨(j≠i/\H[j]?=some r):=by
  intro j r hr;rw[List.getElem?_set] at hr;split at hr
  ·rename_i h;simp at hr;exact .inl ⟨h.symm,hr.symm⟩
  ·rename_i h;exact .inr ⟨fun h2=>h h2.symm,hr⟩
 have htr:Tr H.length S φ H w (fun b=>S b∨b∈φ.getD i []) (φ.set i []) (H.set i (.dead g)) w:=by
  refine⟨fun _ h=>.inl h,fun _ _=>rfl,aC _,by simp,?_,?_,?_,?_,?_⟩
  ·intro j hj;by_cases h:j=i
   ·subst h;have e1:H.getD j (.dead 0)=.row g k dp l:=by simp only[List.getD,hi,i9]
    have e2:(H.set j (.dead g)).getD j (.dead 0)=.dead g:=by simp[List.getD,hlt]
    rw[e1,e2];exact aC _
   ·have e1:(H.set i (.dead g)).getD j (.dead 0)=H.getD j (.dead 0):=by simp[List.getD,List.getElem?_set,Ne.symm h]
    rw[e1];exact aC _
  ·intro j g2 k2 dp' l' hj hl';rcases hsome j _ hl' with⟨_,h⟩|⟨h,h2⟩
   ·cases h
   ·exact .inr ⟨dp',l',h2,by rw[hne j h],aC _,fun b rest arr ty e1 e2=>⟨arr,ty,e2,aC _⟩⟩
  ·intro j cs hj hl';rcases hsome j _ hl' with⟨_,h⟩|⟨h,h2⟩
   ·cases h
   ·exact⟨cs,h2,hne j h⟩
  ·intro j cs hj hl';rcases hsome j _ hl' with⟨_,h⟩|⟨h,h2⟩
   ·cases h
   ·exact⟨cs,h2,hne j h⟩
  ·intro j x hj hl';rcases hsome j _ hl' with⟨_,h⟩|⟨h,h2⟩
   ·cases h
   ·exact⟨h2,hne j h,fun _ _=>rfl⟩
 refine⟨⟨by simp[s.len],?_,?_,fun b hb=>s.lt b (hfoot b hb).1,?_,?_,?_⟩,htr,⟨rfl,rfl,rfl,aC _,fun _ _ _=>rfl,fun b hb=>.inl (hfoot b hb).1,fun _ h=>.inl h,?_⟩,?_⟩
 ·intro j;by_cases h:j=i
  ·subst h;rw[heq];simp
  ·rw[hne j h];exact s.nd j
 ·intro j m b hb hb';by_cases h:j=i
  ·subst h;rw[heq] at hb;simp at hb
  ·by_cases h':m=i
   ·subst h';rw[heq] at hb';simp at hb'
   ·rw[hne j h] at hb;rw[hne m h'] at hb';exact s.dj j m b hb hb'
 ·rintro b hb (h|h)
  ·exact s.off b (hfoot b hb).1 h
  ·exact(hfoot b hb).2 h
 ·rintro b (h|h)
  ·exact s.slt b h
  ·exact s.lt b ⟨i,h⟩
 ·intro j r hr;rcases hsome j r hr with⟨rfl,rfl⟩|⟨h,h2⟩
  ·trivial
  ·rw[hne j h];exact(s.rel j r h2).tr htr fun _ _=>rfl
 ·rintro b (h|h)
  ·exact .inl h
  ·exact .inr (.inl ⟨i,h⟩)
 ·intro lo n v hv;cases hv with
  | sl hlt hg hrel h1=>
   obtain⟨hsl,hle⟩:=hrel dp l hi;obtain⟨hk,he,ho,hlim,hr⟩:=s.rel i _ hi;have hlen:((l.drop lo).take n).length=n:=by simp;omega
   rcases hsl with⟨hfp,rfl,rfl,rfl⟩|⟨b,rest,cap,arr,ty,a,hfp,rfl,hn,hcp,hlim',hb,hfit⟩
   ·simp only[List.take_zero];exact .lst0 hk
   ·by_cases hn0:n=0
    ·subst hn0;simp only[List.take_zero];exact .lst0 hk
    ·obtain⟨rfl,hfit'⟩:=hfit (.inl hn0);rcases hr with⟨e,_⟩|⟨b',rest',arr',ty',e,hb',hsz,hrr⟩
     ·rw[hfp] at e;simp at e
     ·have e2:=e;rw[hfp] at e;simp at e;obtain⟨rfl,rfl⟩:=e;rw[hb] at hb';simp at hb';obtain⟨rfl,rfl⟩:=hb';have hz : ∀ j,j<(flat l).length->FZ (fun b=>S b∨b∈φ.getD i []) w ((flat l).getD j .nil) (arr.getD j undef):=by
       match dp,hd with
       | .fz,_=>exact fun j hj=>(hrr.2 j hj).mono (fun b hb=>.inl hb) (fun _ _=>rfl)
       | .own [],_=>
        obtain⟨F,hF0,_,hF⟩:=hrr;exact fun j hj=>OW.fz (hF j hj) fun b2 hb2=>.inr (by rw[hfp,hF0];exact fP _ (mK hj hb2))
       | .own (_::_),hd=>simp[DP.shut] at hd
      have hmemE : ∀ x∈(l.drop lo).take n,x∈l:=fun x hx=>pt (jX hx)
      have g1 : ∀ x∈(l.drop lo).take n,x.cells.length=k:=fun x hx=>he x (hmemE x hx)
      have hfl':=ao g1;rw[hlen] at hfl';have hnk:n*k<=cap*k:=jS _ hn;have:=FZ.lst (S:=fun b=>S b∨b∈φ.getD i []) (w:=w) (k:=k) (l:=(l.drop lo).take n) (b:=b) (off:=lo*k) (cap:=cap) (fun j=>arr.getD (lo*k+j) undef) hk g1 ?_ (by omega) (by omega) (.inr (by rw[hfp];simp)) ?_ ?_
      ·rw[hlen] at this;exact this
      ·intro c hc';obtain⟨x,hx,hcx⟩:=nB.1 hc';exact ho c (nB.2 ⟨x,hmemE x hx,hcx⟩)
      ·intro j hj;have:lo*k+j<arr.size:=by omega
       rw[cell_of_row w b _ arr ty (0,0) hb];simp[Array.getD,this]
      ·intro j hj;obtain⟨f1,f2⟩:=Bd hk he hle j (by omega);rw[f2];exact hz _ f1
end frz
def FZ.Dq {S:Nat->Prop}{w:World}{x:D}{v:Value}(h:FZ S w x v) (h1:v.oneCell'=true):x.one=true:=by
 cases h <;> first|rfl|simp[Value.oneCell'] at h1
def kf:List I->List R->Option (Prop×List D×List R)
 | [],H=>some (True,[],H)
 | .d x::r,H=>
  match kf r H with
  | some (c,xs,H')=>some (c,x::xs,H')
  | none=>none
 | .sl i g k lo n::r,H=>
  match H[i]? with
  | some (.row g' k' dp l)=>
   match kf r (H.set i (.dead g')) with
   | some (c,xs,H')=>some ((g=g'/\k=k'/\dp.shut=true)/\c,.lst k ((l.drop lo).take n)::xs,H')
   | none=>none
  | _=>none
 | _::_,_=>none
def CQ {w:World} : ∀ (cs:List I) {S:Nat->Prop}{φ : List (List Nat)}{H:List R}{vals:Nat->Value}{fc:Prop}{cs':List D}{H':List R},aK S φ H w->(∀ j,j<cs.length->V S φ H w (cs.getD j .junk) (vals j))->kf cs H=some (fc,cs',H')->fc->
  ∃ S' φ',aK S' φ' H' w/\Ext S φ w S' φ' w/\Tr H.length S φ H w S' φ' H' w/\cs'.length=cs.length/\∀ j,j<cs.length->FZ S' w (cs'.getD j .nil) (vals j)
 | [],S,φ,H,vals,fc,cs',H',s,hv,h,hfc=>by
  simp only[kf,aD,aH] at h;obtain⟨_,rfl,rfl⟩:=h;exact⟨S,φ,s,Ext.refl ..,Tr.refl (aC _),rfl,fun j hj=>by simp at hj⟩
 | x::r,S,φ,H,vals,fc,cs',H',s,hv,h,hfc=>by
  have hx:V S φ H w x (vals 0):=hv 0 (by simp);have hr : ∀ j,j<r.length->V S φ H w (r.getD j .junk) (vals (j+1)):=fun j hj=>by simpa using hv (j+1) (by simpa using hj)
  cases x with
  | d y=>
   simp only[kf] at h;split at h
   ·rename_i c xs H2 he;simp only[aD,aH] at h;obtain⟨rfl,rfl,rfl⟩:=h;obtain⟨S',φ',s',e',t',hl,hk⟩:=CQ r s hr he hfc;refine⟨S',φ',s',e',t',by simp[hl],fun j hj=>?_⟩;cases j with
    | zero=>exact(hx.tr t').fz
    | succ j=>simpa using hk j (by simpa using hj)
   ·cases h
  | sl i g k lo n=>
   simp only[kf] at h;split at h
   ·rename_i g' k' dp l hi;split at h
    ·rename_i c xs H2 he;simp only[aD,aH] at h;obtain⟨rfl,rfl,rfl⟩:=h;obtain⟨⟨rfl,rfl,hsh⟩,hc⟩:=hfc;obtain⟨s1,t1,e1,z1⟩:=s.freeze hsh hi;have hlen:(H.set i (.dead g)).length=H.length:=by simp
     obtain⟨S',φ',s',e',t',hl,hk⟩:=CQ r s1 (fun j hj=>(hr j hj).tr t1) he hc;rw[hlen] at t';refine⟨S',φ',s',e1.trans e',t1.trans t',by simp[hl],fun j hj=>?_⟩;cases j with
     | zero=>exact(z1 hx).mono t'.sub t'.bi
     | succ j=>simpa using hk j (by simpa using hj)
    ·cases h
   ·cases h
  | _=>simp only[kf] at h;cases h
def r8 (fr:Fr) (H:List R):Op->Option (Prop×Fr×List R)
 | .buildSlice _ _ parts=>
  match parts.toList with
  | [(_,.tmp t)]=>
   match fr.get t with
   | .sl i g k lo n=>
    match H[i]? with
    | some (.row g' k' dp l)=>some (g=g'/\k=k'/\dp.shut=true,fr.put (some t) (.d (.lst k ((l.drop lo).take n))),H.set i (.dead g'))
    | _=>none
   | .agg cs=>
    match kf cs H with
    | some (fc,cs',H')=>some (fc,fr.put (some t) (.d (.agg cs')),H')
    | none=>none
   | _=>none
  | _=>none
 | _=>none
def JU {S:Nat->Prop}{φ : List (List Nat)}{H:List R}{w:World}{fr:Fr}{a:Act}(s:aK S φ H w) (hf:c7 S φ H w fr a) {fc:Prop}{fr':Fr}(h:r8 fr H op=some (fc,fr',H')) (hfc:fc) :
  ∃ S' φ',aK S' φ' H' w/\c7 S' φ' H' w fr' a/\Ext S φ w S' φ' w/\Tr H.length S φ H w S' φ' H' w:=by
 unfold r8 at h;split at h
 ·split at h
  ·rename_i t _;split at h
   ·rename_i i g k lo n hg;split at h
    ·rename_i g' k' dp l hi;simp only[aD,aH] at h;obtain⟨rfl,rfl,rfl⟩:=h;obtain⟨rfl,rfl,hsh⟩:=hfc;obtain⟨s1,t1,e1,z1⟩:=s.freeze hsh hi;have hv:=hf.val t;rw[hg] at hv;have hz:=z1 hv;have hf1:=hf.tr t1;refine⟨_,_,s1,⟨hf1.defers,?_,?_⟩,e1,t1⟩
     ·rw[hf1.size];simp only[Fr.put];split <;> rfl
     ·intro t';simp only[Fr.put];split
      ·simp only[Fr.get,look];split
       ·rename_i ht;subst ht;exact .d hz
       ·exact hf1.val t'
      ·exact hf1.val t'
    ·cases h
   ·rename_i cs hg;split at h
    ·rename_i fc0 cs' H2 he;simp only[aD,aH] at h;obtain⟨rfl,rfl,rfl⟩:=h;have hv:=hf.val t;rw[hg] at hv;obtain⟨vs,hvs,hsz,h1,hcs⟩ : ∃ vs:Array Value,a.tmps.getD t undef=.agg vs/\cs.length=vs.size/\(∀ j,j<cs.length->(vs.getD j undef).oneCell'=true)/\∀ j,j<cs.length->V S φ H w (cs.getD j .junk) (vs.getD j undef):=by
      generalize a.tmps.getD t undef=v at hv;cases hv with
      | agg hl h1 h=>exact⟨_,rfl,hl,h1,h⟩
     obtain⟨S',φ',s',e',t',hl,hk⟩:=CQ cs s hcs he hfc;have hf1:=hf.tr t';refine⟨S',φ',s',⟨hf1.defers,?_,?_⟩,e',t'⟩
     ·rw[hf1.size];simp only[Fr.put];split <;> rfl
     ·intro t2;simp only[Fr.put];split
      ·simp only[Fr.get,look];split
       ·rename_i ht;subst ht;rw[hvs];refine .d (.agg (by rw[hl];exact hsz) (fun c hc=>?_) (fun j hj=>hk j (by omega)));obtain⟨m,hm,rfl⟩:=fM hc;rw[ko _ _ _ .nil];exact(hk m (by omega)).Dq (h1 m (by omega))
       ·exact hf1.val t2
      ·exact hf1.val t2
    ·cases h
   ·cases h
  ·cases h
 ·cases h
def Gx {fr:Fr}{H:List R}{p:Prop×Fr×List R}(h:r8 fr H op=some p) : ∃ t n q,op=.buildSlice t n q:=by
 unfold r8 at h;split at h
 ·exact⟨_,_,_,rfl⟩
 ·cases h
section opn
variable {P:Program}{S:Nat->Prop}{φ : List (List Nat)}{H:List R}{w:World}{T:Nat->Option TI}{fr:Fr}{a:Act}
def uJ (H:List R) (i:Nat):Option (Prop×List R):=
 match H[i]? with
 | some (.row g k (.own ((idx,off,.sl r g' k' 0 n)::hs)) l)=>
  match H[r]? with
  | some (.row g2 k2 (.own []) es)=>some (g'=g2/\k'=k2/\r≠i/\apart idx off hs/\off<k/\idx<l.length,
    (H.set i (.row g k (.own hs) (cY k l idx off (.lst k' (es.take n))))).set r (.dead g2))
  | _=>none
 | _=>none
def L3 (s:aK S φ H w) (h:uJ H i=some (vc,H')) (hvc:vc) : ∃ φ',aK S φ' H' w/\Tr H.length S φ H w S φ' H' w/\Ext S φ w S φ' w:=by
 unfold uJ at h;split at h
 ·rename_i g k idx off r g' k' n hs l hi;split at h
  ·rename_i g2 k2 es hr;simp only[aD,aH] at h;obtain⟨rfl,rfl⟩:=h;obtain⟨rfl,rfl,h1,h2,h3,h4⟩:=hvc;exact s.close hi hr h1 h2 h3 h4
  ·simp at h
 ·simp at h
def lh:List Nat->List R->Prop×List R
 | [],H=>(True,H)
 | i::is,H=>
  match uJ H i with
  | some (vc,H')=>(vc/\(lh is H').1,(lh is H').2)
  | none=>lh is H
def EB : ∀ (is:List Nat) {φ : List (List Nat)}{H:List R},aK S φ H w->(lh is H).1->∃ φ',aK S φ' (lh is H).2 w/\Tr H.length S φ H w S φ' (lh is H).2 w/\Ext S φ w S φ' w
 | [],φ,H,s,_=>⟨φ,s,Tr.refl (aC _),Ext.refl ..⟩
 | i::is,φ,H,s,hvc=>by
  simp only[lh] at hvc ⊢;cases h:uJ H i with
  | none=>
   rw[h] at hvc;exact EB is s hvc
  | some p=>
   obtain⟨vc,H'⟩:=p;rw[h] at hvc;obtain⟨φ1,s1,t1,e1⟩:=L3 s h hvc.1;obtain⟨φ2,s2,t2,e2⟩:=EB is s1 hvc.2;exact⟨φ2,s2,t1.trans (t2.weaken t1.len),e1.trans e2⟩
def mG:List R->Bool
 | []=>false
 | .row _ _ (.own (_::_)) _::_=>true
 | _::r=>mG r
def idxs:List R->Nat->List Nat
 | [],_=>[]
 | _::r,n=>n::idxs r (n+1)
def shut (H:List R):Prop×List R:=
 match mG H with
 | true=>lh (idxs H 0++(idxs H 0++(idxs H 0++(idxs H 0++(idxs H 0++idxs H 0))))) H
 | false=>(True,H)
def BY (s:aK S φ H w) (hvc:(shut H).1) : ∃ φ',aK S φ' (shut H).2 w/\Tr H.length S φ H w S φ' (shut H).2 w/\Ext S φ w S φ' w:=by
 unfold shut at hvc ⊢;revert hvc
 cases mG H with
 | true=>exact fun hvc=>EB _ s hvc
 | false=>exact fun _=>⟨φ,s,Tr.refl (aC _),Ext.refl ..⟩
def re:D->Nat
 | .lst k _=>k
 | _=>0
def tN:D->Prop
 | .lst _ _=>True
 | _=>False
def oI:List D->Nat->List Nat
 | [],_=>[]
 | .nil::r,n=>n::oI r (n+1)
 | _::r,n=>oI r (n+1)
def nV (z:D) (i idx:Nat):List Nat->List R->Option (Prop×List R)
 | [],H=>some (True,H)
 | o::os,H=>
  match H[i]? with
  | some (.row g k (.own hs) l)=>
   match nV z i idx os (H.set i (.row g k (.own ((idx,o,.sl H.length 1 (re ((l.getD idx z).cellAt o)) 0 ((l.getD idx z).cellAt o).elems.length)::hs)) l) ++
     [.row 1 (re ((l.getD idx z).cellAt o)) (.own []) ((l.getD idx z).cellAt o).elems]) with
   | some (vc,H')=>some ((tN ((l.getD idx z).cellAt o)/\apart idx o hs/\o<k/\idx<l.length)/\vc,H')
   | none=>none
  | _=>none
def Gt {z:D}{i idx:Nat} : ∀ (os:List Nat) {φ : List (List Nat)}{H:List R}{vc:Prop}{H':List R},aK S φ H w->nV z i idx os H=some (vc,H')->vc->∃ φ',aK S φ' H' w/\Tr H.length S φ H w S φ' H' w/\Ext S φ w S φ' w
 | [],φ,H,vc,H',s,h,hvc=>by
  simp only[nV,aD,aH] at h;obtain⟨_,rfl⟩:=h;exact⟨φ,s,Tr.refl (aC _),Ext.refl ..⟩
 | o::os,φ,H,vc,H',s,h,hvc=>by
  simp only[nV] at h;split at h
  ·rename_i g k hs l hi;split at h
   ·rename_i vc' H2 k8;simp only[aD,aH] at h;obtain⟨rfl,rfl⟩:=h;obtain⟨⟨h1,h2,h3,h4⟩,hvc'⟩:=hvc;have e:l.getD idx z=l.getD idx .nil:=by simp[List.getD,h4]
    rw[e] at h1 k8;have hc:(l.getD idx .nil).cellAt o=.lst (re ((l.getD idx .nil).cellAt o)) ((l.getD idx .nil).cellAt o).elems:=by
     generalize (l.getD idx .nil).cellAt o=c at h1;cases c <;> first|rfl|exact h1.elim
    obtain⟨φ1,s1,t1,e1⟩:=s.CS hi h2 h3 h4 hc;obtain⟨φ2,s2,t2,e2⟩:=Gt os s1 k8 hvc';exact⟨φ2,s2,t1.trans (t2.weaken t1.len),e1.trans e2⟩
   ·simp at h
  ·simp at h
def uv (T:Nat->Option TI) (H:List R) (t:Nat) (p:I):Option (Prop×I):=
 match T t,p with
 | some ti,.eptr i g k idx off z=>
  match H[i]? with
  | some (.row g' k' (.own (h::hs)) l)=>
   match ti.ty.agg with
   | true=>
    match gG k' (h::hs) idx (l.getD idx z) ti.zero.cells off with
    | some (vc,xs)=>some (g=g'/\k=k'/\idx<l.length/\off+ti.size<=k/\ti.zero.cells.length=ti.size/\vc/\jF xs,bG xs)
    | none=>none
   | false=>
    match gC ti.ty with
    | true=>
     match cu k' (h::hs) (idx*k'+off) with
     | some x=>some (g=g'/\k=k'/\idx<l.length/\off<k/\o6 ti.ty x,cm ti.ty x)
     | none=>none
    | false=>none
  | _=>none
 | _,_=>none
def O1 {p:I}{q:Prop×I}(h:uv T H t p=some q):lp T H t p=some q:=by
 unfold uv at h;split at h
 ·rename_i ti i g k idx off z hT;split at h
  ·rename_i g' k' h0 hs l hi;simp only[lp,hT,hi];cases ha:ti.ty.agg with
   | true=>
    rw[ha] at h;simp only at h ⊢;cases ug ti.zero <;> exact h
   | false=>
    rw[ha] at h;simp only at h ⊢;cases hn:gC ti.ty with
    | true=>rw[hn] at h;exact h
    | false=>rw[hn] at h;simp at h
  ·simp at h
 ·simp at h
def qB (T:Nat->Option TI) (H:List R) (t:Nat) (p:I):Option (Prop×I×List R):=
 match T t,p with
 | some ti,.eptr i g k idx off z=>
  match nV z i idx (oI ti.zero.cells off) (shut H).2 with
  | some (vc,H')=>
   match uv T H' t p with
   | some (vc',x)=>some ((shut H).1/\vc/\vc',x,H')
   | none=>none
  | none=>none
 | _,_=>none
def MY (hT:bO P T) (s:aK S φ H w) {p:I}{vp:Value}(hp:V S φ H w p vp) (h:qB T H t p=some (vc,y,H')) (hvc:vc) :
  ∃ v φ',aK S φ' H' w/\Tr H.length S φ H w S φ' H' w/\Ext S φ w S φ' w/\V S φ' H' w y v/\∀ w2,au w w2->(Instr.loadAt t vp).run P w2=.ok v w2:=by
 unfold qB at h;split at h
 ·split at h
  ·rename_i vc1 H2 k8;split at h
   ·rename_i vc2 x hl;simp only[aD,aH] at h;obtain⟨rfl,rfl,rfl⟩:=h;obtain⟨φ1,s1,t1,e1⟩:=BY s hvc.1;obtain⟨φ2,s2,t2,e2⟩:=Gt _ s1 k8 hvc.2.1;have t12:=t1.trans (t2.weaken t1.len);obtain⟨v,hv,hr⟩:=GR hT s2 (hp.tr t12) (O1 hl) hvc.2.2;exact⟨v,φ2,s2,t12,e1.trans e2,hv,hr⟩
   ·simp at h
  ·simp at h
 ·simp at h
def lK (agg:Bool) (cs:List I):D:=
 match agg with
 | true=>.agg (cs.map ij)
 | false=>ij (cs.getD 0 .junk)
def wt (T:Nat->Option TI) (H:List R) (t len:Nat) (i:Nat) (x:I):Option (Prop×I×List R):=
 match T t with
 | some ti=>
  match ti.ty with
  | .slice e=>
   match T e with
   | some ei=>
    match g9 ei x with
    | some (vc,cs)=>some (vc/\i=0/\len=1/\0<ei.size/\ei.size<=1000/\lq cs,.sl H.length 0 ei.size 0 1,H ++ [.row 0 ei.size (.own (fb 0 0 cs)) [lK ei.ty.agg cs]])
    | none=>none
   | none=>none
  | _=>none
 | none=>none
def KY (h:uz x):(ij x).one=true/\(ij x).cells=[ij x]:=by
 cases x with
 | d c=>simp only[uz] at h;cases c <;> first|exact⟨rfl,rfl⟩|simp[D.scalar] at h
 | _=>exact⟨rfl,rfl⟩
def Lm {agg:Bool}{cs:List I}(hs:lq cs) (h1:agg=false->cs.length=1):(lK agg cs).cells=cs.map ij:=by
 cases agg with
 | true=>rfl
 | false=>
  match cs,h1 rfl with
  | [x],_=>exact(KY hs.1).2
def LJ (hT:bO P T) (s:aK S φ H w) {len:Nat}{vx:Value}(hx:V S φ H w x vx) (h:wt T H t len i x=some (vc,y,H')) (hvc:vc) :
  ∃ v w' φ',(do pure (.value (←Instr.buildSlice t len #[(i,vx)])):Sem Next).run P w=.ok (.value v) w'/\au w w'/\aK S φ' H' w'/\Tr H.length S φ H w S φ' H' w'/\Ext S φ w S φ' w'/\V S φ' H' w' y v:=by
 unfold wt at h;split at h
 ·rename_i ti hti;have ht:=hT _ _ hti;split at h
  ·rename_i e hy;split at h
   ·rename_i ei hei;have he:=hT _ _ hei;split at h
    ·rename_i vc' cs hc;simp only[aD,aH] at h;obtain⟨rfl,rfl,rfl⟩:=h;obtain⟨hvc',rfl,rfl,hs,hsmall,hsc⟩:=hvc;obtain⟨c1,c2,c3⟩:=uk hx hc hvc';have hu:=ht.aF hy;have hagg1:ei.ty.agg=false->cs.length=1:=by
      intro ha;unfold g9 at hc;rw[ha] at hc;cases x <;> simp only[aD,aH,reduceCtorEq] at hc
      all_goals obtain⟨_,rfl⟩:=hc
      all_goals rfl
     have hcells:=Lm hsc hagg1;have hmap:(cs.map ij).length=ei.size:=by simp[c1]
     obtain⟨zc,hzc⟩ : ∃ zc:Array Value,zc=(bc ei.zero).cells:=⟨_,rfl⟩;obtain⟨f1,f2⟩:=B7 vx.cells (0*ei.size) ((Array.range (1*ei.size)).map (zc[· % zc.size]!)) (by simp[c2]);obtain⟨arr',harr⟩ : ∃ arr',arr'=vx.cells.zipIdx.foldl (fun cs (c,j)=>cs.setIfInBounds (0*ei.size+j) c) ((Array.range (1*ei.size)).map (zc[· % zc.size]!)):=⟨_,rfl⟩;rw[<-harr] at f1 f2;have hsz:arr'.size=ei.size:=by rw[f1];simp
     have hget : ∀ j,j<ei.size->arr'.getD j undef=vx.cells.getD j undef:=by
      intro j hj;rw[f2,if_pos (by omega)];simp
     have hfl:flat [lK ei.ty.agg cs]=cs.map ij:=by simp[flat,hcells]
     obtain⟨φ',a1,a2,a3,a4⟩:=zb s (k:=ei.size) (l:=[lK ei.ty.agg cs]) (cap:=1) (dp:=.own (fb 0 0 cs)) (arr:=arr') hs (by
       intro z hz;simp only[mv] at hz;subst hz;rw[hcells,hmap]) (by
       rw[hfl];intro c hc;obtain⟨z,hz,rfl⟩:=List.mem_map.1 hc;obtain⟨m,hm,rfl⟩:=fM hz;have:=zR hsc hm;rw[<-ko _ _ hm] at this;exact(KY this).1) (by simp[VL.fj]) (by simp) (by simp[maxLen]) (by omega) e (yu s _) (heap_alloc_new w _) (by
       rw[hfl];refine⟨fun _=>[],by simp,fun h hm=>?_,fun j hj=>?_⟩
       ·have:=zi hm;simp only[ie];have e0:h.1=0:=this.1;rw[e0];omega
       ·simp only[ie] at hj;have hp:(cs.map ij).getD j .nil=ij (cs.getD j .junk):=by simp[List.getD,hj]
        have hat:=A9 (k:=ei.size) (idx:=0) (o:=0) hj;simp only[Nat.zero_mul,lc] at hat;rw[hp,hat,hget j (by omega)];obtain⟨o1,v1⟩:=c3 j (by omega);have hsj:=zR hsc hj;generalize cs.getD j .junk=z at v1 hsj;cases z with
        | d c=>exact uo v1.fz hsj
        | _=>exact⟨rfl,rfl,o1,v1⟩)
     refine⟨_,_,φ',?_,fun b hb=>heap_alloc_old w _ hb,a1,a2,a3,a4⟩;have hrun:(Instr.buildSlice t 1 #[(0,vx)]).run P w=.ok (.slice (some ⟨w.heap.size,0,none⟩) 1 1) (w.alloc (.cells arr' e)):=by
      simp only[Instr.buildSlice,Sem.run_bind,run_underlying hu,Result.andThen_ok,he.run_sizeOf];rw[if_neg (by omega),if_neg (by omega)];have hfill:Instr.fill (fun i=>some (i*ei.size,ei.size)) ((Array.range (1*ei.size)).map (zc[· % zc.size]!)) [(0,vx)]=some arr':=by
       simp only[Instr.fill];rw[if_neg (by simp;omega)];rw[harr]
      subst hzc;simp only[Sem.run_bind,Sem.run_pure,Result.andThen_ok,he.df,hfill,newRow,run_newObj];rfl
     simp only[Sem.run_bind,hrun,Result.andThen_ok,Sem.run_pure];rfl
    ·simp at h
   ·simp at h
  ·simp at h
 ·simp at h
def uZ (deep:fL):I->Bool
 | .agg _=>deep.agg
 | .sl ..=>deep.sl
 | _=>false
def iH (deep:fL) (T:Nat->Option TI) (fr:Fr) (H:List R):Op->Option (Prop×I×List R)
 | .buildSlice t len parts=>
  match parts.toList with
  | [(i,x)]=>
   match uZ deep (ap fr x) with
   | true=>dU (aE fr x) (wt T H t len i (ap fr x))
   | false=>none
  | _=>none
 | .load t p=>dU (aE fr p) (qB T H t (ap fr p))
 | _=>none
def Cz (hT:bO P T) (s:aK S φ H w) (hf:c7 S φ H w fr a) (h:iH deep T fr H o.op=some (vc,x,H')) (hvc:vc) :
  ∃ v w' φ',(execOp a.eval o).run P w=.ok (.value v) w'/\au w w'/\aK S φ' H' w'/\Tr H.length S φ H w S φ' H' w'/\Ext S φ w S φ' w'/\V S φ' H' w' x v/\
   ((∃ t q,o.op=.load t q)->w'=w/\∀ w2,au w w2->(execOp a.eval o).run P w2=.ok (.value v) w2):=by
 obtain⟨dst,op,ty,pos,after,guard⟩:=o;simp only at h;cases op with
 | buildSlice t len parts=>
  simp only[iH] at h;split at h
  ·rename_i i y hp;split at h
   ·obtain⟨hc,vc',h,hvc⟩:=uw h hvc;have:=LJ hT s (hf.ap y hc) h hvc;have e:(parts.map fun(i,x)=>(i,a.eval x)) = #[(i,a.eval y)]:=by
     rw[<-ub (xs:=parts),hp];simp
    rw[<-e] at this;obtain⟨v,w',φ',h1,h2,h3,h4,h5,h6⟩:=this;exact⟨v,w',φ',h1,h2,h3,h4,h5,h6,by rintro⟨t,q,h⟩;cases h⟩
   ·simp at h
  ·simp at h
 | load t p=>
  obtain⟨hc,vc',h,hvc⟩:=uw h hvc;obtain⟨v,φ',h1,h2,h3,h4,h5⟩:=MY hT s (hf.ap p hc) h hvc;exact⟨v,w,φ',by simp[execOp,h5 w (au.refl w)],au.refl w,h1,h2,h3,h4,fun _=>⟨rfl,fun w2 hw2=>by simp[execOp,h5 w2 hw2]⟩⟩
 | _=>simp[iH] at h
def M1 (hT:bO P T) (s:aK S φ H w) (hf:c7 S φ H w fr a) (h:iH deep T fr H o.op=some (vc,x,H')) (hvc:vc) :
  pg S φ H w ((execOp a.eval o).run P w) x H':=by
 obtain⟨v,w',φ',h1,_,h3,h4,h5,h6,_⟩:=Cz hT s hf h hvc;exact⟨v,w',φ',.inl h1,h3,h4,h5,h6⟩
def Ow {T:Nat->Option TI}{fr:Fr}{H:List R}{p:Prop×I×List R}(h:iH deep T fr H op=some p):(∃ t n q,op=.buildSlice t n q)∨∃ t q,op=.load t q:=by
 unfold iH at h;split at h
 ·exact .inl ⟨_,_,_,rfl⟩
 ·exact .inr ⟨_,_,rfl⟩
 ·cases h
end opn
def dR:D->Prop
 | .int k n=>cp k n
 | .bool _=>True
 | _=>False
def pw:Op->Bool
 | .move _|.assign _|.pick _ _ _|.build _ _|.load _ _|.nilCheck _|.binOp _ _ _ _ _|.unOp _ _ _|.convert _ _ _|.slice _ _ _ _ _|.fieldAddr _ _ _|.field _ _ _|.indexAddr _ _ _|.index _ _ _|.extract _ _=>true
 | .makeFunc _ _ _=>true
 | .lookup _ _ _ _=>true
 | .call ⟨.builtin .len,_,_⟩=>true
 | .call ⟨.builtin .cap,_,_⟩=>true
 | .call ⟨.builtin .min,_,_⟩=>true
 | .call ⟨.builtin .max,_,_⟩=>true
 | .call ⟨.value _,_,_⟩=>true
 | _=>false
def c8:List Oper->Bool
 | []=>true
 | o::r=>pw o.op&&c8 r
def yw:Option TI->Bool
 | some ⟨.int _,_,_,_⟩=>true
 | some ⟨.bool,_,_,_⟩=>true
 | _=>false
def iO (T:Nat->Option TI) (ty:Nat):Op->Bool
 | .call ⟨.value _,_,_⟩=>yw (T ty)
 | _=>true
def yh (T:Nat->Option TI):List Oper->Bool
 | []=>true
 | o::r=>iO T o.type o.op&&yh T r
def quiet (T:Nat->Option TI) (l:List Oper):Bool:=c8 l&&yh T l
def zx:Kind->Bool
 | .proc=>true
 | _=>false
def iy (pf:Nat->Kind):Op->Bool
 | .call ⟨.value (.func g),_,_⟩=>zx (pf g)
 | _=>false
def xx (pf:Nat->Kind):List Oper->Bool
 | []=>true
 | o::r=>!iy pf o.op&&xx pf r
def A7 (E:Env) (e:Bool) (f:Nat) (ds:List D) (k:D->Prop):Prop:=∃ x,(e=true->Pure E.P f ds x/\dR x)/\k x
def pj (E:Env) (c:Prop) (e:Bool) (fn:Option (Nat×List I)) (args:List I) (H:List R) (K:D->Prop):Prop:=
 match fn with
 | some (f,caps)=>
  match mh H (args++caps) with
  | some (vc,ds)=>(e=true->c/\vc)/\A7 E e f ds K
  | none=>False
 | none=>False
def bg (E:Env) (all:List Oper) (H:List R) (K:Fr->Prop):List Oper->Fr->Prop
 | [],fr=>K fr
 | o::rest,fr=>
  match o.guard with
  | none=>
   match fI o.op with
   | some (g,args)=>pj E (aE fr g/\dJ fr args) true (eE (ap fr g)) (gM fr args) H (fun x=>bg E all H K rest (fr.put o.dst (.d x)))
   | none=>
    match dr E.T fr H o.op with
    | some (vc,x)=>vc/\bg E all H K rest (fr.put o.dst x)
    | none=>False
  | some (j,want)=>
   match guardOf all fr j want with
   | some (gc,e)=>
    match fI o.op with
    | some (g,args)=>gc/\pj E (aE fr g/\dJ fr args) e (eE (ap fr g)) (gM fr args) H (fun x=>bg E all H K rest (fr.put o.dst (.cond e (.d x))))
    | none=>
     match dr E.T fr H o.op with
     | some (vc,x)=>gc/\(e=true->vc)/\bg E all H K rest (fr.put o.dst (.cond e x))
     | none=>False
   | none=>False
def L7 {S:Nat->Prop}{w:World}{x:D}(h:dR x) : ∃ v,FZ S w x v/\∀ (w2:World) (v2:Value) (fp:List Nat),OW w2 x v2 fp->v2=v:=by
 cases x <;> simp only[dR] at h
 ·exact⟨_,.int h,fun w2 v2 fp h=>by cases h;rfl⟩
 ·exact⟨_,.bool,fun w2 v2 fp h=>by cases h;rfl⟩
def b7.draw (w:World):b7 w { w with drawn:=w.drawn+1 }:=⟨rfl,rfl,rfl,aC _,fun _ _=>rfl⟩
def b7.yL {w:World}(g:b7 w w'):au w w':=g.bi
def b7.trans' {w w'':World}(g:b7 w w') (g':b7 w' w''):b7 w w'':=
 ⟨g'.os.trans g.os,g'.tape.trans g.tape,g'.output.trans g.output,hM g.size g'.size,fun b hb=>(g'.bi b (hC hb g.size)).trans (g.bi b hb)⟩
def LG {E:Env}(hT:bO E.P E.T) {H:List R}{S:Nat->Prop}{φ : List (List Nat)}{w:World}(s:aK S φ H w) {K':Act->Prop}
  (hK : ∀ fr a,c7 S φ H w fr a->K fr->K' a) : ∀ (l:List Oper) {fr:Fr}{a:Act},c7 S φ H w fr a->bg E all H K l fr->wpQuiet E.P all.toArray (b7 w) K' l a:=by
 intro l;induction l with
 | nil=>exact fun {fr a} hf h=>hK fr a hf h
 | cons o rest ih=>
  intro fr a hf h;have reads : ∀ {vc:Prop}{x:I},dr E.T fr H o.op=some (vc,x)->vc->∃ v,V S φ H w x v/\∀ w',b7 w w'->o.quietAt E.P a (b7 w) w' v:=by
   intro vc x hp hvc;obtain⟨v,hv,hr⟩:=ux hT s hf hp hvc;refine⟨v,hv,fun w' hw'=>?_⟩;unfold Oper.quietAt;rw[hr w' fun _=>hw'.yL];exact⟨rfl,rfl⟩
  have calls : ∀ {g:Operand}{args:List Operand}{f:Nat}{caps:List I}{vc:Prop}{ds:List D}{x:D},fI o.op=some (g,args)->eE (ap fr g)=some (f,caps)->mh H (gM fr args++caps)=some (vc,ds)->
    (aE fr g/\dJ fr args)->vc->Pure E.P f ds x->dR x->∃ v,V S φ H w (.d x) v/\∀ w',b7 w w'->o.quietAt E.P a (b7 w) w' v:=by
   intro g args f caps vc ds x ho hfn hv hc hvc hp hx;obtain⟨hc1,hc2⟩:=hc;obtain⟨vs,e1,e2,e3⟩:=D5 (hf.ap g hc1) hfn;obtain⟨l1,l2⟩:=za hf args hc2;obtain⟨m1,m2⟩:=CY (va:=(args.map a.eval).toArray) (by simp[l1]) (fun j hj=>l2 j (by omega)) e2 e3;have hargs:=zO (fun x v vc d h1 h2 h3=>xu s 3 h1 h2 h3) m1 m2 hv hvc;have hlt : ∀ b,jJ S φ b->b<w.heap.size:=fun b hb=>hb.elim (s.slt b) (s.lt b)
   have hargs' : ∀ w',b7 w w'->x7 (jJ S φ) w' ds ((args.map a.eval).toArray++vs):=fun w' hw'=>⟨hargs.1,fun j hj=>(hargs.2 j hj).mono (fun _ h=>h) (fun b hb=>hw'.bi b (hlt b hb))⟩
   have hcall : ∀ w',b7 w w'->Calls E.P f ((args.map a.eval).toArray++vs) w' (fun e w''=>∃ v fp,e=.returned v/\OW w'' x v fp/\b7 w w''):=fun w' hw'=>
    hp.2 (jJ S φ) _ w' _ (fun b hb=>hC (hlt b hb) hw'.size) (hargs' w' hw') fun v w'' fp how _ _ hg=>⟨v,fp,rfl,how,hw'.trans' hg⟩
   obtain⟨v,hvv,hdet⟩:=L7 (S:=S) (w:=w) hx;refine⟨v,.d hvv,fun w' hw'=>?_⟩;unfold Oper.quietAt;rw[wP ho e1 hp.1 w'];refine⟨rfl,(hcall w' hw').mono ?_⟩;rintro e w'' ⟨v2,fp,rfl,how,hg⟩;exact⟨by rw[hdet _ _ _ how],hg⟩
  simp only[bg] at h;split at h
  ·rename_i hgd;have hw:Region.wanted o (yielded all.toArray a.tmps)=true:=by simp only[Region.wanted,hgd]
   simp only[wpQuiet,hw,if_true];split at h
   ·rename_i g args ho;unfold pj at h;split at h
    ·rename_i f caps hfn;split at h
     ·rename_i vc ds hv;obtain⟨hc,x,hp,hk⟩:=h;obtain⟨v,hvv,hq⟩:=calls ho hfn hv (hc rfl).1 (hc rfl).2 (hp rfl).1 (hp rfl).2;exact⟨v,hq,ih (hf.put o.dst hvv) hk⟩
     ·exact h.elim
    ·exact h.elim
   ·split at h
    ·rename_i vc x hp;obtain⟨v,hvv,hq⟩:=reads hp h.1;exact⟨v,hq,ih (hf.put o.dst hvv) h.2⟩
    ·exact h.elim
  ·rename_i j want hgd;split at h
   ·rename_i gc e hg;have wanted:gc->Region.wanted o (yielded all.toArray a.tmps)=e:=by
     intro hgc;exact Bx hf hgd hg hgc
    split at h
    ·rename_i g args ho;obtain⟨hgc,h⟩:=h;have hw:=wanted hgc;unfold pj at h;split at h
     ·rename_i f caps hfn;split at h
      ·rename_i vc ds hv;obtain⟨hc,x,hp,hk⟩:=h;cases e with
       | false=>
        simp only[wpQuiet,hw,eV,if_false];exact ih (hf.skip o.dst rfl _) hk
       | true=>
        simp only[wpQuiet,hw,if_true];obtain⟨v,hvv,hq⟩:=calls ho hfn hv (hc rfl).1 (hc rfl).2 (hp rfl).1 (hp rfl).2;exact⟨v,hq,ih (hf.put o.dst (.cond (fun _=>hvv) fun h=>by cases h)) hk⟩
      ·exact h.elim
     ·exact h.elim
    ·split at h
     ·rename_i vc x hp;obtain⟨hgc,hvc,hk⟩:=h;have hw:=wanted hgc;cases e with
      | false=>
       simp only[wpQuiet,hw,eV,if_false];exact ih (hf.skip o.dst rfl _) hk
      | true=>
       simp only[wpQuiet,hw,if_true];obtain⟨v,hvv,hq⟩:=reads hp (hvc rfl);exact⟨v,hq,ih (hf.put o.dst (.cond (fun _=>hvv) fun h=>by cases h)) hk⟩
     ·exact h.elim
   ·exact h.elim
def Pt {E:Env}{H:List R}{K':Fr->Prop}(hK : ∀ fr,K fr->K' fr) : ∀ (l:List Oper) {fr:Fr},bg E all H K l fr->bg E all H K' l fr:=by
 intro l;have cq : ∀ {c:Prop}{e:Bool}{fn:Option (Nat×List I)}{args:List I}{K K':D->Prop},(∀ x,K x->K' x)->pj E c e fn args H K->pj E c e fn args H K':=by
  intro c e fn args K K' hk h;unfold pj at *
  split at h
  ·split at h
   ·rename_i hv;try simp only[hv]
    obtain⟨h1,x,h2,h3⟩:=h;exact⟨h1,x,h2,hk x h3⟩
   ·exact h.elim
  ·exact h.elim
 induction l with
 | nil=>exact fun {fr} h=>hK fr h
 | cons o rest ih=>
  intro fr h;simp only[bg] at h ⊢;split at h
  ·rename_i hgd;try simp only[hgd]
   split at h
   ·rename_i ho;try simp only[ho]
    exact cq (fun x hx=>ih hx) h
   ·rename_i ho;try simp only[ho]
    split at h
    ·rename_i hp;try simp only[hp]
     exact⟨h.1,ih h.2⟩
    ·exact h.elim
  ·rename_i hgd;try simp only[hgd]
   split at h
   ·rename_i hg;try simp only[hg]
    split at h
    ·rename_i ho;try simp only[ho]
     exact⟨h.1,cq (fun x hx=>ih hx) h.2⟩
    ·rename_i ho;try simp only[ho]
     split at h
     ·rename_i hp;try simp only[hp]
      exact⟨h.1,h.2.1,ih h.2.2⟩
     ·exact h.elim
   ·exact h.elim
def LW {E:Env}(hT:bO E.P E.T) (hm:E.P.follows .mixedOrders=true) {id:Nat}{ops:Array Oper}(hB:Region.lexB .any ops=true) {Q:aX}{H:List R}{fr:Fr}
  (h:bg E ops.toList H (fun fr'=>Q .normal fr' H) ops.toList fr):cJ E.P E.n (.region id ops true) Q fr H:=by
 intro S φ a w Qr hn s hf hq;refine wp_region_quiet (C:=b7 w) hm hB (b7.draw w) ?_;have:=LG hT s (K:=fun fr'=>Q .normal fr' H) (K':=fun a'=>∀ w',b7 w w'->Qr .normal a' w') (fun fr' a' hf' hk w' hg=>by
  obtain⟨s1,s2,s3⟩:=wQ s hg S (fun b h=>h) (fun b h=>.inl h) (fun b h=>hC (s.slt b h) hg.size);exact hq _ a' w' S φ fr' H s1 (hf'.tr s2) s3 (s2.weaken hn) hk) ops.toList hf h
 simpa using this
mutual
def exec (E:Env):Nat->List Item->aX->Fr->List R->Prop
 | 0,_,_,_,_=>False
 | _+1,[],Q,fr,H=>Q .normal fr H
 | f+1,.blk _::ks,Q,fr,H=>exec E f ks Q fr H
 | f+1,.code c::ks,Q,fr,H=>ct E f c ks Q fr H
def ct (E:Env):Nat->Code->List Item->aX->Fr->List R->Prop
 | 0,_,_,_,_,_=>False
 | f+1,.skip,ks,Q,fr,H=>exec E f ks Q fr H
 | f+1,.label _,ks,Q,fr,H=>exec E f ks Q fr H
 | f+1,.seq x y,ks,Q,fr,H=>ct E f x (.code y::ks) Q fr H
 | f+1,.block id c,ks,Q,fr,H=>ct E f c (.blk id::ks) Q fr H
 | f+1,.exit id,ks,Q,fr,H=>gw E f (iR id ks) id ks Q fr H
 | f+1,.ret,ks,Q,fr,H=>Q .ret fr H
 | f+1,.cond c x y,ks,Q,fr,H=>vC E f (ev fr c) x y ks Q fr H
 | f+1,.region _ ops false,ks,Q,fr,H=>an E f ops.toList ops.toList ks Q fr H
 | f+1,.region id ops true,ks,Q,fr,H=>
  if(quiet E.T ops.toList&&xx E.pf ops.toList)=true then E.P.follows .mixedOrders=true/\Region.lexB .any ops=true/\bg E ops.toList H (fun fr'=>exec E f ks Q fr' H) ops.toList fr
  else cJ E.P E.n (.region id ops true) (dG E ks Q) fr H
 | f+1,.loop c,ks,Q,fr,H=>cJ E.P E.n (.loop c) (dG E ks Q) fr H
 | f+1,.scope c,ks,Q,fr,H=>cJ E.P E.n (.scope c) (dG E ks Q) fr H
 | f+1,.goto l,ks,Q,fr,H=>cJ E.P E.n (.goto l) (dG E ks Q) fr H
 | f+1,.refuse s,ks,Q,fr,H=>cJ E.P E.n (.refuse s) (dG E ks Q) fr H
 | f+1,.rangeFunc g ps c1 c2,ks,Q,fr,H=>cJ E.P E.n (.rangeFunc g ps c1 c2) (dG E ks Q) fr H
def gw (E:Env):Nat->Option (List Item)->Nat->List Item->aX->Fr->List R->Prop
 | 0,_,_,_,_,_,_=>False
 | f+1,some ks',_,_,Q,fr,H=>exec E f ks' Q fr H
 | _+1,none,id,_,Q,fr,H=>Q (.exit id) fr H
def vC (E:Env):Nat->I->Code->Code->List Item->aX->Fr->List R->Prop
 | 0,_,_,_,_,_,_,_=>False
 | f+1,.d d,x,y,ks,Q,fr,H=>d.isBool/\(d.toBool=true->ct E f x ks Q fr H)/\(d.toBool=false->ct E f y ks Q fr H)
 | _+1,_,_,_,_,_,_,_=>False
def an (E:Env):Nat->List Oper->List Oper->List Item->aX->Fr->List R->Prop
 | 0,_,_,_,_,_,_=>False
 | f+1,_,[],ks,Q,fr,H=>exec E f ks Q fr H
 | f+1,all,o::rest,ks,Q,fr,H=>
  match o.guard with
  | none=>
   match fI o.op with
   | some (g,args)=>nE E (aE fr g/\dJ fr args) (eE (ap fr g)) (gM fr args) H (lB E f all rest ks Q fr o.dst)
   | none=>
    match dr E.T fr H o.op with
    | some (vc,x)=>vc/\an E f all rest ks Q (fr.put o.dst x) H
    | none=>
     match bS E.T fr H o.op with
     | some (vc,x,H')=>vc/\an E f all rest ks Q (fr.put o.dst x) H'
     | none=>
      match iH E.deep E.T fr H o.op with
      | some (vc,x,H')=>vc/\an E f all rest ks Q (fr.put o.dst x) H'
      | none=>
      match r8 fr H o.op with
      | some (fc,fr',H')=>
       match bS E.T fr' H' o.op with
       | some (vc,x,H'')=>fc/\vc/\an E f all rest ks Q (fr'.put o.dst x) H''
       | none=>False
      | none=>False
  | some (j,want)=>
   match guardOf all fr j want with
   | some (gc,e)=>
    match fI o.op with
    | some (g,args)=>gc/\u7 E (aE fr g/\dJ fr args) e (eE (ap fr g)) (gM fr args) H (cx E f all rest ks Q fr o.dst)
    | none=>
     match dr E.T fr H o.op with
     | some (vc,x)=>gc/\(e=true->vc)/\an E f all rest ks Q (fr.put o.dst (.cond e x)) H
     | none=>
      match bS E.T fr H o.op with
      | some (vc,x,H')=>gc/\(e=false->∃ y,an E f all rest ks Q (fr.put o.dst (.cond e y)) H)/\(e=true->vc/\an E f all rest ks Q (fr.put o.dst (.cond e x)) H')
      | none=>False
   | none=>False
def lB (E:Env):Nat->List Oper->List Oper->List Item->aX->Fr->Option Tmp->I->List R->Prop
 | 0,_,_,_,_,_,_,_,_=>False
 | f+1,all,rest,ks,Q,fr,dst,r,H=>an E f all rest ks Q (fr.put dst r) H
def cx (E:Env):Nat->List Oper->List Oper->List Item->aX->Fr->Option Tmp->List R->I->Prop
 | 0,_,_,_,_,_,_,_,_=>False
 | f+1,all,rest,ks,Q,fr,dst,H,r=>an E f all rest ks Q (fr.put dst r) H
end
variable {E:Env}{Q:aX}{fr:Fr}{H:List R}
def CR : ∀ (ks:List Item),Q .ret fr H->dG E ks Q .ret fr H
 | [],h=>h
 | .code c::ks,h=>CR ks h
 | .blk id::ks,h=>CR ks h
def vD (id:Nat) : ∀ (ks:List Item),(match iR id ks with|some ks'=>dG E ks' Q .normal fr H|none=>Q (.exit id) fr H)->dG E ks Q (.exit id) fr H
 | [],h=>h
 | .code c::ks,h=>vD id ks h
 | .blk id'::ks,h=>by
  simp only[dG,A0];simp only[iR] at h;by_cases hid:id=id'
  ·rw[if_pos hid];rw[if_pos hid] at h;exact h
  ·rw[if_neg hid];rw[if_neg hid] at h;exact vD id ks h
def jY (E:Env) (all:List Oper) (l:List Oper) (ks:List Item) (Q:aX) (fr:Fr) (H:List R):Prop:=
 zC E.P E.n all.toArray l (fun fr H=>dG E ks Q .normal fr H) fr H
variable {S:Nat->Prop}{φ : List (List Nat)}{w:World}{a:Act}
def BE {f:Operand}{args:List Operand}(ho:fI o.op=some (f,args)) (s:aK S φ H w) (hf:c7 S φ H w fr a)
  {Kc:I->List R->Prop}(h:nE E (aE fr f/\dJ fr args) (eE (ap fr f)) (gM fr args) H Kc) {Qr:Exit->Act->World->Prop}{Kr:Act->World->Prop}
  (hK : ∀ S' φ' H' w' r v,aK S' φ' H' w'->c7 S' φ' H' w' fr a->V S' φ' H' w' r v->Ext S φ w S' φ' w'->Tr H.length S φ H w S' φ' H' w'->Kc r H'->Kr (a.put o.dst v) w'):o.wp E.P a w Kr Qr:=by
 unfold nE at h;split at h
 ·rename_i g caps hfn;have common:(aE fr f/\dJ fr args)->∃ vs,a.eval f=.func (.func g) #[] vs/\((args.map a.eval).toArray++vs).size=(gM fr args++caps).length/\
    ∀ j,j<(gM fr args++caps).length->V S φ H w ((gM fr args++caps).getD j .junk) (((args.map a.eval).toArray++vs).getD j undef):=by
   rintro⟨hc1,hc2⟩;obtain⟨vs,e1,e2,e3⟩:=D5 (hf.ap f hc1) hfn;obtain⟨l1,l2⟩:=za hf args hc2;obtain⟨m1,m2⟩:=CY (va:=(args.map a.eval).toArray) (by simp[l1]) (fun j hj=>l2 j (by omega)) e2 e3;exact⟨vs,e1,m1,m2⟩
  split at h
  ·split at h
   ·rename_i vc ds hv;obtain⟨hc,hvc,ψ,hp,hk⟩:=h;obtain⟨vs,e1,e2,e3⟩:=common hc;refine xR (wP ho e1 hp.1 w) (hp.2 (jJ S φ) _ w _ (fun b hb=>hb.elim (s.slt b) (s.lt b)) (zO (fun x v vc d h1 h2 h3=>xu s 3 h1 h2 h3) e2 e3 hv hvc) ?_);intro x v w' fp hx how hnd hfp hg;rcases hk x hx with hk|⟨r,H',hu,hk⟩
    ·obtain⟨s1,s2,s3⟩:=wQ s hg (fun b=>S b∨b∈fp) (fun b h=>.inl h) (fun b h=>h.imp id (hfp b)) (fun b h=>h.elim (fun h=>hC (s.slt b h) hg.size) (how.lt b));exact hK _ _ _ _ _ _ s1 (hf.tr s2) (.d (how.fz fun b hb=>.inr hb)) s3 s2 hk
    ·obtain⟨S',φ',s1,s2,s3,hv⟩:=hu S φ w w' v fp s how hnd hfp hg;exact hK _ _ _ _ _ _ s1 (hf.tr s2) hv s3 s2 hk
   ·exact h.elim
  ·split at h
   ·rename_i vc ds hv;obtain⟨hc,hvc,ψ,hp,hk⟩:=h;obtain⟨vs,e1,e2,e3⟩:=common hc;refine xR (wP ho e1 hp.1 w) (hp.2 S _ w _ s.slt (zO HE e2 e3 hv hvc) ?_);intro x v w' S' hx h1 h2 h3 hz hg;obtain⟨s1,s2,s3⟩:=wQ s hg S' h1 h2 h3;exact hK _ _ _ _ _ _ s1 (hf.tr s2) (.d hz) s3 s2 (hk x hx)
   ·exact h.elim
  ·obtain⟨hc,hp⟩:=h;obtain⟨vs,e1,e2,e3⟩:=common hc;refine xR (wP ho e1 hp.1 w) (hp.2 S φ _ w _ s e2 e3 ?_);intro v w' S' φ' r H' s1 hv s3 s2 hk;exact hK _ _ _ _ _ _ s1 (hf.tr s2) hv s3 s2 hk
 ·exact h.elim
def Ge (hT:bO E.P E.T) : ∀ (f:Nat),
  (∀ (ks:List Item) {fr:Fr}{H:List R},exec E f ks Q fr H->dG E ks Q .normal fr H)/\
  (∀ (c:Code) (ks:List Item) {fr:Fr}{H:List R},ct E f c ks Q fr H->cJ E.P E.n c (dG E ks Q) fr H)/\
  (∀ (all l:List Oper) (ks:List Item) {fr:Fr}{H:List R},an E f all l ks Q fr H->jY E all l ks Q fr H):=by
 intro f;induction f using Nat.strongRecOn with
 | _ f ih=>
 refine⟨?_,?_,?_⟩
 ·intro ks fr H h;match f,ks with
  | 0,_=>simp only[exec] at h
  | f+1,[]=>
   simp only[exec] at h;exact h
  | f+1,.blk id::ks=>
   simp only[exec] at h;exact(ih f (Nat.lt_succ_self f)).1 ks h
  | f+1,.code c::ks=>
   simp only[exec] at h;exact(ih f (Nat.lt_succ_self f)).2.1 c ks h
 ·intro c ks fr H h;match f with
  | 0=>simp only[ct] at h
  | f+1=>
   have ih0:=ih f (Nat.lt_succ_self f);cases c with
   | skip=>simp only[ct] at h;exact NI (ih0.1 ks h)
   | label l=>simp only[ct] at h;exact My (ih0.1 ks h)
   | exit id=>
    simp only[ct] at h;refine Pd (vD id ks ?_);generalize iR id ks=o at h;match f,o with
    | 0,_=>simp only[gw] at h
    | f+1,some ks'=>
     simp only[gw] at h;exact(ih f (by omega)).1 ks' h
    | f+1,none=>
     simp only[gw] at h;exact h
   | ret=>simp only[ct] at h;exact rG (CR ks h)
   | seq x y=>simp only[ct] at h;exact FF (ih0.2.1 x (.code y::ks) h)
   | block id c=>simp only[ct] at h;exact OF (ih0.2.1 c (.blk id::ks) h)
   | cond c x y=>
    simp only[ct] at h;generalize hev:ev fr c=i at h;match f,i with
    | 0,_=>simp only[vC] at h
    | f+1,.d d=>
     simp only[vC] at h;exact MV hev h.1 (fun e=>(ih f (by omega)).2.1 x ks (h.2.1 e)) (fun e=>(ih f (by omega)).2.1 y ks (h.2.2 e))
    | f+1,.agg _|f+1,.sl .. | f+1,.ptr .. | f+1,.eptr .. | f+1,.bor .. | f+1,.bptr .. | f+1,.map _|f+1,.fn .. | f+1,.tup _|f+1,.own _|f+1,.cond .. | f+1,.junk=>simp only[vC] at h
   | region id ops draw=>
    cases draw with
    | false=>
     simp only[ct] at h;exact E7 (by have:=ih0.2.2 ops.toList ops.toList ks h;unfold jY at this;simpa using this)
    | true=>
     simp only[ct] at h;split at h
     ·obtain⟨hm,hB,h⟩:=h;refine LW hT hm hB (Pt (fun fr' h=>ih0.1 ks h) _ h)
     ·exact h
   | loop c=>simpa only[ct] using h
   | scope c=>simpa only[ct] using h
   | goto l=>simpa only[ct] using h
   | refuse s=>simpa only[ct] using h
   | rangeFunc g ps c1 c2=>simpa only[ct] using h
 ·intro all l ks fr H h;match f,l with
  | 0,_=>simp only[an] at h
  | f+1,[]=>
   simp only[an] at h;intro S φ a w Qr hn s hf hq;exact hq a w S φ fr H s hf (Ext.refl ..) (Tr.refl hn) ((ih f (Nat.lt_succ_self f)).1 ks h)
  | f+1,o::rest=>
   have ih0:=(ih f (Nat.lt_succ_self f)).2.2;intro S φ a w Qr hn s hf hq;simp only[an] at h;split at h
   ·rename_i hgd;refine wpList_plain hgd fun Kr hKr=>?_
    split at h
    ·rename_i g args ho;refine BE ho s hf h fun S' φ' H' w' r v s' hf' hv he ht hk=>hKr _ _ ?_
     match f with
     | 0=>simp only[lB] at hk
     | f+1=>
      simp only[lB] at hk;exact(ih f (by omega)).2.2 all rest ks hk S' φ' _ w' Qr (hM hn ht.len) s' (hf'.put o.dst hv) fun a2 w2 S2 φ2 fr2 H2 a3 a4 a5 a6 a7=>hq a2 w2 S2 φ2 fr2 H2 a3 a4 (he.trans a5) ((ht.weaken hn).trans a6) a7
    ·split at h
     ·rename_i vc x hp;obtain⟨hvc,hk⟩:=h;obtain⟨v,hv,hr⟩:=ux hT s hf hp hvc;unfold Oper.wp;rw[hr w (fun _=>au.refl w),Oper.upon_value];exact hKr _ _ (ih0 all rest ks hk S φ _ w Qr hn s (hf.put o.dst hv) hq)
     ·split at h
      ·rename_i vc x H' hp;obtain⟨hvc,hk⟩:=h;obtain⟨v,w',φ',hr,s',ht,he,hv⟩:=wz hT s hf hp hvc;have fin:Kr (a.put o.dst v) w':=hKr _ _ (ih0 all rest ks hk S φ' _ w' Qr (hM hn ht.len) s' ((hf.tr ht).put o.dst hv) fun a2 w2 S2 φ2 fr2 H2 a3 a4 a5 a6 a7=>
        hq a2 w2 S2 φ2 fr2 H2 a3 a4 (he.trans a5) ((ht.weaken hn).trans a6) a7)
       unfold Oper.wp;rcases hr with hr|⟨hr,rfl⟩
       ·rw[hr,Oper.upon_value];exact fin
       ·rw[hr,Oper.upon_skip];exact fin
      ·split at h
       ·rename_i vc x H' hp;obtain⟨hvc,hk⟩:=h;obtain⟨v,w',φ',hr,s',ht,he,hv⟩:=M1 hT s hf hp hvc;have fin:Kr (a.put o.dst v) w':=hKr _ _ (ih0 all rest ks hk S φ' _ w' Qr (hM hn ht.len) s' ((hf.tr ht).put o.dst hv) fun a2 w2 S2 φ2 fr2 H2 a3 a4 a5 a6 a7=>
         hq a2 w2 S2 φ2 fr2 H2 a3 a4 (he.trans a5) ((ht.weaken hn).trans a6) a7)
        unfold Oper.wp;rcases hr with hr|⟨hr,rfl⟩
        ·rw[hr,Oper.upon_value];exact fin
        ·rw[hr,Oper.upon_skip];exact fin
       split at h
       ·rename_i fc fr' H' hfz;split at h
        ·rename_i vc x H'' hp;obtain⟨hfc,hvc,hk⟩:=h;obtain⟨S1,φ1,s1,hf1,e1,t1⟩:=JU s hf hfz hfc;obtain⟨v,w',φ',hr,s',ht,he,hv⟩:=wz hT s1 hf1 hp hvc;have hn1:=hM hn t1.len;have fin:Kr (a.put o.dst v) w':=hKr _ _ (ih0 all rest ks hk S1 φ' _ w' Qr (hM hn1 ht.len) s' ((hf1.tr ht).put o.dst hv) fun a2 w2 S2 φ2 fr2 H2 a3 a4 a5 a6 a7=>
          hq a2 w2 S2 φ2 fr2 H2 a3 a4 (e1.trans (he.trans a5)) ((t1.weaken hn).trans ((ht.weaken hn1).trans a6)) a7)
         unfold Oper.wp;rcases hr with hr|⟨hr,rfl⟩
         ·rw[hr,Oper.upon_value];exact fin
         ·rw[hr,Oper.upon_skip];exact fin
        ·exact h.elim
       ·exact h.elim
   ·rename_i j want hgd;split at h
    ·rename_i gc e hg;have wanted:gc->Region.wanted o (yielded all.toArray a.tmps)=e:=by
      intro hgc;exact Bx hf hgd hg hgc
     split at h
     ·rename_i g args ho;obtain⟨hgc,h⟩:=h;have hw:=wanted hgc;unfold wpList;rw[hw];unfold u7 at h;split at h
      ·rename_i g caps hfn;split at h
       ·rename_i hpf;split at h
        ·rename_i vc ds hv;obtain⟨hc,x,hp,hk⟩:=h;match f with
         | 0=>simp only[cx] at hk
         | f+1=>
         simp only[cx] at hk;have ih1:=(ih f (by omega)).2.2;cases e with
         | false=>
          simp only[eV,if_false];exact ih1 all rest ks hk S φ _ w Qr hn s (hf.skip o.dst rfl _) hq
         | true=>
          simp only[if_true];left;obtain⟨hc,hvc⟩:=hc rfl;have hp:=hp rfl;refine BE (E:=E) ho s hf (Kc:=fun r H'=>H'=H/\r=.d x) ?_ ?_
          ·simp only[nE,hfn,hpf,hv];exact⟨hc,hvc,fun y=>y=x,hp.xB,fun y hy=>.inl ⟨rfl,by rw[hy]⟩⟩
          ·rintro S' φ' H' w' r v s' hf' hv' he ht ⟨rfl,rfl⟩;exact ih1 all rest ks hk S' φ' _ w' Qr (hM hn ht.len) s' (hf'.put o.dst (.cond (fun _=>hv') fun h=>by cases h)) fun a2 w2 S2 φ2 fr2 H2 a3 a4 a5 a6 a7=>hq a2 w2 S2 φ2 fr2 H2 a3 a4 (he.trans a5) ((ht.weaken hn).trans a6) a7
        ·exact h.elim
       ·rename_i hpf;cases e with
        | false=>
         obtain⟨x,hk⟩:=h.1 rfl;simp only[eV,if_false];match f with
         | 0=>simp only[cx] at hk
         | f+1=>
         simp only[cx] at hk;exact(ih f (by omega)).2.2 all rest ks hk S φ _ w Qr hn s (hf.skip o.dst rfl _) hq
        | true=>
         simp only[if_true];left;obtain⟨hc,hp⟩:=h.2 rfl;refine BE (E:=E) ho s hf (Kc:=fun r H'=>cx E f all rest ks Q fr o.dst H' (.cond true r)) ?_ ?_
         ·simp only[nE,hfn,hpf];exact⟨hc,hp⟩
         ·intro S' φ' H' w' r v s' hf' hv' he ht hk;match f with
          | 0=>simp only[cx] at hk
          | f+1=>
          simp only[cx] at hk;exact(ih f (by omega)).2.2 all rest ks hk S' φ' _ w' Qr (hM hn ht.len) s' (hf'.put o.dst (.cond (fun _=>hv') fun h=>by cases h)) fun a2 w2 S2 φ2 fr2 H2 a3 a4 a5 a6 a7=>hq a2 w2 S2 φ2 fr2 H2 a3 a4 (he.trans a5) ((ht.weaken hn).trans a6) a7
       ·rename_i hpf;cases e with
        | false=>
         obtain⟨x,hk⟩:=h.1 rfl;simp only[eV,if_false];match f with
         | 0=>simp only[cx] at hk
         | f+1=>
         simp only[cx] at hk;exact(ih f (by omega)).2.2 all rest ks hk S φ _ w Qr hn s (hf.skip o.dst rfl _) hq
        | true=>
         simp only[if_true];left;have hp:=h.2 rfl;refine BE (E:=E) ho s hf (Kc:=fun r H'=>cx E f all rest ks Q fr o.dst H' (.cond true r)) ?_ ?_
         ·simp only[nE,hfn,hpf];exact hp
         ·intro S' φ' H' w' r v s' hf' hv' he ht hk;match f with
          | 0=>simp only[cx] at hk
          | f+1=>
          simp only[cx] at hk;exact(ih f (by omega)).2.2 all rest ks hk S' φ' _ w' Qr (hM hn ht.len) s' (hf'.put o.dst (.cond (fun _=>hv') fun h=>by cases h)) fun a2 w2 S2 φ2 fr2 H2 a3 a4 a5 a6 a7=>hq a2 w2 S2 φ2 fr2 H2 a3 a4 (he.trans a5) ((ht.weaken hn).trans a6) a7
      ·exact h.elim
     ·split at h
      ·rename_i vc x hp;obtain⟨hgc,hvc,hk⟩:=h;have hw:=wanted hgc;unfold wpList;rw[hw];cases e with
       | false=>
        simp only[eV,if_false];exact ih0 all rest ks hk S φ _ w Qr hn s (hf.skip o.dst rfl _) hq
       | true=>
        simp only[if_true];left;obtain⟨v,hv,hr⟩:=ux hT s hf hp (hvc rfl);unfold Oper.wp;rw[hr w (fun _=>au.refl w),Oper.upon_value];exact ih0 all rest ks hk S φ _ w Qr hn s (hf.put o.dst (.cond (fun _=>hv) fun h=>by cases h)) hq
      ·split at h
       ·rename_i vc x H' hp;obtain⟨hgc,hk0,hk1⟩:=h;have hw:=wanted hgc;unfold wpList;rw[hw];cases e with
        | false=>
         obtain⟨y,hk⟩:=hk0 rfl;simp only[eV,if_false];exact ih0 all rest ks hk S φ _ w Qr hn s (hf.skip o.dst rfl _) hq
        | true=>
         obtain⟨hvc,hk⟩:=hk1 rfl;simp only[if_true];left;obtain⟨v,w',φ',hr,s',ht,he,hv⟩:=wz hT s hf hp hvc;unfold Oper.wp;have fin:=ih0 all rest ks hk S φ' _ w' Qr (hM hn ht.len) s' ((hf.tr ht).put o.dst (.cond (fun _=>hv) fun h=>by cases h)) fun a2 w2 S2 φ2 fr2 H2 a3 a4 a5 a6 a7=>
          hq a2 w2 S2 φ2 fr2 H2 a3 a4 (he.trans a5) ((ht.weaken hn).trans a6) a7
         rcases hr with hr|⟨hr,rfl⟩
         ·rw[hr,Oper.upon_value];exact fin
         ·rw[hr,Oper.upon_skip];exact fin
       ·exact h.elim
    ·exact h.elim
def rl (hT:bO E.P E.T) (f:Nat) {c:Code}(h:ct E f c [] Q fr H):cJ E.P E.n c Q fr H:=(Ge hT f).2.1 c [] h
def xS (hT:bO E.P E.T) (f:Nat) {ks:List Item}(h:exec E f ks Q fr H):dG E ks Q .normal fr H:=(Ge hT f).1 ks h
end Go.VL
