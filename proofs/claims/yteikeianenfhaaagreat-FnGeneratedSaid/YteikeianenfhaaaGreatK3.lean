/- Contracts, plain definitions and lemmas. Conditions: none; lemmas. -/
import Derived.Test.YteikeianenfhaaaGreatVM8
import Derived.Test.YteikeianenfhaaaGreatC77
import Derived.Test.YteikeianenfhaaaGreatC74
set_option maxRecDepth 20000
set_option linter.unusedVariables false
set_option linter.unusedSimpArgs false
set_option maxHeartbeats 2000000
namespace Go.Proofs
open Go Go.VL
theorem qtr {a:Nat}:(a+1=a)=False:=by simp
theorem qts {a:Nat}:(a+2=a)=False:=by simp
theorem qtt {a:Nat}:(a+3=a)=False:=by simp
def selS (s v:List Int):List Int:=v++s.drop v.length
theorem dTc_set {T:List Tcfg}{i:Nat}{t:Tcfg}:((T.set i t).map fun x=>dTc x)=(T.map fun x=>dTc x).set i (dTc t):=List.map_set
def cellT (trk:List Int) (x:Cel) (t:Tcfg):Tcfg:=⟨x.table,selS t.select (x.inputs.map fun v=>trk.getD v.toNat 0),x.reg,t.drive⟩
def qca (trk:List Int) (cells:List Cel) (place:List Int) (T:List Tcfg):Nat->List Tcfg
 | 0=>T
 | i+1=>(qca trk cells place T i).set (place.getD i 0).toNat (cellT trk (cells.getD i ce0) ((qca trk cells place T i).getD (place.getD i 0).toNat tc0))
def hopT (c:Circ) (r:Rt) (T:List Tcfg) (h:Int×Int):List Tcfg:=
 T.set h.1.toNat ⟨(T.getD h.1.toNat tc0).table,(T.getD h.1.toNat tc0).select,(T.getD h.1.toNat tc0).reg,(T.getD h.1.toNat tc0).drive.set r.track.toNat (srcC c r.net h)⟩
def hopW (c:Circ) (r:Rt) (T:List Tcfg) (n:Nat):List Tcfg:=(r.hops.take n).foldl (hopT c r) T
def rtsT (c:Circ) (rs:List Rt) (T:List Tcfg) (n:Nat):List Tcfg:=(rs.take n).foldl (fun T r=>hopW c r T r.hops.length) T
def qez (c:Circ) (trk:List Int) (n:Nat):List (Int×Bool):=
 (List.range n).foldl (fun p o=>p.set o (trk.getD (c.outs.getD o 0/2).toNat 0,decide (c.outs.getD o 0%2=1))) (List.replicate 3 (15,false))
def ql6 (c:Circ) (cells:List Cel) (place:List Int) (rs:List Rt):Kcfg:=
 ⟨rtsT c rs (qca (qaX c.vars.toNat rs) cells place (List.replicate 25 qbt) cells.length) rs.length,qez c (qaX c.vars.toNat rs) c.outs.length⟩
def tsz (t:Tcfg):Prop:=t.select.length=3/\t.drive.length=8
def Tsz (T:List Tcfg):Prop:=T.length=25/\∀ t∈T,tsz t
theorem Tsz.get {T:List Tcfg}(h:Tsz T) {i:Nat}(hi:i<25):tsz (T.getD i tc0):=h.2 _ (qac (by rw[h.1];exact hi))
theorem Tsz.set {T:List Tcfg}(h:Tsz T) {i:Nat}{t:Tcfg}(ht:tsz t):Tsz (T.set i t):=
 ⟨by rw[yax];exact h.1,fun x hx=>(yaU hx).elim (h.2 x) (fun e=>e▸ht)⟩
theorem Tsz.empty:Tsz (List.replicate 25 qbt):=⟨by simp,fun t ht=>by rw[(List.mem_replicate.1 ht).2];exact⟨rfl,rfl⟩⟩
theorem qtu {trk:List Int}{x:Cel}{t:Tcfg}(ht:tsz t) (hx:x.inputs.length<=3):tsz (cellT trk x t):=by
 refine⟨?_,ht.2⟩;have:=ht.1;simp only[cellT,selS,yae,yay,List.length_drop];omega
theorem qe7 {trk:List Int}{cells:List Cel}{place:List Int}{T:List Tcfg}(hT:Tsz T) (hci : ∀ x∈cells,x.inputs.length<=3) (hp:PlaceOk cells.length place) : ∀ i,i<=cells.length->Tsz (qca trk cells place T i)
 | 0,_=>hT
 | i+1,h=>by
  have ih:=qe7 (trk:=trk) hT hci hp i (by omega);have:=hp.get (i:=i) (by omega);exact ih.set (qtu (ih.get (by omega)) (hci _ (qac (by omega))))
theorem qkP {c:Circ}{r:Rt}{T:List Tcfg}(hT:Tsz T) {h:Int×Int}(hh:0<=h.1/\h.1<=24):Tsz (hopT c r T h):=by
 have:=hT.get (i:=h.1.toNat) (by omega);exact hT.set ⟨this.1,by simp only[yax];exact this.2⟩
theorem qgx {c:Circ}{r:Rt}{T:List Tcfg}(hT:Tsz T) (hh : ∀ h∈r.hops,0<=h.1/\h.1<=24) (n:Nat):Tsz (hopW c r T n):=by
 have : ∀ (l:List (Int×Int)),(∀ h∈l,0<=h.1/\h.1<=24)->∀ T,Tsz T->Tsz (l.foldl (hopT c r) T):=by
  intro l;induction l with
  | nil=>intro _ T h;exact h
  | cons a l ih=>intro hl T h;exact ih (fun x hx=>hl x (yai _ hx)) _ (qkP h (hl a (yaw ..)))
 exact this _ (fun x hx=>hh x (yat hx)) T hT
theorem qq8 {c:Circ}{rs:List Rt}{T:List Tcfg}(hT:Tsz T) (hh : ∀ r∈rs,0<=r.net/\r.net<c.vars/\0<=r.track/\r.track<=7/\∀ h∈r.hops,0<=h.1/\h.1<=24) (n:Nat):Tsz (rtsT c rs T n):=by
 have : ∀ (l:List Rt),(∀ r∈l,∀ h∈r.hops,0<=h.1/\h.1<=24)->∀ T,Tsz T->Tsz (l.foldl (fun T r=>hopW c r T r.hops.length) T):=by
  intro l;induction l with
  | nil=>intro _ T h;exact h
  | cons a l ih=>intro hl T h;exact ih (fun x hx=>hl x (yai _ hx)) _ (qgx h (hl a (yaw ..)) _)
 exact this _ (fun r hr=>(hh r (yat hr)).2.2.2.2) T hT
theorem padsT_len {c:Circ}{trk:List Int}{n:Nat}:(qez c trk n).length=3:=by
 unfold qez;have : ∀ (l:List Nat) (p:List (Int×Bool)),(l.foldl (fun p o=>p.set o (trk.getD (c.outs.getD o 0/2).toNat 0,decide (c.outs.getD o 0%2=1))) p).length=p.length:=by
  intro l;induction l with
  | nil=>intro p;rfl
  | cons a l ih=>intro p;rw[yap,ih,yax]
 rw[this];rfl
end Go.Proofs

set_option linter.unusedVariables false
set_option linter.unusedSimpArgs false
namespace Go.VL
def ql7 (cells:List Cel) (place:List Int) (net:Int):Nat->List Int
 | 0=>[]
 | i+1=>ql7 cells place net i++(if net∈(cells.getD i ce0).inputs then [place.getD i 0] else [])
theorem qjZ {cells:List Cel}{place:List Int}{net t:Int} : ∀ {n:Nat},t∈ql7 cells place net n↔∃ i:Nat,i<n/\net∈(cells.getD i ce0).inputs/\t=place.getD i 0
 | 0=>by simp[ql7]
 | n+1=>by
  rw[ql7,yas,qjZ];constructor
  ·rintro(⟨o,h1,h2,h3⟩|h)
   ·exact⟨o,by omega,h2,h3⟩
   ·split at h
    ·rename_i h2;exact⟨n,by omega,h2,by simpa using h⟩
    ·simp at h
  ·rintro⟨o,h1,h2,h3⟩;by_cases ho:o<n
   ·exact .inl ⟨o,ho,h2,h3⟩
   ·obtain rfl:o=n:=by omega
    rw[if_pos h2];exact .inr (by simp[h3])
def qq9 (c:Circ) (cells:List Cel) (place:List Int) (net:Int):List Int:=ql7 cells place net cells.length++qbL c net c.outs.length
theorem qj0 {c:Circ}{cells:List Cel}{place:List Int}{net t:Int}:t∈qq9 c cells place net↔t∈qaz c cells place net:=by
 rw[qq9,yas,qjZ,qg3,qcD]
def srcK (cells:List Cel) (place:List Int) (net:Int):Nat->Int
 | 0=>(net-1)*5
 | k+1=>if(cells.getD k ce0).net=net then place.getD k 0 else srcK cells place net k
theorem qnc {cells:List Cel}{place:List Int}{net:Int} : ∀ k,srcK cells place net k=if 0<=qc8 cells net k then place.getD (qc8 cells net k).toNat 0 else(net-1)*5
 | 0=>by simp[srcK,qc8]
 | k+1=>by
  rw[srcK,qc8];by_cases h:(cells.getD k ce0).net=net
  ·rw[if_pos h,if_pos h,if_pos (by omega),ybf]
  ·rw[if_neg h,if_neg h];exact qnc k
theorem qg7 {c:Circ}{cells:List Cel}{place:List Int}{k:Nat}{n:Int}:n∈qd8 c cells place k↔(1<=n/\n<=k)/\qfz c cells place n≠[]:=by
 rw[qd8,List.mem_filter,decide_eq_true_eq];refine and_congr_left fun _=>?_
 constructor
 ·intro h;obtain⟨j,hj,rfl⟩:=List.mem_map.1 h;have:=List.mem_range.1 hj;omega
 ·rintro⟨h1,h2⟩;exact List.mem_map.2 ⟨(n-1).toNat,List.mem_range.2 (by omega),by omega⟩
theorem qi3 {c:Circ}(hc:c.Valid) {place:List Int}{busy0 busy:List (List Bool)}{rs:List Rt}(h:RoutesOk c (qad c) place busy0 (c.vars.toNat-1) busy rs) {r:Rt}(hr:r∈rs) :
  (∀ t∈qq9 c (qad c) place r.net,t∈qak r.hops)/\(r.hops.getD 0 (0,0)).1=srcK (qad c) place r.net (qad c).length:=by
 have hk:=h.each r hr;have hv:=hc.vars_bd;have hf:=hc.first_bd;have hn:r.net∈qd8 c (qad c) place (c.vars.toNat-1):=by rw[<-h.nets];exact List.mem_map.2 ⟨r,hr,rfl⟩
 obtain⟨h1,h2⟩:=qg7.1 hn;have hu:qaz c (qad c) place r.net≠[]:=fun h3=>h2 ((qiX hc place h1.1 (by omega)).2 h3)
 have hp:=qgu hc place h1.1 (by omega:r.net<c.vars) hu;refine⟨fun t ht=>hk.pins t ?_,?_⟩
 ·rw[hp,qgo];exact .inr (qj0.1 ht)
 ·obtain⟨q,hq⟩:=hk.src;obtain⟨r2,hr2⟩:=qd6 (l:=qaz c (qad c) place r.net) (out:=[srcT (ninC c (qad c) r.net) place]);rw[hp,hr2] at hq;rw[hq,qnc];rfl
end Go.VL

set_option linter.unusedVariables false
set_option linter.unusedSimpArgs false
namespace Go.Proofs
open Go Go.VL
def updT (T:List Tcfg) (p:Nat) (A:Tcfg->Tcfg):List Tcfg:=T.set p (A (T.getD p tc0))
theorem qra {A B:Tcfg->Tcfg}(h : ∀ t,A (B t)=B (A t)) (T:List Tcfg) (p q:Nat):updT (updT T p A) q B=updT (updT T q B) p A:=by
 unfold updT;by_cases hpq:p=q
 ·subst hpq;by_cases hp:p<T.length
  ·rw[qah hp,qah hp,List.set_set,List.set_set,h]
  ·have e : ∀ x,T.set p x=T:=fun x=>List.set_eq_of_length_le (by omega)
   simp only[e]
 ·have e1:(T.set p (A (T.getD p tc0))).getD q tc0=T.getD q tc0:=by simp[List.getD,List.getElem?_set,hpq]
  have e2:(T.set q (B (T.getD q tc0))).getD p tc0=T.getD p tc0:=by simp[List.getD,List.getElem?_set,Ne.symm hpq]
  rw[e1,e2,List.set_comm _ _ hpq]
def drvA (c:Circ) (r:Rt) (h:Int×Int) (t:Tcfg):Tcfg:=⟨t.table,t.select,t.reg,t.drive.set r.track.toNat (srcC c r.net h)⟩
theorem qhO (c:Circ) (r:Rt) (T:List Tcfg) (h:Int×Int):hopT c r T h=updT T h.1.toNat (drvA c r h):=rfl
theorem qdm (trk:List Int) (cells:List Cel) (place:List Int) (T:List Tcfg) (i:Nat):qca trk cells place T (i+1)=updT (qca trk cells place T i) (place.getD i 0).toNat (cellT trk (cells.getD i ce0)):=rfl
theorem qn2 {c:Circ}{r:Rt}{p:Nat}{A:Tcfg->Tcfg}(hA : ∀ h t,A (drvA c r h t)=drvA c r h (A t)) : ∀ (l:List (Int×Int)) (T:List Tcfg),l.foldl (hopT c r) (updT T p A)=updT (l.foldl (hopT c r) T) p A
 | [],T=>rfl
 | h::l,T=>by
  rw[yap,yap,qhO,qra (hA h),<-qhO];exact qn2 hA l (hopT c r T h)
theorem qrb {c:Circ}{p:Nat}{A:Tcfg->Tcfg}(hA : ∀ r h t,A (drvA c r h t)=drvA c r h (A t)) : ∀ (l:List Rt) (T:List Tcfg),l.foldl (fun T r=>hopW c r T r.hops.length) (updT T p A)=updT (l.foldl (fun T r=>hopW c r T r.hops.length) T) p A
 | [],T=>rfl
 | r::l,T=>by
  rw[yap,yap];have e:hopW c r (updT T p A) r.hops.length=updT (hopW c r T r.hops.length) p A:=qn2 (hA r) (r.hops.take r.hops.length) T;rw[e];exact qrb hA l _
theorem ql8 {c:Circ}{trk:List Int}{cells:List Cel}{place:List Int}{rs:List Rt}{T:List Tcfg}{n:Nat} : ∀ i,qca trk cells place (rtsT c rs T n) i=rtsT c rs (qca trk cells place T i) n
 | 0=>rfl
 | i+1=>by
  rw[qdm,qdm,ql8 i];exact(qrb (fun r h t=>rfl) (rs.take n) _).symm
def rtE (rs:List Rt):List (D×D):=rs.map fun r=>(dI r.net,dI r.track)
theorem qn3 (x:Int) : ∀ rs:List Rt,qcc (rtE rs) (dI x)=(rs.find? fun r=>decide (r.net=x)).map fun r=>dI r.track
 | []=>rfl
 | r::l=>by
  have ih:=qn3 x l;show qcc ((dI r.net,dI r.track)::rtE l) _=_
  rw[qdT,qdk];by_cases h:r.net=x
  ·subst h;simp
  ·rw[decide_eq_false (fun h2=>h h2.symm)];simp only[yag,if_false,ih];simp[h]
theorem qrc (x:Int) (v:D) : ∀ rs:List Rt,(∀ r∈rs,r.net≠x)->updD (rtE rs) (dI x) v=rtE rs ++ [(dI x,v)]
 | [],_=>rfl
 | r::l,hx=>by
  have ih:=qrc x v l (fun y hy=>hx y (yai _ hy));show updD ((dI r.net,dI r.track)::rtE l) _ _=_
  rw[updD,qdk,decide_eq_false (fun h2=>hx r (yaw ..) h2.symm)];simp only[yag,if_false,ih];rfl
theorem qn4 (rs:List Rt):qba (.int .i64) (rtE rs):=by
 rw[qcI];intro e he;obtain⟨x,_,rfl⟩:=List.mem_map.1 he;exact rfl
theorem qtv {rs:List Rt}{i:Nat}(hi:i<rs.length):rtE (rs.take (i+1))=rtE (rs.take i) ++ [(dI (rs.getD i rt0).net,dI (rs.getD i rt0).track)]:=qa9 rt0 hi
theorem qnd {rs:List Rt}(hn:(rs.map (·.net)).Nodup) {i:Nat}(hi:i<rs.length) : ∀ r∈rs.take i,r.net≠(rs.getD i rt0).net:=by
 intro r hr e;have h1:(rs.take (i+1)).map (·.net)=(rs.take i).map (·.net) ++ [(rs.getD i rt0).net]:=qa9 rt0 hi;have h2:((rs.take (i+1)).map (·.net)).Nodup:=by
  rw[List.map_take];exact hn.sublist (List.take_sublist _ _)
 rw[h1,ybg] at h2;exact h2.2.2 _ (ybh hr) _ (by simp) e
theorem qi4 {v:Nat} : ∀ (l:List Rt) (q:List Int),(∀ r∈l,r.net.toNat≠v)->(l.foldl (fun l r=>l.set r.net.toNat r.track) q).getD v 0=q.getD v 0
 | [],q,_=>rfl
 | r::l,q,h=>by
  rw[yap,qi4 l _ (fun y hy=>h y (yai _ hy))];simp[List.getD,List.getElem?_set,h r (yaw ..)]
theorem qkQ : ∀ (l:List Rt) (q:List Int),(l.map (·.net)).Nodup->(∀ r∈l,0<=r.net/\r.net<q.length)->∀ r∈l,(l.foldl (fun l r=>l.set r.net.toNat r.track) q).getD r.net.toNat 0=r.track
 | [],q,_,_,r,hr=>by cases hr
 | a::l,q,hn,hb,r,hr=>by
  rw[yaI,List.nodup_cons] at hn;rw[yap];have ha:=hb a (yaw ..);rcases List.mem_cons.1 hr with rfl|h
  ·rw[qi4 l _ (fun y hy e=>hn.1 (by
    have:=hb y (yai _ hy);have:y.net=r.net:=by omega
    rw[<-this];exact ybh hy)),qcY (by omega),if_pos rfl]
  ·exact qkQ l _ hn.2 (fun y hy=>by rw[yax];exact hb y (yai _ hy)) r h
theorem ql9 {vars:Nat}{rs:List Rt}(hn:(rs.map (·.net)).Nodup) (hb : ∀ r∈rs,0<=r.net/\r.net<vars) {v:Int}(hv : ∃ r∈rs,r.net=v):qcc (rtE rs) (dI v)=some (dI ((qaX vars rs).getD v.toNat 0)):=by
 obtain⟨r,hr,rfl⟩:=hv;have h1:=qkQ rs (List.replicate vars 15) hn (by simpa using hb) r hr;rw[qaX,trkN,yav,h1,qn3];have:rs.find? (fun x=>decide (x.net=r.net))=some r:=by
  cases h:rs.find? (fun x=>decide (x.net=r.net)) with
  | none=>rw[List.find?_eq_none] at h;exact absurd (h r hr) (by simp)
  | some x=>
   have h2:=List.find?_some h;have h3:=List.mem_of_find?_eq_some h;rw[decide_eq_true_iff] at h2;congr 1;obtain⟨i,hi,rfl⟩:=qaE rt0 h3;obtain⟨j,hj,rfl⟩:=qaE rt0 hr;rcases Nat.lt_trichotomy i j with h4|h4|h4
   ·exact absurd h2 (qnd hn hj _ (by
     have:rs.getD i rt0=(rs.take j).getD i rt0:=by simp[List.getD,List.getElem?_take,h4]
     rw[this];exact qac (by simp;omega)))
   ·rw[h4]
   ·exact absurd h2.symm (qnd hn hi _ (by
     have:rs.getD j rt0=(rs.take i).getD j rt0:=by simp[List.getD,List.getElem?_take,h4]
     rw[this];exact qac (by simp;omega)))
 rw[this];rfl
theorem qe8 {vars:Nat}{rs:List Rt}(h0:0<vars) (hb : ∀ r∈rs,1<=r.net):(qaX vars rs).getD 0 0=15:=by
 rw[qaX,trkN,yav,qi4 rs _ (fun r hr=>by have:=hb r hr;omega)];simp[List.getD,h0]
theorem qfp {c:Circ}{trk:List Int} : ∀ (n o:Nat),n<=o->o<3->(qez c trk n).getD o (0,false)=(15,false)
 | 0,o,_,h=>by
  obtain rfl|rfl|rfl:o=0∨o=1∨o=2:=by omega
  all_goals rfl
 | n+1,o,h,h3=>by
  have hs:qez c trk (n+1)=(qez c trk n).set n (trk.getD (c.outs.getD n 0/2).toNat 0,decide (c.outs.getD n 0%2=1)):=by simp only[qez,yaO,yaQ,yap,List.foldl_nil]
  rw[hs];have:=qfp (c:=c) (trk:=trk) n o (by omega) h3;rw[<-this];simp[List.getD,List.getElem?_set,show ¬ n=o by omega]
end Go.Proofs
