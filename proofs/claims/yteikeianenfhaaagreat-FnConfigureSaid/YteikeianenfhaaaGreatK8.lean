/- Contracts, plain definitions and lemmas. Conditions: none; lemmas. -/
import Derived.Test.YteikeianenfhaaaGreatC78
import Derived.Test.YteikeianenfhaaaGreatF3
import Derived.Test.YteikeianenfhaaaGreatC85
set_option linter.unusedSimpArgs false
set_option linter.unusedVariables false
set_option maxHeartbeats 2000000
namespace Go.Proofs
open Go Go.VL
def updT (T:List Tcfg) (p:Nat) (A:Tcfg->Tcfg):List Tcfg:=T.set p (A (T.getD p tc0))
theorem qpT {A B:Tcfg->Tcfg}(h : ∀ t,A (B t)=B (A t)) (T:List Tcfg) (p q:Nat):updT (updT T p A) q B=updT (updT T q B) p A:=by
 unfold updT;by_cases hpq:p=q
 ·subst hpq;by_cases hp:p<T.length
  ·rw[qal hp,qal hp,List.set_set,List.set_set,h]
  ·have e : ∀ x,T.set p x=T:=fun x=>List.set_eq_of_length_le (by omega)
   simp only[e]
 ·have e1:(T.set p (A (T.getD p tc0))).getD q tc0=T.getD q tc0:=by simp[List.getD,List.getElem?_set,hpq]
  have e2:(T.set q (B (T.getD q tc0))).getD p tc0=T.getD p tc0:=by simp[List.getD,List.getElem?_set,Ne.symm hpq]
  rw[e1,e2,List.set_comm _ _ hpq]
def drvA (c:Circ) (r:Rt) (h:Int×Int) (t:Tcfg):Tcfg:=⟨t.table,t.select,t.reg,t.drive.set r.track.toNat (srcC c r.net h)⟩
theorem qhO (c:Circ) (r:Rt) (T:List Tcfg) (h:Int×Int):hopT c r T h=updT T h.1.toNat (drvA c r h):=rfl
theorem qdG (trk:List Int) (cells:List Cel) (place:List Int) (T:List Tcfg) (i:Nat):qbr trk cells place T (i+1)=updT (qbr trk cells place T i) (place.getD i 0).toNat (cellT trk (cells.getD i ce0)):=rfl
theorem qnl {c:Circ}{r:Rt}{p:Nat}{A:Tcfg->Tcfg}(hA : ∀ h t,A (drvA c r h t)=drvA c r h (A t)) : ∀ (l:List (Int×Int)) (T:List Tcfg),l.foldl (hopT c r) (updT T p A)=updT (l.foldl (hopT c r) T) p A
 | [],T=>rfl
 | h::l,T=>by
  rw[yao,yao,qhO,qpT (hA h),<-qhO];exact qnl hA l (hopT c r T h)
theorem qpU {c:Circ}{p:Nat}{A:Tcfg->Tcfg}(hA : ∀ r h t,A (drvA c r h t)=drvA c r h (A t)) : ∀ (l:List Rt) (T:List Tcfg),l.foldl (fun T r=>hopW c r T r.hops.length) (updT T p A)=updT (l.foldl (fun T r=>hopW c r T r.hops.length) T) p A
 | [],T=>rfl
 | r::l,T=>by
  rw[yao,yao];have e:hopW c r (updT T p A) r.hops.length=updT (hopW c r T r.hops.length) p A:=qnl (hA r) (r.hops.take r.hops.length) T;rw[e];exact qpU hA l _
theorem qlx {c:Circ}{trk:List Int}{cells:List Cel}{place:List Int}{rs:List Rt}{T:List Tcfg}{n:Nat} : ∀ i,qbr trk cells place (rtsT c rs T n) i=rtsT c rs (qbr trk cells place T i) n
 | 0=>rfl
 | i+1=>by
  rw[qdG,qdG,qlx i];exact(qpU (fun r h t=>rfl) (rs.take n) _).symm
def rtE (rs:List Rt):List (D×D):=rs.map fun r=>(dI r.net,dI r.track)
theorem qnm (x:Int) : ∀ rs:List Rt,qcM (rtE rs) (dI x)=(rs.find? fun r=>decide (r.net=x)).map fun r=>dI r.track
 | []=>rfl
 | r::l=>by
  have ih:=qnm x l;show qcM ((dI r.net,dI r.track)::rtE l) _=_
  rw[qei,qdE];by_cases h:r.net=x
  ·subst h;simp
  ·rw[decide_eq_false (fun h2=>h h2.symm)];simp only[yah,if_false,ih];simp[h]
theorem qpV (x:Int) (v:D) : ∀ rs:List Rt,(∀ r∈rs,r.net≠x)->updD (rtE rs) (dI x) v=rtE rs ++ [(dI x,v)]
 | [],_=>rfl
 | r::l,hx=>by
  have ih:=qpV x v l (fun y hy=>hx y (yak _ hy));show updD ((dI r.net,dI r.track)::rtE l) _ _=_
  rw[updD,qdE,decide_eq_false (fun h2=>hx r (yaE ..) h2.symm)];simp only[yah,if_false,ih];rfl
theorem qnn (rs:List Rt):qbv (.int .i64) (rtE rs):=by
 rw[qcS];intro e he;obtain⟨x,_,rfl⟩:=List.mem_map.1 he;exact rfl
theorem qrM {rs:List Rt}{i:Nat}(hi:i<rs.length):rtE (rs.take (i+1))=rtE (rs.take i) ++ [(dI (rs.getD i rt0).net,dI (rs.getD i rt0).track)]:=qaS rt0 hi
theorem qmy {rs:List Rt}(hn:(rs.map (·.net)).Nodup) {i:Nat}(hi:i<rs.length) : ∀ r∈rs.take i,r.net≠(rs.getD i rt0).net:=by
 intro r hr e;have h1:(rs.take (i+1)).map (·.net)=(rs.take i).map (·.net) ++ [(rs.getD i rt0).net]:=qaS rt0 hi;have h2:((rs.take (i+1)).map (·.net)).Nodup:=by
  rw[List.map_take];exact hn.sublist (List.take_sublist _ _)
 rw[h1,ybj] at h2;exact h2.2.2 _ (ybk hr) _ (by simp) e
theorem qiU {v:Nat} : ∀ (l:List Rt) (q:List Int),(∀ r∈l,r.net.toNat≠v)->(l.foldl (fun l r=>l.set r.net.toNat r.track) q).getD v 0=q.getD v 0
 | [],q,_=>rfl
 | r::l,q,h=>by
  rw[yao,qiU l _ (fun y hy=>h y (yak _ hy))];simp[List.getD,List.getElem?_set,h r (yaE ..)]
theorem qku : ∀ (l:List Rt) (q:List Int),(l.map (·.net)).Nodup->(∀ r∈l,0<=r.net/\r.net<q.length)->∀ r∈l,(l.foldl (fun l r=>l.set r.net.toNat r.track) q).getD r.net.toNat 0=r.track
 | [],q,_,_,r,hr=>by cases hr
 | a::l,q,hn,hb,r,hr=>by
  rw[yaK,List.nodup_cons] at hn;rw[yao];have ha:=hb a (yaE ..);rcases List.mem_cons.1 hr with rfl|h
  ·rw[qiU l _ (fun y hy e=>hn.1 (by
    have:=hb y (yak _ hy);have:y.net=r.net:=by omega
    rw[<-this];exact ybk hy)),qcn (by omega),if_pos rfl]
  ·exact qku l _ hn.2 (fun y hy=>by rw[yax];exact hb y (yak _ hy)) r h
theorem qly {vars:Nat}{rs:List Rt}(hn:(rs.map (·.net)).Nodup) (hb : ∀ r∈rs,0<=r.net/\r.net<vars) {v:Int}(hv : ∃ r∈rs,r.net=v):qcM (rtE rs) (dI v)=some (dI ((qaN vars rs).getD v.toNat 0)):=by
 obtain⟨r,hr,rfl⟩:=hv;have h1:=qku rs (List.replicate vars 15) hn (by simpa using hb) r hr;rw[qaN,trkN,yaz,h1,qnm];have:rs.find? (fun x=>decide (x.net=r.net))=some r:=by
  cases h:rs.find? (fun x=>decide (x.net=r.net)) with
  | none=>rw[List.find?_eq_none] at h;exact absurd (h r hr) (by simp)
  | some x=>
   have h2:=List.find?_some h;have h3:=List.mem_of_find?_eq_some h;rw[decide_eq_true_iff] at h2;congr 1;obtain⟨i,hi,rfl⟩:=qaU rt0 h3;obtain⟨j,hj,rfl⟩:=qaU rt0 hr;rcases Nat.lt_trichotomy i j with h4|h4|h4
   ·exact absurd h2 (qmy hn hj _ (by
     have:rs.getD i rt0=(rs.take j).getD i rt0:=by simp[List.getD,List.getElem?_take,h4]
     rw[this];exact qac (by simp;omega)))
   ·rw[h4]
   ·exact absurd h2.symm (qmy hn hi _ (by
     have:rs.getD j rt0=(rs.take i).getD j rt0:=by simp[List.getD,List.getElem?_take,h4]
     rw[this];exact qac (by simp;omega)))
 rw[this];rfl
theorem qfk {vars:Nat}{rs:List Rt}(h0:0<vars) (hb : ∀ r∈rs,1<=r.net):(qaN vars rs).getD 0 0=15:=by
 rw[qaN,trkN,yaz,qiU rs _ (fun r hr=>by have:=hb r hr;omega)];simp[List.getD,h0]
theorem qfx {c:Circ}{trk:List Int} : ∀ (n o:Nat),n<=o->o<3->(qdj c trk n).getD o (0,false)=(15,false)
 | 0,o,_,h=>by
  obtain rfl|rfl|rfl:o=0∨o=1∨o=2:=by omega
  all_goals rfl
 | n+1,o,h,h3=>by
  have hs:qdj c trk (n+1)=(qdj c trk n).set n (trk.getD (c.outs.getD n 0/2).toNat 0,decide (c.outs.getD n 0%2=1)):=by simp only[qdj,yaL,yaO,yao,List.foldl_nil]
  rw[hs];have:=qfx (c:=c) (trk:=trk) n o (by omega) h3;rw[<-this];simp[List.getD,List.getElem?_set,show ¬ n=o by omega]

theorem qhP {T:List Tcfg}{p q:Nat}{A:Tcfg->Tcfg}(hp:p<T.length):(updT T p A).getD q tc0=if p=q then A (T.getD p tc0) else T.getD q tc0:=by
 unfold updT;by_cases h:p=q
 ·subst h;rw[if_pos rfl,qal hp]
 ·rw[if_neg h,qco h]
theorem qrN {T:List Tcfg}{p:Nat}{A:Tcfg->Tcfg}:(updT T p A).length=T.length:=by simp[updT]
def drvT (T:List Tcfg) (t u:Nat):Int:=(T.getD t tc0).drive.getD u 0
theorem qno {c:Circ}{r:Rt}{T:List Tcfg}{h:Int×Int}{t u:Nat}(hT:Tsz T) (hh:0<=h.1/\h.1<=24) (hu:0<=r.track/\r.track<=7):drvT (hopT c r T h) t u=if h.1.toNat=t/\r.track.toNat=u then srcC c r.net h else drvT T t u:=by
 have hsz:=hT.get (i:=h.1.toNat) (by omega);have hl:=hT.1;unfold drvT;rw[qhO,qhP (by omega)];by_cases e:h.1.toNat=t
 ·subst e;rw[if_pos rfl];show((T.getD h.1.toNat tc0).drive.set r.track.toNat (srcC c r.net h)).getD u 0=_
  by_cases e2:r.track.toNat=u
  ·subst e2;rw[if_pos ⟨rfl,rfl⟩,qal (by have:=hsz.2;omega)]
  ·rw[if_neg (fun h=>e2 h.2),qco e2]
 ·rw[if_neg e,if_neg (fun h=>e h.1)]
theorem qiV {c:Circ}{r:Rt}(hu:0<=r.track/\r.track<=7) {t u:Nat} : ∀ (l:List (Int×Int)) (T:List Tcfg),Tsz T->(∀ h∈l,0<=h.1/\h.1<=24)->(r.track.toNat=u->∀ h∈l,h.1.toNat≠t)->drvT (l.foldl (hopT c r) T) t u=drvT T t u
 | [],T,_,_,_=>rfl
 | h::l,T,hT,hl,hn=>by
  have h1:=hl h (yaE ..);rw[yao,qiV hu l _ (qks hT h1) (fun x hx=>hl x (yak _ hx)) (fun e x hx=>hn e x (yak _ hx)),qno hT h1 hu,if_neg (fun e=>hn e.2 h (yaE ..) e.1)]
theorem qhy {c:Circ}{r:Rt}(hu:0<=r.track/\r.track<=7) : ∀ (l:List (Int×Int)) (T:List Tcfg),Tsz T->(∀ h∈l,0<=h.1/\h.1<=24)->(qam l).Nodup->∀ h∈l,drvT (l.foldl (hopT c r) T) h.1.toNat r.track.toNat=srcC c r.net h
 | [],T,_,_,_,h,hm=>by cases hm
 | a::l,T,hT,hl,hn,h,hm=>by
  have h1:=hl a (yaE ..);rw[qam,yaK,List.nodup_cons] at hn;rw[yao];rcases List.mem_cons.1 hm with rfl|h2
  ·rw[qiV hu l _ (qks hT h1) (fun x hx=>hl x (yak _ hx)) (fun _ x hx e=>hn.1 (by
    have:=hl x (yak _ hx);have e2:x.1=h.1:=by omega
    rw[<-e2];exact ybk hx)),qno hT h1 hu,if_pos ⟨rfl,rfl⟩]
  ·exact qhy hu l _ (qks hT h1) (fun x hx=>hl x (yak _ hx)) hn.2 h h2
def RtB (l:List Rt):Prop:=∀ r∈l,(0<=r.track/\r.track<=7)/\∀ h∈r.hops,0<=h.1/\h.1<=24
theorem RtB.tail {r:Rt}{l:List Rt}(h:RtB (r::l)):RtB l:=fun x hx=>h x (yak _ hx)
theorem qkv {c:Circ}{t u:Nat} : ∀ (l:List Rt) (T:List Tcfg),Tsz T->RtB l->(∀ r∈l,r.track.toNat=u->∀ h∈r.hops,h.1.toNat≠t)->drvT (l.foldl (fun T r=>hopW c r T r.hops.length) T) t u=drvT T t u
 | [],T,_,_,_=>rfl
 | r::l,T,hT,hl,hn=>by
  obtain⟨h1,h2⟩:=hl r (yaE ..);rw[yao,qkv l _ (qfw hT h2 _) hl.tail (fun x hx=>hn x (yak _ hx))];unfold hopW;rw[yaz];exact qiV h1 r.hops T hT h2 (hn r (yaE ..))
theorem qiW {c:Circ} : ∀ (l:List Rt) (T:List Tcfg),Tsz T->RtB l->l.Pairwise qpH->(∀ r∈l,(qam r.hops).Nodup)->∀ r∈l,∀ h∈r.hops,drvT (l.foldl (fun T r=>hopW c r T r.hops.length) T) h.1.toNat r.track.toNat=srcC c r.net h
 | [],T,_,_,_,_,r,hr=>by cases hr
 | a::l,T,hT,hl,hp,hn,r,hr=>by
  intro h hh;obtain⟨h1,h2⟩:=hl a (yaE ..);rw[List.pairwise_cons] at hp;rw[yao];rcases List.mem_cons.1 hr with rfl|h3
  ·rw[qkv l _ (qfw hT h2 _) hl.tail (fun x hx e y hy e2=>by
    obtain⟨b1,b2⟩:=hl x (yak _ hx);have b3:=b2 y hy;have b4:=h2 h hh;refine hp.1 x hx (by omega) h.1 (ybk hh) ?_;have e3:h.1=y.1:=by omega
    rw[e3];exact ybk hy)]
   unfold hopW;rw[yaz];exact qhy h1 r.hops T hT h2 (hn r (yaE ..)) h hh
  ·exact qiW l _ (qfw hT h2 _) hl.tail hp.2 (fun x hx=>hn x (yak _ hx)) r h3 h hh
def qgC (T:List Tcfg) (t:Nat):Int×List Int×Bool:=((T.getD t tc0).table,(T.getD t tc0).select,(T.getD t tc0).reg)
theorem qrO {c:Circ}{r:Rt}{T:List Tcfg}{h:Int×Int}{t:Nat}:qgC (hopT c r T h) t=qgC T t:=by
 rw[qhO];by_cases hp:h.1.toNat<T.length
 ·unfold qgC;rw[qhP hp];split
  ·rename_i e;subst e;rfl
  ·rfl
 ·rw[updT,List.set_eq_of_length_le (by omega)]
theorem qlz {c:Circ}{r:Rt}{t:Nat} : ∀ (l:List (Int×Int)) (T:List Tcfg),qgC (l.foldl (hopT c r) T) t=qgC T t
 | [],T=>rfl
 | h::l,T=>by rw[yao,qlz l,qrO]
theorem qnp {c:Circ}{t:Nat} : ∀ (l:List Rt) (T:List Tcfg),qgC (l.foldl (fun T r=>hopW c r T r.hops.length) T) t=qgC T t
 | [],T=>rfl
 | r::l,T=>by rw[yao,qnp l];exact qlz _ T
theorem qlA {trk:List Int}{cells:List Cel}{place:List Int}{T:List Tcfg}{t u:Nat} : ∀ i,drvT (qbr trk cells place T i) t u=drvT T t u
 | 0=>rfl
 | i+1=>by
  have ih:=qlA (trk:=trk) (cells:=cells) (place:=place) (T:=T) (t:=t) (u:=u) i;rw[<-ih,qdG];by_cases hp:(place.getD i 0).toNat<(qbr trk cells place T i).length
  ·unfold drvT;rw[qhP hp];split
   ·rename_i e;subst e;rfl
   ·rfl
  ·rw[updT,List.set_eq_of_length_le (by omega)]
theorem qjO {trk:List Int}{cells:List Cel}{place:List Int}{T:List Tcfg} : ∀ i,(qbr trk cells place T i).length=T.length
 | 0=>rfl
 | i+1=>by rw[qdG,qrN,qjO i]
theorem qiX {trk:List Int}{cells:List Cel}{place:List Int}{T:List Tcfg}{t:Nat} : ∀ i,(∀ j,j<i->(place.getD j 0).toNat≠t)->(qbr trk cells place T i).getD t tc0=T.getD t tc0
 | 0,_=>rfl
 | i+1,h=>by
  rw[qdG,updT,qco (h i (by omega)),qiX i (fun j hj=>h j (by omega))]
theorem qlB {n:Nat}{place:List Int}(hp:PlaceOk n place) {i j:Nat}(hi:i<n) (hj:j<n) (h:(place.getD i 0).toNat=(place.getD j 0).toNat):i=j:=by
 have h1:=hp.get hi;have h2:=hp.get hj;have:=hp.len;exact qeu.1 hp.nd i j (by omega) (by omega) (by omega)
theorem qnq {trk:List Int}{cells:List Cel}{place:List Int}(hp:PlaceOk cells.length place) {T:List Tcfg}(hT:T.length=25) : ∀ i,i<=cells.length->∀ j,j<i->(qbr trk cells place T i).getD (place.getD j 0).toNat tc0=cellT trk (cells.getD j ce0) (T.getD (place.getD j 0).toNat tc0)
 | 0,_,j,hj=>by omega
 | i+1,hi,j,hj=>by
  have hb:=hp.get (i:=i) (by omega);rw[qdG];by_cases e:j=i
  ·subst e;rw[qhP (by rw[qjO];omega),if_pos rfl,qiX j (fun k hk e=>by have:=qlB hp (by omega) (by omega) e;omega)]
  ·rw[updT,qco (fun e2=>e (qlB hp (by omega) (by omega) e2).symm)];exact qnq hp hT i (by omega) j (by omega)
theorem srcC_nb {c:Circ}{net:Int}{h:Int×Int}(hf:0<=h.2/\h.2<=24) (hn:h.1∈nbC h.2):2<=srcC c net h/\srcC c net h<=5/\nb h.1 (srcC c net h)=h.2:=by
 have hb:=qjC hf h.1 hn;have hd:nb h.1 2=h.2∨nb h.1 3=h.2∨nb h.1 4=h.2∨nb h.1 5=h.2:=by
  have e2:nb h.1 2=nbUp h.1:=rfl;have e3:nb h.1 3=qd2 h.1:=rfl;have e4:nb h.1 4=qcK h.1:=rfl;have e5:nb h.1 5=qd3 h.1:=rfl;rw[e2,e3,e4,e5];unfold nbUp qd2 qcK qd3;unfold nbC at hn;simp only[yaw] at hn;rcases hn with((h1|h1)|h1)|h1 <;> split at h1 <;> simp at h1
  ·right;right;right;rw[if_pos (by omega)];omega
  ·right;right;left;rw[if_pos (by omega)];omega
  ·right;left;rw[if_pos (by omega)];omega
  ·left;rw[if_pos (by omega)];omega
 unfold srcC;rw[if_neg (by omega)];by_cases h2:nb h.1 2=h.2
 ·rw[if_pos h2];exact⟨by omega,by omega,h2⟩
 ·rw[if_neg h2];by_cases h3:nb h.1 3=h.2
  ·rw[if_pos h3];exact⟨by omega,by omega,h3⟩
  ·rw[if_neg h3];by_cases h4:nb h.1 4=h.2
   ·rw[if_pos h4];exact⟨by omega,by omega,h4⟩
   ·rw[if_neg h4];have h5:nb h.1 5=h.2:=by rcases hd with h|h|h|h <;> first|exact h|contradiction
    rw[if_pos h5];exact⟨by omega,by omega,h5⟩
structure Routed (c:Circ) (place:List Int) (rs:List Rt):Prop where
 v:c.Valid
 p:PlaceOk (qae c).length place
 ex : ∃ busy0 busy,RoutesOk c (qae c) place busy0 (c.vars.toNat-1) busy rs
noncomputable abbrev bK (c:Circ) (place:List Int) (rs:List Rt):Kcfg:=qhx c (qae c) place rs
section routed
variable {c:Circ}{place:List Int}{rs:List Rt}
theorem Routed.nd (R:Routed c place rs):(rs.map (·.net)).Nodup:=by
 obtain⟨b0,b,h⟩:=R.ex;rw[h.nets];exact(qiS _).1
theorem Routed.bd (R:Routed c place rs) : ∀ r∈rs,(1<=r.net/\r.net<c.vars)/\(0<=r.track/\r.track<=7)/\(∀ h∈r.hops,0<=h.1/\h.1<=24)/\(qam r.hops).Nodup:=by
 intro r hr;obtain⟨b0,b,h⟩:=R.ex;have e:=h.each r hr;have e1:=e.net;have e2:=e.track;have hv:=R.v.vars_bd;exact⟨by omega,by omega,e.tree.rng,e.tree.nd⟩
theorem Routed.rtb (R:Routed c place rs):RtB rs:=fun r hr=>⟨(R.bd r hr).2.1,(R.bd r hr).2.2.1⟩
theorem Routed.apart (R:Routed c place rs):rs.Pairwise qpH:=by
 obtain⟨b0,b,h⟩:=R.ex;exact h.apart
theorem Routed.drv_in (R:Routed c place rs) {r:Rt}(hr:r∈rs) {h:Int×Int}(hh:h∈r.hops):drv (bK c place rs) (h.1,r.track)=srcC c r.net h:=by
 have hT:Tsz (qbr (qaN c.vars.toNat rs) (qae c) place (List.replicate 25 qaW) (qae c).length):=qex Tsz.empty (fun x hx=>(qdk R.v x hx).1) R.p _ (yad _);have:=qiW (c:=c) rs _ hT R.rtb R.apart (fun r hr=>(R.bd r hr).2.2.2) r hr h hh;rw[<-this];show drvT (rtsT c rs _ rs.length) _ _=_
 unfold rtsT;rw[yaz]
theorem Routed.drv_out (R:Routed c place rs) {w:Wr}(hw:wOk w) (hn : ∀ r∈rs,r.track=w.2->w.1∉qam r.hops):drv (bK c place rs) w=0:=by
 have hT:Tsz (qbr (qaN c.vars.toNat rs) (qae c) place (List.replicate 25 qaW) (qae c).length):=qex Tsz.empty (fun x hx=>(qdk R.v x hx).1) R.p _ (yad _);obtain⟨⟨w1,w2⟩,w3,w4⟩:=hw;have:=qkv (c:=c) (t:=w.1.toNat) (u:=w.2.toNat) rs _ hT R.rtb (fun r hr e h hh e2=>by
  obtain⟨b1,b2⟩:=R.rtb r hr;have b3:=b2 h hh;refine hn r hr (by omega) ?_;have e3:w.1=h.1:=by omega
  rw[e3];exact ybk hh)
 show drvT (rtsT c rs _ rs.length) _ _=_
 unfold rtsT;rw[yaz,this,qlA];unfold drvT;have e1:(List.replicate 25 qaW).getD w.1.toNat tc0=qaW:=by rw[List.getD_eq_getElem?_getD,List.getElem?_replicate,if_pos (by omega)];rfl
 rw[e1];obtain h|h|h|h|h|h|h|h:w.2.toNat=0∨w.2.toNat=1∨w.2.toNat=2∨w.2.toNat=3∨w.2.toNat=4∨w.2.toNat=5∨w.2.toNat=6∨w.2.toNat=7:=by omega
 all_goals rw[h];rfl
theorem qpW {t:Nat}:qgC (bK c place rs).tiles t=qgC (qbr (qaN c.vars.toNat rs) (qae c) place (List.replicate 25 qaW) (qae c).length) t:=by
 show qgC (rtsT c rs _ rs.length) t=_
 unfold rtsT;rw[qnp]
theorem Routed.cell (R:Routed c place rs) {i:Nat}(hi:i<(qae c).length):qgC (bK c place rs).tiles (place.getD i 0).toNat=(((qae c).getD i ce0).table,selS [15,15,15] (((qae c).getD i ce0).inputs.map fun v=>(qaN c.vars.toNat rs).getD v.toNat 0),((qae c).getD i ce0).reg):=by
 have hb:=R.p.get hi;rw[qpW,qgC,qnq R.p (by simp) _ (yad _) i hi];have e1:(List.replicate 25 qaW).getD (place.getD i 0).toNat tc0=qaW:=by rw[List.getD_eq_getElem?_getD,List.getElem?_replicate,if_pos (by omega)];rfl
 rw[e1];rfl
theorem Routed.blank (R:Routed c place rs) {t:Nat}(ht:t<25) (hn : ∀ i,i<(qae c).length->(place.getD i 0).toNat≠t):qgC (bK c place rs).tiles t=(0,[15,15,15],false):=by
 rw[qpW,qgC,qiX _ hn];have e1:(List.replicate 25 qaW).getD t tc0=qaW:=by rw[List.getD_eq_getElem?_getD,List.getElem?_replicate,if_pos ht];rfl
 rw[e1];rfl
theorem Routed.route (R:Routed c place rs) {v:Int}(h0:1<=v) (h1:v<c.vars) (hu:qaz c (qae c) place v≠[]) : ∃ r∈rs,r.net=v/\(qaN c.vars.toNat rs).getD v.toNat 0=r.track/\∀ t∈qaz c (qae c) place v,t∈qam r.hops:=by
 obtain⟨b0,b,h⟩:=R.ex;have hv:=R.v.vars_bd;have hm:v∈rs.map (·.net):=by
  rw[h.nets,qhb];exact⟨by omega,fun e=>hu ((qiP R.v place h0 h1).1 e)⟩
 obtain⟨r,hr,rfl⟩:=List.mem_map.1 hm;refine⟨r,hr,rfl,?_,fun t ht=>(qiT R.v h hr).1 t (qjN.2 ht)⟩;rw[qaN,trkN,yaz];exact qku rs _ R.nd (fun x hx=>by have:=(R.bd x hx).1;simp;omega) r hr
theorem Routed.input (R:Routed c place rs) {i:Nat}(hi:i<(qae c).length) {v:Int}(hv:v∈((qae c).getD i ce0).inputs) : ∃ r∈rs,r.net=v/\(qaN c.vars.toNat rs).getD v.toNat 0=r.track/\place.getD i 0∈qam r.hops:=by
 have hin:=(qdk R.v _ (qac hi:(qae c).getD i ce0∈qae c)).2.2 v hv;have hm:place.getD i 0∈qaz c (qae c) place v:=qcG.2 (.inl ⟨i,hi,hv,rfl⟩);obtain⟨r,hr,h1,h2,h3⟩:=R.route hin.1 hin.2 (fun e=>by rw[e] at hm;cases hm);exact⟨r,hr,h1,h2,h3 _ hm⟩
theorem Routed.pad (R:Routed c place rs) {o:Nat}(ho:o<c.outs.length) (hv:1<=c.outs.getD o 0/2) : ∃ r∈rs,r.net=c.outs.getD o 0/2/\(qaN c.vars.toNat rs).getD (c.outs.getD o 0/2).toNat 0=r.track/\(o:Int)*5+4∈qam r.hops:=by
 have hl:=R.v.o _ (qac ho:c.outs.getD o 0∈c.outs);unfold qaX at hl;have hm:(o:Int)*5+4∈qaz c (qae c) place (c.outs.getD o 0/2):=qcG.2 (.inr ⟨o,ho,rfl,rfl⟩);obtain⟨r,hr,h1,h2,h3⟩:=R.route hv (by omega) (fun e=>by rw[e] at hm;cases hm);exact⟨r,hr,h1,h2,h3 _ hm⟩
theorem Routed.hop (R:Routed c place rs) {r:Rt}(hr:r∈rs) {j:Nat}(hj:j<r.hops.length) :
  (drv (bK c place rs) ((r.hops.getD j (0,0)).1,r.track)=6/\r.net<=c.inputs/\(r.hops.getD j (0,0)).1=(r.net-1)*5)∨
  (drv (bK c place rs) ((r.hops.getD j (0,0)).1,r.track)=1/\c.inputs<r.net/\∃ i,i<(qae c).length/\((qae c).getD i ce0).net=r.net/\(r.hops.getD j (0,0)).1=place.getD i 0)∨
  (2<=drv (bK c place rs) ((r.hops.getD j (0,0)).1,r.track)/\drv (bK c place rs) ((r.hops.getD j (0,0)).1,r.track)<=5/\∃ m,m<j/\nb (r.hops.getD j (0,0)).1 (drv (bK c place rs) ((r.hops.getD j (0,0)).1,r.track))=(r.hops.getD m (0,0)).1):=by
 obtain⟨b0,b,h⟩:=R.ex;have hm:=qac (z:=((0,0):Int×Int)) hj;rw[R.drv_in hr hm];have he:=h.each r hr;have hrd:=qiT R.v h hr;have hbd:=R.bd r hr;rcases he.tree.root j hj with⟨rfl,h2⟩|⟨h1,m,h2,h3,h4⟩
 ·have hsrc:=hrd.2;rw[qmx] at hsrc;by_cases hni:r.net<=c.inputs
  ·left;refine⟨by rw[srcC,if_pos (by omega),if_pos hni],hni,?_⟩;rw[hsrc,if_neg];intro h5;rcases qgz (qha R.v) place r.net _ (yad _) with⟨i,g1,g2,-,g4⟩|⟨-,-,g3⟩
   ·have:=(qjI R.v _ (qac g1:(qae c).getD i ce0∈qae c)).1;omega
   ·omega
  ·right;left;refine⟨by rw[srcC,if_pos (by omega),if_neg hni],by omega,?_⟩;have hn:r.net∈qew c (qae c) place (c.vars.toNat-1):=by rw[<-h.nets];exact List.mem_map.2 ⟨r,hr,rfl⟩
   have hu:qaz c (qae c) place r.net≠[]:=fun h3=>(qhb.1 hn).2 ((qiP R.v place hbd.1.1 hbd.1.2).2 h3)
   have hso:=qpP R.v place hbd.1.1 hbd.1.2 hu;rcases qgz (qha R.v) place r.net _ (yad _) with⟨i,g1,g2,-,g4⟩|⟨-,g2,-⟩
   ·refine⟨i,g1,g2,?_⟩;rw[hsrc,if_pos (by omega),g4];rfl
   ·rw[g2,qg3,if_neg (by omega)] at hso;cases hso
 ·right;right;have hb:0<=(r.hops.getD j (0,0)).2/\(r.hops.getD j (0,0)).2<=24:=by
   rw[<-h3];exact he.tree.rng _ (qac (by omega))
  obtain⟨a1,a2,a3⟩:=srcC_nb (c:=c) (net:=r.net) hb h4;exact⟨a1,a2,m,h2,by rw[a3,h3]⟩
theorem qgD (hc:c.Valid) {i:Nat}(hi:i<(qae c).length):(i<c.next.length/\(qae c).getD i ce0=qaL c i)∨(c.next.length<=i/\∃ g,g<c.gates.length/\(qae c).getD i ce0=qa5 (qfi c g)):=by
 by_cases h:i<c.next.length
 ·left;refine⟨h,?_⟩;rw[qae,qaq (by simpa using h)];simp[List.getD,h]
 ·right;refine⟨by omega,?_⟩;have hm:(qae c).getD i ce0∈(qdx c).map qa5:=by
   rw[qae] at hi ⊢;rw[yae,yav,ybp] at hi;have e:((List.range c.next.length).map (qaL c)++(qdx c).map qa5).getD i ce0=((qdx c).map qa5).getD (i-c.next.length) ce0:=by
    simp[List.getD,List.getElem?_append_right,show c.next.length<=i by omega]
   rw[e];exact qac (by omega)
  obtain⟨l,hl,e⟩:=List.mem_map.1 hm;obtain⟨g,hg,rfl⟩:=(qc9 hc).each l hl;exact⟨g,hg,e.symm⟩
theorem qnr {s:Int}{v:List Int}(h:s∈selS [15,15,15] v):s∈v∨s=15:=by
 unfold selS at h;rcases List.mem_append.1 h with h|h
 ·exact .inl h
 ·have:=yaM h;simp at this;exact .inr this
theorem qfy {hops:List (Int×Int)}{t:Int}(h:t∈qam hops) : ∃ j,j<hops.length/\(hops.getD j (0,0)).1=t:=by
 obtain⟨x,hx,rfl⟩:=List.mem_map.1 h;obtain⟨j,hj,rfl⟩:=qaU ((0,0):Int×Int) hx;exact⟨j,hj,rfl⟩
theorem Routed.wf (R:Routed c place rs):Wf (bK c place rs):=by
 have key : ∀ n:Nat,∀ r∈rs,r.net.toNat=n->∀ j,j<r.hops.length->Acc (Rel (bK c place rs)) ((r.hops.getD j (0,0)).1,r.track):=by
  intro n;induction n using Nat.strongRecOn with
  | ind n ihn=>
   intro r hr hn j;induction j using Nat.strongRecOn with
   | ind j ihj=>
    intro hj;refine⟨_,fun y hy=>?_⟩;unfold Rel qbG at hy;rcases R.hop hr hj with⟨hd,-,-⟩|⟨hd,hni,i,hi,hnet,ht⟩|⟨h2,h5,m,hm,hnb⟩
    ·rw[if_neg (by rw[hd];omega),if_neg (by rw[hd];omega)] at hy;cases hy
    ·rw[if_neg (by rw[hd];omega)] at hy;split at hy
     ·rename_i hreg;have hcell:=R.cell hi;simp only at hy hreg;rw[ht] at hy hreg;have hsel:((bK c place rs).tiles.getD (place.getD i 0).toNat tc0).select=selS [15,15,15] (((qae c).getD i ce0).inputs.map fun v=>(qaN c.vars.toNat rs).getD v.toNat 0):=congrArg (fun x=>x.2.1) hcell;have hrg:((bK c place rs).tiles.getD (place.getD i 0).toNat tc0).reg=((qae c).getD i ce0).reg:=congrArg (fun x=>x.2.2) hcell;rw[hsel] at hy;obtain⟨s,hs,rfl⟩:=List.mem_map.1 hy;obtain⟨hs1,hs2⟩:=List.mem_filter.1 hs;rw[decide_eq_true_eq] at hs2;rcases qnr hs1 with h|h
      ·obtain⟨v,hv,rfl⟩:=List.mem_map.1 h;obtain⟨r',hr',e1,e2,e3⟩:=R.input hi hv;obtain⟨j',hj',e4⟩:=qfy e3;rw[e2,<-e4];rcases qgD R.v hi with⟨-,hk⟩|⟨-,g,hg,hk⟩
       ·exfalso;rw[hrg,hk] at hreg;have:=hreg.2;unfold qaL at this;split at this <;> cases this
       ·rw[hk] at hv hnet;have hb:=(qcF R.v hg).2.2 v hv;have hnet2:c.first+(g:Int)=r.net:=hnet
        have hb0:=(R.bd r' hr').1;exact ihn r'.net.toNat (by omega) r' hr' rfl j' hj'
      ·exact absurd h hs2
     ·cases hy
    ·rw[if_pos ⟨h2,h5⟩] at hy;obtain rfl:=List.mem_singleton.1 hy;simp only;rw[hnb];exact ihj m hm (by omega)
 intro w hw;by_cases hn : ∀ r∈rs,r.track=w.2->w.1∉qam r.hops
 ·refine⟨_,fun y hy=>?_⟩;unfold Rel qbG at hy;rw[R.drv_out hw hn,if_neg (by omega),if_neg (by omega)] at hy;cases hy
 ·simp only[Classical.not_forall,Classical.not_not] at hn;obtain⟨r,hr,e1,e2⟩:=hn;obtain⟨j,hj,e3⟩:=qfy e2;have:=key _ r hr rfl j hj;rw[e3,e1] at this;exact this
end routed
end Go.Proofs
