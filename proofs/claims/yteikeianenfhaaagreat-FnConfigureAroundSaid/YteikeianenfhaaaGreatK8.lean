/- Contracts, plain definitions and lemmas. Conditions: none; lemmas. -/
import Derived.Test.YteikeianenfhaaaGreatC79
import Derived.Test.YteikeianenfhaaaGreatF3
import Derived.Test.YteikeianenfhaaaGreatC85
set_option linter.unusedSimpArgs false
set_option linter.unusedVariables false
set_option maxHeartbeats 2000000
namespace Go.Proofs
set_option linter.defProp false
open Go Go.VL
variable {A:Tcfg->Tcfg}{i vars p t j:Nat}{v:Int}{T:List Tcfg}{r:Rt}{h:Int×Int}
def updT (T:List Tcfg) (p:Nat) (A:Tcfg->Tcfg):List Tcfg:=T.set p (A (T.getD p tc0))
def qp9 {B:Tcfg->Tcfg}(h : ∀ t,A (B t)=B (A t)) (T:List Tcfg) (p q:Nat):updT (updT T p A) q B=updT (updT T q B) p A:=by
 unfold updT;by_cases hpq:p=q
 ·subst hpq;by_cases hp:p<T.length
  ·rw[qak hp,qak hp,List.set_set,List.set_set,h]
  ·have e : ∀ x,T.set p x=T:=fun x=>yaY (by omega)
   simp only[e]
 ·have e1:(T.set p (A (T.getD p tc0))).getD q tc0=T.getD q tc0:=by simp[List.getD,List.getElem?_set,hpq]
  have e2:(T.set q (B (T.getD q tc0))).getD p tc0=T.getD p tc0:=by simp[List.getD,List.getElem?_set,Ne.symm hpq]
  rw[e1,e2,List.set_comm _ _ hpq]
def drvA (c:Circ) (r:Rt) (h:Int×Int) (t:Tcfg):Tcfg:=⟨t.table,t.select,t.reg,t.drive.set r.track.toNat (srcC c r.net h)⟩
def qh2 (c:Circ) (r:Rt) (T:List Tcfg) (h:Int×Int):hopT c r T h=updT T h.1.toNat (drvA c r h):=rfl
def qdH (trk:List Int) (cells:List Cel) (place:List Int) (T:List Tcfg) (i:Nat):qbs trk cells place T (i+1)=updT (qbs trk cells place T i) (place.getD i 0).toNat (cellT trk (cells.getD i ce0)):=rfl
def qnA {c:Circ}{r:Rt}{p:Nat}{A:Tcfg->Tcfg}(hA : ∀ h t,A (drvA c r h t)=drvA c r h (A t)) : ∀ (l:List (Int×Int)) (T:List Tcfg),l.foldl (hopT c r) (updT T p A)=updT (l.foldl (hopT c r) T) p A
 | [],T=>rfl
 | h::l,T=>by
  rw[yao,yao,qh2,qp9 (hA h),<-qh2];exact qnA hA l (hopT c r T h)
def qqa {c:Circ}{p:Nat}{A:Tcfg->Tcfg}(hA : ∀ r h t,A (drvA c r h t)=drvA c r h (A t)) : ∀ (l:List Rt) (T:List Tcfg),l.foldl (fun T r=>hopW c r T r.hops.length) (updT T p A)=updT (l.foldl (fun T r=>hopW c r T r.hops.length) T) p A
 | [],T=>rfl
 | r::l,T=>by
  rw[yao,yao];have e:hopW c r (updT T p A) r.hops.length=updT (hopW c r T r.hops.length) p A:=qnA (hA r) (r.hops.take r.hops.length) T;rw[e];exact qqa hA l _
def qlO {c:Circ}{trk:List Int}{cells:List Cel}{place:List Int}{rs:List Rt}{T:List Tcfg}{n:Nat} : ∀ i,qbs trk cells place (rtsT c rs T n) i=rtsT c rs (qbs trk cells place T i) n
 | 0=>rfl
 | i+1=>by
  rw[qdH,qdH,qlO i];exact(qqa (fun r h t=>rfl) (rs.take n) _).symm
def rtE (rs:List Rt):List (D×D):=rs.map fun r=>(dI r.net,dI r.track)
def qnB (x:Int) : ∀ rs:List Rt,qcP (rtE rs) (dI x)=(rs.find? fun r=>decide (r.net=x)).map fun r=>dI r.track
 | []=>rfl
 | r::l=>by
  have ih:=qnB x l;show qcP ((dI r.net,dI r.track)::rtE l) _=_
  rw[qeh,qdE];by_cases h:r.net=x
  ·subst h;simp
  ·rw[decide_eq_false (fun h2=>h h2.symm)];simp only[yah,if_false,ih];simp[h]
def qqb (x:Int) (v:D) : ∀ rs:List Rt,(∀ r∈rs,r.net≠x)->updD (rtE rs) (dI x) v=rtE rs ++ [(dI x,v)]
 | [],_=>rfl
 | r::l,hx=>by
  have ih:=qqb x v l (fun y hy=>hx y (yaj _ hy));show updD ((dI r.net,dI r.track)::rtE l) _ _=_
  rw[updD,qdE,decide_eq_false (fun h2=>hx r (yaC ..) h2.symm)];simp only[yah,if_false,ih];rfl
def qnC (rs:List Rt):qbw (.int .i64) (rtE rs):=by
 rw[qcV];intro e he;obtain⟨x,_,rfl⟩:=List.mem_map.1 he;exact rfl
def qr3 {rs:List Rt}(hi:i<rs.length):rtE (rs.take (i+1))=rtE (rs.take i) ++ [(dI (rs.getD i rt0).net,dI (rs.getD i rt0).track)]:=qaT rt0 hi
def qmN {rs:List Rt}(hn:(rs.map (·.net)).Nodup) (hi:i<rs.length) : ∀ r∈rs.take i,r.net≠(rs.getD i rt0).net:=by
 intro r hr e;have h1:(rs.take (i+1)).map (·.net)=(rs.take i).map (·.net) ++ [(rs.getD i rt0).net]:=qaT rt0 hi;have h2:((rs.take (i+1)).map (·.net)).Nodup:=by
  rw[List.map_take];exact hn.sublist (List.take_sublist _ _)
 rw[h1,ybl] at h2;exact h2.2.2 _ (ybm hr) _ (by simp) e
def qi5 {v:Nat} : ∀ (l:List Rt) (q:List Int),(∀ r∈l,r.net.toNat≠v)->(l.foldl (fun l r=>l.set r.net.toNat r.track) q).getD v 0=q.getD v 0
 | [],q,_=>rfl
 | r::l,q,h=>by
  rw[yao,qi5 l _ (fun y hy=>h y (yaj _ hy))];simp[List.getD,List.getElem?_set,h r (yaC ..)]
def qkL : ∀ (l:List Rt) (q:List Int),(l.map (·.net)).Nodup->(∀ r∈l,0<=r.net/\r.net<q.length)->∀ r∈l,(l.foldl (fun l r=>l.set r.net.toNat r.track) q).getD r.net.toNat 0=r.track
 | [],q,_,_,r,hr=>by cases hr
 | a::l,q,hn,hb,r,hr=>by
  rw[yaL,List.nodup_cons] at hn;rw[yao];have ha:=hb a (yaC ..);rcases List.mem_cons.1 hr with rfl|h
  ·rw[qi5 l _ (fun y hy e=>hn.1 (by
    have:=hb y (yaj _ hy);have:y.net=r.net:=by omega
    rw[<-this];exact ybm hy)),qcp (by omega),if_pos rfl]
  ·exact qkL l _ hn.2 (fun y hy=>by rw[yas];exact hb y (yaj _ hy)) r h
def qlP {rs:List Rt}(hn:(rs.map (·.net)).Nodup) (hb : ∀ r∈rs,0<=r.net/\r.net<vars) (hv : ∃ r∈rs,r.net=v):qcP (rtE rs) (dI v)=some (dI ((qaP vars rs).getD v.toNat 0)):=by
 obtain⟨r,hr,rfl⟩:=hv;have h1:=qkL rs (List.replicate vars 15) hn (by simpa using hb) r hr;rw[qaP,trkN,yaA,h1,qnB];have:rs.find? (fun x=>decide (x.net=r.net))=some r:=by
  cases h:rs.find? (fun x=>decide (x.net=r.net)) with
  | none=>rw[List.find?_eq_none] at h;exact absurd (h r hr) (by simp)
  | some x=>
   have h2:=List.find?_some h;have h3:=List.mem_of_find?_eq_some h;rw[decide_eq_true_iff] at h2;congr 1;obtain⟨i,hi,rfl⟩:=qaV rt0 h3;obtain⟨j,hj,rfl⟩:=qaV rt0 hr;rcases Nat.lt_trichotomy i j with h4|h4|h4
   ·exact absurd h2 (qmN hn hj _ (by
     have:rs.getD i rt0=(rs.take j).getD i rt0:=by simp[List.getD,List.getElem?_take,h4]
     rw[this];exact qad (by simp;omega)))
   ·rw[h4]
   ·exact absurd h2.symm (qmN hn hi _ (by
     have:rs.getD j rt0=(rs.take i).getD j rt0:=by simp[List.getD,List.getElem?_take,h4]
     rw[this];exact qad (by simp;omega)))
 rw[this];rfl
def qfo {rs:List Rt}(h0:0<vars) (hb : ∀ r∈rs,1<=r.net):(qaP vars rs).getD 0 0=15:=by
 rw[qaP,trkN,yaA,qi5 rs _ (fun r hr=>by have:=hb r hr;omega)];simp[List.getD,h0]
def qfE {c:Circ}{trk:List Int} : ∀ (n o:Nat),n<=o->o<3->(qdj c trk n).getD o (0,false)=(15,false)
 | 0,o,_,h=>by
  obtain rfl|rfl|rfl:o=0∨o=1∨o=2:=by omega
  all_goals rfl
 | n+1,o,h,h3=>by
  have hs:qdj c trk (n+1)=(qdj c trk n).set n (trk.getD (c.outs.getD n 0/2).toNat 0,decide (c.outs.getD n 0%2=1)):=by simp only[qdj,yaH,yaM,yao,List.foldl_nil]
  rw[hs];have:=qfE (c:=c) (trk:=trk) n o (by omega) h3;rw[<-this];simp[List.getD,List.getElem?_set,show ¬ n=o by omega]

def qh3 {q:Nat}(hp:p<T.length):(updT T p A).getD q tc0=if p=q then A (T.getD p tc0) else T.getD q tc0:=by
 unfold updT;by_cases h:p=q
 ·subst h;rw[if_pos rfl,qak hp]
 ·rw[if_neg h,qbG h]
def qr4:(updT T p A).length=T.length:=by simp[updT]
def drvT (T:List Tcfg) (t u:Nat):Int:=(T.getD t tc0).drive.getD u 0
def qnD {c:Circ}{u:Nat}(hT:Tsz T) (hh:0<=h.1/\h.1<=24) (hu:0<=r.track/\r.track<=7):drvT (hopT c r T h) t u=if h.1.toNat=t/\r.track.toNat=u then srcC c r.net h else drvT T t u:=by
 have hsz:=hT.get (i:=h.1.toNat) (by omega);have hl:=hT.1;unfold drvT;rw[qh2,qh3 (by omega)];by_cases e:h.1.toNat=t
 ·subst e;rw[if_pos rfl];show((T.getD h.1.toNat tc0).drive.set r.track.toNat (srcC c r.net h)).getD u 0=_
  by_cases e2:r.track.toNat=u
  ·subst e2;rw[if_pos ⟨rfl,rfl⟩,qak (by have:=hsz.2;omega)]
  ·rw[if_neg (fun h=>e2 h.2),qbG e2]
 ·rw[if_neg e,if_neg (fun h=>e h.1)]
def qi6 {c:Circ}{r:Rt}(hu:0<=r.track/\r.track<=7) {t u:Nat} : ∀ (l:List (Int×Int)) (T:List Tcfg),Tsz T->(∀ h∈l,0<=h.1/\h.1<=24)->(r.track.toNat=u->∀ h∈l,h.1.toNat≠t)->drvT (l.foldl (hopT c r) T) t u=drvT T t u
 | [],T,_,_,_=>rfl
 | h::l,T,hT,hl,hn=>by
  have h1:=hl h (yaC ..);rw[yao,qi6 hu l _ (qkJ hT h1) (fun x hx=>hl x (yaj _ hx)) (fun e x hx=>hn e x (yaj _ hx)),qnD hT h1 hu,if_neg (fun e=>hn e.2 h (yaC ..) e.1)]
def qhM {c:Circ}{r:Rt}(hu:0<=r.track/\r.track<=7) : ∀ (l:List (Int×Int)) (T:List Tcfg),Tsz T->(∀ h∈l,0<=h.1/\h.1<=24)->(qao l).Nodup->∀ h∈l,drvT (l.foldl (hopT c r) T) h.1.toNat r.track.toNat=srcC c r.net h
 | [],T,_,_,_,h,hm=>by cases hm
 | a::l,T,hT,hl,hn,h,hm=>by
  have h1:=hl a (yaC ..);rw[qao,yaL,List.nodup_cons] at hn;rw[yao];rcases List.mem_cons.1 hm with rfl|h2
  ·rw[qi6 hu l _ (qkJ hT h1) (fun x hx=>hl x (yaj _ hx)) (fun _ x hx e=>hn.1 (by
    have:=hl x (yaj _ hx);have e2:x.1=h.1:=by omega
    rw[<-e2];exact ybm hx)),qnD hT h1 hu,if_pos ⟨rfl,rfl⟩]
  ·exact qhM hu l _ (qkJ hT h1) (fun x hx=>hl x (yaj _ hx)) hn.2 h h2
def RtB (l:List Rt):Prop:=∀ r∈l,(0<=r.track/\r.track<=7)/\∀ h∈r.hops,0<=h.1/\h.1<=24
def RtB.tail {l:List Rt}(h:RtB (r::l)):RtB l:=fun x hx=>h x (yaj _ hx)
def qkM {c:Circ}{t u:Nat} : ∀ (l:List Rt) (T:List Tcfg),Tsz T->RtB l->(∀ r∈l,r.track.toNat=u->∀ h∈r.hops,h.1.toNat≠t)->drvT (l.foldl (fun T r=>hopW c r T r.hops.length) T) t u=drvT T t u
 | [],T,_,_,_=>rfl
 | r::l,T,hT,hl,hn=>by
  obtain⟨h1,h2⟩:=hl r (yaC ..);rw[yao,qkM l _ (qfD hT h2 _) hl.tail (fun x hx=>hn x (yaj _ hx))];unfold hopW;rw[yaA];exact qi6 h1 r.hops T hT h2 (hn r (yaC ..))
def qi7 {c:Circ} : ∀ (l:List Rt) (T:List Tcfg),Tsz T->RtB l->l.Pairwise qpY->(∀ r∈l,(qao r.hops).Nodup)->∀ r∈l,∀ h∈r.hops,drvT (l.foldl (fun T r=>hopW c r T r.hops.length) T) h.1.toNat r.track.toNat=srcC c r.net h
 | [],T,_,_,_,_,r,hr=>by cases hr
 | a::l,T,hT,hl,hp,hn,r,hr=>by
  intro h hh;obtain⟨h1,h2⟩:=hl a (yaC ..);rw[List.pairwise_cons] at hp;rw[yao];rcases List.mem_cons.1 hr with rfl|h3
  ·rw[qkM l _ (qfD hT h2 _) hl.tail (fun x hx e y hy e2=>by
    obtain⟨b1,b2⟩:=hl x (yaj _ hx);have b3:=b2 y hy;have b4:=h2 h hh;refine hp.1 x hx (by omega) h.1 (ybm hh) ?_;have e3:h.1=y.1:=by omega
    rw[e3];exact ybm hy)]
   unfold hopW;rw[yaA];exact qhM h1 r.hops T hT h2 (hn r (yaC ..)) h hh
  ·exact qi7 l _ (qfD hT h2 _) hl.tail hp.2 (fun x hx=>hn x (yaj _ hx)) r h3 h hh
def qgN (T:List Tcfg) (t:Nat):Int×List Int×Bool:=((T.getD t tc0).table,(T.getD t tc0).select,(T.getD t tc0).reg)
def qr5 {c:Circ}:qgN (hopT c r T h) t=qgN T t:=by
 rw[qh2];by_cases hp:h.1.toNat<T.length
 ·unfold qgN;rw[qh3 hp];split
  ·rename_i e;subst e;rfl
  ·rfl
 ·rw[updT,yaY (by omega)]
def qlQ {c:Circ}{r:Rt}{t:Nat} : ∀ (l:List (Int×Int)) (T:List Tcfg),qgN (l.foldl (hopT c r) T) t=qgN T t
 | [],T=>rfl
 | h::l,T=>by rw[yao,qlQ l,qr5]
def qnE {c:Circ}{t:Nat} : ∀ (l:List Rt) (T:List Tcfg),qgN (l.foldl (fun T r=>hopW c r T r.hops.length) T) t=qgN T t
 | [],T=>rfl
 | r::l,T=>by rw[yao,qnE l];exact qlQ _ T
def qlR {trk:List Int}{cells:List Cel}{place:List Int}{T:List Tcfg}{t u:Nat} : ∀ i,drvT (qbs trk cells place T i) t u=drvT T t u
 | 0=>rfl
 | i+1=>by
  have ih:=qlR (trk:=trk) (cells:=cells) (place:=place) (T:=T) (t:=t) (u:=u) i;rw[<-ih,qdH];by_cases hp:(place.getD i 0).toNat<(qbs trk cells place T i).length
  ·unfold drvT;rw[qh3 hp];split
   ·rename_i e;subst e;rfl
   ·rfl
  ·rw[updT,yaY (by omega)]
def qj1 {trk:List Int}{cells:List Cel}{place:List Int}{T:List Tcfg} : ∀ i,(qbs trk cells place T i).length=T.length
 | 0=>rfl
 | i+1=>by rw[qdH,qr4,qj1 i]
def qi8 {trk:List Int}{cells:List Cel}{place:List Int}{T:List Tcfg}{t:Nat} : ∀ i,(∀ j,j<i->(place.getD j 0).toNat≠t)->(qbs trk cells place T i).getD t tc0=T.getD t tc0
 | 0,_=>rfl
 | i+1,h=>by
  rw[qdH,updT,qbG (h i (by omega)),qi8 i (fun j hj=>h j (by omega))]
def qlS {n:Nat}{place:List Int}(hp:PlaceOk n place) (hi:i<n) (hj:j<n) (h:(place.getD i 0).toNat=(place.getD j 0).toNat):i=j:=by
 have h1:=hp.get hi;have h2:=hp.get hj;have:=hp.len;exact qev.1 hp.nd i j (by omega) (by omega) (by omega)
def qnF {trk:List Int}{cells:List Cel}{place:List Int}(hp:PlaceOk cells.length place) {T:List Tcfg}(hT:T.length=25) : ∀ i,i<=cells.length->∀ j,j<i->(qbs trk cells place T i).getD (place.getD j 0).toNat tc0=cellT trk (cells.getD j ce0) (T.getD (place.getD j 0).toNat tc0)
 | 0,_,j,hj=>by omega
 | i+1,hi,j,hj=>by
  have hb:=hp.get (i:=i) (by omega);rw[qdH];by_cases e:j=i
  ·subst e;rw[qh3 (by rw[qj1];omega),if_pos rfl,qi8 j (fun k hk e=>by have:=qlS hp (by omega) (by omega) e;omega)]
  ·rw[updT,qbG (fun e2=>e (qlS hp (by omega) (by omega) e2).symm)];exact qnF hp hT i (by omega) j (by omega)
def srcC_nb {c:Circ}{net:Int}(hf:0<=h.2/\h.2<=24) (hn:h.1∈nbC h.2):2<=srcC c net h/\srcC c net h<=5/\nb h.1 (srcC c net h)=h.2:=by
 have hb:=qjP hf h.1 hn;have hd:nb h.1 2=h.2∨nb h.1 3=h.2∨nb h.1 4=h.2∨nb h.1 5=h.2:=by
  have e2:nb h.1 2=nbUp h.1:=rfl;have e3:nb h.1 3=qd2 h.1:=rfl;have e4:nb h.1 4=qcN h.1:=rfl;have e5:nb h.1 5=qd3 h.1:=rfl;rw[e2,e3,e4,e5];unfold nbUp qd2 qcN qd3;unfold nbC at hn;simp only[yax] at hn;rcases hn with((h1|h1)|h1)|h1 <;> split at h1 <;> simp at h1
  ·right;right;right;rw[if_pos (by omega)];omega
  ·right;right;left;rw[if_pos (by omega)];omega
  ·right;left;rw[if_pos (by omega)];omega
  ·left;rw[if_pos (by omega)];omega
 unfold srcC;rw[if_neg (by omega)];by_cases h2:nb h.1 2=h.2
 ·rw[if_pos h2];exact⟨by omega,by omega,h2⟩
 ·rw[if_neg h2];by_cases h3:nb h.1 3=h.2
  ·rw[if_pos h3];exact⟨by omega,by omega,h3⟩
  ·rw[if_neg h3];by_cases h4:nb h.1 4=h.2
   ·rw[if_pos h4];exact⟨by omega,by omega,h4⟩
   ·rw[if_neg h4];have h5:nb h.1 5=h.2:=by rcases hd with h|h|h|h <;> first|exact h|contradiction
    rw[if_pos h5];exact⟨by omega,by omega,h5⟩
structure Routed (c:Circ) (place:List Int) (rs:List Rt):Prop where
 v:c.Valid
 p:PlaceOk (qae c).length place
 ex : ∃ busy0 busy,RoutesOk c (qae c) place busy0 (c.vars.toNat-1) busy rs
noncomputable abbrev bK (c:Circ) (place:List Int) (rs:List Rt):Kcfg:=qhL c (qae c) place rs
section routed
variable {c:Circ}{place:List Int}{rs:List Rt}
def Routed.nd (R:Routed c place rs):(rs.map (·.net)).Nodup:=by
 obtain⟨b0,b,h⟩:=R.ex;rw[h.nets];exact(qi3 _).1
def Routed.bd (R:Routed c place rs) : ∀ r∈rs,(1<=r.net/\r.net<c.vars)/\(0<=r.track/\r.track<=7)/\(∀ h∈r.hops,0<=h.1/\h.1<=24)/\(qao r.hops).Nodup:=by
 intro r hr;obtain⟨b0,b,h⟩:=R.ex;have e:=h.each r hr;have e1:=e.net;have e2:=e.track;have hv:=R.v.vars_bd;exact⟨by omega,by omega,e.tree.rng,e.tree.nd⟩
def Routed.rtb (R:Routed c place rs):RtB rs:=fun r hr=>⟨(R.bd r hr).2.1,(R.bd r hr).2.2.1⟩
def Routed.apart (R:Routed c place rs):rs.Pairwise qpY:=by
 obtain⟨b0,b,h⟩:=R.ex;exact h.apart
def Routed.drv_in (R:Routed c place rs) (hr:r∈rs) (hh:h∈r.hops):drv (bK c place rs) (h.1,r.track)=srcC c r.net h:=by
 have hT:Tsz (qbs (qaP c.vars.toNat rs) (qae c) place (List.replicate 25 qaX) (qae c).length):=qey Tsz.empty (fun x hx=>(qdk R.v x hx).1) R.p _ (yad _);have:=qi7 (c:=c) rs _ hT R.rtb R.apart (fun r hr=>(R.bd r hr).2.2.2) r hr h hh;rw[<-this];show drvT (rtsT c rs _ rs.length) _ _=_
 unfold rtsT;rw[yaA]
def Routed.drv_out (R:Routed c place rs) {w:Wr}(hw:wOk w) (hn : ∀ r∈rs,r.track=w.2->w.1∉qao r.hops):drv (bK c place rs) w=0:=by
 have hT:Tsz (qbs (qaP c.vars.toNat rs) (qae c) place (List.replicate 25 qaX) (qae c).length):=qey Tsz.empty (fun x hx=>(qdk R.v x hx).1) R.p _ (yad _);obtain⟨⟨w1,w2⟩,w3,w4⟩:=hw;have:=qkM (c:=c) (t:=w.1.toNat) (u:=w.2.toNat) rs _ hT R.rtb (fun r hr e h hh e2=>by
  obtain⟨b1,b2⟩:=R.rtb r hr;have b3:=b2 h hh;refine hn r hr (by omega) ?_;have e3:w.1=h.1:=by omega
  rw[e3];exact ybm hh)
 show drvT (rtsT c rs _ rs.length) _ _=_
 unfold rtsT;rw[yaA,this,qlR];unfold drvT;have e1:(List.replicate 25 qaX).getD w.1.toNat tc0=qaX:=by rw[List.getD_eq_getElem?_getD,List.getElem?_replicate,if_pos (by omega)];rfl
 rw[e1];obtain h|h|h|h|h|h|h|h:w.2.toNat=0∨w.2.toNat=1∨w.2.toNat=2∨w.2.toNat=3∨w.2.toNat=4∨w.2.toNat=5∨w.2.toNat=6∨w.2.toNat=7:=by omega
 all_goals rw[h];rfl
def qqc:qgN (bK c place rs).tiles t=qgN (qbs (qaP c.vars.toNat rs) (qae c) place (List.replicate 25 qaX) (qae c).length) t:=by
 show qgN (rtsT c rs _ rs.length) t=_
 unfold rtsT;rw[qnE]
def Routed.cell (R:Routed c place rs) (hi:i<(qae c).length):qgN (bK c place rs).tiles (place.getD i 0).toNat=(((qae c).getD i ce0).table,selS [15,15,15] (((qae c).getD i ce0).inputs.map fun v=>(qaP c.vars.toNat rs).getD v.toNat 0),((qae c).getD i ce0).reg):=by
 have hb:=R.p.get hi;rw[qqc,qgN,qnF R.p (by simp) _ (yad _) i hi];have e1:(List.replicate 25 qaX).getD (place.getD i 0).toNat tc0=qaX:=by rw[List.getD_eq_getElem?_getD,List.getElem?_replicate,if_pos (by omega)];rfl
 rw[e1];rfl
def Routed.blank (R:Routed c place rs) (ht:t<25) (hn : ∀ i,i<(qae c).length->(place.getD i 0).toNat≠t):qgN (bK c place rs).tiles t=(0,[15,15,15],false):=by
 rw[qqc,qgN,qi8 _ hn];have e1:(List.replicate 25 qaX).getD t tc0=qaX:=by rw[List.getD_eq_getElem?_getD,List.getElem?_replicate,if_pos ht];rfl
 rw[e1];rfl
def Routed.route (R:Routed c place rs) (h0:1<=v) (h1:v<c.vars) (hu:qay c (qae c) place v≠[]) : ∃ r∈rs,r.net=v/\(qaP c.vars.toNat rs).getD v.toNat 0=r.track/\∀ t∈qay c (qae c) place v,t∈qao r.hops:=by
 obtain⟨b0,b,h⟩:=R.ex;have hv:=R.v.vars_bd;have hm:v∈rs.map (·.net):=by
  rw[h.nets,qho];exact⟨by omega,fun e=>hu ((qi0 R.v place h0 h1).1 e)⟩
 obtain⟨r,hr,rfl⟩:=List.mem_map.1 hm;refine⟨r,hr,rfl,?_,fun t ht=>(qi4 R.v h hr).1 t (qj0.2 ht)⟩;rw[qaP,trkN,yaA];exact qkL rs _ R.nd (fun x hx=>by have:=(R.bd x hx).1;simp;omega) r hr
def Routed.input (R:Routed c place rs) (hi:i<(qae c).length) (hv:v∈((qae c).getD i ce0).inputs) : ∃ r∈rs,r.net=v/\(qaP c.vars.toNat rs).getD v.toNat 0=r.track/\place.getD i 0∈qao r.hops:=by
 have hin:=(qdk R.v _ (qad hi:(qae c).getD i ce0∈qae c)).2.2 v hv;have hm:place.getD i 0∈qay c (qae c) place v:=qcJ.2 (.inl ⟨i,hi,hv,rfl⟩);obtain⟨r,hr,h1,h2,h3⟩:=R.route hin.1 hin.2 (fun e=>by rw[e] at hm;cases hm);exact⟨r,hr,h1,h2,h3 _ hm⟩
def Routed.pad (R:Routed c place rs) {o:Nat}(ho:o<c.outs.length) (hv:1<=c.outs.getD o 0/2) : ∃ r∈rs,r.net=c.outs.getD o 0/2/\(qaP c.vars.toNat rs).getD (c.outs.getD o 0/2).toNat 0=r.track/\(o:Int)*5+4∈qao r.hops:=by
 have hl:=R.v.o _ (qad ho:c.outs.getD o 0∈c.outs);unfold qaY at hl;have hm:(o:Int)*5+4∈qay c (qae c) place (c.outs.getD o 0/2):=qcJ.2 (.inr ⟨o,ho,rfl,rfl⟩);obtain⟨r,hr,h1,h2,h3⟩:=R.route hv (by omega) (fun e=>by rw[e] at hm;cases hm);exact⟨r,hr,h1,h2,h3 _ hm⟩
def Routed.hop (R:Routed c place rs) (hr:r∈rs) (hj:j<r.hops.length) :
  (drv (bK c place rs) ((r.hops.getD j (0,0)).1,r.track)=6/\r.net<=c.inputs/\(r.hops.getD j (0,0)).1=(r.net-1)*5)∨
  (drv (bK c place rs) ((r.hops.getD j (0,0)).1,r.track)=1/\c.inputs<r.net/\∃ i,i<(qae c).length/\((qae c).getD i ce0).net=r.net/\(r.hops.getD j (0,0)).1=place.getD i 0)∨
  (2<=drv (bK c place rs) ((r.hops.getD j (0,0)).1,r.track)/\drv (bK c place rs) ((r.hops.getD j (0,0)).1,r.track)<=5/\∃ m,m<j/\nb (r.hops.getD j (0,0)).1 (drv (bK c place rs) ((r.hops.getD j (0,0)).1,r.track))=(r.hops.getD m (0,0)).1):=by
 obtain⟨b0,b,h⟩:=R.ex;have hm:=qad (z:=((0,0):Int×Int)) hj;rw[R.drv_in hr hm];have he:=h.each r hr;have hrd:=qi4 R.v h hr;have hbd:=R.bd r hr;rcases he.tree.root j hj with⟨rfl,h2⟩|⟨h1,m,h2,h3,h4⟩
 ·have hsrc:=hrd.2;rw[qmM] at hsrc;by_cases hni:r.net<=c.inputs
  ·left;refine⟨by rw[srcC,if_pos (by omega),if_pos hni],hni,?_⟩;rw[hsrc,if_neg];intro h5;rcases qgK (qhn R.v) place r.net _ (yad _) with⟨i,g1,g2,-,g4⟩|⟨-,-,g3⟩
   ·have:=(qjV R.v _ (qad g1:(qae c).getD i ce0∈qae c)).1;omega
   ·omega
  ·right;left;refine⟨by rw[srcC,if_pos (by omega),if_neg hni],by omega,?_⟩;have hn:r.net∈qex c (qae c) place (c.vars.toNat-1):=by rw[<-h.nets];exact List.mem_map.2 ⟨r,hr,rfl⟩
   have hu:qay c (qae c) place r.net≠[]:=fun h3=>(qho.1 hn).2 ((qi0 R.v place hbd.1.1 hbd.1.2).2 h3)
   have hso:=qp5 R.v place hbd.1.1 hbd.1.2 hu;rcases qgK (qhn R.v) place r.net _ (yad _) with⟨i,g1,g2,-,g4⟩|⟨-,g2,-⟩
   ·refine⟨i,g1,g2,?_⟩;rw[hsrc,if_pos (by omega),g4];rfl
   ·rw[g2,qhf,if_neg (by omega)] at hso;cases hso
 ·right;right;have hb:0<=(r.hops.getD j (0,0)).2/\(r.hops.getD j (0,0)).2<=24:=by
   rw[<-h3];exact he.tree.rng _ (qad (by omega))
  obtain⟨a1,a2,a3⟩:=srcC_nb (c:=c) (net:=r.net) hb h4;exact⟨a1,a2,m,h2,by rw[a3,h3]⟩
def qgO (hc:c.Valid) (hi:i<(qae c).length):(i<c.next.length/\(qae c).getD i ce0=qaM c i)∨(c.next.length<=i/\∃ g,g<c.gates.length/\(qae c).getD i ce0=qa6 (qfm c g)):=by
 by_cases h:i<c.next.length
 ·left;refine⟨h,?_⟩;rw[qae,qaq (by simpa using h)];simp[List.getD,h]
 ·right;refine⟨by omega,?_⟩;have hm:(qae c).getD i ce0∈(qdw c).map qa6:=by
   rw[qae] at hi ⊢;rw[yae,yaw,ybr] at hi;have e:((List.range c.next.length).map (qaM c)++(qdw c).map qa6).getD i ce0=((qdw c).map qa6).getD (i-c.next.length) ce0:=by
    simp[List.getD,List.getElem?_append_right,show c.next.length<=i by omega]
   rw[e];exact qad (by omega)
  obtain⟨l,hl,e⟩:=List.mem_map.1 hm;obtain⟨g,hg,rfl⟩:=(qdb hc).each l hl;exact⟨g,hg,e.symm⟩
def qnG {s:Int}{v:List Int}(h:s∈selS [15,15,15] v):s∈v∨s=15:=by
 unfold selS at h;rcases List.mem_append.1 h with h|h
 ·exact .inl h
 ·have:=yaN h;simp at this;exact .inr this
def qez {hops:List (Int×Int)}{t:Int}(h:t∈qao hops) : ∃ j,j<hops.length/\(hops.getD j (0,0)).1=t:=by
 obtain⟨x,hx,rfl⟩:=List.mem_map.1 h;obtain⟨j,hj,rfl⟩:=qaV ((0,0):Int×Int) hx;exact⟨j,hj,rfl⟩
def Routed.wf (R:Routed c place rs):Wf (bK c place rs):=by
 have key : ∀ n:Nat,∀ r∈rs,r.net.toNat=n->∀ j,j<r.hops.length->Acc (Rel (bK c place rs)) ((r.hops.getD j (0,0)).1,r.track):=by
  intro n;induction n using Nat.strongRecOn with
  | ind n ihn=>
   intro r hr hn j;induction j using Nat.strongRecOn with
   | ind j ihj=>
    intro hj;refine⟨_,fun y hy=>?_⟩;unfold Rel qbI at hy;rcases R.hop hr hj with⟨hd,-,-⟩|⟨hd,hni,i,hi,hnet,ht⟩|⟨h2,h5,m,hm,hnb⟩
    ·rw[if_neg (by rw[hd];omega),if_neg (by rw[hd];omega)] at hy;cases hy
    ·rw[if_neg (by rw[hd];omega)] at hy;split at hy
     ·rename_i hreg;have hcell:=R.cell hi;simp only at hy hreg;rw[ht] at hy hreg;have hsel:((bK c place rs).tiles.getD (place.getD i 0).toNat tc0).select=selS [15,15,15] (((qae c).getD i ce0).inputs.map fun v=>(qaP c.vars.toNat rs).getD v.toNat 0):=congrArg (fun x=>x.2.1) hcell;have hrg:((bK c place rs).tiles.getD (place.getD i 0).toNat tc0).reg=((qae c).getD i ce0).reg:=congrArg (fun x=>x.2.2) hcell;rw[hsel] at hy;obtain⟨s,hs,rfl⟩:=List.mem_map.1 hy;obtain⟨hs1,hs2⟩:=List.mem_filter.1 hs;rw[decide_eq_true_eq] at hs2;rcases qnG hs1 with h|h
      ·obtain⟨v,hv,rfl⟩:=List.mem_map.1 h;obtain⟨r',hr',e1,e2,e3⟩:=R.input hi hv;obtain⟨j',hj',e4⟩:=qez e3;rw[e2,<-e4];rcases qgO R.v hi with⟨-,hk⟩|⟨-,g,hg,hk⟩
       ·exfalso;rw[hrg,hk] at hreg;have:=hreg.2;unfold qaM at this;split at this <;> cases this
       ·rw[hk] at hv hnet;have hb:=(qcI R.v hg).2.2 v hv;have hnet2:c.first+(g:Int)=r.net:=hnet
        have hb0:=(R.bd r' hr').1;exact ihn r'.net.toNat (by omega) r' hr' rfl j' hj'
      ·exact absurd h hs2
     ·cases hy
    ·rw[if_pos ⟨h2,h5⟩] at hy;obtain rfl:=List.mem_singleton.1 hy;simp only;rw[hnb];exact ihj m hm (by omega)
 intro w hw;by_cases hn : ∀ r∈rs,r.track=w.2->w.1∉qao r.hops
 ·refine⟨_,fun y hy=>?_⟩;unfold Rel qbI at hy;rw[R.drv_out hw hn,if_neg (by omega),if_neg (by omega)] at hy;cases hy
 ·simp only[Classical.not_forall,Classical.not_not] at hn;obtain⟨r,hr,e1,e2⟩:=hn;obtain⟨j,hj,e3⟩:=qez e2;have:=key _ r hr rfl j hj;rw[e3,e1] at this;exact this
end routed
end Go.Proofs
