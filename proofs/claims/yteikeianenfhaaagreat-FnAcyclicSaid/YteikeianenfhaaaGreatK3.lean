/- Plain: the order in which a configuration is written, and the tracks of the nets in a map. Conditions: none; plain lemmas. -/
import Derived.Test.YteikeianenfhaaaGreatC78
import Derived.Test.YteikeianenfhaaaGreatF3
set_option linter.unusedVariables false
set_option linter.unusedSimpArgs false
set_option maxHeartbeats 2000000
namespace Go.Proofs
set_option linter.defProp false
open Go Go.VL
variable {rs:List Rt}{i vars:Nat}
def updT (T:List Tcfg) (p:Nat) (A:Tcfg->Tcfg):List Tcfg:=T.set p (A (T.getD p tc0))
def qp4 {A B:Tcfg->Tcfg}(h : ∀ t,A (B t)=B (A t)) (T:List Tcfg) (p q:Nat):updT (updT T p A) q B=updT (updT T q B) p A:=by
 unfold updT;by_cases hpq:p=q
 ·subst hpq;by_cases hp:p<T.length
  ·rw[qab hp,qab hp,List.set_set,List.set_set,h]
  ·have e : ∀ x,T.set p x=T:=fun x=>List.set_eq_of_length_le (by omega)
   simp only[e]
 ·have e1:(T.set p (A (T.getD p tc0))).getD q tc0=T.getD q tc0:=by simp[List.getD,List.getElem?_set,hpq]
  have e2:(T.set q (B (T.getD q tc0))).getD p tc0=T.getD p tc0:=by simp[List.getD,List.getElem?_set,Ne.symm hpq]
  rw[e1,e2,List.set_comm _ _ hpq]
def drvA (c:Circ) (r:Rt) (h:Int×Int) (t:Tcfg):Tcfg:=⟨t.table,t.select,t.reg,t.drive.set r.track.toNat (srcC c r.net h)⟩
def qhR (c:Circ) (r:Rt) (T:List Tcfg) (h:Int×Int):hopT c r T h=updT T h.1.toNat (drvA c r h):=rfl
def qdA (trk:List Int) (cells:List Cel) (place:List Int) (T:List Tcfg) (i:Nat):qbw trk cells place T (i+1)=updT (qbw trk cells place T i) (place.getD i 0).toNat (cellT trk (cells.getD i ce0)):=rfl
def qny {c:Circ}{r:Rt}{p:Nat}{A:Tcfg->Tcfg}(hA : ∀ h t,A (drvA c r h t)=drvA c r h (A t)) : ∀ (l:List (Int×Int)) (T:List Tcfg),l.foldl (hopT c r) (updT T p A)=updT (l.foldl (hopT c r) T) p A
 | [],T=>rfl
 | h::l,T=>by
  rw[yan,yan,qhR,qp4 (hA h),<-qhR];exact qny hA l (hopT c r T h)
def qp5 {c:Circ}{p:Nat}{A:Tcfg->Tcfg}(hA : ∀ r h t,A (drvA c r h t)=drvA c r h (A t)) : ∀ (l:List Rt) (T:List Tcfg),l.foldl (fun T r=>hopW c r T r.hops.length) (updT T p A)=updT (l.foldl (fun T r=>hopW c r T r.hops.length) T) p A
 | [],T=>rfl
 | r::l,T=>by
  rw[yan,yan];have e:hopW c r (updT T p A) r.hops.length=updT (hopW c r T r.hops.length) p A:=qny (hA r) (r.hops.take r.hops.length) T;rw[e];exact qp5 hA l _
def qlP {c:Circ}{trk:List Int}{cells:List Cel}{place:List Int}{rs:List Rt}{T:List Tcfg}{n:Nat} : ∀ i,qbw trk cells place (rtsT c rs T n) i=rtsT c rs (qbw trk cells place T i) n
 | 0=>rfl
 | i+1=>by
  rw[qdA,qdA,qlP i];exact(qp5 (fun r h t=>rfl) (rs.take n) _).symm
def rtE (rs:List Rt):List (D×D):=rs.map fun r=>(dI r.net,dI r.track)
def qnz (x:Int) : ∀ rs:List Rt,qc0 (rtE rs) (dI x)=(rs.find? fun r=>decide (r.net=x)).map fun r=>dI r.track
 | []=>rfl
 | r::l=>by
  have ih:=qnz x l;show qc0 ((dI r.net,dI r.track)::rtE l) _=_
  rw[qfn,qdx];by_cases h:r.net=x
  ·subst h;simp
  ·rw[decide_eq_false (fun h2=>h h2.symm)];simp only[yai,if_false,ih];simp[h]
def qp6 (x:Int) (v:D) : ∀ rs:List Rt,(∀ r∈rs,r.net≠x)->updD (rtE rs) (dI x) v=rtE rs ++ [(dI x,v)]
 | [],_=>rfl
 | r::l,hx=>by
  have ih:=qp6 x v l (fun y hy=>hx y (yaj _ hy));show updD ((dI r.net,dI r.track)::rtE l) _ _=_
  rw[updD,qdx,decide_eq_false (fun h2=>hx r (yaC ..) h2.symm)];simp only[yai,if_false,ih];rfl
def qnA (rs:List Rt):qbH (.int .i64) (rtE rs):=by
 rw[qdB];intro e he;obtain⟨x,_,rfl⟩:=List.mem_map.1 he;exact rfl
def qrT (hi:i<rs.length):rtE (rs.take (i+1))=rtE (rs.take i) ++ [(dI (rs.getD i rt0).net,dI (rs.getD i rt0).track)]:=qaX rt0 hi
def qmO (hn:(rs.map (·.net)).Nodup) (hi:i<rs.length) : ∀ r∈rs.take i,r.net≠(rs.getD i rt0).net:=by
 intro r hr e;have h1:(rs.take (i+1)).map (·.net)=(rs.take i).map (·.net) ++ [(rs.getD i rt0).net]:=qaX rt0 hi;have h2:((rs.take (i+1)).map (·.net)).Nodup:=by
  rw[List.map_take];exact hn.sublist (List.take_sublist _ _)
 rw[h1,ybl] at h2;exact h2.2.2 _ (ybm hr) _ (by simp) e
def qi2 {v:Nat} : ∀ (l:List Rt) (q:List Int),(∀ r∈l,r.net.toNat≠v)->(l.foldl (fun l r=>l.set r.net.toNat r.track) q).getD v 0=q.getD v 0
 | [],q,_=>rfl
 | r::l,q,h=>by
  rw[yan,qi2 l _ (fun y hy=>h y (yaj _ hy))];simp[List.getD,List.getElem?_set,h r (yaC ..)]
def qkH : ∀ (l:List Rt) (q:List Int),(l.map (·.net)).Nodup->(∀ r∈l,0<=r.net/\r.net<q.length)->∀ r∈l,(l.foldl (fun l r=>l.set r.net.toNat r.track) q).getD r.net.toNat 0=r.track
 | [],q,_,_,r,hr=>by cases hr
 | a::l,q,hn,hb,r,hr=>by
  rw[yaL,List.nodup_cons] at hn;rw[yan];have ha:=hb a (yaC ..);rcases List.mem_cons.1 hr with rfl|h
  ·rw[qi2 l _ (fun y hy e=>hn.1 (by
    have:=hb y (yaj _ hy);have:y.net=r.net:=by omega
    rw[<-this];exact ybm hy)),qcr (by omega),if_pos rfl]
  ·exact qkH l _ hn.2 (fun y hy=>by rw[yae];exact hb y (yaj _ hy)) r h
def qlQ (hn:(rs.map (·.net)).Nodup) (hb : ∀ r∈rs,0<=r.net/\r.net<vars) {v:Int}(hv : ∃ r∈rs,r.net=v):qc0 (rtE rs) (dI v)=some (dI ((qaT vars rs).getD v.toNat 0)):=by
 obtain⟨r,hr,rfl⟩:=hv;have h1:=qkH rs (List.replicate vars 15) hn (by simpa using hb) r hr;rw[qaT,trkN,yax,h1,qnz];have:rs.find? (fun x=>decide (x.net=r.net))=some r:=by
  cases h:rs.find? (fun x=>decide (x.net=r.net)) with
  | none=>rw[List.find?_eq_none] at h;exact absurd (h r hr) (by simp)
  | some x=>
   have h2:=List.find?_some h;have h3:=List.mem_of_find?_eq_some h;rw[decide_eq_true_iff] at h2;congr 1;obtain⟨i,hi,rfl⟩:=qa4 rt0 h3;obtain⟨j,hj,rfl⟩:=qa4 rt0 hr;rcases Nat.lt_trichotomy i j with h4|h4|h4
   ·exact absurd h2 (qmO hn hj _ (by
     have:rs.getD i rt0=(rs.take j).getD i rt0:=by simp[List.getD,List.getElem?_take,h4]
     rw[this];exact qae (by simp;omega)))
   ·rw[h4]
   ·exact absurd h2.symm (qmO hn hi _ (by
     have:rs.getD j rt0=(rs.take i).getD j rt0:=by simp[List.getD,List.getElem?_take,h4]
     rw[this];exact qae (by simp;omega)))
 rw[this];rfl
def qff (h0:0<vars) (hb : ∀ r∈rs,1<=r.net):(qaT vars rs).getD 0 0=15:=by
 rw[qaT,trkN,yax,qi2 rs _ (fun r hr=>by have:=hb r hr;omega)];simp[List.getD,h0]
def qfu {c:Circ}{trk:List Int} : ∀ (n o:Nat),n<=o->o<3->(qdf c trk n).getD o (0,false)=(15,false)
 | 0,o,_,h=>by
  obtain rfl|rfl|rfl:o=0∨o=1∨o=2:=by omega
  all_goals rfl
 | n+1,o,h,h3=>by
  have hs:qdf c trk (n+1)=(qdf c trk n).set n (trk.getD (c.outs.getD n 0/2).toNat 0,decide (c.outs.getD n 0%2=1)):=by simp only[qdf,yaT,yaO,yan,List.foldl_nil]
  rw[hs];have:=qfu (c:=c) (trk:=trk) n o (by omega) h3;rw[<-this];simp[List.getD,List.getElem?_set,show ¬ n=o by omega]
end Go.Proofs
