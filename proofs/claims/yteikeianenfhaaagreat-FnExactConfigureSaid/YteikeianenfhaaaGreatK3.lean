/- Contracts, plain definitions and lemmas. Conditions: none; lemmas. -/
import Derived.Test.YteikeianenfhaaaGreatD4
import Derived.Test.YteikeianenfhaaaGreatC78
set_option linter.unusedVariables false
set_option linter.unusedSimpArgs false
set_option maxHeartbeats 2000000
namespace Go.VL
def qlr (cells:List Cel) (place:List Int) (net:Int):Nat->List Int
 | 0=>[]
 | i+1=>qlr cells place net i++(if net∈(cells.getD i ce0).inputs then [place.getD i 0] else [])
theorem qjA {cells:List Cel}{place:List Int}{net t:Int} : ∀ {n:Nat},t∈qlr cells place net n↔∃ i:Nat,i<n/\net∈(cells.getD i ce0).inputs/\t=place.getD i 0
 | 0=>by simp[qlr]
 | n+1=>by
  rw[qlr,yaq,qjA];constructor
  ·rintro(⟨o,h1,h2,h3⟩|h)
   ·exact⟨o,by omega,h2,h3⟩
   ·split at h
    ·rename_i h2;exact⟨n,by omega,h2,by simpa using h⟩
    ·simp at h
  ·rintro⟨o,h1,h2,h3⟩;by_cases ho:o<n
   ·exact .inl ⟨o,ho,h2,h3⟩
   ·obtain rfl:o=n:=by omega
    rw[if_pos h2];exact .inr (by simp[h3])
def qpz (c:Circ) (cells:List Cel) (place:List Int) (net:Int):List Int:=qlr cells place net cells.length++qaV c net c.outs.length
theorem qjB {c:Circ}{cells:List Cel}{place:List Int}{net t:Int}:t∈qpz c cells place net↔t∈qaw c cells place net:=by
 rw[qpz,yaq,qjA,qgT,qcD]
def srcK (cells:List Cel) (place:List Int) (net:Int):Nat->Int
 | 0=>(net-1)*5
 | k+1=>if(cells.getD k ce0).net=net then place.getD k 0 else srcK cells place net k
theorem qmp {cells:List Cel}{place:List Int}{net:Int} : ∀ k,srcK cells place net k=if 0<=qdb cells net k then place.getD (qdb cells net k).toNat 0 else(net-1)*5
 | 0=>by simp[srcK,qdb]
 | k+1=>by
  rw[srcK,qdb];by_cases h:(cells.getD k ce0).net=net
  ·rw[if_pos h,if_pos h,if_pos (by omega),ybe]
  ·rw[if_neg h,if_neg h];exact qmp k
theorem qg0 {c:Circ}{cells:List Cel}{place:List Int}{k:Nat}{n:Int}:n∈qeh c cells place k↔(1<=n/\n<=k)/\qdl c cells place n≠[]:=by
 rw[qeh,List.mem_filter,decide_eq_true_eq];refine and_congr_left fun _=>?_
 constructor
 ·intro h;obtain⟨j,hj,rfl⟩:=List.mem_map.1 h;have:=List.mem_range.1 hj;omega
 ·rintro⟨h1,h2⟩;exact List.mem_map.2 ⟨(n-1).toNat,List.mem_range.2 (by omega),by omega⟩
theorem qiE {c:Circ}(hc:c.Valid) {place:List Int}{busy0 busy:List (List Bool)}{rs:List Rt}(h:RoutesOk c (qac c) place busy0 (c.vars.toNat-1) busy rs) {r:Rt}(hr:r∈rs) :
  (∀ t∈qpz c (qac c) place r.net,t∈qal r.hops)/\(r.hops.getD 0 (0,0)).1=srcK (qac c) place r.net (qac c).length:=by
 have hk:=h.each r hr;have hv:=hc.vars_bd;have hf:=hc.first_bd;have hn:r.net∈qeh c (qac c) place (c.vars.toNat-1):=by rw[<-h.nets];exact List.mem_map.2 ⟨r,hr,rfl⟩
 obtain⟨h1,h2⟩:=qg0.1 hn;have hu:qaw c (qac c) place r.net≠[]:=fun h3=>h2 ((qix hc place h1.1 (by omega)).2 h3)
 have hp:=qgo hc place h1.1 (by omega:r.net<c.vars) hu;refine⟨fun t ht=>hk.pins t ?_,?_⟩
 ·rw[hp,qgc];exact .inr (qjB.1 ht)
 ·obtain⟨q,hq⟩:=hk.src;obtain⟨r2,hr2⟩:=qee (l:=qaw c (qac c) place r.net) (out:=[srcT (ninC c (qac c) r.net) place]);rw[hp,hr2] at hq;rw[hq,qmp];rfl
end Go.VL

set_option linter.unusedVariables false
set_option linter.unusedSimpArgs false
namespace Go.Proofs
open Go Go.VL
def updT (T:List Tcfg) (p:Nat) (A:Tcfg->Tcfg):List Tcfg:=T.set p (A (T.getD p tc0))
theorem qpA {A B:Tcfg->Tcfg}(h : ∀ t,A (B t)=B (A t)) (T:List Tcfg) (p q:Nat):updT (updT T p A) q B=updT (updT T q B) p A:=by
 unfold updT;by_cases hpq:p=q
 ·subst hpq;by_cases hp:p<T.length
  ·rw[qaf hp,qaf hp,List.set_set,List.set_set,h]
  ·have e : ∀ x,T.set p x=T:=fun x=>List.set_eq_of_length_le (by omega)
   simp only[e]
 ·have e1:(T.set p (A (T.getD p tc0))).getD q tc0=T.getD q tc0:=by simp[List.getD,List.getElem?_set,hpq]
  have e2:(T.set q (B (T.getD q tc0))).getD p tc0=T.getD p tc0:=by simp[List.getD,List.getElem?_set,Ne.symm hpq]
  rw[e1,e2,List.set_comm _ _ hpq]
def drvA (c:Circ) (r:Rt) (h:Int×Int) (t:Tcfg):Tcfg:=⟨t.table,t.select,t.reg,t.drive.set r.track.toNat (srcC c r.net h)⟩
theorem qhB (c:Circ) (r:Rt) (T:List Tcfg) (h:Int×Int):hopT c r T h=updT T h.1.toNat (drvA c r h):=rfl
theorem qdu (trk:List Int) (cells:List Cel) (place:List Int) (T:List Tcfg) (i:Nat):qbq trk cells place T (i+1)=updT (qbq trk cells place T i) (place.getD i 0).toNat (cellT trk (cells.getD i ce0)):=rfl
theorem qm7 {c:Circ}{r:Rt}{p:Nat}{A:Tcfg->Tcfg}(hA : ∀ h t,A (drvA c r h t)=drvA c r h (A t)) : ∀ (l:List (Int×Int)) (T:List Tcfg),l.foldl (hopT c r) (updT T p A)=updT (l.foldl (hopT c r) T) p A
 | [],T=>rfl
 | h::l,T=>by
  rw[yaj,yaj,qhB,qpA (hA h),<-qhB];exact qm7 hA l (hopT c r T h)
theorem qpB {c:Circ}{p:Nat}{A:Tcfg->Tcfg}(hA : ∀ r h t,A (drvA c r h t)=drvA c r h (A t)) : ∀ (l:List Rt) (T:List Tcfg),l.foldl (fun T r=>hopW c r T r.hops.length) (updT T p A)=updT (l.foldl (fun T r=>hopW c r T r.hops.length) T) p A
 | [],T=>rfl
 | r::l,T=>by
  rw[yaj,yaj];have e:hopW c r (updT T p A) r.hops.length=updT (hopW c r T r.hops.length) p A:=qm7 (hA r) (r.hops.take r.hops.length) T;rw[e];exact qpB hA l _
theorem qls {c:Circ}{trk:List Int}{cells:List Cel}{place:List Int}{rs:List Rt}{T:List Tcfg}{n:Nat} : ∀ i,qbq trk cells place (rtsT c rs T n) i=rtsT c rs (qbq trk cells place T i) n
 | 0=>rfl
 | i+1=>by
  rw[qdu,qdu,qls i];exact(qpB (fun r h t=>rfl) (rs.take n) _).symm
def rtE (rs:List Rt):List (D×D):=rs.map fun r=>(dI r.net,dI r.track)
theorem qm8 (x:Int) : ∀ rs:List Rt,qde (rtE rs) (dI x)=(rs.find? fun r=>decide (r.net=x)).map fun r=>dI r.track
 | []=>rfl
 | r::l=>by
  have ih:=qm8 x l;show qde ((dI r.net,dI r.track)::rtE l) _=_
  rw[qgF,qdr];by_cases h:r.net=x
  ·subst h;simp
  ·rw[decide_eq_false (fun h2=>h h2.symm)];simp only[yag,if_false,ih];simp[h]
theorem qpC (x:Int) (v:D) : ∀ rs:List Rt,(∀ r∈rs,r.net≠x)->updD (rtE rs) (dI x) v=rtE rs ++ [(dI x,v)]
 | [],_=>rfl
 | r::l,hx=>by
  have ih:=qpC x v l (fun y hy=>hx y (yah _ hy));show updD ((dI r.net,dI r.track)::rtE l) _ _=_
  rw[updD,qdr,decide_eq_false (fun h2=>hx r (yay ..) h2.symm)];simp only[yag,if_false,ih];rfl
theorem qm9 (rs:List Rt):qbH (.int .i64) (rtE rs):=by
 rw[qen];intro e he;obtain⟨x,_,rfl⟩:=List.mem_map.1 he;exact rfl
theorem qri {rs:List Rt}{i:Nat}(hi:i<rs.length):rtE (rs.take (i+1))=rtE (rs.take i) ++ [(dI (rs.getD i rt0).net,dI (rs.getD i rt0).track)]:=qaP rt0 hi
theorem qmq {rs:List Rt}(hn:(rs.map (·.net)).Nodup) {i:Nat}(hi:i<rs.length) : ∀ r∈rs.take i,r.net≠(rs.getD i rt0).net:=by
 intro r hr e;have h1:(rs.take (i+1)).map (·.net)=(rs.take i).map (·.net) ++ [(rs.getD i rt0).net]:=qaP rt0 hi;have h2:((rs.take (i+1)).map (·.net)).Nodup:=by
  rw[List.map_take];exact hn.sublist (List.take_sublist _ _)
 rw[h1,ybf] at h2;exact h2.2.2 _ (ybg hr) _ (by simp) e
theorem qiF {v:Nat} : ∀ (l:List Rt) (q:List Int),(∀ r∈l,r.net.toNat≠v)->(l.foldl (fun l r=>l.set r.net.toNat r.track) q).getD v 0=q.getD v 0
 | [],q,_=>rfl
 | r::l,q,h=>by
  rw[yaj,qiF l _ (fun y hy=>h y (yah _ hy))];simp[List.getD,List.getElem?_set,h r (yay ..)]
theorem qkk : ∀ (l:List Rt) (q:List Int),(l.map (·.net)).Nodup->(∀ r∈l,0<=r.net/\r.net<q.length)->∀ r∈l,(l.foldl (fun l r=>l.set r.net.toNat r.track) q).getD r.net.toNat 0=r.track
 | [],q,_,_,r,hr=>by cases hr
 | a::l,q,hn,hb,r,hr=>by
  rw[yaH,List.nodup_cons] at hn;rw[yaj];have ha:=hb a (yay ..);rcases List.mem_cons.1 hr with rfl|h
  ·rw[qiF l _ (fun y hy e=>hn.1 (by
    have:=hb y (yah _ hy);have:y.net=r.net:=by omega
    rw[<-this];exact ybg hy)),qcm (by omega),if_pos rfl]
  ·exact qkk l _ hn.2 (fun y hy=>by rw[yar];exact hb y (yah _ hy)) r h
theorem qlt {vars:Nat}{rs:List Rt}(hn:(rs.map (·.net)).Nodup) (hb : ∀ r∈rs,0<=r.net/\r.net<vars) {v:Int}(hv : ∃ r∈rs,r.net=v):qde (rtE rs) (dI v)=some (dI ((qaM vars rs).getD v.toNat 0)):=by
 obtain⟨r,hr,rfl⟩:=hv;have h1:=qkk rs (List.replicate vars 15) hn (by simpa using hb) r hr;rw[qaM,trkN,yau,h1,qm8];have:rs.find? (fun x=>decide (x.net=r.net))=some r:=by
  cases h:rs.find? (fun x=>decide (x.net=r.net)) with
  | none=>rw[List.find?_eq_none] at h;exact absurd (h r hr) (by simp)
  | some x=>
   have h2:=List.find?_some h;have h3:=List.mem_of_find?_eq_some h;rw[decide_eq_true_iff] at h2;congr 1;obtain⟨i,hi,rfl⟩:=qaU rt0 h3;obtain⟨j,hj,rfl⟩:=qaU rt0 hr;rcases Nat.lt_trichotomy i j with h4|h4|h4
   ·exact absurd h2 (qmq hn hj _ (by
     have:rs.getD i rt0=(rs.take j).getD i rt0:=by simp[List.getD,List.getElem?_take,h4]
     rw[this];exact qae (by simp;omega)))
   ·rw[h4]
   ·exact absurd h2.symm (qmq hn hi _ (by
     have:rs.getD j rt0=(rs.take i).getD j rt0:=by simp[List.getD,List.getElem?_take,h4]
     rw[this];exact qae (by simp;omega)))
 rw[this];rfl
theorem qe6 {vars:Nat}{rs:List Rt}(h0:0<vars) (hb : ∀ r∈rs,1<=r.net):(qaM vars rs).getD 0 0=15:=by
 rw[qaM,trkN,yau,qiF rs _ (fun r hr=>by have:=hb r hr;omega)];simp[List.getD,h0]
theorem qfi {c:Circ}{trk:List Int} : ∀ (n o:Nat),n<=o->o<3->(qc9 c trk n).getD o (0,false)=(15,false)
 | 0,o,_,h=>by
  obtain rfl|rfl|rfl:o=0∨o=1∨o=2:=by omega
  all_goals rfl
 | n+1,o,h,h3=>by
  have hs:qc9 c trk (n+1)=(qc9 c trk n).set n (trk.getD (c.outs.getD n 0/2).toNat 0,decide (c.outs.getD n 0%2=1)):=by simp only[qc9,yaT,yaN,yaj,List.foldl_nil]
  rw[hs];have:=qfi (c:=c) (trk:=trk) n o (by omega) h3;rw[<-this];simp[List.getD,List.getElem?_set,show ¬ n=o by omega]
end Go.Proofs
