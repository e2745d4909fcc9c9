/- Plain: what the configuration of a routed circuit holds, and why nothing in it depends on itself. Conditions: none; plain lemmas. -/
import Derived.Test.YteikeianenfhaaaGreatC85
import Derived.Test.YteikeianenfhaaaGreatK3
set_option linter.unusedVariables false
set_option linter.unusedSimpArgs false
set_option maxHeartbeats 2000000
namespace Go.Proofs
open Go Go.VL
theorem qhP {T:List Tcfg}{p q:Nat}{A:Tcfg->Tcfg}(hp:p<T.length):(updT T p A).getD q tc0=if p=q then A (T.getD p tc0) else T.getD q tc0:=by
 unfold updT;by_cases h:p=q
 ·subst h;rw[if_pos rfl,qah hp]
 ·rw[if_neg h,qaA h]
theorem qtA {T:List Tcfg}{p:Nat}{A:Tcfg->Tcfg}:(updT T p A).length=T.length:=by simp[updT]
def drvT (T:List Tcfg) (t u:Nat):Int:=(T.getD t tc0).drive.getD u 0
theorem qn6 {c:Circ}{r:Rt}{T:List Tcfg}{h:Int×Int}{t u:Nat}(hT:Tsz T) (hh:0<=h.1/\h.1<=24) (hu:0<=r.track/\r.track<=7):drvT (hopT c r T h) t u=if h.1.toNat=t/\r.track.toNat=u then srcC c r.net h else drvT T t u:=by
 have hsz:=hT.get (i:=h.1.toNat) (by omega);have hl:=hT.1;unfold drvT;rw[qhO,qhP (by omega)];by_cases e:h.1.toNat=t
 ·subst e;rw[if_pos rfl];show((T.getD h.1.toNat tc0).drive.set r.track.toNat (srcC c r.net h)).getD u 0=_
  by_cases e2:r.track.toNat=u
  ·subst e2;rw[if_pos ⟨rfl,rfl⟩,qah (by have:=hsz.2;omega)]
  ·rw[if_neg (fun h=>e2 h.2),qaA e2]
 ·rw[if_neg e,if_neg (fun h=>e h.1)]
theorem qi6 {c:Circ}{r:Rt}(hu:0<=r.track/\r.track<=7) {t u:Nat} : ∀ (l:List (Int×Int)) (T:List Tcfg),Tsz T->(∀ h∈l,0<=h.1/\h.1<=24)->(r.track.toNat=u->∀ h∈l,h.1.toNat≠t)->drvT (l.foldl (hopT c r) T) t u=drvT T t u
 | [],T,_,_,_=>rfl
 | h::l,T,hT,hl,hn=>by
  have h1:=hl h (yaw ..);rw[yap,qi6 hu l _ (qkP hT h1) (fun x hx=>hl x (yai _ hx)) (fun e x hx=>hn e x (yai _ hx)),qn6 hT h1 hu,if_neg (fun e=>hn e.2 h (yaw ..) e.1)]
theorem qhv {c:Circ}{r:Rt}(hu:0<=r.track/\r.track<=7) : ∀ (l:List (Int×Int)) (T:List Tcfg),Tsz T->(∀ h∈l,0<=h.1/\h.1<=24)->(qak l).Nodup->∀ h∈l,drvT (l.foldl (hopT c r) T) h.1.toNat r.track.toNat=srcC c r.net h
 | [],T,_,_,_,h,hm=>by cases hm
 | a::l,T,hT,hl,hn,h,hm=>by
  have h1:=hl a (yaw ..);rw[qak,yaI,List.nodup_cons] at hn;rw[yap];rcases List.mem_cons.1 hm with rfl|h2
  ·rw[qi6 hu l _ (qkP hT h1) (fun x hx=>hl x (yai _ hx)) (fun _ x hx e=>hn.1 (by
    have:=hl x (yai _ hx);have e2:x.1=h.1:=by omega
    rw[<-e2];exact ybh hx)),qn6 hT h1 hu,if_pos ⟨rfl,rfl⟩]
  ·exact qhv hu l _ (qkP hT h1) (fun x hx=>hl x (yai _ hx)) hn.2 h h2
def RtB (l:List Rt):Prop:=∀ r∈l,(0<=r.track/\r.track<=7)/\∀ h∈r.hops,0<=h.1/\h.1<=24
theorem RtB.tail {r:Rt}{l:List Rt}(h:RtB (r::l)):RtB l:=fun x hx=>h x (yai _ hx)
theorem qkR {c:Circ}{t u:Nat} : ∀ (l:List Rt) (T:List Tcfg),Tsz T->RtB l->(∀ r∈l,r.track.toNat=u->∀ h∈r.hops,h.1.toNat≠t)->drvT (l.foldl (fun T r=>hopW c r T r.hops.length) T) t u=drvT T t u
 | [],T,_,_,_=>rfl
 | r::l,T,hT,hl,hn=>by
  obtain⟨h1,h2⟩:=hl r (yaw ..);rw[yap,qkR l _ (qgx hT h2 _) hl.tail (fun x hx=>hn x (yai _ hx))];unfold hopW;rw[yav];exact qi6 h1 r.hops T hT h2 (hn r (yaw ..))
theorem qi7 {c:Circ} : ∀ (l:List Rt) (T:List Tcfg),Tsz T->RtB l->l.Pairwise qqZ->(∀ r∈l,(qak r.hops).Nodup)->∀ r∈l,∀ h∈r.hops,drvT (l.foldl (fun T r=>hopW c r T r.hops.length) T) h.1.toNat r.track.toNat=srcC c r.net h
 | [],T,_,_,_,_,r,hr=>by cases hr
 | a::l,T,hT,hl,hp,hn,r,hr=>by
  intro h hh;obtain⟨h1,h2⟩:=hl a (yaw ..);rw[List.pairwise_cons] at hp;rw[yap];rcases List.mem_cons.1 hr with rfl|h3
  ·rw[qkR l _ (qgx hT h2 _) hl.tail (fun x hx e y hy e2=>by
    obtain⟨b1,b2⟩:=hl x (yai _ hx);have b3:=b2 y hy;have b4:=h2 h hh;refine hp.1 x hx (by omega) h.1 (ybh hh) ?_;have e3:h.1=y.1:=by omega
    rw[e3];exact ybh hy)]
   unfold hopW;rw[yav];exact qhv h1 r.hops T hT h2 (hn r (yaw ..)) h hh
  ·exact qi7 l _ (qgx hT h2 _) hl.tail hp.2 (fun x hx=>hn x (yai _ hx)) r h3 h hh
def qgy (T:List Tcfg) (t:Nat):Int×List Int×Bool:=((T.getD t tc0).table,(T.getD t tc0).select,(T.getD t tc0).reg)
theorem qtB {c:Circ}{r:Rt}{T:List Tcfg}{h:Int×Int}{t:Nat}:qgy (hopT c r T h) t=qgy T t:=by
 rw[qhO];by_cases hp:h.1.toNat<T.length
 ·unfold qgy;rw[qhP hp];split
  ·rename_i e;subst e;rfl
  ·rfl
 ·rw[updT,List.set_eq_of_length_le (by omega)]
theorem qmb {c:Circ}{r:Rt}{t:Nat} : ∀ (l:List (Int×Int)) (T:List Tcfg),qgy (l.foldl (hopT c r) T) t=qgy T t
 | [],T=>rfl
 | h::l,T=>by rw[yap,qmb l,qtB]
theorem qn7 {c:Circ}{t:Nat} : ∀ (l:List Rt) (T:List Tcfg),qgy (l.foldl (fun T r=>hopW c r T r.hops.length) T) t=qgy T t
 | [],T=>rfl
 | r::l,T=>by rw[yap,qn7 l];exact qmb _ T
theorem qmc {trk:List Int}{cells:List Cel}{place:List Int}{T:List Tcfg}{t u:Nat} : ∀ i,drvT (qca trk cells place T i) t u=drvT T t u
 | 0=>rfl
 | i+1=>by
  have ih:=qmc (trk:=trk) (cells:=cells) (place:=place) (T:=T) (t:=t) (u:=u) i;rw[<-ih,qdm];by_cases hp:(place.getD i 0).toNat<(qca trk cells place T i).length
  ·unfold drvT;rw[qhP hp];split
   ·rename_i e;subst e;rfl
   ·rfl
  ·rw[updT,List.set_eq_of_length_le (by omega)]
theorem qj1 {trk:List Int}{cells:List Cel}{place:List Int}{T:List Tcfg} : ∀ i,(qca trk cells place T i).length=T.length
 | 0=>rfl
 | i+1=>by rw[qdm,qtA,qj1 i]
theorem qi8 {trk:List Int}{cells:List Cel}{place:List Int}{T:List Tcfg}{t:Nat} : ∀ i,(∀ j,j<i->(place.getD j 0).toNat≠t)->(qca trk cells place T i).getD t tc0=T.getD t tc0
 | 0,_=>rfl
 | i+1,h=>by
  rw[qdm,updT,qaA (h i (by omega)),qi8 i (fun j hj=>h j (by omega))]
theorem qmd {n:Nat}{place:List Int}(hp:PlaceOk n place) {i j:Nat}(hi:i<n) (hj:j<n) (h:(place.getD i 0).toNat=(place.getD j 0).toNat):i=j:=by
 have h1:=hp.get hi;have h2:=hp.get hj;have:=hp.len;exact qd7.1 hp.nd i j (by omega) (by omega) (by omega)
theorem qn8 {trk:List Int}{cells:List Cel}{place:List Int}(hp:PlaceOk cells.length place) {T:List Tcfg}(hT:T.length=25) : ∀ i,i<=cells.length->∀ j,j<i->(qca trk cells place T i).getD (place.getD j 0).toNat tc0=cellT trk (cells.getD j ce0) (T.getD (place.getD j 0).toNat tc0)
 | 0,_,j,hj=>by omega
 | i+1,hi,j,hj=>by
  have hb:=hp.get (i:=i) (by omega);rw[qdm];by_cases e:j=i
  ·subst e;rw[qhP (by rw[qj1];omega),if_pos rfl,qi8 j (fun k hk e=>by have:=qmd hp (by omega) (by omega) e;omega)]
  ·rw[updT,qaA (fun e2=>e (qmd hp (by omega) (by omega) e2).symm)];exact qn8 hp hT i (by omega) j (by omega)
theorem srcC_nb {c:Circ}{net:Int}{h:Int×Int}(hf:0<=h.2/\h.2<=24) (hn:h.1∈nbC h.2):2<=srcC c net h/\srcC c net h<=5/\nb h.1 (srcC c net h)=h.2:=by
 have hb:=qlR hf h.1 hn;have hd:nb h.1 2=h.2∨nb h.1 3=h.2∨nb h.1 4=h.2∨nb h.1 5=h.2:=by
  have e2:nb h.1 2=nbUp h.1:=rfl;have e3:nb h.1 3=qeE h.1:=rfl;have e4:nb h.1 4=qc7 h.1:=rfl;have e5:nb h.1 5=qeF h.1:=rfl;rw[e2,e3,e4,e5];unfold nbUp qeE qc7 qeF;unfold nbC at hn;simp only[yas] at hn;rcases hn with((h1|h1)|h1)|h1 <;> split at h1 <;> simp at h1
  ·right;right;right;rw[if_pos (by omega)];omega
  ·right;right;left;rw[if_pos (by omega)];omega
  ·right;left;rw[if_pos (by omega)];omega
  ·left;rw[if_pos (by omega)];omega
 unfold srcC;rw[if_neg (by omega)];by_cases h2:nb h.1 2=h.2
 ·rw[if_pos h2];exact⟨by omega,by omega,h2⟩
 ·rw[if_neg h2];by_cases h3:nb h.1 3=h.2
  ·rw[if_pos h3];exact⟨by omega,by omega,h3⟩
  ·rw[if_neg h3];by_cases h4:nb h.1 4=h.2
   ·rw[if_pos h4];exact⟨by omega,by omega,h4⟩
   ·rw[if_neg h4];have h5:nb h.1 5=h.2:=by rcases hd with h|h|h|h <;> first|exact h|contradiction
    rw[if_pos h5];exact⟨by omega,by omega,h5⟩
structure Routed (c:Circ) (place:List Int) (rs:List Rt):Prop where
 v:c.Valid
 p:PlaceOk (qad c).length place
 ex : ∃ busy0 busy,RoutesOk c (qad c) place busy0 (c.vars.toNat-1) busy rs
noncomputable abbrev bK (c:Circ) (place:List Int) (rs:List Rt):Kcfg:=ql6 c (qad c) place rs
section routed
variable {c:Circ}{place:List Int}{rs:List Rt}
theorem Routed.nd (R:Routed c place rs):(rs.map (·.net)).Nodup:=by
 obtain⟨b0,b,h⟩:=R.ex;rw[h.nets];exact(qi0 _).1
theorem Routed.bd (R:Routed c place rs) : ∀ r∈rs,(1<=r.net/\r.net<c.vars)/\(0<=r.track/\r.track<=7)/\(∀ h∈r.hops,0<=h.1/\h.1<=24)/\(qak r.hops).Nodup:=by
 intro r hr;obtain⟨b0,b,h⟩:=R.ex;have e:=h.each r hr;have e1:=e.net;have e2:=e.track;have hv:=R.v.vars_bd;exact⟨by omega,by omega,e.tree.rng,e.tree.nd⟩
theorem Routed.rtb (R:Routed c place rs):RtB rs:=fun r hr=>⟨(R.bd r hr).2.1,(R.bd r hr).2.2.1⟩
theorem Routed.apart (R:Routed c place rs):rs.Pairwise qqZ:=by
 obtain⟨b0,b,h⟩:=R.ex;exact h.apart
theorem Routed.drv_in (R:Routed c place rs) {r:Rt}(hr:r∈rs) {h:Int×Int}(hh:h∈r.hops):drv (bK c place rs) (h.1,r.track)=srcC c r.net h:=by
 have hT:Tsz (qca (qaX c.vars.toNat rs) (qad c) place (List.replicate 25 qbt) (qad c).length):=qe7 Tsz.empty (fun x hx=>(qcZ R.v x hx).1) R.p _ (yad _);have:=qi7 (c:=c) rs _ hT R.rtb R.apart (fun r hr=>(R.bd r hr).2.2.2) r hr h hh;rw[<-this];show drvT (rtsT c rs _ rs.length) _ _=_
 unfold rtsT;rw[yav]
theorem Routed.drv_out (R:Routed c place rs) {w:Wr}(hw:wOk w) (hn : ∀ r∈rs,r.track=w.2->w.1∉qak r.hops):drv (bK c place rs) w=0:=by
 have hT:Tsz (qca (qaX c.vars.toNat rs) (qad c) place (List.replicate 25 qbt) (qad c).length):=qe7 Tsz.empty (fun x hx=>(qcZ R.v x hx).1) R.p _ (yad _);obtain⟨⟨w1,w2⟩,w3,w4⟩:=hw;have:=qkR (c:=c) (t:=w.1.toNat) (u:=w.2.toNat) rs _ hT R.rtb (fun r hr e h hh e2=>by
  obtain⟨b1,b2⟩:=R.rtb r hr;have b3:=b2 h hh;refine hn r hr (by omega) ?_;have e3:w.1=h.1:=by omega
  rw[e3];exact ybh hh)
 show drvT (rtsT c rs _ rs.length) _ _=_
 unfold rtsT;rw[yav,this,qmc];unfold drvT;have e1:(List.replicate 25 qbt).getD w.1.toNat tc0=qbt:=by rw[List.getD_eq_getElem?_getD,List.getElem?_replicate,if_pos (by omega)];rfl
 rw[e1];obtain h|h|h|h|h|h|h|h:w.2.toNat=0∨w.2.toNat=1∨w.2.toNat=2∨w.2.toNat=3∨w.2.toNat=4∨w.2.toNat=5∨w.2.toNat=6∨w.2.toNat=7:=by omega
 all_goals rw[h];rfl
theorem qri {t:Nat}:qgy (bK c place rs).tiles t=qgy (qca (qaX c.vars.toNat rs) (qad c) place (List.replicate 25 qbt) (qad c).length) t:=by
 show qgy (rtsT c rs _ rs.length) t=_
 unfold rtsT;rw[qn7]
theorem Routed.cell (R:Routed c place rs) {i:Nat}(hi:i<(qad c).length):qgy (bK c place rs).tiles (place.getD i 0).toNat=(((qad c).getD i ce0).table,selS [15,15,15] (((qad c).getD i ce0).inputs.map fun v=>(qaX c.vars.toNat rs).getD v.toNat 0),((qad c).getD i ce0).reg):=by
 have hb:=R.p.get hi;rw[qri,qgy,qn8 R.p (by simp) _ (yad _) i hi];have e1:(List.replicate 25 qbt).getD (place.getD i 0).toNat tc0=qbt:=by rw[List.getD_eq_getElem?_getD,List.getElem?_replicate,if_pos (by omega)];rfl
 rw[e1];rfl
theorem Routed.blank (R:Routed c place rs) {t:Nat}(ht:t<25) (hn : ∀ i,i<(qad c).length->(place.getD i 0).toNat≠t):qgy (bK c place rs).tiles t=(0,[15,15,15],false):=by
 rw[qri,qgy,qi8 _ hn];have e1:(List.replicate 25 qbt).getD t tc0=qbt:=by rw[List.getD_eq_getElem?_getD,List.getElem?_replicate,if_pos ht];rfl
 rw[e1];rfl
theorem Routed.route (R:Routed c place rs) {v:Int}(h0:1<=v) (h1:v<c.vars) (hu:qaz c (qad c) place v≠[]) : ∃ r∈rs,r.net=v/\(qaX c.vars.toNat rs).getD v.toNat 0=r.track/\∀ t∈qaz c (qad c) place v,t∈qak r.hops:=by
 obtain⟨b0,b,h⟩:=R.ex;have hv:=R.v.vars_bd;have hm:v∈rs.map (·.net):=by
  rw[h.nets,qg7];exact⟨by omega,fun e=>hu ((qiX R.v place h0 h1).1 e)⟩
 obtain⟨r,hr,rfl⟩:=List.mem_map.1 hm;refine⟨r,hr,rfl,?_,fun t ht=>(qi3 R.v h hr).1 t (qj0.2 ht)⟩;rw[qaX,trkN,yav];exact qkQ rs _ R.nd (fun x hx=>by have:=(R.bd x hx).1;simp;omega) r hr
theorem Routed.input (R:Routed c place rs) {i:Nat}(hi:i<(qad c).length) {v:Int}(hv:v∈((qad c).getD i ce0).inputs) : ∃ r∈rs,r.net=v/\(qaX c.vars.toNat rs).getD v.toNat 0=r.track/\place.getD i 0∈qak r.hops:=by
 have hin:=(qcZ R.v _ (qac hi:(qad c).getD i ce0∈qad c)).2.2 v hv;have hm:place.getD i 0∈qaz c (qad c) place v:=qcD.2 (.inl ⟨i,hi,hv,rfl⟩);obtain⟨r,hr,h1,h2,h3⟩:=R.route hin.1 hin.2 (fun e=>by rw[e] at hm;cases hm);exact⟨r,hr,h1,h2,h3 _ hm⟩
theorem Routed.pad (R:Routed c place rs) {o:Nat}(ho:o<c.outs.length) (hv:1<=c.outs.getD o 0/2) : ∃ r∈rs,r.net=c.outs.getD o 0/2/\(qaX c.vars.toNat rs).getD (c.outs.getD o 0/2).toNat 0=r.track/\(o:Int)*5+4∈qak r.hops:=by
 have hl:=R.v.o _ (qac ho:c.outs.getD o 0∈c.outs);unfold qaK at hl;have hm:(o:Int)*5+4∈qaz c (qad c) place (c.outs.getD o 0/2):=qcD.2 (.inr ⟨o,ho,rfl,rfl⟩);obtain⟨r,hr,h1,h2,h3⟩:=R.route hv (by omega) (fun e=>by rw[e] at hm;cases hm);exact⟨r,hr,h1,h2,h3 _ hm⟩
theorem Routed.hop (R:Routed c place rs) {r:Rt}(hr:r∈rs) {j:Nat}(hj:j<r.hops.length) :
  (drv (bK c place rs) ((r.hops.getD j (0,0)).1,r.track)=6/\r.net<=c.inputs/\(r.hops.getD j (0,0)).1=(r.net-1)*5)∨
  (drv (bK c place rs) ((r.hops.getD j (0,0)).1,r.track)=1/\c.inputs<r.net/\∃ i,i<(qad c).length/\((qad c).getD i ce0).net=r.net/\(r.hops.getD j (0,0)).1=place.getD i 0)∨
  (2<=drv (bK c place rs) ((r.hops.getD j (0,0)).1,r.track)/\drv (bK c place rs) ((r.hops.getD j (0,0)).1,r.track)<=5/\∃ m,m<j/\nb (r.hops.getD j (0,0)).1 (drv (bK c place rs) ((r.hops.getD j (0,0)).1,r.track))=(r.hops.getD m (0,0)).1):=by
 obtain⟨b0,b,h⟩:=R.ex;have hm:=qac (z:=((0,0):Int×Int)) hj;rw[R.drv_in hr hm];have he:=h.each r hr;have hrd:=qi3 R.v h hr;have hbd:=R.bd r hr;rcases he.tree.root j hj with⟨rfl,h2⟩|⟨h1,m,h2,h3,h4⟩
 ·have hsrc:=hrd.2;rw[qnc] at hsrc;by_cases hni:r.net<=c.inputs
  ·left;refine⟨by rw[srcC,if_pos (by omega),if_pos hni],hni,?_⟩;rw[hsrc,if_neg];intro h5;rcases qgs (qg6 R.v) place r.net _ (yad _) with⟨i,g1,g2,-,g4⟩|⟨-,-,g3⟩
   ·have:=(qjT R.v _ (qac g1:(qad c).getD i ce0∈qad c)).1;omega
   ·omega
  ·right;left;refine⟨by rw[srcC,if_pos (by omega),if_neg hni],by omega,?_⟩;have hn:r.net∈qd8 c (qad c) place (c.vars.toNat-1):=by rw[<-h.nets];exact List.mem_map.2 ⟨r,hr,rfl⟩
   have hu:qaz c (qad c) place r.net≠[]:=fun h3=>(qg7.1 hn).2 ((qiX R.v place hbd.1.1 hbd.1.2).2 h3)
   have hso:=qq0 R.v place hbd.1.1 hbd.1.2 hu;rcases qgs (qg6 R.v) place r.net _ (yad _) with⟨i,g1,g2,-,g4⟩|⟨-,g2,-⟩
   ·refine⟨i,g1,g2,?_⟩;rw[hsrc,if_pos (by omega),g4];rfl
   ·rw[g2,qqT,if_neg (by omega)] at hso;cases hso
 ·right;right;have hb:0<=(r.hops.getD j (0,0)).2/\(r.hops.getD j (0,0)).2<=24:=by
   rw[<-h3];exact he.tree.rng _ (qac (by omega))
  obtain⟨a1,a2,a3⟩:=srcC_nb (c:=c) (net:=r.net) hb h4;exact⟨a1,a2,m,h2,by rw[a3,h3]⟩
theorem qgz (hc:c.Valid) {i:Nat}(hi:i<(qad c).length):(i<c.next.length/\(qad c).getD i ce0=qaO c i)∨(c.next.length<=i/\∃ g,g<c.gates.length/\(qad c).getD i ce0=qbE (qe4 c g)):=by
 by_cases h:i<c.next.length
 ·left;refine⟨h,?_⟩;rw[qad,qae (by simpa using h)];simp[List.getD,h]
 ·right;refine⟨by omega,?_⟩;have hm:(qad c).getD i ce0∈(qeu c).map qbE:=by
   rw[qad] at hi ⊢;rw[yae,yay,ybo] at hi;have e:((List.range c.next.length).map (qaO c)++(qeu c).map qbE).getD i ce0=((qeu c).map qbE).getD (i-c.next.length) ce0:=by
    simp[List.getD,List.getElem?_append_right,show c.next.length<=i by omega]
   rw[e];exact qac (by omega)
  obtain⟨l,hl,e⟩:=List.mem_map.1 hm;obtain⟨g,hg,rfl⟩:=(qew hc).each l hl;exact⟨g,hg,e.symm⟩
theorem qn9 {s:Int}{v:List Int}(h:s∈selS [15,15,15] v):s∈v∨s=15:=by
 unfold selS at h;rcases List.mem_append.1 h with h|h
 ·exact .inl h
 ·have:=yaM h;simp at this;exact .inr this
theorem qfq {hops:List (Int×Int)}{t:Int}(h:t∈qak hops) : ∃ j,j<hops.length/\(hops.getD j (0,0)).1=t:=by
 obtain⟨x,hx,rfl⟩:=List.mem_map.1 h;obtain⟨j,hj,rfl⟩:=qaE ((0,0):Int×Int) hx;exact⟨j,hj,rfl⟩
theorem Routed.wf (R:Routed c place rs):Wf (bK c place rs):=by
 have key : ∀ n:Nat,∀ r∈rs,r.net.toNat=n->∀ j,j<r.hops.length->Acc (Rel (bK c place rs)) ((r.hops.getD j (0,0)).1,r.track):=by
  intro n;induction n using Nat.strongRecOn with
  | ind n ihn=>
   intro r hr hn j;induction j using Nat.strongRecOn with
   | ind j ihj=>
    intro hj;refine⟨_,fun y hy=>?_⟩;unfold Rel qbu at hy;rcases R.hop hr hj with⟨hd,-,-⟩|⟨hd,hni,i,hi,hnet,ht⟩|⟨h2,h5,m,hm,hnb⟩
    ·rw[if_neg (by rw[hd];omega),if_neg (by rw[hd];omega)] at hy;cases hy
    ·rw[if_neg (by rw[hd];omega)] at hy;split at hy
     ·rename_i hreg;have hcell:=R.cell hi;simp only at hy hreg;rw[ht] at hy hreg;have hsel:((bK c place rs).tiles.getD (place.getD i 0).toNat tc0).select=selS [15,15,15] (((qad c).getD i ce0).inputs.map fun v=>(qaX c.vars.toNat rs).getD v.toNat 0):=congrArg (fun x=>x.2.1) hcell;have hrg:((bK c place rs).tiles.getD (place.getD i 0).toNat tc0).reg=((qad c).getD i ce0).reg:=congrArg (fun x=>x.2.2) hcell;rw[hsel] at hy;obtain⟨s,hs,rfl⟩:=List.mem_map.1 hy;obtain⟨hs1,hs2⟩:=List.mem_filter.1 hs;rw[decide_eq_true_eq] at hs2;rcases qn9 hs1 with h|h
      ·obtain⟨v,hv,rfl⟩:=List.mem_map.1 h;obtain⟨r',hr',e1,e2,e3⟩:=R.input hi hv;obtain⟨j',hj',e4⟩:=qfq e3;rw[e2,<-e4];rcases qgz R.v hi with⟨-,hk⟩|⟨-,g,hg,hk⟩
       ·exfalso;rw[hrg,hk] at hreg;have:=hreg.2;unfold qaO at this;split at this <;> cases this
       ·rw[hk] at hv hnet;have hb:=(qet R.v hg).2.2 v hv;have hnet2:c.first+(g:Int)=r.net:=hnet
        have hb0:=(R.bd r' hr').1;exact ihn r'.net.toNat (by omega) r' hr' rfl j' hj'
      ·exact absurd h hs2
     ·cases hy
    ·rw[if_pos ⟨h2,h5⟩] at hy;obtain rfl:=List.mem_singleton.1 hy;simp only;rw[hnb];exact ihj m hm (by omega)
 intro w hw;by_cases hn : ∀ r∈rs,r.track=w.2->w.1∉qak r.hops
 ·refine⟨_,fun y hy=>?_⟩;unfold Rel qbu at hy;rw[R.drv_out hw hn,if_neg (by omega),if_neg (by omega)] at hy;cases hy
 ·simp only[Classical.not_forall,Classical.not_not] at hn;obtain⟨r,hr,e1,e2⟩:=hn;obtain⟨j,hj,e3⟩:=qfq e2;have:=key _ r hr rfl j hj;rw[e3,e1] at this;exact this
end routed
end Go.Proofs
