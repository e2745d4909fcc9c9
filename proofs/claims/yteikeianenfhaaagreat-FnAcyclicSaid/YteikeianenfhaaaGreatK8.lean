/- Plain: what the configuration of a routed circuit holds, and why nothing in it depends on itself. Conditions: none; plain lemmas. -/
import Derived.Test.YteikeianenfhaaaGreatC85
import Derived.Test.YteikeianenfhaaaGreatK3
set_option linter.unusedVariables false
set_option linter.unusedSimpArgs false
set_option maxHeartbeats 2000000
namespace Go.Proofs
set_option linter.defProp false
open Go Go.VL
variable {T:List Tcfg}{p t i j:Nat}{A:Tcfg->Tcfg}{r:Rt}{h:Int×Int}
def qhS {q:Nat}(hp:p<T.length):(updT T p A).getD q tc0=if p=q then A (T.getD p tc0) else T.getD q tc0:=by
 unfold updT;by_cases h:p=q
 ·subst h;rw[if_pos rfl,qab hp]
 ·rw[if_neg h,qbs h]
def qrV:(updT T p A).length=T.length:=by simp[updT]
def drvT (T:List Tcfg) (t u:Nat):Int:=(T.getD t tc0).drive.getD u 0
def qnB {c:Circ}{u:Nat}(hT:Tsz T) (hh:0<=h.1/\h.1<=24) (hu:0<=r.track/\r.track<=7):drvT (hopT c r T h) t u=if h.1.toNat=t/\r.track.toNat=u then srcC c r.net h else drvT T t u:=by
 have hsz:=hT.get (i:=h.1.toNat) (by omega);have hl:=hT.1;unfold drvT;rw[qhR,qhS (by omega)];by_cases e:h.1.toNat=t
 ·subst e;rw[if_pos rfl];show((T.getD h.1.toNat tc0).drive.set r.track.toNat (srcC c r.net h)).getD u 0=_
  by_cases e2:r.track.toNat=u
  ·subst e2;rw[if_pos ⟨rfl,rfl⟩,qab (by have:=hsz.2;omega)]
  ·rw[if_neg (fun h=>e2 h.2),qbs e2]
 ·rw[if_neg e,if_neg (fun h=>e h.1)]
def qi3 {c:Circ}{r:Rt}(hu:0<=r.track/\r.track<=7) {t u:Nat} : ∀ (l:List (Int×Int)) (T:List Tcfg),Tsz T->(∀ h∈l,0<=h.1/\h.1<=24)->(r.track.toNat=u->∀ h∈l,h.1.toNat≠t)->drvT (l.foldl (hopT c r) T) t u=drvT T t u
 | [],T,_,_,_=>rfl
 | h::l,T,hT,hl,hn=>by
  have h1:=hl h (yaC ..);rw[yan,qi3 hu l _ (qkB hT h1) (fun x hx=>hl x (yaj _ hx)) (fun e x hx=>hn e x (yaj _ hx)),qnB hT h1 hu,if_neg (fun e=>hn e.2 h (yaC ..) e.1)]
def qhz {c:Circ}{r:Rt}(hu:0<=r.track/\r.track<=7) : ∀ (l:List (Int×Int)) (T:List Tcfg),Tsz T->(∀ h∈l,0<=h.1/\h.1<=24)->(qan l).Nodup->∀ h∈l,drvT (l.foldl (hopT c r) T) h.1.toNat r.track.toNat=srcC c r.net h
 | [],T,_,_,_,h,hm=>by cases hm
 | a::l,T,hT,hl,hn,h,hm=>by
  have h1:=hl a (yaC ..);rw[qan,yaL,List.nodup_cons] at hn;rw[yan];rcases List.mem_cons.1 hm with rfl|h2
  ·rw[qi3 hu l _ (qkB hT h1) (fun x hx=>hl x (yaj _ hx)) (fun _ x hx e=>hn.1 (by
    have:=hl x (yaj _ hx);have e2:x.1=h.1:=by omega
    rw[<-e2];exact ybm hx)),qnB hT h1 hu,if_pos ⟨rfl,rfl⟩]
  ·exact qhz hu l _ (qkB hT h1) (fun x hx=>hl x (yaj _ hx)) hn.2 h h2
def RtB (l:List Rt):Prop:=∀ r∈l,(0<=r.track/\r.track<=7)/\∀ h∈r.hops,0<=h.1/\h.1<=24
def RtB.tail {l:List Rt}(h:RtB (r::l)):RtB l:=fun x hx=>h x (yaj _ hx)
def qkI {c:Circ}{t u:Nat} : ∀ (l:List Rt) (T:List Tcfg),Tsz T->RtB l->(∀ r∈l,r.track.toNat=u->∀ h∈r.hops,h.1.toNat≠t)->drvT (l.foldl (fun T r=>hopW c r T r.hops.length) T) t u=drvT T t u
 | [],T,_,_,_=>rfl
 | r::l,T,hT,hl,hn=>by
  obtain⟨h1,h2⟩:=hl r (yaC ..);rw[yan,qkI l _ (qft hT h2 _) hl.tail (fun x hx=>hn x (yaj _ hx))];unfold hopW;rw[yax];exact qi3 h1 r.hops T hT h2 (hn r (yaC ..))
def qi4 {c:Circ} : ∀ (l:List Rt) (T:List Tcfg),Tsz T->RtB l->l.Pairwise qpN->(∀ r∈l,(qan r.hops).Nodup)->∀ r∈l,∀ h∈r.hops,drvT (l.foldl (fun T r=>hopW c r T r.hops.length) T) h.1.toNat r.track.toNat=srcC c r.net h
 | [],T,_,_,_,_,r,hr=>by cases hr
 | a::l,T,hT,hl,hp,hn,r,hr=>by
  intro h hh;obtain⟨h1,h2⟩:=hl a (yaC ..);rw[List.pairwise_cons] at hp;rw[yan];rcases List.mem_cons.1 hr with rfl|h3
  ·rw[qkI l _ (qft hT h2 _) hl.tail (fun x hx e y hy e2=>by
    obtain⟨b1,b2⟩:=hl x (yaj _ hx);have b3:=b2 y hy;have b4:=h2 h hh;refine hp.1 x hx (by omega) h.1 (ybm hh) ?_;have e3:h.1=y.1:=by omega
    rw[e3];exact ybm hy)]
   unfold hopW;rw[yax];exact qhz h1 r.hops T hT h2 (hn r (yaC ..)) h hh
  ·exact qi4 l _ (qft hT h2 _) hl.tail hp.2 (fun x hx=>hn x (yaj _ hx)) r h3 h hh
def qgG (T:List Tcfg) (t:Nat):Int×List Int×Bool:=((T.getD t tc0).table,(T.getD t tc0).select,(T.getD t tc0).reg)
def qrW {c:Circ}:qgG (hopT c r T h) t=qgG T t:=by
 rw[qhR];by_cases hp:h.1.toNat<T.length
 ·unfold qgG;rw[qhS hp];split
  ·rename_i e;subst e;rfl
  ·rfl
 ·rw[updT,List.set_eq_of_length_le (by omega)]
def qlR {c:Circ}{r:Rt}{t:Nat} : ∀ (l:List (Int×Int)) (T:List Tcfg),qgG (l.foldl (hopT c r) T) t=qgG T t
 | [],T=>rfl
 | h::l,T=>by rw[yan,qlR l,qrW]
def qnC {c:Circ}{t:Nat} : ∀ (l:List Rt) (T:List Tcfg),qgG (l.foldl (fun T r=>hopW c r T r.hops.length) T) t=qgG T t
 | [],T=>rfl
 | r::l,T=>by rw[yan,qnC l];exact qlR _ T
def qlS {trk:List Int}{cells:List Cel}{place:List Int}{T:List Tcfg}{t u:Nat} : ∀ i,drvT (qbw trk cells place T i) t u=drvT T t u
 | 0=>rfl
 | i+1=>by
  have ih:=qlS (trk:=trk) (cells:=cells) (place:=place) (T:=T) (t:=t) (u:=u) i;rw[<-ih,qdA];by_cases hp:(place.getD i 0).toNat<(qbw trk cells place T i).length
  ·unfold drvT;rw[qhS hp];split
   ·rename_i e;subst e;rfl
   ·rfl
  ·rw[updT,List.set_eq_of_length_le (by omega)]
def qjZ {trk:List Int}{cells:List Cel}{place:List Int}{T:List Tcfg} : ∀ i,(qbw trk cells place T i).length=T.length
 | 0=>rfl
 | i+1=>by rw[qdA,qrV,qjZ i]
def qi5 {trk:List Int}{cells:List Cel}{place:List Int}{T:List Tcfg}{t:Nat} : ∀ i,(∀ j,j<i->(place.getD j 0).toNat≠t)->(qbw trk cells place T i).getD t tc0=T.getD t tc0
 | 0,_=>rfl
 | i+1,h=>by
  rw[qdA,updT,qbs (h i (by omega)),qi5 i (fun j hj=>h j (by omega))]
def qlT {n:Nat}{place:List Int}(hp:PlaceOk n place) (hi:i<n) (hj:j<n) (h:(place.getD i 0).toNat=(place.getD j 0).toNat):i=j:=by
 have h1:=hp.get hi;have h2:=hp.get hj;have:=hp.len;exact qen.1 hp.nd i j (by omega) (by omega) (by omega)
def qnD {trk:List Int}{cells:List Cel}{place:List Int}(hp:PlaceOk cells.length place) {T:List Tcfg}(hT:T.length=25) : ∀ i,i<=cells.length->∀ j,j<i->(qbw trk cells place T i).getD (place.getD j 0).toNat tc0=cellT trk (cells.getD j ce0) (T.getD (place.getD j 0).toNat tc0)
 | 0,_,j,hj=>by omega
 | i+1,hi,j,hj=>by
  have hb:=hp.get (i:=i) (by omega);rw[qdA];by_cases e:j=i
  ·subst e;rw[qhS (by rw[qjZ];omega),if_pos rfl,qi5 j (fun k hk e=>by have:=qlT hp (by omega) (by omega) e;omega)]
  ·rw[updT,qbs (fun e2=>e (qlT hp (by omega) (by omega) e2).symm)];exact qnD hp hT i (by omega) j (by omega)
def srcC_nb {c:Circ}{net:Int}(hf:0<=h.2/\h.2<=24) (hn:h.1∈nbC h.2):2<=srcC c net h/\srcC c net h<=5/\nb h.1 (srcC c net h)=h.2:=by
 have hb:=qjM hf h.1 hn;have hd:nb h.1 2=h.2∨nb h.1 3=h.2∨nb h.1 4=h.2∨nb h.1 5=h.2:=by
  have e2:nb h.1 2=nbUp h.1:=rfl;have e3:nb h.1 3=qdY h.1:=rfl;have e4:nb h.1 4=qcG h.1:=rfl;have e5:nb h.1 5=qdZ h.1:=rfl;rw[e2,e3,e4,e5];unfold nbUp qdY qcG qdZ;unfold nbC at hn;simp only[yat] at hn;rcases hn with((h1|h1)|h1)|h1 <;> split at h1 <;> simp at h1
  ·right;right;right;rw[if_pos (by omega)];omega
  ·right;right;left;rw[if_pos (by omega)];omega
  ·right;left;rw[if_pos (by omega)];omega
  ·left;rw[if_pos (by omega)];omega
 unfold srcC;rw[if_neg (by omega)];by_cases h2:nb h.1 2=h.2
 ·rw[if_pos h2];exact⟨by omega,by omega,h2⟩
 ·rw[if_neg h2];by_cases h3:nb h.1 3=h.2
  ·rw[if_pos h3];exact⟨by omega,by omega,h3⟩
  ·rw[if_neg h3];by_cases h4:nb h.1 4=h.2
   ·rw[if_pos h4];exact⟨by omega,by omega,h4⟩
   ·rw[if_neg h4];have h5:nb h.1 5=h.2:=by rcases hd with h|h|h|h <;> first|exact h|contradiction
    rw[if_pos h5];exact⟨by omega,by omega,h5⟩
structure Routed (c:Circ) (place:List Int) (rs:List Rt):Prop where
 v:c.Valid
 p:PlaceOk (qaf c).length place
 ex : ∃ busy0 busy,RoutesOk c (qaf c) place busy0 (c.vars.toNat-1) busy rs
noncomputable abbrev bK (c:Circ) (place:List Int) (rs:List Rt):Kcfg:=qhy c (qaf c) place rs
section routed
variable {c:Circ}{place:List Int}{rs:List Rt}
def Routed.nd (R:Routed c place rs):(rs.map (·.net)).Nodup:=by
 obtain⟨b0,b,h⟩:=R.ex;rw[h.nets];exact(qiY _).1
def Routed.bd (R:Routed c place rs) : ∀ r∈rs,(1<=r.net/\r.net<c.vars)/\(0<=r.track/\r.track<=7)/\(∀ h∈r.hops,0<=h.1/\h.1<=24)/\(qan r.hops).Nodup:=by
 intro r hr;obtain⟨b0,b,h⟩:=R.ex;have e:=h.each r hr;have e1:=e.net;have e2:=e.track;have hv:=R.v.vars_bd;exact⟨by omega,by omega,e.tree.rng,e.tree.nd⟩
def Routed.rtb (R:Routed c place rs):RtB rs:=fun r hr=>⟨(R.bd r hr).2.1,(R.bd r hr).2.2.1⟩
def Routed.apart (R:Routed c place rs):rs.Pairwise qpN:=by
 obtain⟨b0,b,h⟩:=R.ex;exact h.apart
def Routed.drv_in (R:Routed c place rs) (hr:r∈rs) (hh:h∈r.hops):drv (bK c place rs) (h.1,r.track)=srcC c r.net h:=by
 have hT:Tsz (qbw (qaT c.vars.toNat rs) (qaf c) place (List.replicate 25 emptyT) (qaf c).length):=qdN Tsz.empty (fun x hx=>(qdg R.v x hx).1) R.p _ (yad _);have:=qi4 (c:=c) rs _ hT R.rtb R.apart (fun r hr=>(R.bd r hr).2.2.2) r hr h hh;rw[<-this];show drvT (rtsT c rs _ rs.length) _ _=_
 unfold rtsT;rw[yax]
def Routed.drv_out (R:Routed c place rs) {w:Wr}(hw:wOk w) (hn : ∀ r∈rs,r.track=w.2->w.1∉qan r.hops):drv (bK c place rs) w=0:=by
 have hT:Tsz (qbw (qaT c.vars.toNat rs) (qaf c) place (List.replicate 25 emptyT) (qaf c).length):=qdN Tsz.empty (fun x hx=>(qdg R.v x hx).1) R.p _ (yad _);obtain⟨⟨w1,w2⟩,w3,w4⟩:=hw;have:=qkI (c:=c) (t:=w.1.toNat) (u:=w.2.toNat) rs _ hT R.rtb (fun r hr e h hh e2=>by
  obtain⟨b1,b2⟩:=R.rtb r hr;have b3:=b2 h hh;refine hn r hr (by omega) ?_;have e3:w.1=h.1:=by omega
  rw[e3];exact ybm hh)
 show drvT (rtsT c rs _ rs.length) _ _=_
 unfold rtsT;rw[yax,this,qlS];unfold drvT;have e1:(List.replicate 25 emptyT).getD w.1.toNat tc0=emptyT:=by rw[List.getD_eq_getElem?_getD,List.getElem?_replicate,if_pos (by omega)];rfl
 rw[e1];obtain h|h|h|h|h|h|h|h:w.2.toNat=0∨w.2.toNat=1∨w.2.toNat=2∨w.2.toNat=3∨w.2.toNat=4∨w.2.toNat=5∨w.2.toNat=6∨w.2.toNat=7:=by omega
 all_goals rw[h];rfl
def qp8:qgG (bK c place rs).tiles t=qgG (qbw (qaT c.vars.toNat rs) (qaf c) place (List.replicate 25 emptyT) (qaf c).length) t:=by
 show qgG (rtsT c rs _ rs.length) t=_
 unfold rtsT;rw[qnC]
def Routed.cell (R:Routed c place rs) (hi:i<(qaf c).length):qgG (bK c place rs).tiles (place.getD i 0).toNat=(((qaf c).getD i ce0).table,selS [15,15,15] (((qaf c).getD i ce0).inputs.map fun v=>(qaT c.vars.toNat rs).getD v.toNat 0),((qaf c).getD i ce0).reg):=by
 have hb:=R.p.get hi;rw[qp8,qgG,qnD R.p (by simp) _ (yad _) i hi];have e1:(List.replicate 25 emptyT).getD (place.getD i 0).toNat tc0=emptyT:=by rw[List.getD_eq_getElem?_getD,List.getElem?_replicate,if_pos (by omega)];rfl
 rw[e1];rfl
def Routed.blank (R:Routed c place rs) (ht:t<25) (hn : ∀ i,i<(qaf c).length->(place.getD i 0).toNat≠t):qgG (bK c place rs).tiles t=(0,[15,15,15],false):=by
 rw[qp8,qgG,qi5 _ hn];have e1:(List.replicate 25 emptyT).getD t tc0=emptyT:=by rw[List.getD_eq_getElem?_getD,List.getElem?_replicate,if_pos ht];rfl
 rw[e1];rfl
def Routed.route (R:Routed c place rs) {v:Int}(h0:1<=v) (h1:v<c.vars) (hu:qax c (qaf c) place v≠[]) : ∃ r∈rs,r.net=v/\(qaT c.vars.toNat rs).getD v.toNat 0=r.track/\∀ t∈qax c (qaf c) place v,t∈qan r.hops:=by
 obtain⟨b0,b,h⟩:=R.ex;have hv:=R.v.vars_bd;have hm:v∈rs.map (·.net):=by
  rw[h.nets,qhe];exact⟨by omega,fun e=>hu ((qiV R.v place h0 h1).1 e)⟩
 obtain⟨r,hr,rfl⟩:=List.mem_map.1 hm;refine⟨r,hr,rfl,?_,fun t ht=>(qi1 R.v h hr).1 t (qjY.2 ht)⟩;rw[qaT,trkN,yax];exact qkH rs _ R.nd (fun x hx=>by have:=(R.bd x hx).1;simp;omega) r hr
def Routed.input (R:Routed c place rs) (hi:i<(qaf c).length) {v:Int}(hv:v∈((qaf c).getD i ce0).inputs) : ∃ r∈rs,r.net=v/\(qaT c.vars.toNat rs).getD v.toNat 0=r.track/\place.getD i 0∈qan r.hops:=by
 have hin:=(qdg R.v _ (qae hi:(qaf c).getD i ce0∈qaf c)).2.2 v hv;have hm:place.getD i 0∈qax c (qaf c) place v:=qcI.2 (.inl ⟨i,hi,hv,rfl⟩);obtain⟨r,hr,h1,h2,h3⟩:=R.route hin.1 hin.2 (fun e=>by rw[e] at hm;cases hm);exact⟨r,hr,h1,h2,h3 _ hm⟩
def Routed.pad (R:Routed c place rs) {o:Nat}(ho:o<c.outs.length) (hv:1<=c.outs.getD o 0/2) : ∃ r∈rs,r.net=c.outs.getD o 0/2/\(qaT c.vars.toNat rs).getD (c.outs.getD o 0/2).toNat 0=r.track/\(o:Int)*5+4∈qan r.hops:=by
 have hl:=R.v.o _ (qae ho:c.outs.getD o 0∈c.outs);unfold qa7 at hl;have hm:(o:Int)*5+4∈qax c (qaf c) place (c.outs.getD o 0/2):=qcI.2 (.inr ⟨o,ho,rfl,rfl⟩);obtain⟨r,hr,h1,h2,h3⟩:=R.route hv (by omega) (fun e=>by rw[e] at hm;cases hm);exact⟨r,hr,h1,h2,h3 _ hm⟩
def Routed.hop (R:Routed c place rs) (hr:r∈rs) (hj:j<r.hops.length) :
  (drv (bK c place rs) ((r.hops.getD j (0,0)).1,r.track)=6/\r.net<=c.inputs/\(r.hops.getD j (0,0)).1=(r.net-1)*5)∨
  (drv (bK c place rs) ((r.hops.getD j (0,0)).1,r.track)=1/\c.inputs<r.net/\∃ i,i<(qaf c).length/\((qaf c).getD i ce0).net=r.net/\(r.hops.getD j (0,0)).1=place.getD i 0)∨
  (2<=drv (bK c place rs) ((r.hops.getD j (0,0)).1,r.track)/\drv (bK c place rs) ((r.hops.getD j (0,0)).1,r.track)<=5/\∃ m,m<j/\nb (r.hops.getD j (0,0)).1 (drv (bK c place rs) ((r.hops.getD j (0,0)).1,r.track))=(r.hops.getD m (0,0)).1):=by
 obtain⟨b0,b,h⟩:=R.ex;have hm:=qae (z:=((0,0):Int×Int)) hj;rw[R.drv_in hr hm];have he:=h.each r hr;have hrd:=qi1 R.v h hr;have hbd:=R.bd r hr;rcases he.tree.root j hj with⟨rfl,h2⟩|⟨h1,m,h2,h3,h4⟩
 ·have hsrc:=hrd.2;rw[qmN] at hsrc;by_cases hni:r.net<=c.inputs
  ·left;refine⟨by rw[srcC,if_pos (by omega),if_pos hni],hni,?_⟩;rw[hsrc,if_neg];intro h5;rcases qgB (qhd R.v) place r.net _ (yad _) with⟨i,g1,g2,-,g4⟩|⟨-,-,g3⟩
   ·have:=(qjT R.v _ (qae g1:(qaf c).getD i ce0∈qaf c)).1;omega
   ·omega
  ·right;left;refine⟨by rw[srcC,if_pos (by omega),if_neg hni],by omega,?_⟩;have hn:r.net∈qep c (qaf c) place (c.vars.toNat-1):=by rw[<-h.nets];exact List.mem_map.2 ⟨r,hr,rfl⟩
   have hu:qax c (qaf c) place r.net≠[]:=fun h3=>(qhe.1 hn).2 ((qiV R.v place hbd.1.1 hbd.1.2).2 h3)
   have hso:=qpW R.v place hbd.1.1 hbd.1.2 hu;rcases qgB (qhd R.v) place r.net _ (yad _) with⟨i,g1,g2,-,g4⟩|⟨-,g2,-⟩
   ·refine⟨i,g1,g2,?_⟩;rw[hsrc,if_pos (by omega),g4];rfl
   ·rw[g2,qg2,if_neg (by omega)] at hso;cases hso
 ·right;right;have hb:0<=(r.hops.getD j (0,0)).2/\(r.hops.getD j (0,0)).2<=24:=by
   rw[<-h3];exact he.tree.rng _ (qae (by omega))
  obtain⟨a1,a2,a3⟩:=srcC_nb (c:=c) (net:=r.net) hb h4;exact⟨a1,a2,m,h2,by rw[a3,h3]⟩
def qgH (hc:c.Valid) (hi:i<(qaf c).length):(i<c.next.length/\(qaf c).getD i ce0=qaQ c i)∨(c.next.length<=i/\∃ g,g<c.gates.length/\(qaf c).getD i ce0=qba (qfb c g)):=by
 by_cases h:i<c.next.length
 ·left;refine⟨h,?_⟩;rw[qaf,qap (by simpa using h)];simp[List.getD,h]
 ·right;refine⟨by omega,?_⟩;have hm:(qaf c).getD i ce0∈(qdq c).map qba:=by
   rw[qaf] at hi ⊢;rw[yaf,yah,List.length_range] at hi;have e:((List.range c.next.length).map (qaQ c)++(qdq c).map qba).getD i ce0=((qdq c).map qba).getD (i-c.next.length) ce0:=by
    simp[List.getD,List.getElem?_append_right,show c.next.length<=i by omega]
   rw[e];exact qae (by omega)
  obtain⟨l,hl,e⟩:=List.mem_map.1 hm;obtain⟨g,hg,rfl⟩:=(qcY hc).each l hl;exact⟨g,hg,e.symm⟩
def qnE {s:Int}{v:List Int}(h:s∈selS [15,15,15] v):s∈v∨s=15:=by
 unfold selS at h;rcases List.mem_append.1 h with h|h
 ·exact .inl h
 ·have:=yaE h;simp at this;exact .inr this
def qfv {hops:List (Int×Int)}{t:Int}(h:t∈qan hops) : ∃ j,j<hops.length/\(hops.getD j (0,0)).1=t:=by
 obtain⟨x,hx,rfl⟩:=List.mem_map.1 h;obtain⟨j,hj,rfl⟩:=qa4 ((0,0):Int×Int) hx;exact⟨j,hj,rfl⟩
def Routed.wf (R:Routed c place rs):Wf (bK c place rs):=by
 have key : ∀ n:Nat,∀ r∈rs,r.net.toNat=n->∀ j,j<r.hops.length->Acc (Rel (bK c place rs)) ((r.hops.getD j (0,0)).1,r.track):=by
  intro n;induction n using Nat.strongRecOn with
  | ind n ihn=>
   intro r hr hn j;induction j using Nat.strongRecOn with
   | ind j ihj=>
    intro hj;refine⟨_,fun y hy=>?_⟩;unfold Rel qa3 at hy;rcases R.hop hr hj with⟨hd,-,-⟩|⟨hd,hni,i,hi,hnet,ht⟩|⟨h2,h5,m,hm,hnb⟩
    ·rw[if_neg (by rw[hd];omega),if_neg (by rw[hd];omega)] at hy;cases hy
    ·rw[if_neg (by rw[hd];omega)] at hy;split at hy
     ·rename_i hreg;have hcell:=R.cell hi;simp only at hy hreg;rw[ht] at hy hreg;have hsel:((bK c place rs).tiles.getD (place.getD i 0).toNat tc0).select=selS [15,15,15] (((qaf c).getD i ce0).inputs.map fun v=>(qaT c.vars.toNat rs).getD v.toNat 0):=congrArg (fun x=>x.2.1) hcell;have hrg:((bK c place rs).tiles.getD (place.getD i 0).toNat tc0).reg=((qaf c).getD i ce0).reg:=congrArg (fun x=>x.2.2) hcell;rw[hsel] at hy;obtain⟨s,hs,rfl⟩:=List.mem_map.1 hy;obtain⟨hs1,hs2⟩:=List.mem_filter.1 hs;rw[decide_eq_true_eq] at hs2;rcases qnE hs1 with h|h
      ·obtain⟨v,hv,rfl⟩:=List.mem_map.1 h;obtain⟨r',hr',e1,e2,e3⟩:=R.input hi hv;obtain⟨j',hj',e4⟩:=qfv e3;rw[e2,<-e4];rcases qgH R.v hi with⟨-,hk⟩|⟨-,g,hg,hk⟩
       ·exfalso;rw[hrg,hk] at hreg;have:=hreg.2;unfold qaQ at this;split at this <;> cases this
       ·rw[hk] at hv hnet;have hb:=(qcH R.v hg).2.2 v hv;have hnet2:c.first+(g:Int)=r.net:=hnet
        have hb0:=(R.bd r' hr').1;exact ihn r'.net.toNat (by omega) r' hr' rfl j' hj'
      ·exact absurd h hs2
     ·cases hy
    ·rw[if_pos ⟨h2,h5⟩] at hy;obtain rfl:=List.mem_singleton.1 hy;simp only;rw[hnb];exact ihj m hm (by omega)
 intro w hw;by_cases hn : ∀ r∈rs,r.track=w.2->w.1∉qan r.hops
 ·refine⟨_,fun y hy=>?_⟩;unfold Rel qa3 at hy;rw[R.drv_out hw hn,if_neg (by omega),if_neg (by omega)] at hy;cases hy
 ·simp only[Classical.not_forall,Classical.not_not] at hn;obtain⟨r,hr,e1,e2⟩:=hn;obtain⟨j,hj,e3⟩:=qfv e2;have:=key _ r hr rfl j hj;rw[e3,e1] at this;exact this
end routed
end Go.Proofs
