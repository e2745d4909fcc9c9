/- Contracts, plain definitions and lemmas. Conditions: none; lemmas. -/
import Derived.Test.YteikeianenfhaaaGreatC85
import Derived.Test.YteikeianenfhaaaGreatK3
import Derived.Test.YteikeianenfhaaaGreatC12
import Derived.Test.YteikeianenfhaaaGreatC53
set_option maxRecDepth 20000
set_option linter.unusedSimpArgs false
set_option linter.unusedVariables false
set_option maxHeartbeats 2000000
set_option linter.defProp false
namespace Go.Proofs
open Go Go.VL Tryz
variable {T:List ar}{p t n i j:Nat}{A:ar->ar}{r:Rt}{h:Int×Int}{w:Wr}{st ins:ZB}{rows:List ZB}
def Cc {q:Nat}(hp:p<T.length):(dT T p A).getD q ba=if p=q then A (T.getD p ba) else T.getD q ba:=by
 unfold dT;by_cases h:p=q
 ·subst h;rw[if_pos rfl,eO hp]
 ·rw[if_neg h,po h]
def P5:(dT T p A).length=T.length:=by simp[dT]
def gD (T:List ar) (t u:Nat):Int:=(T.getD t ba).drive.getD u 0
def JC {c:ac}{u:Nat}(hT:fV T) (hh:0<=h.1/\h.1<=24) (hu:0<=r.track/\r.track<=7):gD (fo c r T h) t u=if h.1.toNat=t/\r.track.toNat=u then dy c r.net h else gD T t u:=by
 have hsz:=hT.get (i:=h.1.toNat) (by omega);have hl:=hT.1;unfold gD;rw[Ci,Cc (by omega)];by_cases e:h.1.toNat=t
 ·subst e;rw[if_pos rfl];show((T.getD h.1.toNat ba).drive.set r.track.toNat (dy c r.net h)).getD u 0=_
  by_cases e2:r.track.toNat=u
  ·subst e2;rw[if_pos ⟨rfl,rfl⟩,eO (by have:=hsz.2;omega)]
  ·rw[if_neg (fun h=>e2 h.2),po e2]
 ·rw[if_neg e,if_neg (fun h=>e h.1)]
def Gm {c:ac}{r:Rt}(hu:0<=r.track/\r.track<=7) {t u:Nat} : ∀ (l:List (Int×Int)) (T:List ar),fV T->(∀ h∈l,0<=h.1/\h.1<=24)->(r.track.toNat=u->∀ h∈l,h.1.toNat≠t)->gD (l.foldl (fo c r) T) t u=gD T t u
 | [],T,_,_,_=>rfl
 | h::l,T,hT,hl,hn=>by
  have h1:=hl h (kE ..);rw[e6,Gm hu l _ (B8 hT h1) (fun x hx=>hl x (fX _ hx)) (fun e x hx=>hn e x (fX _ hx)),JC hT h1 hu,if_neg (fun e=>hn e.2 h (kE ..) e.1)]
def HQ {c:ac}{r:Rt}(hu:0<=r.track/\r.track<=7) : ∀ (l:List (Int×Int)) (T:List ar),fV T->(∀ h∈l,0<=h.1/\h.1<=24)->(a9 l).Nodup->∀ h∈l,gD (l.foldl (fo c r) T) h.1.toNat r.track.toNat=dy c r.net h
 | [],T,_,_,_,h,hm=>by cases hm
 | a::l,T,hT,hl,hn,h,hm=>by
  have h1:=hl a (kE ..);rw[a9,js,List.nodup_cons] at hn;rw[e6];rcases List.mem_cons.1 hm with rfl|h2
  ·rw[Gm hu l _ (B8 hT h1) (fun x hx=>hl x (fX _ hx)) (fun _ x hx e=>hn.1 (by
    have:=hl x (fX _ hx);have e2:x.1=h.1:=by omega
    rw[<-e2];exact vO hx)),JC hT h1 hu,if_pos ⟨rfl,rfl⟩]
  ·exact HQ hu l _ (B8 hT h1) (fun x hx=>hl x (fX _ hx)) hn.2 h h2
def zu (l:List Rt):Prop:=∀ r∈l,(0<=r.track/\r.track<=7)/\∀ h∈r.ab,0<=h.1/\h.1<=24
def zu.tail {l:List Rt}(h:zu (r::l)):zu l:=fun x hx=>h x (fX _ hx)
def Fc {c:ac}{t u:Nat} : ∀ (l:List Rt) (T:List ar),fV T->zu l->(∀ r∈l,r.track.toNat=u->∀ h∈r.ab,h.1.toNat≠t)->gD (l.foldl (fun T r=>c8 c r T r.ab.length) T) t u=gD T t u
 | [],T,_,_,_=>rfl
 | r::l,T,hT,hl,hn=>by
  obtain⟨h1,h2⟩:=hl r (kE ..);rw[e6,Fc l _ (yX hT h2 _) hl.tail (fun x hx=>hn x (fX _ hx))];unfold c8;rw[ig];exact Gm h1 r.ab T hT h2 (hn r (kE ..))
def JE {c:ac} : ∀ (l:List Rt) (T:List ar),fV T->zu l->l.Pairwise Fw->(∀ r∈l,(a9 r.ab).Nodup)->∀ r∈l,∀ h∈r.ab,gD (l.foldl (fun T r=>c8 c r T r.ab.length) T) h.1.toNat r.track.toNat=dy c r.net h
 | [],T,_,_,_,_,r,hr=>by cases hr
 | a::l,T,hT,hl,hp,hn,r,hr=>by
  intro h hh;obtain⟨h1,h2⟩:=hl a (kE ..);rw[List.pairwise_cons] at hp;rw[e6];rcases List.mem_cons.1 hr with rfl|h3
  ·rw[Fc l _ (yX hT h2 _) hl.tail (fun x hx e y hy e2=>by
    obtain⟨b1,b2⟩:=hl x (fX _ hx);have b3:=b2 y hy;have b4:=h2 h hh;refine hp.1 x hx (by omega) h.1 (vO hh) ?_;have e3:h.1=y.1:=by omega
    rw[e3];exact vO hy)]
   unfold c8;rw[ig];exact HQ h1 r.ab T hT h2 (hn r (kE ..)) h hh
  ·exact JE l _ (yX hT h2 _) hl.tail hp.2 (fun x hx=>hn x (fX _ hx)) r h3 h hh
def oE (T:List ar) (t:Nat):Int×ZA×Bool:=((T.getD t ba).table,(T.getD t ba).select,(T.getD t ba).gj)
def QL {c:ac}:oE (fo c r T h) t=oE T t:=by
 rw[Ci];by_cases hp:h.1.toNat<T.length
 ·unfold oE;rw[Cc hp];split
  ·rename_i e;subst e;rfl
  ·rfl
 ·rw[dT,List.set_eq_of_length_le (by omega)]
def IL {c:ac}{r:Rt}{t:Nat} : ∀ (l:List (Int×Int)) (T:List ar),oE (l.foldl (fo c r) T) t=oE T t
 | [],T=>rfl
 | h::l,T=>by rw[e6,IL l,QL]
def M2 {c:ac}{t:Nat} : ∀ (l:List Rt) (T:List ar),oE (l.foldl (fun T r=>c8 c r T r.ab.length) T) t=oE T t
 | [],T=>rfl
 | r::l,T=>by rw[e6,M2 l];exact IL _ T
def HZ {trk:ZA}{cells:List bW}{place:ZA}{T:List ar}{t u:Nat} : ∀ i,gD (gE trk cells place T i) t u=gD T t u
 | 0=>rfl
 | i+1=>by
  have ih:=HZ (trk:=trk) (cells:=cells) (place:=place) (T:=T) (t:=t) (u:=u) i;rw[<-ih,zU];by_cases hp:(place.getD i 0).toNat<(gE trk cells place T i).length
  ·unfold gD;rw[Cc hp];split
   ·rename_i e;subst e;rfl
   ·rfl
  ·rw[dT,List.set_eq_of_length_le (by omega)]
def HM {trk:ZA}{cells:List bW}{place:ZA}{T:List ar} : ∀ i,(gE trk cells place T i).length=T.length
 | 0=>rfl
 | i+1=>by rw[zU,P5,HM i]
def Ez {trk:ZA}{cells:List bW}{place:ZA}{T:List ar}{t:Nat} : ∀ i,(∀ j,j<i->(place.getD j 0).toNat≠t)->(gE trk cells place T i).getD t ba=T.getD t ba
 | 0,_=>rfl
 | i+1,h=>by
  rw[zU,dT,po (h i (by omega)),Ez i (fun j hj=>h j (by omega))]
def Hs {place:ZA}(hp:ay n place) (hi:i<n) (hj:j<n) (h:(place.getD i 0).toNat=(place.getD j 0).toNat):i=j:=by
 have h1:=hp.get hi;have h2:=hp.get hj;have:=hp.len;exact z8.1 hp.nd i j (by omega) (by omega) (by omega)
def NE {trk:ZA}{cells:List bW}{place:ZA}(hp:ay cells.length place) {T:List ar}(hT:T.length=25) : ∀ i,i<=cells.length->∀ j,j<i->(gE trk cells place T i).getD (place.getD j 0).toNat ba=kg trk (cells.getD j bP) (T.getD (place.getD j 0).toNat ba)
 | 0,_,j,hj=>by omega
 | i+1,hi,j,hj=>by
  have hb:=hp.get (i:=i) (by omega);rw[zU];by_cases e:j=i
  ·subst e;rw[Cc (by rw[HM];omega),if_pos rfl,Ez j (fun k hk e=>by have:=Hs hp (by omega) (by omega) e;omega)]
  ·rw[dT,po (fun e2=>e (Hs hp (by omega) (by omega) e2).symm)];exact NE hp hT i (by omega) j (by omega)
def te {c:ac}{net:Int}(hf:0<=h.2/\h.2<=24) (hn:h.1∈dO h.2):2<=dy c net h/\dy c net h<=5/\nb h.1 (dy c net h)=h.2:=by
 have hb:=yW hf h.1 hn;have hd:nb h.1 2=h.2∨nb h.1 3=h.2∨nb h.1 4=h.2∨nb h.1 5=h.2:=by
  have e2:nb h.1 2=gV h.1:=rfl;have e3:nb h.1 3=oS h.1:=rfl;have e4:nb h.1 4=oF h.1:=rfl;have e5:nb h.1 5=oP h.1:=rfl;rw[e2,e3,e4,e5];unfold gV oS oF oP;unfold dO at hn;simp only[gM] at hn;rcases hn with((h1|h1)|h1)|h1 <;> split at h1 <;> simp at h1
  ·right;right;right;rw[if_pos (by omega)];omega
  ·right;right;left;rw[if_pos (by omega)];omega
  ·right;left;rw[if_pos (by omega)];omega
  ·left;rw[if_pos (by omega)];omega
 unfold dy;rw[if_neg (by omega)];by_cases h2:nb h.1 2=h.2
 ·rw[if_pos h2];exact⟨by omega,by omega,h2⟩
 ·rw[if_neg h2];by_cases h3:nb h.1 3=h.2
  ·rw[if_pos h3];exact⟨by omega,by omega,h3⟩
  ·rw[if_neg h3];by_cases h4:nb h.1 4=h.2
   ·rw[if_pos h4];exact⟨by omega,by omega,h4⟩
   ·rw[if_neg h4];have h5:nb h.1 5=h.2:=by rcases hd with h|h|h|h <;> first|exact h|contradiction
    rw[if_pos h5];exact⟨by omega,by omega,h5⟩
structure ap (c:ac) (place:ZA) (rs:List Rt):Prop where
 v:c.Valid
 p:ay (aw c).length place
 ex : ∃ busy0 busy,kb c (aw c) place busy0 (c.vars.toNat-1) busy rs
noncomputable abbrev bK (c:ac) (place:ZA) (rs:List Rt):aG:=vK c (aw c) place rs
section routed
variable {c:ac}{place:ZA}{rs:List Rt}
def ap.nd (R:ap c place rs):(rs.map (·.net)).Nodup:=by
 obtain⟨b0,b,h⟩:=R.ex;rw[h.nets];exact(EF _).1
def ap.bd (R:ap c place rs) : ∀ r∈rs,(1<=r.net/\r.net<c.vars)/\(0<=r.track/\r.track<=7)/\(∀ h∈r.ab,0<=h.1/\h.1<=24)/\(a9 r.ab).Nodup:=by
 intro r hr;obtain⟨b0,b,h⟩:=R.ex;have e:=h.each r hr;have e1:=e.net;have e2:=e.track;have hv:=R.v.aN;exact⟨by omega,by omega,e.tree.rng,e.tree.nd⟩
def ap.Gp (R:ap c place rs):zu rs:=fun r hr=>⟨(R.bd r hr).2.1,(R.bd r hr).2.2.1⟩
def ap.apart (R:ap c place rs):rs.Pairwise Fw:=by
 obtain⟨b0,b,h⟩:=R.ex;exact h.apart
def ap.xj (R:ap c place rs) (hr:r∈rs) (hh:h∈r.ab):go (bK c place rs) (h.1,r.track)=dy c r.net h:=by
 have hT:fV (gE (fN c.vars.toNat rs) (aw c) place (List.replicate 25 dY) (aw c).length):=zZ fV.empty (fun x hx=>(wv R.v x hx).1) R.p _ (aD _);have:=JE (c:=c) rs _ hT R.Gp R.apart (fun r hr=>(R.bd r hr).2.2.2) r hr h hh;rw[<-this];show gD (dA c rs _ rs.length) _ _=_
 unfold dA;rw[ig]
def ap.lV (R:ap c place rs) (hw:qw w) (hn : ∀ r∈rs,r.track=w.2->w.1∉a9 r.ab):go (bK c place rs) w=0:=by
 have hT:fV (gE (fN c.vars.toNat rs) (aw c) place (List.replicate 25 dY) (aw c).length):=zZ fV.empty (fun x hx=>(wv R.v x hx).1) R.p _ (aD _);obtain⟨⟨w1,w2⟩,w3,w4⟩:=hw;have:=Fc (c:=c) (t:=w.1.toNat) (u:=w.2.toNat) rs _ hT R.Gp (fun r hr e h hh e2=>by
  obtain⟨b1,b2⟩:=R.Gp r hr;have b3:=b2 h hh;refine hn r hr (by omega) ?_;have e3:w.1=h.1:=by omega
  rw[e3];exact vO hh)
 show gD (dA c rs _ rs.length) _ _=_
 unfold dA;rw[ig,this,HZ];unfold gD;have e1:(List.replicate 25 dY).getD w.1.toNat ba=dY:=by rw[List.getD_eq_getElem?_getD,List.getElem?_replicate,if_pos (by omega)];rfl
 rw[e1];obtain h|h|h|h|h|h|h|h:w.2.toNat=0∨w.2.toNat=1∨w.2.toNat=2∨w.2.toNat=3∨w.2.toNat=4∨w.2.toNat=5∨w.2.toNat=6∨w.2.toNat=7:=by omega
 all_goals rw[h];rfl
def LI:oE (bK c place rs).tiles t=oE (gE (fN c.vars.toNat rs) (aw c) place (List.replicate 25 dY) (aw c).length) t:=by
 show oE (dA c rs _ rs.length) t=_
 unfold dA;rw[M2]
def ap.cell (R:ap c place rs) (hi:i<(aw c).length):oE (bK c place rs).tiles (place.getD i 0).toNat=(((aw c).getD i bP).table,c9 [15,15,15] (((aw c).getD i bP).inputs.map fun v=>(fN c.vars.toNat rs).getD v.toNat 0),((aw c).getD i bP).gj):=by
 have hb:=R.p.get hi;rw[LI,oE,NE R.p (by simp) _ (aD _) i hi];have e1:(List.replicate 25 dY).getD (place.getD i 0).toNat ba=dY:=by rw[List.getD_eq_getElem?_getD,List.getElem?_replicate,if_pos (by omega)];rfl
 rw[e1];rfl
def ap.blank (R:ap c place rs) (ht:t<25) (hn : ∀ i,i<(aw c).length->(place.getD i 0).toNat≠t):oE (bK c place rs).tiles t=(0,[15,15,15],false):=by
 rw[LI,oE,Ez _ hn];have e1:(List.replicate 25 dY).getD t ba=dY:=by rw[List.getD_eq_getElem?_getD,List.getElem?_replicate,if_pos ht];rfl
 rw[e1];rfl
def ap.v4 (R:ap c place rs) {v:Int}(h0:1<=v) (h1:v<c.vars) (hu:fU c (aw c) place v≠[]) : ∃ r∈rs,r.net=v/\(fN c.vars.toNat rs).getD v.toNat 0=r.track/\∀ t∈fU c (aw c) place v,t∈a9 r.ab:=by
 obtain⟨b0,b,h⟩:=R.ex;have hv:=R.v.aN;have hm:v∈rs.map (·.net):=by
  rw[h.nets,EX];exact⟨by omega,fun e=>hu ((AP R.v place h0 h1).1 e)⟩
 obtain⟨r,hr,rfl⟩:=List.mem_map.1 hm;refine⟨r,hr,rfl,?_,fun t ht=>(MQ R.v h hr).1 t (Hy.2 ht)⟩;rw[fN,jQ,ig];exact Ec rs _ R.nd (fun x hx=>by have:=(R.bd x hx).1;simp;omega) r hr
def ap.input (R:ap c place rs) (hi:i<(aw c).length) {v:Int}(hv:v∈((aw c).getD i bP).inputs) : ∃ r∈rs,r.net=v/\(fN c.vars.toNat rs).getD v.toNat 0=r.track/\place.getD i 0∈a9 r.ab:=by
 have hin:=(wv R.v _ (aO hi:(aw c).getD i bP∈aw c)).2.2 v hv;have hm:place.getD i 0∈fU c (aw c) place v:=AW.2 (.inl ⟨i,hi,hv,rfl⟩);obtain⟨r,hr,h1,h2,h3⟩:=R.v4 hin.1 hin.2 (fun e=>by rw[e] at hm;cases hm);exact⟨r,hr,h1,h2,h3 _ hm⟩
def ap.pad (R:ap c place rs) {o:Nat}(ho:o<c.outs.length) (hv:1<=c.outs.getD o 0/2) : ∃ r∈rs,r.net=c.outs.getD o 0/2/\(fN c.vars.toNat rs).getD (c.outs.getD o 0/2).toNat 0=r.track/\(o:Int)*5+4∈a9 r.ab:=by
 have hl:=R.v.o _ (aO ho:c.outs.getD o 0∈c.outs);unfold bm at hl;have hm:(o:Int)*5+4∈fU c (aw c) place (c.outs.getD o 0/2):=AW.2 (.inr ⟨o,ho,rfl,rfl⟩);obtain⟨r,hr,h1,h2,h3⟩:=R.v4 hv (by omega) (fun e=>by rw[e] at hm;cases hm);exact⟨r,hr,h1,h2,h3 _ hm⟩
def ap.kC (R:ap c place rs) (hr:r∈rs) (hj:j<r.ab.length) :
  (go (bK c place rs) ((r.ab.getD j (0,0)).1,r.track)=6/\r.net<=c.inputs/\(r.ab.getD j (0,0)).1=(r.net-1)*5)∨
  (go (bK c place rs) ((r.ab.getD j (0,0)).1,r.track)=1/\c.inputs<r.net/\∃ i,i<(aw c).length/\((aw c).getD i bP).net=r.net/\(r.ab.getD j (0,0)).1=place.getD i 0)∨
  (2<=go (bK c place rs) ((r.ab.getD j (0,0)).1,r.track)/\go (bK c place rs) ((r.ab.getD j (0,0)).1,r.track)<=5/\∃ m,m<j/\nb (r.ab.getD j (0,0)).1 (go (bK c place rs) ((r.ab.getD j (0,0)).1,r.track))=(r.ab.getD m (0,0)).1):=by
 obtain⟨b0,b,h⟩:=R.ex;have hm:=aO (z:=((0,0):Int×Int)) hj;rw[R.xj hr hm];have he:=h.each r hr;have hrd:=MQ R.v h hr;have hbd:=R.bd r hr;rcases he.tree.root j hj with⟨rfl,h2⟩|⟨h1,m,h2,h3,h4⟩
 ·have hsrc:=hrd.2;rw[EV] at hsrc;by_cases hni:r.net<=c.inputs
  ·left;refine⟨by rw[dy,if_pos (by omega),if_pos hni],hni,?_⟩;rw[hsrc,if_neg];intro h5;rcases Cs (EG R.v) place r.net _ (aD _) with⟨i,g1,g2,-,g4⟩|⟨-,-,g3⟩
   ·have:=(Np R.v _ (aO g1:(aw c).getD i bP∈aw c)).1;omega
   ·omega
  ·right;left;refine⟨by rw[dy,if_pos (by omega),if_neg hni],by omega,?_⟩;have hn:r.net∈pe c (aw c) place (c.vars.toNat-1):=by rw[<-h.nets];exact List.mem_map.2 ⟨r,hr,rfl⟩
   have hu:fU c (aw c) place r.net≠[]:=fun h3=>(EX.1 hn).2 ((AP R.v place hbd.1.1 hbd.1.2).2 h3)
   have hso:=Jk R.v place hbd.1.1 hbd.1.2 hu;rcases Cs (EG R.v) place r.net _ (aD _) with⟨i,g1,g2,-,g4⟩|⟨-,g2,-⟩
   ·refine⟨i,g1,g2,?_⟩;rw[hsrc,if_pos (by omega),g4];rfl
   ·rw[g2,pP,if_neg (by omega)] at hso;cases hso
 ·right;right;have hb:0<=(r.ab.getD j (0,0)).2/\(r.ab.getD j (0,0)).2<=24:=by
   rw[<-h3];exact he.tree.rng _ (aO (by omega))
  obtain⟨a1,a2,a3⟩:=te (c:=c) (net:=r.net) hb h4;exact⟨a1,a2,m,h2,by rw[a3,h3]⟩
def Dq (hc:c.Valid) (hi:i<(aw c).length):(i<c.next.length/\(aw c).getD i bP=jB c i)∨(c.next.length<=i/\∃ g,g<c.gates.length/\(aw c).getD i bP=g9 (mm c g)):=by
 by_cases h:i<c.next.length
 ·left;refine⟨h,?_⟩;rw[aw,cW (by simpa using h)];simp[List.getD,h]
 ·right;refine⟨by omega,?_⟩;have hm:(aw c).getD i bP∈(jE c).map g9:=by
   rw[aw] at hi ⊢;rw[b8,gQ,v7] at hi;have e:((List.range c.next.length).map (jB c)++(jE c).map g9).getD i bP=((jE c).map g9).getD (i-c.next.length) bP:=by
    simp[List.getD,List.getElem?_append_right,show c.next.length<=i by omega]
   rw[e];exact aO (by omega)
  obtain⟨l,hl,e⟩:=List.mem_map.1 hm;obtain⟨g,hg,rfl⟩:=(sB hc).each l hl;exact⟨g,hg,e.symm⟩
def Mc {s:Int}{v:ZA}(h:s∈c9 [15,15,15] v):s∈v∨s=15:=by
 unfold c9 at h;rcases List.mem_append.1 h with h|h
 ·exact .inl h
 ·have:=o6 h;simp at this;exact .inr this
def B9 {ab:List (Int×Int)}{t:Int}(h:t∈a9 ab) : ∃ j,j<ab.length/\(ab.getD j (0,0)).1=t:=by
 obtain⟨x,hx,rfl⟩:=List.mem_map.1 h;obtain⟨j,hj,rfl⟩:=gm ((0,0):Int×Int) hx;exact⟨j,hj,rfl⟩
def ap.wf (R:ap c place rs):Wf (bK c place rs):=by
 have key : ∀ n:Nat,∀ r∈rs,r.net.toNat=n->∀ j,j<r.ab.length->Acc (Rel (bK c place rs)) ((r.ab.getD j (0,0)).1,r.track):=by
  intro n;induction n using Nat.strongRecOn with
  | ind n ihn=>
   intro r hr hn j;induction j using Nat.strongRecOn with
   | ind j ihj=>
    intro hj;refine⟨_,fun y hy=>?_⟩;unfold Rel ir at hy;rcases R.kC hr hj with⟨hd,-,-⟩|⟨hd,hni,i,hi,hnet,ht⟩|⟨h2,h5,m,hm,hnb⟩
    ·rw[if_neg (by rw[hd];omega),if_neg (by rw[hd];omega)] at hy;cases hy
    ·rw[if_neg (by rw[hd];omega)] at hy;split at hy
     ·rename_i hreg;have hcell:=R.cell hi;simp only at hy hreg;rw[ht] at hy hreg;have hsel:((bK c place rs).tiles.getD (place.getD i 0).toNat ba).select=c9 [15,15,15] (((aw c).getD i bP).inputs.map fun v=>(fN c.vars.toNat rs).getD v.toNat 0):=congrArg (fun x=>x.2.1) hcell;have hrg:((bK c place rs).tiles.getD (place.getD i 0).toNat ba).gj=((aw c).getD i bP).gj:=congrArg (fun x=>x.2.2) hcell;rw[hsel] at hy;obtain⟨s,hs,rfl⟩:=List.mem_map.1 hy;obtain⟨hs1,hs2⟩:=List.mem_filter.1 hs;rw[decide_eq_true_eq] at hs2;rcases Mc hs1 with h|h
      ·obtain⟨v,hv,rfl⟩:=List.mem_map.1 h;obtain⟨r',hr',e1,e2,e3⟩:=R.input hi hv;obtain⟨j',hj',e4⟩:=B9 e3;rw[e2,<-e4];rcases Dq R.v hi with⟨-,hk⟩|⟨-,g,hg,hk⟩
       ·exfalso;rw[hrg,hk] at hreg;have:=hreg.2;unfold jB at this;split at this <;> cases this
       ·rw[hk] at hv hnet;have hb:=(ri R.v hg).2.2 v hv;have hnet2:c.first+(g:Int)=r.net:=hnet
        have hb0:=(R.bd r' hr').1;exact ihn r'.net.toNat (by omega) r' hr' rfl j' hj'
      ·exact absurd h hs2
     ·cases hy
    ·rw[if_pos ⟨h2,h5⟩] at hy;obtain rfl:=List.mem_singleton.1 hy;simp only;rw[hnb];exact ihj m hm (by omega)
 intro w hw;by_cases hn : ∀ r∈rs,r.track=w.2->w.1∉a9 r.ab
 ·refine⟨_,fun y hy=>?_⟩;unfold Rel ir at hy;rw[R.lV hw hn,if_neg (by omega),if_neg (by omega)] at hy;cases hy
 ·simp only[Classical.not_forall,Classical.not_not] at hn;obtain⟨r,hr,e1,e2⟩:=hn;obtain⟨j,hj,e3⟩:=B9 e2;have:=key _ r hr rfl j hj;rw[e3,e1] at this;exact this
end routed

def ki (V:Wr->Bool) (t s:Int):Bool:=decide (s≠15)&&V (t,s)
def jp (k:aG) (V:Wr->Bool) (t:Int):Bool:=((k.tiles.getD t.toNat ba).table.toNat).testBit (dL (ki V t) (k.tiles.getD t.toNat ba).select)
def Cx (k:aG) (aX ins:ZB) (V:Wr->Bool) (w:Wr):Bool:=
 if go k w=6 then ins.getD (w.1/5).toNat false
 else if go k w=1 then(if(k.tiles.getD w.1.toNat ba).gj then aX.getD w.1.toNat false else jp k V w.1)
 else if 2<=go k w/\go k w<=5 then V (nb w.1 (go k w),w.2) else false
def vM (k:aG) (aX ins:ZB) (V:Wr->Bool):Prop:=∀ w,qw w->V w=Cx k aX ins V w
def iO (k:aG) (V:Wr->Bool):ZB:=(List.range k.pads.length).map fun(o:Nat)=>ki V ((o:Int)*5+4) (k.pads.getD o (0,false)).1 != (k.pads.getD o (0,false)).2
def uJ (k:aG) (V:Wr->Bool):ZB:=(List.range 25).map fun(t:Nat)=>(k.tiles.getD t ba).gj&&jp k V (t:Int)
def IS {f:Int->Bool}{g:Int->Int} : ∀ l:ZA,dL f (l.map g)=dL (fun z=>f (g z)) l
 | []=>rfl
 | z::l=>by rw[js,dL,dL,IS l]
def M9 {f:Int->Bool} : ∀ {l:ZA},(∀ z∈l,f z=false)->dL f l=0
 | [],_=>rfl
 | z::l,h=>by
  rw[dL,h z (kE ..),M9 (fun y hy=>h y (fX _ hy))];rfl
def Hq {f:Int->Bool}{m:ZA}(h : ∀ z∈m,f z=false) : ∀ l:ZA,dL f (l++m)=dL f l
 | []=>M9 h
 | z::l=>by rw[vI,dL,dL,Hq h l]
def Ly {f g:Int->Bool} : ∀ {l:ZA},(∀ z∈l,f z=g z)->dL f l=dL g l
 | [],_=>rfl
 | z::l,h=>by rw[dL,dL,h z (kE ..),Ly (fun y hy=>h y (fX _ hy))]
def K9 {f:Nat->Bool}(h:i<n):((List.range n).map f).getD i false=f i:=by simp[List.getD,h]
section routed
variable {c:ac}{place:ZA}{rs:List Rt}
def qp (c:ac) (rs:List Rt) (st ins:ZB) (w:Wr):Bool:=match rs.find? (fun r=>decide (r.track=w.2/\w.1∈a9 r.ab)) with
 | some r=>VL.valOf c st ins r.net
 | none=>false
def ap.one (R:ap c place rs) {a b:Rt}(ha:a∈rs) (hb:b∈rs) {t:Int}(e:a.track=b.track) (h1:t∈a9 a.ab) (h2:t∈a9 b.ab):a=b:=by
 obtain⟨i,hi,rfl⟩:=gm fC ha;obtain⟨j,hj,rfl⟩:=gm fC hb;have hp:=R.apart;rw[A9] at hp;have ei:rs.getD i fC=rs[i]:=by simp[List.getD,hi]
 have ej:rs.getD j fC=rs[j]:=by simp[List.getD,hj]
 rw[ei] at e h1;rw[ej] at e h2;rcases Nat.lt_trichotomy i j with h|h|h
 ·exact absurd h2 (hp i j hi hj h e t h1)
 ·subst h;rfl
 ·exact absurd h1 (hp j i hj hi h e.symm t h2)
def ap.u9 (R:ap c place rs) (hr:r∈rs) {t:Int}(ht:t∈a9 r.ab):qp c rs st ins (t,r.track)=VL.valOf c st ins r.net:=by
 unfold qp;cases h:rs.find? (fun x=>decide (x.track=r.track/\t∈a9 x.ab)) with
 | none=>rw[List.find?_eq_none] at h;exact absurd (h r hr) (by simp[ht])
 | some x=>
  have h2:=List.find?_some h;rw[decide_eq_true_iff] at h2;rw[R.one (List.mem_of_find?_eq_some h) hr h2.1 h2.2 ht]
def ap.Aa (hn : ∀ r∈rs,r.track=w.2->w.1∉a9 r.ab):qp c rs st ins w=false:=by
 unfold qp;rw[List.find?_eq_none.2 (fun r hr=>by simpa using hn r hr)]
def ap.reads (R:ap c place rs) (hi:i<(aw c).length) :
  dL (ki (qp c rs st ins) (place.getD i 0)) (c9 [15,15,15] (((aw c).getD i bP).inputs.map fun v=>(fN c.vars.toNat rs).getD v.toNat 0))=dL (VL.valOf c st ins) ((aw c).getD i bP).inputs:=by
 unfold c9;rw[Hq (fun z hz=>by
  have:=o6 hz;obtain rfl:z=15:=by simpa using this
  rfl),IS]
 refine Ly fun v hv=>?_
 obtain⟨r,hr,rfl,e2,e3⟩:=R.input hi hv;have hb:=(R.bd r hr).2.1;rw[e2,ki,R.u9 hr e3,decide_eq_true (by omega),rR]
def ap.G2 (R:ap c place rs) (hi:i<(aw c).length):jp (bK c place rs) (qp c rs st ins) (place.getD i 0)=(((aw c).getD i bP).table.toNat).testBit (dL (VL.valOf c st ins) ((aw c).getD i bP).inputs):=by
 have hcell:=R.cell hi;have hsel:((bK c place rs).tiles.getD (place.getD i 0).toNat ba).select=c9 [15,15,15] (((aw c).getD i bP).inputs.map fun v=>(fN c.vars.toNat rs).getD v.toNat 0):=congrArg (fun x=>x.2.1) hcell;have htb:((bK c place rs).tiles.getD (place.getD i 0).toNat ba).table=((aw c).getD i bP).table:=congrArg (fun x=>x.1) hcell;rw[jp,hsel,htb,R.reads hi]
def ap.gj (R:ap c place rs) {i:Nat}(hi:i<(aw c).length):((bK c place rs).tiles.getD (place.getD i 0).toNat ba).gj=((aw c).getD i bP).gj:=congrArg (fun x=>x.2.2) (R.cell hi)
def ap.rS (R:ap c place rs) (h1:st.length=c.next.length) (h2:(ins.length:Int)=c.inputs) {g:Nat}(hi:i<(aw c).length) (hg:g<c.gates.length) (hk:(aw c).getD i bP=g9 (mm c g)) :
  jp (bK c place rs) (qp c rs st ins) (place.getD i 0)=VL.valOf c st ins (c.first+(g:Int)):=by
 rw[R.G2 hi,hk];exact RC R.v h1 h2 hg
def ap.pp (R:ap c place rs) (h1:st.length=c.next.length) (h2:(ins.length:Int)=c.inputs) (hi:i<c.next.length) (bJ:i<(aw c).length) (hk:(aw c).getD i bP=jB c i) :
  jp (bK c place rs) (qp c rs st ins) (place.getD i 0)=aW (values c st ins) (c.next.getD i 0):=by
 rw[R.G2 bJ,hk];have hn:=R.v.n _ (aO hi:c.next.getD i 0∈c.next);unfold bm at hn;have hl:aW (values c st ins) (c.next.getD i 0)=(VL.valOf c st ins (c.next.getD i 0/2) != decide (c.next.getD i 0%2=1)):=rfl;rw[hl];unfold jB;split
 ·have hr:dL (VL.valOf c st ins) [c.next.getD i 0/2]=if VL.valOf c st ins (c.next.getD i 0/2) then 1 else 0:=by simp[dL]
  show((2-c.next.getD i 0%2).toNat).testBit (dL (VL.valOf c st ins) [c.next.getD i 0/2])=_
  rw[hr];obtain h|h:c.next.getD i 0%2=0∨c.next.getD i 0%2=1:=by omega
  all_goals rw[h];cases VL.valOf c st ins (c.next.getD i 0/2) <;> decide
 ·rename_i h0;have e0:c.next.getD i 0/2=0:=by omega
  rw[e0,Ff];obtain h|h:c.next.getD i 0%2=0∨c.next.getD i 0%2=1:=by omega
  all_goals simp only[h,dL];decide
def qM (c:ac) (place:ZA) (st aX:ZB):Prop:=∀ i,i<c.next.length->aX.getD (place.getD i 0).toNat false=st.getD i false
def ap.QQ (R:ap c place rs) {aX:ZB}(h1:st.length=c.next.length) (h2:(ins.length:Int)=c.inputs) (hg:qM c place st aX):vM (bK c place rs) aX ins (qp c rs st ins):=by
 intro w hw;by_cases hn : ∀ r∈rs,r.track=w.2->w.1∉a9 r.ab
 ·rw[ap.Aa hn,Cx,R.lV hw hn,if_neg (by omega),if_neg (by omega),if_neg (by omega)]
 ·simp only[Classical.not_forall,Classical.not_not] at hn;obtain⟨r,hr,e1,e2⟩:=hn;obtain⟨t,u⟩:=w;simp only at e1 e2;subst e1;obtain⟨j,hj,rfl⟩:=B9 e2;rw[R.u9 hr e2,Cx];have hb:=R.bd r hr;rcases R.kC hr hj with⟨hd,hni,ht⟩|⟨hd,hni,i,hi,hnet,ht⟩|⟨g2,g5,m,hm,hnb⟩
  ·rw[if_pos hd,xw h2 (by omega) hni];simp only[ht];congr 2;omega
  ·rw[if_neg (by rw[hd];omega),if_pos hd];simp only[ht];rw[R.gj hi];rcases Dq R.v hi with⟨k1,hk⟩|⟨-,g,hgg,hk⟩
   ·have hr2:((aw c).getD i bP).gj=true:=by rw[hk];unfold jB;split <;> rfl
    rw[if_pos hr2,hg i k1,<-hnet,hk,zb,RJ h1 h2 k1]
   ·rw[if_neg (by rw[hk];simp[g9]),R.rS h1 h2 hi hgg hk,<-hnet,hk];rfl
  ·rw[if_neg (by omega),if_neg (by omega),if_pos ⟨g2,g5⟩];simp only;rw[hnb,R.u9 hr];exact vO (aO (by omega))
def E0 {trk:ZA} : ∀ (n o:Nat),n<=3->o<n->(iW c trk n).getD o (0,false)=(trk.getD (c.outs.getD o 0/2).toNat 0,decide (c.outs.getD o 0%2=1))
 | 0,o,_,h=>by omega
 | n+1,o,h3,h=>by
  have hs:iW c trk (n+1)=(iW c trk n).set n (trk.getD (c.outs.getD n 0/2).toNat 0,decide (c.outs.getD n 0%2=1)):=by simp only[iW,kO,ng,e6,List.foldl_nil]
  rw[hs];by_cases e:n=o
  ·subst e;rw[eO (by rw[cI];omega)]
  ·rw[po e];exact E0 n o (by omega) (by omega)
def ap.outs (R:ap c place rs) {st ins:ZB}:iO (bK c place rs) (qp c rs st ins)=dN (values c st ins) c.outs++List.replicate (3-c.outs.length) false:=by
 have hlo:=R.v.lo;have hpl:(bK c place rs).pads.length=3:=cI;have hz:(fN c.vars.toNat rs).getD 0 0=15:=F1 (by have:=R.v.aN;have:=R.v.al;omega) (fun r hr=>(R.bd r hr).1.1);refine wq false (by rw[iO,gQ,v7,hpl,b8,z0,m9];omega) fun o ho=>?_
 rw[iO,gQ,v7] at ho;rw[iO,K9 ho];have hpd:(bK c place rs).pads=iW c (fN c.vars.toNat rs) c.outs.length:=rfl;by_cases h:o<c.outs.length
 ·have hl:=R.v.o _ (aO h:c.outs.getD o 0∈c.outs);unfold bm at hl;rw[hpd,E0 _ _ (by omega) h,cW (by rw[z0];exact h)];have e:(dN (values c st ins) c.outs).getD o false=(VL.valOf c st ins (c.outs.getD o 0/2) != decide (c.outs.getD o 0%2=1)):=by
   rw[dN];simp[List.getD,h];rfl
  rw[e];congr 1;by_cases hv:1<=c.outs.getD o 0/2
  ·obtain⟨r,hr,q1,q2,q3⟩:=R.pad h hv;have hb:=(R.bd r hr).2.1;simp only[q2];rw[ki,R.u9 hr q3,q1,decide_eq_true (by omega),rR]
  ·have e0:c.outs.getD o 0/2=0:=by omega
   simp only[e0];rw[Ff,ki,show(fN c.vars.toNat rs).getD (0:Int).toNat 0=15 from hz];rfl
 ·have e1:(bK c place rs).pads.getD o (0,false)=(15,false):=by rw[hpd];exact DC _ _ (by omega) (by omega)
  rw[e1];have e2:(dN (values c st ins) c.outs++List.replicate (3-c.outs.length) false).getD o false=false:=by
   simp only[List.getD];rw[List.getElem?_append_right (by rw[z0];omega),List.getElem?_replicate];split <;> rfl
  rw[e2];rfl
def ap.next (R:ap c place rs) {st ins:ZB}(h1:st.length=c.next.length) (h2:(ins.length:Int)=c.inputs):qM c place (dN (values c st ins) c.next) (uJ (bK c place rs) (qp c rs st ins)):=by
 intro i hi;have bJ:i<(aw c).length:=by simp only[aw,b8,gQ,v7];omega
 have hb:=R.p.get bJ;rw[uJ,K9 (by omega),R.gj bJ];rcases Dq R.v bJ with⟨-,hk⟩|⟨k1,-⟩
 ·have hr2:((aw c).getD i bP).gj=true:=by rw[hk];unfold jB;split <;> rfl
  rw[hr2,rR,show(((place.getD i 0).toNat:Nat):Int)=place.getD i 0 by omega,R.pp h1 h2 hi bJ hk,dN];simp[List.getD,hi]
 ·omega
def ap.s5 (R:ap c place rs) (hi:i<(aw c).length):0<=((aw c).getD i bP).table/\((aw c).getD i bP).table<256:=by
 rcases Dq R.v hi with⟨-,hk⟩|⟨-,g,hg,hk⟩
 ·rw[hk];unfold jB;split <;> simp only <;> omega
 ·rw[hk];have hl:=(ri R.v hg).2.1;have ht:(g9 (mm c g)).table=((mj c (c.first+(g:Int)) ((cY c).getD (c.first.toNat+g) []) (2 ^ ((cY c).getD (c.first.toNat+g) []).length):Nat):Int):=rfl;rw[ht];have h1:=z7 c (c.first+(g:Int)) ((cY c).getD (c.first.toNat+g) []) (2 ^ ((cY c).getD (c.first.toNat+g) []).length);have h2:2 ^ (2 ^ ((cY c).getD (c.first.toNat+g) []).length)<=2 ^ (2 ^ 3):=vw (by omega) (vw (by omega) hl);have h3:2 ^ (2 ^ 3)=256:=by decide
  omega
def Fh:ji 15=true:=by decide
def Ng {u:Int}(h:0<=u/\u<=7):ji u=true:=by simp[ji,h.1,h.2]
def ap.ok (R:ap c place rs):(bK c place rs).ok:=by
 have hT:fV (bK c place rs).tiles:=C1 (zZ fV.empty (fun x hx=>(wv R.v x hx).1) R.p _ (aD _)) (fun r hr=>⟨by have:=(R.bd r hr).1;omega,(R.bd r hr).1.2,(R.bd r hr).2.1.1,(R.bd r hr).2.1.2,(R.bd r hr).2.2.1⟩) _;have hpl:(bK c place rs).pads.length=3:=cI;have hlo:=R.v.lo;have hz:(fN c.vars.toNat rs).getD 0 0=15:=F1 (by have:=R.v.aN;have:=R.v.al;omega) (fun r hr=>(R.bd r hr).1.1);have hpd:(bK c place rs).pads=iW c (fN c.vars.toNat rs) c.outs.length:=rfl;refine⟨hT.1,⟨hpl,fun o ho=>?_⟩,fun t ht=>?_⟩
 ·rw[hpl] at ho;rw[hpd];by_cases h:o<c.outs.length
  ·rw[E0 _ _ (by omega) h];have hl:=R.v.o _ (aO h:c.outs.getD o 0∈c.outs);unfold bm at hl;by_cases hv:1<=c.outs.getD o 0/2
   ·obtain⟨r,hr,q1,q2,q3⟩:=R.pad h hv;simp only[q2];exact Ng (R.bd r hr).2.1
   ·have e0:c.outs.getD o 0/2=0:=by omega
    simp only[e0];rw[show(fN c.vars.toNat rs).getD (0:Int).toNat 0=15 from hz];exact Fh
  ·rw[DC _ _ (by omega) ho];exact Fh
 ·rw[hT.1] at ht;have hsz:=hT.get ht;rw[ar.b6];have hdr : ∀ u:Nat,u<8->fB (t:Int) (go (bK c place rs) ((t:Int),(u:Int)))=true:=by
   intro u hu;by_cases hn : ∀ r∈rs,r.track=(u:Int)->(t:Int)∉a9 r.ab
   ·rw[R.lV (w:=((t:Int),(u:Int))) ⟨⟨by simp only;omega,by simp only;omega⟩,by simp only;omega,by simp only;omega⟩ hn];simp[fB]
   ·simp only[Classical.not_forall,Classical.not_not] at hn;obtain⟨r,hr,e1,e2⟩:=hn;obtain⟨j,hj,e3⟩:=B9 e2;have hb:=R.bd r hr;have hi1:=R.v.i1;rw[<-e1,<-e3];unfold fB;rw[decide_eq_true_eq];rcases R.kC hr hj with⟨hd,hni,h3⟩|⟨hd,-,-⟩|⟨g2,g5,m,hm,hnb⟩
    ·right;right;right;rw[hd,h3];exact⟨rfl,by omega,by omega⟩
    ·right;left;exact hd
    ·right;right;left;refine⟨g2,g5,?_⟩;rw[hnb];exact(hb.2.2.1 _ (aO (by omega))).1
  have hdr2 : ∀ j,j<((bK c place rs).tiles.getD t ba).drive.length->fB (t:Int) (((bK c place rs).tiles.getD t ba).drive.getD j 0)=true:=fun j hj=>hdr j (by rw[hsz.2] at hj;exact hj)
  by_cases hc : ∃ i,i<(aw c).length/\(place.getD i 0).toNat=t
  ·obtain⟨i,hi,rfl⟩:=hc;have hcell:=R.cell hi;have hsel:((bK c place rs).tiles.getD (place.getD i 0).toNat ba).select=c9 [15,15,15] (((aw c).getD i bP).inputs.map fun v=>(fN c.vars.toNat rs).getD v.toNat 0):=congrArg (fun x=>x.2.1) hcell;have htb:((bK c place rs).tiles.getD (place.getD i 0).toNat ba).table=((aw c).getD i bP).table:=congrArg (fun x=>x.1) hcell;have hco:=R.s5 hi;refine⟨by rw[htb];exact hco,hsz.1,hsz.2,fun j hj=>?_,hdr2⟩;have hm:((bK c place rs).tiles.getD (place.getD i 0).toNat ba).select.getD j 0∈((bK c place rs).tiles.getD (place.getD i 0).toNat ba).select:=aO hj;generalize ((bK c place rs).tiles.getD (place.getD i 0).toNat ba).select.getD j 0=s at *
   rw[hsel] at hm;rcases Mc hm with h|rfl
   ·obtain⟨v,hv,rfl⟩:=List.mem_map.1 h;obtain⟨r,hr,q1,q2,q3⟩:=R.input hi hv;rw[q2];exact Ng (R.bd r hr).2.1
   ·exact Fh
  ·have hbl:=R.blank ht (fun i hi e=>hc ⟨i,hi,e⟩);have hsel:((bK c place rs).tiles.getD t ba).select=[15,15,15]:=congrArg (fun x=>x.2.1) hbl;have htb:((bK c place rs).tiles.getD t ba).table=0:=congrArg (fun x=>x.1) hbl;refine⟨by rw[htb];omega,hsz.1,hsz.2,fun j hj=>?_,hdr2⟩;rw[hsel] at hj ⊢;have hj3:j<3:=hj;obtain rfl|rfl|rfl:j=0∨j=1∨j=2:=by omega
   all_goals rfl
def oD (k:aG) (V:Nat->Wr->Bool):Nat->ZB
 | 0=>List.replicate 25 false
 | i+1=>uJ k (V i)
def ry (c:ac) (rs:List Rt) (rows:List ZB) (i:Nat):Wr->Bool:=qp c rs (kF c rows i) (rows.getD i [])
def J0 (c:ac) (rows:List ZB) (i:Nat):(kF c rows i).length=c.next.length:=by cases i <;> simp[kF,dN]
def ap.aX (R:ap c place rs) (h : ∀ r∈rows,(r.length:Int)=c.inputs) : ∀ i,i<=rows.length->qM c place (kF c rows i) (oD (bK c place rs) (ry c rs rows) i)
 | 0,_=>fun i hi=>by
  have e : ∀ n j:Nat,(List.replicate n false).getD j false=false:=fun n j=>by
   rw[List.getD_eq_getElem?_getD,List.getElem?_replicate];split <;> rfl
  rw[oD,kF,e,e]
 | i+1,hi=>R.next (J0 c rows i) (h _ (aO (by omega)))
def ap.run (R:ap c place rs) (h : ∀ r∈rows,(r.length:Int)=c.inputs) (hi:i<rows.length):vM (bK c place rs) (oD (bK c place rs) (ry c rs rows) i) (rows.getD i []) (ry c rs rows i):=
 R.QQ (J0 c rows i) (h _ (aO hi)) (R.aX h i (by omega))
def ap.sU (R:ap c place rs):iO (bK c place rs) (ry c rs rows i)=dN (nj c rows i) c.outs++List.replicate (3-c.outs.length) false:=R.outs
end routed

def Sw {c:ac}(hc:c.Valid) : ∀ x∈aw c,∀ v∈x.inputs,0<=v/\v<c.vars:=by
 intro x hx v hv;have hf:=hc.al;have hvv:c.vars=c.first+(c.gates.length:Int):=rfl
 rcases List.mem_append.1 hx with h|h
 ·obtain⟨i,hi,rfl⟩:=List.mem_map.1 h;have hi':i<c.next.length:=List.mem_range.1 hi;have hn:=hc.n _ (aO hi':c.next.getD i 0∈c.next);unfold bm at hn;unfold jB at hv;split at hv
  ·rw[List.mem_singleton.1 hv];omega
  ·cases hv
 ·obtain⟨l,hl,rfl⟩:=List.mem_map.1 h;obtain⟨m,hm,rfl⟩:=(sB hc).each l hl;have:=(ri hc hm).2.2 v hv;omega
def Qs {c:ac}(hc:c.Valid) {cells:List bW}{place:ZA}(hp:ay cells.length place) {rs:List Rt}(h:lp c cells place j5=some rs) :
  (∀ r∈rs,0<=r.net/\r.net<c.vars/\0<=r.track/\r.track<=7/\∀ h∈r.ab,0<=h.1/\h.1<=24)/\∀ r∈rs,r.ab.length<=1000:=by
 have hf:=hc.al;have hv:=hc.aN;have hrc:lp c cells place j5=(lY c cells place j5 (c.vars.toNat-1)).map (·.2):=rfl;rw[hrc] at h;obtain⟨⟨busy,out⟩,h1,rfl⟩:=Option.map_eq_some_iff.1 h;have hR:=DA hc hp jZ _ h1;constructor
 ·intro r hr;have e:=hR.each r hr;have e1:=e.net;have e2:=e.track;exact⟨by omega,by omega,by omega,by omega,e.tree.rng⟩
 ·intro r hr;have:=sG (hR.each r hr).tree;omega
noncomputable def BV (c:ac):Option aG:=if c.Valid then(lp c (aw c) (kX c (aw c)) j5).map (vK c (aw c) (kX c (aw c))) else none
def kz:aG:=⟨[],[]⟩
def Tryz.lG (c:ac):Pure prog 50 [dC c] (.tup [dK ((BV c).getD kz),dB (BV c).isSome]):=by
 have hcv:=cX c;unfold BV;by_cases hc:c.Valid
 ·rw[if_pos hc];rw[decide_eq_true hc] at hcv;have h1:=qg c hc;have hcl:=qX hc;have hci:=Pd hc;have hcx:=Sw hc;generalize aw c=cells at *
  have h2:=pD c hc cells (by omega) hci;have hp:=EJ (c:=c) (cells:=cells) (by omega);generalize kX c cells=place at *
  have h3:=p9 c hc cells (by omega) hci place hp;cases hro:lp c cells place j5 with
  | none=>
   rw[hro] at h3;refine l9 rfl 1000 func50 rfl rfl ntmps50 (by simp) fun ok=>?_
   simp only[go_sem,seval,-List.reduceReplicate] at ok
   repeat' first|simp (disch:=omega) only[go_sem,seval,-List.reduceReplicate]|(with_reducible first|apply aa|intro)|(refine az hcv ?_)|(refine az h1 ?_)|(refine kN h2 ?_)|(refine kN h3 ?_)|(try rw[ae]);omega
   all_goals first|rfl|simp[gP,jM,gF,kz]
  | some rs=>
   rw[hro] at h3;obtain⟨hr1,hr2⟩:=Qs hc hp hro;have h4:=pS c hc cells (by omega) hci place hp hcx rs hr1 hr2;refine l9 rfl 1000 func50 rfl rfl ntmps50 (by simp) fun ok=>?_
   simp only[go_sem,seval,-List.reduceReplicate] at ok
   repeat' first|simp (disch:=omega) only[go_sem,seval,-List.reduceReplicate]|(with_reducible first|apply aa|intro)|(refine az hcv ?_)|(refine az h1 ?_)|(refine kN h2 ?_)|(refine kN h3 ?_)|(refine me h4 ?_)|(try rw[ae]);omega
   all_goals first|rfl|simp[gP,jM,gF]
 ·rw[if_neg hc];rw[decide_eq_false hc] at hcv;refine l9 rfl 1000 func50 rfl rfl ntmps50 (by simp) fun ok=>?_
  simp only[go_sem,seval,-List.reduceReplicate] at ok
  repeat' first|simp (disch:=omega) only[go_sem,seval,-List.reduceReplicate]|(with_reducible first|apply aa|intro)|(refine az hcv ?_)|(try rw[ae]);omega
  all_goals first|rfl|simp[gP,jM,gF,kz]

def JK {c:ac}(hc:c.Valid) {place:ZA}(hp:ay (aw c).length place) {busy0:List ZB}(hb:dz busy0) {rs:List Rt}(h:lp c (aw c) place busy0=some rs):ap c place rs/\rs.length<=1000/\∀ r∈rs,r.ab.length<=1000:=by
 have hf:=hc.al;have hv:=hc.aN;have hrc:lp c (aw c) place busy0=(lY c (aw c) place busy0 (c.vars.toNat-1)).map (·.2):=rfl;rw[hrc] at h;obtain⟨⟨busy,out⟩,h1,rfl⟩:=Option.map_eq_some_iff.1 h;have hR:=DA hc hp hb _ h1;refine⟨⟨hc,hp,busy0,busy,hR⟩,?_,fun r hr=>?_⟩
 ·have h2:=(EF (c:=c) (cells:=aw c) (place:=place) (c.vars.toNat-1)).2.2;rw[<-hR.nets,gQ] at h2;show out.length<=1000
  omega
 ·have:=(hR.each r hr).len;omega
noncomputable def jC (c:ac) (list:List (Int×Int)):Option aG:=open Classical in if c.Valid/\wy list then(lp c (aw c) (kX c (aw c)) (kB list)).map (vK c (aw c) (kX c (aw c))) else none
def P1:wy []:=⟨by simp,by simp⟩
def PF (c:ac):jC c []=BV c:=by
 classical
 unfold jC BV;by_cases h:c.Valid
 ·rw[if_pos ⟨h,P1⟩,if_pos h];rfl
 ·rw[if_neg (fun h2=>h h2.1),if_neg h]
def LB {c:ac}{list:List (Int×Int)}{k:aG}(h:jC c list=some k):c.Valid/\wy list/\∃ rs,ap c (kX c (aw c)) rs/\lp c (aw c) (kX c (aw c)) (kB list)=some rs/\k=bK c (kX c (aw c)) rs:=by
 classical
 unfold jC at h;split at h
 ·rename_i hv;obtain⟨rs,h1,rfl⟩:=Option.map_eq_some_iff.1 h;have hcl:=qX hv.1;exact⟨hv.1,hv.2,rs,(JK hv.1 (EJ (by omega)) (GO list) h1).1,h1,rfl⟩
 ·cases h
def Tryz.ij (c:ac) (list:List (Int×Int)):Pure prog 13 [dC c,aY list] (.tup [dK ((jC c list).getD kz),dB (jC c list).isSome]):=by
 classical
 have hcv:=aR c;have hdv:=fL list;by_cases hc:c.Valid
 ·rw[decide_eq_true hc] at hcv;by_cases hd:wy list
  ·rw[(jD list).2 hd] at hdv;have hA:jC c list=(lp c (aw c) (kX c (aw c)) (kB list)).map (vK c (aw c) (kX c (aw c))):=if_pos ⟨hc,hd⟩;have hcl:=qX hc;have hp:ay (aw c).length (kX c (aw c)):=EJ (by omega);have hpl:=tq c hc;have hra:=kZ c (kX c (aw c)) list;rw[show u3 c (kX c (aw c)) list=lp c (aw c) (kX c (aw c)) (kB list) by rw[u3,if_pos ⟨⟨hc,hp⟩,hd⟩]] at hra;rw[hA];cases hro:lp c (aw c) (kX c (aw c)) (kB list) with
   | none=>
    rw[hro] at hra;simp only[xQ] at hra;rw[dh];refine l9 rfl 1000 func13 rfl rfl ntmps13 (by simp) fun ok=>?_
    simp only[go_sem,seval,-List.reduceReplicate] at ok
    repeat' first|simp (disch:=omega) only[go_sem,seval,-List.reduceReplicate]|(with_reducible first|apply aa|intro)|(refine az hcv ?_)|(refine iu (fun _=>hdv) ?_)|(refine kN hpl ?_)|(refine az hra ?_)|(try rw[ae]);omega
    all_goals first|rfl|simp[gP,jM,gF,kz]
   | some rs=>
    rw[hro] at hra;simp only[xQ] at hra;rw[dE];obtain⟨R,h1,h2⟩:=JK hc hp (GO list) hro;have hcf:=mR c hc (kX c (aw c)) hp rs (fun r hr=>⟨(R.bd r hr).1.1,(R.bd r hr).1.2,(R.bd r hr).2.1.1,(R.bd r hr).2.1.2,(R.bd r hr).2.2.1⟩) h2 h1 R.nd (fun x hx v hv=>by
     obtain⟨i,hi,rfl⟩:=gm bP hx;obtain⟨r,hr,e,-⟩:=R.input hi hv;exact⟨r,hr,e⟩) (fun l hl hv=>by
     obtain⟨o,ho,rfl⟩:=gm (0:Int) hl;obtain⟨r,hr,e,-⟩:=R.pad ho (by omega);exact⟨r,hr,e⟩)
    refine l9 rfl 1000 func13 rfl rfl ntmps13 (by simp) fun ok=>?_
    simp only[go_sem,seval,-List.reduceReplicate] at ok
    repeat' first|simp (disch:=omega) only[go_sem,seval,-List.reduceReplicate]|(with_reducible first|apply aa|intro)|(refine az hcv ?_)|(refine iu (fun _=>hdv) ?_)|(refine kN hpl ?_)|(refine az hra ?_)|(refine me hcf ?_)|(try rw[ae]);omega
    all_goals first|rfl|simp[gP,jM,gF,kz]
  ·rw[show bv list=false from Bool.eq_false_iff.2 (fun h=>hd ((jD list).1 h))] at hdv;rw[show jC c list=none from if_neg (fun h=>hd h.2)];refine l9 rfl 1000 func13 rfl rfl ntmps13 (by simp) fun ok=>?_
   simp only[go_sem,seval,-List.reduceReplicate] at ok
   repeat' first|simp (disch:=omega) only[go_sem,seval,-List.reduceReplicate]|(with_reducible first|apply aa|intro)|(refine az hcv ?_)|(refine iu (fun _=>hdv) ?_)|(try rw[ae]);omega
   all_goals first|rfl|simp[gP,jM,gF,kz]
 ·rw[decide_eq_false hc] at hcv;rw[show jC c list=none from if_neg (fun h=>hc h.1)];refine l9 rfl 1000 func13 rfl rfl ntmps13 (by simp) fun ok=>?_
  simp only[go_sem,seval,-List.reduceReplicate] at ok
  repeat' first|simp (disch:=omega) only[go_sem,seval,-List.reduceReplicate]|(with_reducible first|apply aa|intro)|(refine az hcv ?_)|(refine iu (x:=.nil) (fun h=>by cases h) ?_)|(try rw[ae]);omega
  all_goals first|rfl|simp[gP,jM,gF,kz]
def Tryz.iX (c:ac):Pure prog 51 [dC c] (.tup [dK ((jC c []).getD kz),dB (jC c []).isSome]):=by
 have hca:Pure prog 13 [dC c,.nil] (.tup [dK ((jC c []).getD kz),dB (jC c []).isSome]):=(ij c []).wk (by simp[pi,gP,gF,jM]);generalize (jC c []).getD kz=k at *
 generalize (jC c []).isSome=b at *
 refine l9 rfl 1000 func51 rfl rfl ntmps51 (by simp) fun ok=>?_
 simp only[go_sem,seval,-List.reduceReplicate] at ok
 repeat' first|simp (disch:=omega) only[go_sem,seval,-List.reduceReplicate]|(with_reducible first|apply aa|intro)|(refine me hca ?_)|(try rw[ae]);omega
end Go.Proofs
