/- Contracts, plain definitions and lemmas. Conditions: none; lemmas. -/
import Derived.Test.YteikeianenfhaaaGreatO1
import Derived.Test.YteikeianenfhaaaGreatC12
import Derived.Test.YteikeianenfhaaaGreatR1
set_option maxRecDepth 20000
set_option linter.unusedSimpArgs false
set_option linter.unusedVariables false
set_option maxHeartbeats 2000000
set_option linter.defProp false
namespace Go.Proofs
open Go Go.VL Tryz
variable {m:ZA}{l:Int}{u:ZB}{share:Bool}{i v k n:Nat}{s:v3}{rows:List ZB}
def kw {c:ac}(hv:c.Valid):c.first=(ai c:Int):=by have:=hv.i0;unfold ac.first ai;omega
def Cg {r:ZA}(h0:0<=l) (h:l<2*(m.length:Int)):lmap (m++r) l=lmap m l:=by
 unfold lmap;rw[cW (by omega)]
def HH {V:ZB}(hm:0<=m.getD (l/2).toNat 0):aW V (lmap m l)=(aW V (m.getD (l/2).toNat 0) != decide (l%2=1)):=by
 unfold lmap;split
 ·rename_i h;rw[FW hm,decide_eq_true h];cases aW V (m.getD (l/2).toNat 0) <;> rfl
 ·rename_i h;rw[decide_eq_false h];cases aW V (m.getD (l/2).toNat 0) <;> rfl
def AR {c:ac}(h:u.getD i false=false):qx c u share i s=⟨s.gates,s.m ++ [0]⟩:=by
 unfold qx;rw[h];rfl
def EM {c:ac}(h:u.getD i false=true):qx c u true i s=⟨(gf (ai c) s.gates (lmap s.m ((c.gates.getD i (0,0)).1)) (lmap s.m ((c.gates.getD i (0,0)).2))).1,s.m ++ [(gf (ai c) s.gates (lmap s.m ((c.gates.getD i (0,0)).1)) (lmap s.m ((c.gates.getD i (0,0)).2))).2]⟩:=by
 unfold qx;rw[h];rfl
def Aw {c:ac}(h:u.getD i false=true):qx c u false i s=⟨s.gates ++ [(lmap s.m ((c.gates.getD i (0,0)).1),lmap s.m ((c.gates.getD i (0,0)).2))],s.m ++ [2*((ai c:Int)+(s.gates.length:Int))]⟩:=by
 unfold qx;rw[h];rfl
def fJ (c:ac) (u:ZB) (v:Nat):Prop:=v<ai c∨u.getD (v-ai c) false=true
def dv (c:ac) (u:ZB):Prop:=∀ i,i<c.gates.length->u.getD i false=true->fJ c u ((c.gates.getD i (0,0)).1/2).toNat/\fJ c u ((c.gates.getD i (0,0)).2/2).toNat
def Da {c:ac}(hv:c.Valid):dv c (aL c c.gates.length):=by
 intro i hi hu;have hU:=(vW hv hi).1 hu;have hg:=hv.g i hi;have hf:=kw hv;unfold bm at hg;have key : ∀ l,(l=(c.gates.getD i (0,0)).1∨l=(c.gates.getD i (0,0)).2)->fJ c (aL c c.gates.length) (l/2).toNat:=by
  intro l hl;have hb:0<=l/\l<2*(c.first+(i:Int)):=by rcases hl with rfl|rfl <;> omega
  by_cases h:(l/2).toNat<ai c
  ·exact .inl h
  ·refine .inr ((vW hv (by omega)).2 (.op hi hU hl ?_));omega
 exact⟨key _ (.inl rfl),key _ (.inr rfl)⟩
def IH {c:ac}(hv:c.Valid) (hl:l∈c.outs++c.next):(0<=l/\l<2*c.vars)/\fJ c (aL c c.gates.length) (l/2).toNat:=by
 have hf:=kw hv;have hb:bm l c.vars:=by
  rcases List.mem_append.1 hl with h|h
  ·exact hv.o l h
  ·exact hv.n l h
 refine⟨hb,?_⟩;unfold bm at hb;unfold ac.vars at hb;by_cases h:(l/2).toNat<ai c
 ·exact .inl h
 ·exact .inr ((vW hv (by omega)).2 (.root hl (by omega)))
structure yh (c:ac) (u:ZB) (share:Bool) (v0:ZB) (i:Nat) (s:v3):Prop where
 pre : ∀ v,v<ai c->s.m.getD v 0=2*(v:Int)
 gn:share=true->GN (ai c) s.gates
 val : ∀ v,v<ai c+i->fJ c u v->aW (bq v0 s.gates) (s.m.getD v 0)=(bq v0 (c.gates.take i)).getD v false
def kY {c:ac}(h:i<c.gates.length):c.gates.take (i+1)=c.gates.take i ++ [c.gates.getD i (0,0)]:=by
 rw[la (by omega)];simp[List.getD,h]
def Ek {c:ac}(hv:c.Valid) (hc:dv c u) {v0:ZB}(hl:v0.length=ai c) (hi:i<c.gates.length) (hs:yh c u share v0 i s) (hb:Bc c i s) {t:List (Int×Int)}{x:Int}(hgn:share=true->GN (ai c) (s.gates++t))
  (hx:u.getD i false=true->aW (bq v0 (s.gates++t)) x=(aW (bq v0 s.gates) (lmap s.m ((c.gates.getD i (0,0)).1))&&aW (bq v0 s.gates) (lmap s.m ((c.gates.getD i (0,0)).2)))):yh c u share v0 (i+1) ⟨s.gates++t,s.m ++ [x]⟩:=by
 have hml:=hb.ml;have hg:=hv.g i hi;have hf:=kw hv;unfold bm at hg;have hw:(bq v0 (c.gates.take i)).length=ai c+i:=by rw[wO,hl];simp;omega
 refine⟨fun v h=>?_,hgn,fun v h hgd=>?_⟩
 ·simp only;rw[cW (by omega)];exact hs.pre v h
 ·rw[kY hi,zi];simp only;by_cases e:v<ai c+i
  ·rw[cW (by omega),cW (by omega)];have hm:=hb.mb _ (aO (l:=s.m) (i:=v) (z:=0) (by omega));rw[DZ hm.1 (by rw[hl];omega)];exact hs.val v e hgd
  ·obtain rfl:v=ai c+i:=by omega
   have hu:u.getD i false=true:=by
    rcases hgd with h2|h2
    ·omega
    ·rw[wg] at h2;exact h2
   obtain⟨c1,c2⟩:=hc i hi hu;rw[show ai c+i=s.m.length by omega,qA,hx hu,show s.m.length=(bq v0 (c.gates.take i)).length by omega,qA];have lit : ∀ l:Int,0<=l->l<2*(c.first+(i:Int))->fJ c u (l/2).toNat->aW (bq v0 s.gates) (lmap s.m l)=aW (bq v0 (c.gates.take i)) l:=by
    intro l l0 l1 lg;have hm:=hb.mb _ (aO (l:=s.m) (i:=(l/2).toNat) (z:=0) (by omega));rw[HH hm.1,hs.val _ (by omega) lg];rfl
   rw[lit _ hg.1.1 hg.1.2 c1,lit _ hg.2.1 hg.2.2 c2]
def DY {c:ac}(hv:c.Valid) {u:ZB}(hc:dv c u) {share:Bool}{v0:ZB}(hl:v0.length=ai c) (h0:v0.getD 0 false=false) : ∀ i,i<=c.gates.length->yh c u share v0 i (aB c u share i)
 | 0,_=>by
  have hm : ∀ v,v<ai c->(aB c u share 0).m.getD v 0=2*(v:Int):=fun v h=>by simp[aB,List.getD,h]
  refine⟨hm,fun _=>GN.nil,fun v h hgd=>?_⟩;rw[hm v (by omega)];show aW v0 _=v0.getD v false
  unfold aW;rw[show(2*(v:Int)/2).toNat=v by omega,decide_eq_false (by omega)];cases v0.getD v false <;> rfl
 | i+1,hi=>by
  have hs:=DY hv hc (share:=share) hl h0 i (by omega);have hb:=sN hv u share i (by omega);have hg:=hv.g i (by omega);have hf:=kw hv;have hml:=hb.ml;unfold bm at hg;rw[aB];generalize aB c u share i=s at *
  have hA:=pY (m:=s.m) (l:=(c.gates.getD i (0,0)).1) hb.mb (by omega);have hB:=pY (m:=s.m) (l:=(c.gates.getD i (0,0)).2) hb.mb (by omega);cases hu:u.getD i false with
  | false=>
   rw[AR hu];have:=Ek hv hc hl (by omega) hs hb (t:=[]) (x:=0) (fun h=>by rw[jq];exact hs.gn h) (fun h=>by rw[hu] at h;cases h)
   rwa [jq] at this
  | true=>
   cases share with
   | true=>
    rw[EM hu];obtain⟨q1,q2,t,q3⟩:=QE (v:=v0) hl (by unfold ai;omega) h0 (hs.gn rfl) hA hB;rw[q3] at q1 q2 ⊢;exact Ek hv hc hl (by omega) hs hb (fun _=>q1) (fun _=>q2)
   | false=>
    rw[Aw hu];refine Ek hv hc hl (by omega) hs hb (fun h=>by cases h) (fun _=>?_);rw[zi];have hrl:(bq v0 s.gates).length=ai c+s.gates.length:=by rw[wO,hl]
    unfold aW;rw[show(2*((ai c:Int)+(s.gates.length:Int))/2).toNat=(bq v0 s.gates).length by omega,qA,show decide (2*((ai c:Int)+(s.gates.length:Int))%2=1)=false from decide_eq_false (by omega)];cases(_&&_) <;> rfl
section sem
variable {c:ac}{st ins:ZB}
def MK (hv:c.Valid) (share:Bool) (h1:st.length=c.next.length) (h2:(ins.length:Int)=c.inputs) (hl:l∈c.outs++c.next):aW (values (built c share) st ins) (lmap (g0 c share).m l)=aW (values c st ins) l:=by
 have hv0:(false::(ins++st)).length=ai c:=by unfold ai;simp;omega
 have hs:=DY hv (Da hv) (share:=share) hv0 rfl c.gates.length (aD _);have hb:=sN hv (aL c c.gates.length) share c.gates.length (aD _);obtain⟨r1,r2⟩:=IH hv hl;have hf:=kw hv;unfold ac.vars at r1;have hml:=hb.ml;have hm:=hb.mb _ (aO (l:=(aB c (aL c c.gates.length) share c.gates.length).m) (i:=(l/2).toNat) (z:=0) (by omega));rw[KS,KS];show aW (bq (false::(ins++st)) (aB c (aL c c.gates.length) share c.gates.length).gates) (lmap (aB c (aL c c.gates.length) share c.gates.length).m l)=_
 rw[HH hm.1,hs.val _ (by omega) r2,ig];rfl
def Qx (hv:c.Valid) (share:Bool) (h1:st.length=c.next.length) (h2:(ins.length:Int)=c.inputs):dN (values (built c share) st ins) (built c share).outs=dN (values c st ins) c.outs:=by
 show((c.outs.map (lmap (g0 c share).m)).map _)=c.outs.map _
 rw[List.map_map];exact sH fun l hl=>MK hv share h1 h2 (np _ hl)
def Q1 (hv:c.Valid) (share:Bool) (h1:st.length=c.next.length) (h2:(ins.length:Int)=c.inputs):dN (values (built c share) st ins) (built c share).next=dN (values c st ins) c.next:=by
 show((c.next.map (lmap (g0 c share).m)).map _)=c.next.map _
 rw[List.map_map];exact sH fun l hl=>MK hv share h1 h2 (List.mem_append_right _ hl)
end sem
def Nf (c:ac) (rows:List ZB) (i:Nat):(kF c rows i).length=c.next.length:=by cases i <;> simp[kF,dN]
def K2 {c:ac}(hv:c.Valid) (share:Bool) {rows:List ZB}(h : ∀ r∈rows,(r.length:Int)=c.inputs) : ∀ i,i<=rows.length->kF (built c share) rows i=kF c rows i
 | 0,_=>by
  show List.replicate (built c share).next.length false=List.replicate c.next.length false
  simp[built]
 | i+1,hi=>by
  show dN (values (built c share) (kF (built c share) rows i) (rows.getD i [])) (built c share).next=dN (values c (kF c rows i) (rows.getD i [])) c.next
  rw[K2 hv share h i (by omega)];exact Q1 hv share (Nf c rows i) (h _ (aO (by omega)))
def Mx {c:ac}(hv:c.Valid) (share:Bool) (h : ∀ r∈rows,(r.length:Int)=c.inputs) (hi:i<rows.length):dN (nj (built c share) rows i) (built c share).outs=dN (nj c rows i) c.outs:=by
 show dN (values (built c share) (kF (built c share) rows i) (rows.getD i [])) (built c share).outs=dN (values c (kF c rows i) (rows.getD i [])) c.outs
 rw[K2 hv share h i (by omega)];exact Qx hv share (Nf c rows i) (h _ (aO hi))
def Fo {c:ac}(hv:c.Valid):GN (ai c) (built c true).gates:=by
 have h0:(List.replicate (ai c) false).getD 0 false=false:=by
  rw[List.getD_eq_getElem?_getD,List.getElem?_replicate];split <;> rfl
 exact(DY hv (Da hv) (share:=true) (v0:=List.replicate (ai c) false) (by simp) h0 c.gates.length (aD _)).gn rfl
def zA (c:ac) (share:Bool):ai (built c share)=ai c:=by unfold ai built;simp
def Jm {c:ac}(hv:c.Valid) (share:Bool) (hg:GN (ai c) (built c share).gates):(built c share).Valid:=by
 have hb:=sN hv (aL c c.gates.length) share c.gates.length (aD _);have hf:=kw hv;have hl:=hb.gl;have hml:=hb.ml;have hlg:=hv.lg;have hbf:(built c share).first=(ai c:Int):=by
  rw[<-hf];unfold ac.first built;simp
 have hbv:(built c share).vars=(ai c:Int)+((built c share).gates.length:Int):=by unfold ac.vars;rw[hbf]
 have lit : ∀ l,bm l c.vars->bm (lmap (g0 c share).m l) (built c share).vars:=by
  intro l h;unfold bm at h ⊢;unfold ac.vars at h;rw[hbv];exact pY hb.mb (by omega)
 refine⟨hv.i0,hv.i1,by simpa [built] using hv.ln,?_,by simpa [built] using hv.lo,fun i hi=>?_,fun x hx=>?_,fun x hx=>?_⟩
 ·show(aB c (aL c c.gates.length) share c.gates.length).gates.length<=14
  omega
 ·have:=hg.nf i hi;rw[hbf];unfold bm;omega
 ·obtain⟨l,h,rfl⟩:=List.mem_map.1 hx;exact lit l (hv.n l h)
 ·obtain⟨l,h,rfl⟩:=List.mem_map.1 hx;exact lit l (hv.o l h)
def sx {c:ac}(hv:c.Valid):(built c true).Valid:=Jm hv true (Fo hv)
structure OO (c:ac) (u:ZB) (i:Nat) (s:v3):Prop where
 pre : ∀ v,v<ai c->s.m.getD v 0=2*(v:Int)
 up : ∀ j,j<i->u.getD j false=true->∃ k,k<s.gates.length/\s.m.getD (ai c+j) 0=2*((ai c:Int)+(k:Int))/\s.gates.getD k (0,0)=(lmap s.m ((c.gates.getD j (0,0)).1),lmap s.m ((c.gates.getD j (0,0)).2))
 dn : ∀ k,k<s.gates.length->∃ j,j<i/\u.getD j false=true/\s.m.getD (ai c+j) 0=2*((ai c:Int)+(k:Int))
 mono : ∀ a b,a<b->b<ai c+i->fJ c u a->fJ c u b->s.m.getD a 0<s.m.getD b 0
def zw {c:ac}(hv:c.Valid) {u:ZB} : ∀ i,i<=c.gates.length->OO c u i (aB c u false i)
 | 0,_=>by
  have hm : ∀ v,v<ai c->(aB c u false 0).m.getD v 0=2*(v:Int):=fun v h=>by simp[aB,List.getD,h]
  refine⟨hm,fun j h=>by omega,fun k h=>by simp[aB] at h,fun a b h1 h2 _ _=>?_⟩;rw[hm a (by omega),hm b (by omega)];omega
 | i+1,hi=>by
  have hs:=zw hv (u:=u) i (by omega);have hb:=sN hv u false i (by omega);have hg:=fun j (h:j<c.gates.length)=>hv.g j h
  have hf:=kw hv;have hml:=hb.ml;unfold bm at hg;rw[aB];generalize aB c u false i=s at *
  have hlm : ∀ j,j<i->∀ x,lmap (s.m ++ [x]) ((c.gates.getD j (0,0)).1)=lmap s.m ((c.gates.getD j (0,0)).1)/\lmap (s.m ++ [x]) ((c.gates.getD j (0,0)).2)=lmap s.m ((c.gates.getD j (0,0)).2):=fun j hj x=>by
   have:=hg j (by omega);exact⟨Cg (by omega) (by omega),Cg (by omega) (by omega)⟩
  cases hu:u.getD i false with
  | false=>
   rw[AR hu];refine⟨fun v h=>?_,fun j hj h=>?_,fun k h=>?_,fun a b h1 h2 g1 g2=>?_⟩
   ·simp only;rw[cW (by omega)];exact hs.pre v h
   ·have hji:j<i:=by
     by_cases e:j=i
     ·subst e;rw[hu] at h;cases h
     ·omega
    obtain⟨k,k1,k2,k3⟩:=hs.up j hji h;refine⟨k,k1,?_,?_⟩
    ·simp only;rw[cW (by omega)];exact k2
    ·simp only;rw[(hlm j hji 0).1,(hlm j hji 0).2];exact k3
   ·obtain⟨j,j1,j2,j3⟩:=hs.dn k h;refine⟨j,by omega,j2,?_⟩;simp only;rw[cW (by omega)];exact j3
   ·have hbi:b≠ai c+i:=by
     rintro rfl;rcases g2 with h|h
     ·omega
     ·rw[wg,hu] at h;cases h
    simp only;rw[cW (by omega),cW (by omega)];exact hs.mono a b h1 (by omega) g1 g2
  | true=>
   rw[Aw hu];refine⟨fun v h=>?_,fun j hj h=>?_,fun k h=>?_,fun a b h1 h2 g1 g2=>?_⟩
   ·simp only;rw[cW (by omega)];exact hs.pre v h
   ·by_cases e:j=i
    ·subst e;refine⟨s.gates.length,by simp,?_,?_⟩
     ·simp only;rw[show ai c+j=s.m.length by omega,qA]
     ·simp only;have:=hg j (by omega);rw[qA,Cg (by omega) (by omega),Cg (by omega) (by omega)]
    ·have hji:j<i:=by omega
     obtain⟨k,k1,k2,k3⟩:=hs.up j hji h;refine⟨k,by simp;omega,?_,?_⟩
     ·simp only;rw[cW (by omega)];exact k2
     ·simp only;rw[(hlm j hji _).1,(hlm j hji _).2,cW k1];exact k3
   ·simp only[b8,nn] at h;by_cases e:k=s.gates.length
    ·subst e;refine⟨i,by omega,hu,?_⟩;simp only;rw[show ai c+i=s.m.length by omega,qA]
    ·obtain⟨j,j1,j2,j3⟩:=hs.dn k (by omega);refine⟨j,by omega,j2,?_⟩;simp only;rw[cW (by omega)];exact j3
   ·simp only;by_cases e:b=ai c+i
    ·subst e;rw[cW (by omega),show ai c+i=s.m.length by omega,qA];have hm:=hb.mb _ (aO (l:=s.m) (i:=a) (z:=0) (by omega));omega
    ·rw[cW (by omega),cW (by omega)];exact hs.mono a b h1 (by omega) g1 g2
section prune
variable {c:ac}
def zQ (hv:c.Valid) (h:v<ai c+c.gates.length) (hg:fJ c (aL c c.gates.length) v):(g0 c false).m.getD v 0%2=0/\(1<=v->2<=(g0 c false).m.getD v 0):=by
 have hs:=zw hv (u:=aL c c.gates.length) c.gates.length (aD _);have hpos:1<=ai c:=by unfold ai;omega
 show(aB c (aL c c.gates.length) false c.gates.length).m.getD v 0%2=0/\(1<=v->2<=(aB c (aL c c.gates.length) false c.gates.length).m.getD v 0)
 by_cases e:v<ai c
 ·rw[hs.pre v e];omega
 ·rcases hg with h2|h2
  ·omega
  ·obtain⟨k,k1,k2,-⟩:=hs.up (v-ai c) (by omega) h2;rw[show ai c+(v-ai c)=v by omega] at k2;rw[k2];omega
def wx (h:m.getD (l/2).toNat 0%2=0):lmap m l=m.getD (l/2).toNat 0+l%2:=by
 unfold lmap;split
 ·rw[flip,if_pos h];omega
 ·omega
def CY (hv:c.Valid) (hk:k<(built c false).gates.length) : ∃ j,j<c.gates.length/\(aL c c.gates.length).getD j false=true/\(g0 c false).m.getD (ai c+j) 0=2*((ai c:Int)+(k:Int))/\(built c false).gates.getD k (0,0)=(lmap (g0 c false).m ((c.gates.getD j (0,0)).1),lmap (g0 c false).m ((c.gates.getD j (0,0)).2)):=by
 have hs:=zw hv (u:=aL c c.gates.length) c.gates.length (aD _);obtain⟨j,j1,j2,j3⟩:=hs.dn k hk;obtain⟨k',k1,k2,k3⟩:=hs.up j j1 j2;obtain rfl:k'=k:=by
  rw[j3] at k2;omega
 exact⟨j,j1,j2,j3,k3⟩
def Jo (hv:c.Valid) (hg:GN (ai c) c.gates):GN (ai c) (built c false).gates:=by
 have hs:=zw hv (u:=aL c c.gates.length) c.gates.length (aD _);have hcl:=Da hv;have hf:=kw hv;have mono : ∀ a b,a<b->b<ai c+c.gates.length->fJ c (aL c c.gates.length) a->fJ c (aL c c.gates.length) b->(g0 c false).m.getD a 0<(g0 c false).m.getD b 0:=hs.mono;refine⟨fun k hk=>?_,fun k k' hk hk' e=>?_⟩
 ·obtain⟨j,j1,j2,j3,j4⟩:=CY hv hk;rw[j4];have hn:=hg.nf j j1;obtain⟨c1,c2⟩:=hcl j j1 j2;have e1:=zQ hv (by omega) c1;have e2:=zQ hv (by omega) c2;have hgj:fJ c (aL c c.gates.length) (ai c+j):=.inr (by rw[wg];exact j2);have m1:=mono _ _ (show((c.gates.getD j (0,0)).1/2).toNat<((c.gates.getD j (0,0)).2/2).toNat by omega) (by omega) c1 c2;have m2:=mono _ _ (show((c.gates.getD j (0,0)).2/2).toNat<ai c+j by omega) (by omega) c2 hgj;simp only;rw[wx e1.1,wx e2.1];have:=e1.2 (by omega);have:=e2.2 (by omega);omega
 ·obtain⟨j,j1,j2,j3,j4⟩:=CY hv hk;obtain⟨j',i1,i2,i3,i4⟩:=CY hv hk';rw[j4,i4] at e;have hn:=hg.nf j j1;have hn':=hg.nf j' i1;obtain⟨c1,c2⟩:=hcl j j1 j2;obtain⟨d1,d2⟩:=hcl j' i1 i2;have inj : ∀ l l':Int,0<=l->0<=l'->(l/2).toNat<ai c+c.gates.length->(l'/2).toNat<ai c+c.gates.length->fJ c (aL c c.gates.length) (l/2).toNat->fJ c (aL c c.gates.length) (l'/2).toNat->lmap (g0 c false).m l=lmap (g0 c false).m l'->l=l':=by
   intro l l' p0 p0' p1 p1' g g' he;have a1:=(zQ hv p1 g).1;have a2:=(zQ hv p1' g').1;rw[wx a1,wx a2] at he;rcases Nat.lt_trichotomy (l/2).toNat (l'/2).toNat with h|h|h
   ·have:=mono _ _ h p1' g g';omega
   ·rw[h] at he;omega
   ·have:=mono _ _ h p1 g' g;omega
  rw[aK] at e;have eA:=inj _ _ (by omega) (by omega) (by omega) (by omega) c1 d1 e.1;have eB:=inj _ _ (by omega) (by omega) (by omega) (by omega) c2 d2 e.2;obtain rfl:=hg.nd j j' j1 i1 (Prod.ext eA eB);rw[j3] at i3;omega
def Qv (hv:c.Valid) (hd:(built c false).Valid) {j:Nat}(hu:Used c j):j<c.gates.length->∀ k:Nat,(g0 c false).m.getD (ai c+j) 0=2*((ai c:Int)+(k:Int))->Used (built c false) k:=by
 have hs:=zw hv (u:=aL c c.gates.length) c.gates.length (aD _);have hf:=kw hv;have hfd:=kw hd;rw[zA] at hfd;induction hu with
 | @root j l hl e=>
  intro hj k hk;have hu:=(vW hv hj).2 (.root hl e);have hev:=zQ hv (v:=ai c+j) (by omega) (.inr (by rw[wg];exact hu));have hlm:lmap (g0 c false).m l=2*((ai c:Int)+(k:Int))+l%2:=by
   rw[wx (by rw[show(l/2).toNat=ai c+j by omega];exact hev.1),show(l/2).toNat=ai c+j by omega,hk]
  refine .root (l:=lmap (g0 c false).m l) ?_ (by rw[hlm,hfd];omega);show _∈c.outs.map _++c.next.map _
  rw[<-gw];exact vO hl
 | @op i j l hi hu hl e ih=>
  intro hj k hk;have hui:=(vW hv hi).2 hu;have huj:=(vW hv hj).2 (.op hi hu hl e);obtain⟨q,q1,q2,q3⟩:=hs.up i hi hui;have q4:=ih hi q q2;have hev:=zQ hv (v:=ai c+j) (by omega) (.inr (by rw[wg];exact huj));have hlm:lmap (g0 c false).m l=2*((ai c:Int)+(k:Int))+l%2:=by
   rw[wx (by rw[show(l/2).toNat=ai c+j by omega];exact hev.1),show(l/2).toNat=ai c+j by omega,hk]
  have q3':(built c false).gates.getD q (0,0)=(lmap (g0 c false).m ((c.gates.getD i (0,0)).1),lmap (g0 c false).m ((c.gates.getD i (0,0)).2)):=q3;refine .op (i:=q) (l:=lmap (g0 c false).m l) q1 q4 ?_ (by rw[hlm,hfd];omega);rw[q3'];rcases hl with rfl|rfl
  ·exact .inl rfl
  ·exact .inr rfl
end prune
def tR {c:ac}(hv:c.Valid):GN (ai c) (bL c).gates:=by
 have h:=Jo (sx hv) (by rw[zA];exact Fo hv)
 rwa [zA] at h
def Ew {c:ac}(hv:c.Valid):(bL c).Valid:=Jm (sx hv) false (Jo (sx hv) (by rw[zA];exact Fo hv))
def Pq {c:ac}(hv:c.Valid) (hk:k<(bL c).gates.length):Used (bL c) k:=by
 obtain⟨j,j1,j2,j3,-⟩:=CY (sx hv) hk;exact Qv (sx hv) (Ew hv) ((vW (sx hv) j1).1 j2) j1 k j3
def O0 (c:ac):ai (bL c)=ai c:=by unfold bL;rw[zA,zA]
def J2 (h:v<n):((List.range n).map fun(v:Nat)=>2*(v:Int)).getD v 0=2*(v:Int):=by simp[List.getD,h]
def Ex (h0:0<=l) (h1:l<2*(n:Int)):lmap ((List.range n).map fun(v:Nat)=>2*(v:Int)) l=l:=by
 rw[wx (by rw[J2 (by omega)];omega),J2 (by omega)];omega
def Nt {c:ac}(hv:c.Valid) (hg:GN (ai c) c.gates) {u:ZB}(hu : ∀ j,j<c.gates.length->u.getD j false=true) (share:Bool) : ∀ i,i<=c.gates.length->aB c u share i=⟨c.gates.take i,(List.range (ai c+i)).map fun(v:Nat)=>2*(v:Int)⟩
 | 0,_=>rfl
 | i+1,hi=>by
  have hn:=hg.nf i (by omega);have hlen:(c.gates.take i).length=i:=by simp;omega
  have hA:lmap ((List.range (ai c+i)).map fun(v:Nat)=>2*(v:Int)) ((c.gates.getD i (0,0)).1)=(c.gates.getD i (0,0)).1:=Ex (by omega) (by omega);have hB:lmap ((List.range (ai c+i)).map fun(v:Nat)=>2*(v:Int)) ((c.gates.getD i (0,0)).2)=(c.gates.getD i (0,0)).2:=Ex (by omega) (by omega);have hm:((List.range (ai c+(i+1))).map fun(v:Nat)=>2*(v:Int))=((List.range (ai c+i)).map fun(v:Nat)=>2*(v:Int)) ++ [2*((ai c:Int)+(i:Int))]:=by
   rw[<-ja,kO,gw,List.map_singleton];rfl
  rw[aB,Nt hv hg hu share i (by omega),kY (by omega),hm];cases share with
  | true=>
   rw[EM (hu i (by omega))];simp only;rw[hA,hB];have hlo:ce ((c.gates.getD i (0,0)).1) ((c.gates.getD i (0,0)).2)=(c.gates.getD i (0,0)).1/\bJ ((c.gates.getD i (0,0)).1) ((c.gates.getD i (0,0)).2)=(c.gates.getD i (0,0)).2:=by unfold ce bJ;rw[if_neg (by omega),if_neg (by omega)];exact⟨rfl,rfl⟩
   have hni:((c.gates.getD i (0,0)).1,(c.gates.getD i (0,0)).2)∉c.gates.take i:=by
    intro h;obtain⟨j,hj,e⟩:=Bl.1 h;rw[hlen] at hj;have e2:(c.gates.take i).getD j (0,0)=c.gates.getD j (0,0):=by simp[List.getD,List.getElem?_take,hj]
    rw[e2] at e;have:=hg.nd j i (by omega) (by omega) e;omega
   have hand:gf (ai c) (c.gates.take i) ((c.gates.getD i (0,0)).1) ((c.gates.getD i (0,0)).2)=(c.gates.take i ++ [((c.gates.getD i (0,0)).1,(c.gates.getD i (0,0)).2)],2*((ai c:Int)+(i:Int))):=by
    unfold gf;rw[hlo.1,hlo.2,if_neg (by unfold flip;split <;> omega),if_neg (by omega),if_neg hni,hlen]
   rw[hand]
  | false=>
   rw[Aw (hu i (by omega))];simp only;rw[hA,hB,hlen]
def PL {c:ac}(hv:c.Valid) (hg:GN (ai c) c.gates) (hu : ∀ j,j<c.gates.length->Used c j) (share:Bool):built c share=c:=by
 have h:=Nt hv hg (u:=aL c c.gates.length) (fun j hj=>(vW hv hj).2 (hu j hj)) share _ (aD _);have hf:=kw hv;have e:g0 c share=⟨c.gates.take c.gates.length,(List.range (ai c+c.gates.length)).map fun(v:Nat)=>2*(v:Int)⟩:=h;have lit : ∀ l,bm l c.vars->lmap (g0 c share).m l=l:=by
  intro l hl;unfold bm ac.vars at hl;rw[e];exact Ex hl.1 (by omega)
 refine Ry ⟨rfl,?_,?_,?_⟩
 ·show c.next.map _=c.next
  rw[sH (fun l hl=>lit l (hv.n l hl))];simp
 ·show(g0 c share).gates=c.gates
  rw[e,ig]
 ·show c.outs.map _=c.outs
  rw[sH (fun l hl=>lit l (hv.o l hl))];simp
def Qt {c:ac}(hv:c.Valid):bL (bL c)=bL c:=by
 have h:=fun share=>PL (Ew hv) (by rw[O0];exact tR hv) (fun j hj=>Pq hv hj) share
 show built (built (bL c) true) false=bL c
 rw[h true,h false]
def Oj {c:ac}(hv:c.Valid) (h : ∀ r∈rows,(r.length:Int)=c.inputs) (hi:i<rows.length):dN (nj (bL c) rows i) (bL c).outs=dN (nj c rows i) c.outs:=by
 show dN (nj (built (built c true) false) rows i) (built (built c true) false).outs=_
 rw[Mx (sx hv) false h hi,Mx hv true h hi]

def xe (c:ac) (u:ZB) (i:Nat):ZB:=
 if u.getD (ai c+i) false=true then(u.set ((c.gates.getD i (0,0)).1/2).toNat true).set ((c.gates.getD i (0,0)).2/2).toNat true else u
def pu (l:ZA) (u:ZB):Nat->ZB
 | 0=>u
 | k+1=>(pu l u k).set ((l.getD k 0)/2).toNat true
def kA (c:ac):Nat->ZB
 | 0=>pu c.roots (List.replicate (ai c+c.gates.length) false) c.roots.length
 | k+1=>xe c (kA c k) (c.gates.length-1-k)
def C6 {l:ZA}{u:ZB} : ∀ k,(pu l u k).length=u.length
 | 0=>rfl
 | k+1=>by rw[pu,gh,C6 k]
def NV {c:ac}:(xe c u i).length=u.length:=by unfold xe;split <;> simp
def Bx {c:ac} : ∀ k,(kA c k).length=ai c+c.gates.length
 | 0=>by rw[kA,C6,m9]
 | k+1=>by rw[kA,NV,Bx k]
set_option maxHeartbeats 4000000 in
def Tryz.lh (c:ac) (hv:c.Valid):Pure prog 160 [pC c] (cf (kA c c.gates.length)):=by
 refine bz func160 rfl ntmps160 fun ok=>?_
 simp only[go_sem,seval] at ok;have hfb:=hv.al;have hvb:=hv.aN;have hln:=hv.ln;have hlg:=hv.lg;have hlo:=hv.lo;have hi0:=hv.i0;have hi1:=hv.i1;have hcf:=kw hv;have hva:c.vars=c.first+c.gates.length:=rfl
 have hvn:c.vars.toNat=ai c+c.gates.length:=by omega
 simp only[go_sem,seval]
 repeat' first|simp (disch:=omega) only[];try simp only[go_sem,seval]|(with_reducible first|apply aa|intro)|(refine az (iP c (by omega)) ?_;simp only[go_sem,seval])|(refine az (lX c (by omega)) ?_;simp only[go_sem,seval])|(try rw[ae]);omega
 rw[hvn];have hrl : ∀ i,i<c.roots.length->bm (c.roots.getD i 0) c.vars:=fun i hi=>by
  have:=aO (l:=c.roots) (i:=i) (z:=0) hi;unfold ac.roots at this;rcases List.mem_append.1 this with h|h
  ·first|exact hv.o _ h|exact hv.n _ h
  ·first|exact hv.n _ h|exact hv.o _ h
 have hll:c.roots.length<=100:=by unfold ac.roots;simp;omega
 have hq:kA c 0=pu c.roots (List.replicate (ai c+c.gates.length) false) c.roots.length:=rfl;generalize c.roots=rs at *
 refine cQ (σ:=Nat) (fun i=>[(0,.d (pC c)),(3,.sl 0 0 1 0 (ai c+c.gates.length)),(11,.d (aj rs)),(12,.d (dI rs.length)),(13,.d (dI i))])
  (fun i=>[.row 0 1 true ((pu rs (List.replicate (ai c+c.gates.length) false) i).map D.bool)]) (fun i=>i<=rs.length) (fun i=>rs.length-i) [] 1000 1000 ?_ ?_ ?_
 ·simp only[go_sem,seval]
 ·simp only[go_sem,seval];exact⟨0,by omega,rfl,rfl⟩
 ·intro i hi;have hml:(pu rs (List.replicate (ai c+c.gates.length) false) i).length=ai c+c.gates.length:=by rw[C6];simp
  have hs:pu rs (List.replicate (ai c+c.gates.length) false) (i+1)=(pu rs (List.replicate (ai c+c.gates.length) false) i).set ((rs.getD i 0)/2).toNat true:=rfl;have hr:=hrl i;unfold bm at hr;by_cases hlt:i<rs.length
  ·have hr:=hr hlt;simp only[go_sem,seval]
   repeat' first|simp (disch:=omega) only[];try simp only[go_sem,seval]|(with_reducible first|apply aa|intro)|(try rw[ae]);omega
   exact⟨i+1,by omega,by omega,rfl,hs.symm⟩
  ·obtain rfl:i=rs.length:=by omega
   simp only[go_sem,seval]
   repeat' first|simp (disch:=omega) only[];try simp only[go_sem,seval]|(with_reducible first|apply aa|intro)|(try rw[ae]);omega
   rw[<-hq];refine cQ (σ:=Nat) (fun k=>[(0,.d (pC c)),(3,.sl 0 0 1 0 (ai c+c.gates.length)),(6,.d (dI ((c.gates.length:Int)-1-(k:Int))))])
    (fun k=>[.row 0 1 true ((kA c k).map D.bool)]) (fun k=>k<=c.gates.length) (fun k=>c.gates.length-k) [] 1000 1000 ?_ ?_ ?_
   ·simp only[go_sem,seval]
   ·simp only[go_sem,seval];exact⟨0,by omega,by simp,rfl⟩
   ·intro k hk;have hul:=Bx (c:=c) k;have hfg:=bi c (by omega);by_cases hlt:k<c.gates.length
    ·have hg:=hv.g (c.gates.length-1-k) (by omega);unfold bm at hg;have hki:((c.gates.length:Int)-1-(k:Int)).toNat=c.gates.length-1-k:=by omega
     have hs2:kA c (k+1)=xe c (kA c k) (c.gates.length-1-k):=rfl;have hfi:(c.first+((c.gates.length:Int)-1-(k:Int))).toNat=ai c+(c.gates.length-1-k):=by omega
     simp only[go_sem,seval,hki]
     repeat' first|simp (disch:=omega) only[];try simp only[go_sem,seval,hki,hfi]|(with_reducible first|apply aa|intro)|(refine az hfg ?_;simp only[go_sem,seval,hki,hfi])|(try rw[ae]);omega
     ·rename_i h1;exact⟨k+1,by omega,by omega,by omega,by rw[hs2,xe,if_pos h1]⟩
     ·rename_i h1;exact⟨k+1,by omega,by omega,by omega,by rw[hs2,xe,if_neg (by rw[h1];decide)]⟩
    ·obtain rfl:k=c.gates.length:=by omega
     simp only[go_sem,seval]
     repeat' first|simp (disch:=omega) only[];try simp only[go_sem,seval]|(with_reducible first|apply aa|intro)|(try rw[ae]);omega
def JN {l:ZA}{u:ZB}{j:Nat}(hj:j<u.length) : ∀ k,(pu l u k).getD j false=true↔u.getD j false=true∨∃ i,i<k/\((l.getD i 0)/2).toNat=j
 | 0=>by simp[pu]
 | k+1=>by
  have hl:j<(pu l u k).length:=by rw[C6];exact hj
  rw[pu];by_cases e:((l.getD k 0)/2).toNat=j
  ·rw[e,eO hl];exact⟨fun _=>.inr ⟨k,by omega,e⟩,fun _=>rfl⟩
  ·rw[po e,JN hj k];constructor
   ·rintro(h|⟨i,h1,h2⟩)
    ·exact .inl h
    ·exact .inr ⟨i,by omega,h2⟩
   ·rintro(h|⟨i,h1,h2⟩)
    ·exact .inl h
    ·refine .inr ⟨i,?_,h2⟩;by_cases hik:i=k
     ·subst hik;exact absurd h2 e
     ·omega
def Tryz.pr (c:ac) (hv:c.Valid):Pure prog 161 [pC c] (aj ((List.range (ai c)).map fun(v:Nat)=>2*(v:Int))):=by
 refine bz func161 rfl ntmps161 fun ok=>?_
 simp only[go_sem,seval] at ok;have hfb:=hv.al;have hi0:=hv.i0;have hi1:=hv.i1;have hcf:=kw hv;have hfg:=bi c (by omega);simp only[go_sem,seval]
 repeat' first|simp (disch:=omega) only[];try simp only[go_sem,seval]|(with_reducible first|apply aa|intro)|(refine az hfg ?_;simp only[go_sem,seval])|(try rw[ae]);omega
 refine cQ (σ:=Nat) (fun i=>[(0,.d (pC c)),(3,.sl 0 i 1 0 i),(6,.d (dI c.first)),(7,.d (dI i))])
  (fun i=>[.row i 1 true (((List.range i).map fun(v:Nat)=>2*(v:Int)).map (D.int .i64))]) (fun i=>i<=ai c) (fun i=>ai c-i) [(3,1,true)] 1000 1000 ?_ ?_ ?_
 ·simp only[go_sem,seval]
 ·simp only[go_sem,seval];exact⟨0,by omega,by simp⟩
 ·intro i hi;have hl:((List.range i).map fun(v:Nat)=>2*(v:Int)).length=i:=by simp
  have hst:((List.range (i+1)).map fun(v:Nat)=>2*(v:Int))=((List.range i).map fun(v:Nat)=>2*(v:Int)) ++ [2*(i:Int)]:=by rw[kO,gw];rfl
  by_cases hlt:i<ai c
  ·simp only[go_sem,seval]
   repeat' first|simp (disch:=omega) only[];try simp only[go_sem,seval]|(with_reducible first|apply aa|intro)|(try rw[ae]);omega
   ·simp
   ·exact⟨i+1,by omega,by omega,rfl,rfl,hst.symm⟩
  ·obtain rfl:i=ai c:=by omega
   simp only[go_sem,seval]
   repeat' first|simp (disch:=omega) only[];try simp only[go_sem,seval]|(with_reducible first|apply aa|intro)|(try rw[ae]);omega
   simp

def Tryz.j6 (m:ZA) (l:Int) (h:0<=l/\l<2*m.length) (hm : ∀ x∈m,0<=x):Pure prog 204 [dI l,.ptr [aj m]] (dI (lmap m l)):=by
 have hx:0<=m.getD (l/2).toNat 0:=hm _ (aO (by omega));refine bz func204 rfl ntmps204 fun ok=>?_
 simp only[go_sem,seval] at ok⊢
 repeat' first|simp (disch:=omega) only[];try simp only[go_sem,seval]|(with_reducible first|apply aa|intro)|(try rw[ae]);omega
 have k:=zm h.1;rcases Int.emod_two_eq l with e|e
 ·rw[e] at k;have k2:l.toNat &&& 1=0:=by omega
  rw[k2,Nat.xor_zero,lmap,if_neg (by omega)];omega
 ·rw[e] at k;have k2:l.toNat &&& 1=1:=by omega
  rw[k2,lmap,if_pos e];exact rk hx
def Tryz.pN (m:ZA) (l:Int) (h:0<=l/\l<2*m.length) (hm : ∀ x∈m,0<=x/\x<=1000000):Pure prog 205 [dI l,.ptr [aj m]] (dI (2*m.getD (l/2).toNat 0+l%2)):=by
 have hx:=hm _ (aO (l:=m) (i:=(l/2).toNat) (z:=0) (by omega));refine bz func205 rfl ntmps205 fun ok=>?_
 simp only[go_sem,seval] at ok⊢
 repeat' first|simp (disch:=omega) only[];try simp only[go_sem,seval]|(with_reducible first|apply aa|intro)|(try rw[ae]);omega
 ·rw[zm h.1,ae];omega
 ·rw[zm h.1]
def Tryz.nI (g:Nat) (b:du) (hb:b.Ok) (c:ac) (m:ZA) (hl:c.next.length<=1000/\c.outs.length<=1000) (hm : ∀ x∈m,0<=x) (hn : ∀ l∈c.next,0<=l/\l<2*m.length) (ho : ∀ l∈c.outs,0<=l/\l<2*m.length) :
  pM prog 163 [.ptr 0 0,.d (pC c),.sl 4 g 1 0 m.length] (bH b ++ [.row g 1 true (m.map (D.int .i64))]) (.agg [.d (dI c.inputs),.d (aj (c.next.map (lmap m))),.sl 1 b.gates.length 2 0 b.gates.length,.d (aj (c.outs.map (lmap m)))]) (bH b ++ [.row g 1 true (m.map (D.int .i64))]):=by
 refine Gx (E:=env 5) tok rfl 1000 func163 rfl rfl ntmps163 (by simp) ?_;have hr:=j7 ⟨c.inputs,c.next,[],c.outs⟩ 204 [.ptr [aj m]] (lmap m) rfl ⟨by simp;omega,by simp,by simp;omega⟩
  (fun l hl=>j6 m l (hn l hl) hm) (fun l hl=>j6 m l (ho l hl) hm) (fun p hp=>by cases hp)
 have hr2:=hr.args (ds':=[.ptr [dI c.inputs,aj c.next,.nil,aj c.outs],.fn 204 [.ptr [aj m]]])
  ⟨.ptr rfl (zj (l:=[dI c.inputs,aj c.next,.nil,aj c.outs]) (l':=[dI c.inputs,aj c.next,aY [],aj c.outs]) ⟨.refl _,.refl _,.nil (by omega),.refl _,trivial⟩).2,.refl _,trivial⟩
 simp only[bH];simp only[go_sem,seval]
 repeat' first|simp (disch:=omega) only[];try simp only[go_sem,seval]|(with_reducible first|apply aa|intro)|(try rw[ae]);omega
 refine co (n:=5) [17] (ax [0,1,2,4,5,6,8,9,10,14,3,7,11,12] (.two 13 (.two 15 (.one 16 (.one 17 .done)) 16 (.one 15 (.one 17 .done))) 16 (.one 13 (.one 15 (.one 17 .done))))) ?_;simp only[go_sem,seval]
 repeat' first|simp (disch:=omega) only[];try simp only[go_sem,seval]|(with_reducible first|apply aa|intro)|(refine az hr2 ?_;simp only[go_sem,seval])|(try rw[ae]);omega
 all_goals rfl

def eH (c:ac):Nat->ZA×Int
 | 0=>(List.replicate (ai c+c.gates.length) 0,c.first)
 | i+1=>if(i:Int)<c.first then((eH c i).1.set i (i:Int),(eH c i).2) else if(kA c c.gates.length).getD i false=true then((eH c i).1.set i (eH c i).2,(eH c i).2+1) else eH c i
def ym {c:ac} : ∀ i,(eH c i).1.length=ai c+c.gates.length
 | 0=>by simp[eH]
 | i+1=>by
  rw[eH];split
  ·rw[gh];exact ym i
  ·split
   ·rw[gh];exact ym i
   ·exact ym i
def F8 {c:ac}(hf:0<=c.first) : ∀ i,c.first<=(eH c i).2/\(eH c i).2<=c.first+(i:Int)
 | 0=>by simp[eH]
 | i+1=>by
  have:=F8 hf i;rw[eH];split
  ·show c.first<=(eH c i).2/\(eH c i).2<=_;omega
  ·split
   ·show c.first<=(eH c i).2+1/\(eH c i).2+1<=_;omega
   ·omega
def Nl {c:ac}(hf:0<=c.first) : ∀ i,∀ x∈(eH c i).1,0<=x/\x<=c.first+(i:Int)
 | 0,x,hx=>by
  simp only[eH,List.mem_replicate] at hx;omega
 | i+1,x,hx=>by
  have ih:=Nl hf i;have hb:=F8 hf i;rw[eH] at hx;split at hx
  ·rcases wd hx with h|h
   ·have:=ih x h;omega
   ·omega
  ·split at hx
   ·rcases wd hx with h|h
    ·have:=ih x h;omega
    ·omega
   ·have:=ih x hx;omega
def tx (c:ac):ZA:=(eH c (ai c+c.gates.length)).1
def iV (c:ac) (l:Int):Int:=2*(tx c).getD (l/2).toNat 0+l%2
def k6 (c:ac):Nat->List (Int×Int)
 | 0=>[]
 | i+1=>if(kA c c.gates.length).getD (ai c+i) false=true then k6 c i ++ [(iV c (c.gates.getD i (0,0)).1,iV c (c.gates.getD i (0,0)).2)] else k6 c i
def LL (c:ac) : ∀ i,(k6 c i).length<=i
 | 0=>by simp[k6]
 | i+1=>by
  have:=LL c i;rw[k6];split
  ·rw[b8];show _+1<=_;omega
  ·omega
def zJ (c:ac):ac:=⟨c.inputs,c.next.map (iV c),k6 c c.gates.length,c.outs.map (iV c)⟩
set_option maxHeartbeats 4000000 in
def Tryz.rb (c:ac) (hv:c.Valid):Pure prog 164 [pC c] (dC (zJ c)):=by
 refine bz func164 rfl ntmps164 fun ok=>?_
 simp only[go_sem,seval] at ok;have hfb:=hv.al;have hvb:=hv.aN;have hln:=hv.ln;have hlg:=hv.lg;have hlo:=hv.lo;have hi0:=hv.i0;have hi1:=hv.i1;have hcf:=kw hv;have hva:c.vars=c.first+c.gates.length:=rfl
 have hvn:c.vars.toNat=ai c+c.gates.length:=by omega
 have hfg:=bi c (by omega);have hre:=lh c hv;simp only[go_sem,seval]
 repeat' first|assumption|simp (disch:=omega) only[ag];try simp only[go_sem,seval]|(with_reducible first|apply aa|intro)|(refine az (iP c (by omega)) ?_;simp only[go_sem,seval])|(refine az hre ?_;simp only[go_sem,seval])|(refine az hfg ?_;simp only[go_sem,seval])|(try rw[ae]);omega
 rw[hvn];have hrl:=Bx (c:=c) c.gates.length;refine cQ (σ:=Nat) (fun i=>[(0,.d (pC c)),(2,.ptr 0 0),(3,.d (cf (kA c c.gates.length))),(4,.ptr 2 0),(5,.d (dI (eH c i).2)),(19,.d (dI ((ai c+c.gates.length:Nat):Int))),(20,.d (dI i))])
  (fun i=>[.box [.d (dI 0),.d .nil,.d .nil,.d .nil],.row 0 1 true ((eH c i).1.map (D.int .i64)),.box [.sl 1 0 1 0 (ai c+c.gates.length)]])
  (fun i=>i<=ai c+c.gates.length) (fun i=>ai c+c.gates.length-i) [] 1000 1000 ?_ ?_ ?_
 ·simp only[go_sem,seval]
 ·simp only[go_sem,seval];exact⟨0,by omega,⟨rfl,rfl⟩,rfl⟩
 ·intro i hi;have hpl:=ym (c:=c) i;have hpb:=F8 (c:=c) (by omega) i;by_cases hlt:i<ai c+c.gates.length
  ·have hst:eH c (i+1)=if(i:Int)<c.first then((eH c i).1.set i (i:Int),(eH c i).2) else if(kA c c.gates.length).getD i false=true then((eH c i).1.set i (eH c i).2,(eH c i).2+1) else eH c i:=rfl
   simp only[go_sem,seval]
   repeat' first|assumption|simp (disch:=omega) only[ag];try simp only[go_sem,seval]|(with_reducible first|apply aa|intro)|(refine az hfg ?_;simp only[go_sem,seval])|(try rw[ae]);omega
   ·rename_i h1;refine⟨i+1,by omega,by omega,⟨?_,rfl⟩,?_⟩ <;> rw[hst,if_pos h1]
   ·rename_i h1 h2;refine⟨i+1,by omega,by omega,⟨?_,rfl⟩,?_⟩ <;> rw[hst,if_neg h1,if_pos h2]
   ·rename_i h1 h2;refine⟨i+1,by omega,by omega,⟨?_,rfl⟩,?_⟩ <;> rw[hst,if_neg h1,if_neg (by rw[h2];decide)]
  ·obtain rfl:i=ai c+c.gates.length:=by omega
   simp only[go_sem,seval]
   repeat' first|assumption|simp (disch:=omega) only[ag];try simp only[go_sem,seval]|(with_reducible first|apply aa|intro)|(try rw[ae]);omega
   have hmem:=Nl (c:=c) (by omega) (ai c+c.gates.length);have hP:(eH c (ai c+c.gates.length)).1=tx c:=rfl;rw[hP] at *
   have hpc:(tx c).length=ai c+c.gates.length:=ym _;have hlt9 : ∀ l,0<=l/\l<2*c.vars->Pure prog 205 [dI l,.ptr [aj (tx c)]] (dI (iV c l)):=fun l hl=>
    pN (tx c) l (by rw[hpc];omega) (fun x hx=>by have:=hmem x hx;omega)
   have hrep:=j7 c 205 [.ptr [aj (tx c)]] (iV c) rfl ⟨by omega,by omega,by omega⟩ (fun l hl=>hlt9 l (hv.n l hl)) (fun l hl=>hlt9 l (hv.o l hl))
    (fun p hp=>by
     obtain⟨j,hj,rfl⟩:=gm (0,0) hp;have hg:=hv.g j hj;unfold bm at hg;exact⟨hlt9 _ (by omega),hlt9 _ (by omega)⟩)
   try rw[ag (by omega)]
   refine me hrep ?_;simp only[go_sem,seval]
   repeat' first|assumption|simp (disch:=omega) only[ag];try simp only[go_sem,seval]|(with_reducible first|apply aa|intro)|(try rw[ae]);omega
   have hG:(jX (iV c) c).gates=c.gates.map (fun p=>(iV c p.1,iV c p.2)):=rfl;have hgl:(jX (iV c) c).gates.length=c.gates.length:=by rw[hG,gQ]
   have hgg : ∀ j,j<c.gates.length->(jX (iV c) c).gates.getD j (0,0)=(iV c (c.gates.getD j (0,0)).1,iV c (c.gates.getD j (0,0)).2):=fun j hj=>by
    rw[hG];simp[List.getD,hj]
   have hI:(jX (iV c) c).inputs=c.inputs:=rfl;have hN:(jX (iV c) c).next=c.next.map (iV c):=rfl;have hO:(jX (iV c) c).outs=c.outs.map (iV c):=rfl;rw[hI];generalize (jX (iV c) c).gates=G at *
   generalize (jX (iV c) c).next=N at *
   generalize (jX (iV c) c).outs=O at *
   refine zO (σ:=Nat) (fun i=>[(0,.d (pC c)),(2,.ptr 0 0),(3,.d (cf (kA c c.gates.length))),(7,.ptr 6 0),(50,.sl 4 0 2 0 G.length),(51,.d (dI G.length)),(52,.d (dI i))])
    (fun i=>[.box [.d (dI 0),.d .nil,.d .nil,.d .nil],.row 0 1 true ((tx c).map (D.int .i64)),.box [.sl 1 0 1 0 (ai c+c.gates.length)],
     .row 0 1 true (N.map (D.int .i64)),.row 0 2 true (G.map dP),.row 0 1 true (O.map (D.int .i64)),
     .box [.d (dI c.inputs),.sl 3 0 1 0 N.length,.sl 7 (k6 c i).length 2 0 (k6 c i).length,.sl 5 0 1 0 O.length],.row (k6 c i).length 2 true ((k6 c i).map dP)])
    (fun i=>i<=G.length) (fun i=>G.length-i) [(6,2,2,true)] [] 1000 1000 ?_ ?_ ?_ ?_
   ·simp only[go_sem,seval]
   ·simp only[go_sem,seval]
   ·simp only[go_sem,seval];exact⟨0,by omega,rfl,by simp[jX,k6]⟩
   ·intro i hi;by_cases hlt:i<G.length
    ·have hpg:k6 c (i+1)=if(kA c c.gates.length).getD (ai c+i) false=true then k6 c i ++ [(iV c (c.gates.getD i (0,0)).1,iV c (c.gates.getD i (0,0)).2)] else k6 c i:=rfl;have hgi:=hgg i (by omega);have hfi:(c.first+(i:Int)).toNat=ai c+i:=by omega
     simp only[go_sem,seval];have hpl2:=LL c i
     repeat' first|assumption|simp (disch:=omega) only[ag];try simp only[go_sem,seval,hfi]|(with_reducible first|apply aa|intro)|(refine az hfg ?_;simp only[go_sem,seval,hfi])|(try rw[ae]);omega
     ·rename_i h1;rw[if_pos h1] at hpg;have el:(k6 c (i+1)).length=(k6 c i).length+1:=by rw[hpg];simp
      exact⟨i+1,by omega,by omega,rfl,by rw[el],el.symm,by rw[hpg,<-hgi]⟩
     ·rename_i h1;rw[if_neg (by rw[h1];decide)] at hpg;exact⟨i+1,by omega,by omega,rfl,by rw[hpg],by rw[hpg],by rw[hpg]⟩
    ·obtain rfl:i=G.length:=by omega
     simp only[go_sem,seval]
     repeat' first|assumption|simp (disch:=omega) only[ag];try simp only[go_sem,seval]|(with_reducible first|apply aa|intro)|(try rw[ae]);omega
     all_goals first
      | rfl
      | (rw[hgl];rfl)
      | (rw[show k6 c G.length=k6 c c.gates.length by rw[hgl]];rfl)
      | trace_state
end Go.Proofs
