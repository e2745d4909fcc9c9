/- Contracts, plain definitions and lemmas. Conditions: none; lemmas. -/
import Derived.Test.YteikeianenfhaaaGreatO1
import Derived.Test.YteikeianenfhaaaGreatC11
set_option maxRecDepth 20000
set_option linter.unusedSimpArgs false
set_option linter.unusedVariables false
set_option maxHeartbeats 2000000
namespace Go.Proofs
open Go Go.VL Tryz
theorem qaI {c:Circ}(hv:c.Valid):c.first=(cFst c:Int):=by have:=hv.i0;unfold Circ.first cFst;omega
theorem qhK {m r:List Int}{l:Int}(h0:0<=l) (h:l<2*(m.length:Int)):lmap (m++r) l=lmap m l:=by
 unfold lmap;rw[qae (by omega)]
theorem qlB {V:List Bool}{m:List Int}{l:Int}(hm:0<=m.getD (l/2).toNat 0):litV V (lmap m l)=(litV V (m.getD (l/2).toNat 0) != decide (l%2=1)):=by
 unfold lmap;split
 ·rename_i h;rw[qiC hm,decide_eq_true h];cases litV V (m.getD (l/2).toNat 0) <;> rfl
 ·rename_i h;rw[decide_eq_false h];cases litV V (m.getD (l/2).toNat 0) <;> rfl
theorem qe2 {c:Circ}{u:List Bool}{share:Bool}{i:Nat}{s:BdS}(h:u.getD i false=false):qhr c u share i s=⟨s.gates,s.m ++ [0]⟩:=by
 unfold qhr;rw[h];rfl
theorem qhs {c:Circ}{u:List Bool}{i:Nat}{s:BdS}(h:u.getD i false=true):qhr c u true i s=⟨(andG (cFst c) s.gates (lmap s.m ((c.gates.getD i (0,0)).1)) (lmap s.m ((c.gates.getD i (0,0)).2))).1,s.m ++ [(andG (cFst c) s.gates (lmap s.m ((c.gates.getD i (0,0)).1)) (lmap s.m ((c.gates.getD i (0,0)).2))).2]⟩:=by
 unfold qhr;rw[h];rfl
theorem qes {c:Circ}{u:List Bool}{i:Nat}{s:BdS}(h:u.getD i false=true):qhr c u false i s=⟨s.gates ++ [(lmap s.m ((c.gates.getD i (0,0)).1),lmap s.m ((c.gates.getD i (0,0)).2))],s.m ++ [2*((cFst c:Int)+(s.gates.length:Int))]⟩:=by
 unfold qhr;rw[h];rfl
def good (c:Circ) (u:List Bool) (v:Nat):Prop:=v<cFst c∨u.getD (v-cFst c) false=true
def Closed (c:Circ) (u:List Bool):Prop:=∀ i,i<c.gates.length->u.getD i false=true->good c u ((c.gates.getD i (0,0)).1/2).toNat/\good c u ((c.gates.getD i (0,0)).2/2).toNat
theorem qfV {c:Circ}(hv:c.Valid):Closed c (usdN c c.gates.length):=by
 intro i hi hu;have hU:=(qkB hv hi).1 hu;have hg:=hv.g i hi;have hf:=qaI hv;unfold qaK at hg;have key : ∀ l,(l=(c.gates.getD i (0,0)).1∨l=(c.gates.getD i (0,0)).2)->good c (usdN c c.gates.length) (l/2).toNat:=by
  intro l hl;have hb:0<=l/\l<2*(c.first+(i:Int)):=by rcases hl with rfl|rfl <;> omega
  by_cases h:(l/2).toNat<cFst c
  ·exact .inl h
  ·refine .inr ((qkB hv (by omega)).2 (.op hi hU hl ?_));omega
 exact⟨key _ (.inl rfl),key _ (.inr rfl)⟩
theorem qlC {c:Circ}(hv:c.Valid) {l:Int}(hl:l∈c.outs++c.next):(0<=l/\l<2*c.vars)/\good c (usdN c c.gates.length) (l/2).toNat:=by
 have hf:=qaI hv;have hb:qaK l c.vars:=by
  rcases List.mem_append.1 hl with h|h
  ·exact hv.o l h
  ·exact hv.n l h
 refine⟨hb,?_⟩;unfold qaK at hb;unfold Circ.vars at hb;by_cases h:(l/2).toNat<cFst c
 ·exact .inl h
 ·exact .inr ((qkB hv (by omega)).2 (.root hl (by omega)))
structure Bsem (c:Circ) (u:List Bool) (share:Bool) (v0:List Bool) (i:Nat) (s:BdS):Prop where
 pre : ∀ v,v<cFst c->s.m.getD v 0=2*(v:Int)
 gn:share=true->GN (cFst c) s.gates
 val : ∀ v,v<cFst c+i->good c u v->litV (runG v0 s.gates) (s.m.getD v 0)=(runG v0 (c.gates.take i)).getD v false
theorem qa7 {c:Circ}{i:Nat}(h:i<c.gates.length):c.gates.take (i+1)=c.gates.take i ++ [c.gates.getD i (0,0)]:=by
 rw[yal (by omega)];simp[List.getD,h]
theorem qiD {c:Circ}(hv:c.Valid) {u:List Bool}(hc:Closed c u) {share:Bool}{v0:List Bool}(hl:v0.length=cFst c) {i:Nat}(hi:i<c.gates.length) {s:BdS}(hs:Bsem c u share v0 i s) (hb:BdOk c i s) {t:List (Int×Int)}{x:Int}(hgn:share=true->GN (cFst c) (s.gates++t))
  (hx:u.getD i false=true->litV (runG v0 (s.gates++t)) x=(litV (runG v0 s.gates) (lmap s.m ((c.gates.getD i (0,0)).1))&&litV (runG v0 s.gates) (lmap s.m ((c.gates.getD i (0,0)).2)))):Bsem c u share v0 (i+1) ⟨s.gates++t,s.m ++ [x]⟩:=by
 have hml:=hb.ml;have hg:=hv.g i hi;have hf:=qaI hv;unfold qaK at hg;have hw:(runG v0 (c.gates.take i)).length=cFst c+i:=by rw[qer,hl];simp;omega
 refine⟨fun v h=>?_,hgn,fun v h hgd=>?_⟩
 ·simp only;rw[qae (by omega)];exact hs.pre v h
 ·rw[qa7 hi,qfk];simp only;by_cases e:v<cFst c+i
  ·rw[qae (by omega),qae (by omega)];have hm:=hb.mb _ (qac (l:=s.m) (i:=v) (z:=0) (by omega));rw[qkC hm.1 (by rw[hl];omega)];exact hs.val v e hgd
  ·obtain rfl:v=cFst c+i:=by omega
   have hu:u.getD i false=true:=by
    rcases hgd with h2|h2
    ·omega
    ·rw[Nat.add_sub_cancel_left] at h2;exact h2
   obtain⟨c1,c2⟩:=hc i hi hu;rw[show cFst c+i=s.m.length by omega,qbQ,hx hu,show s.m.length=(runG v0 (c.gates.take i)).length by omega,qbQ];have lit : ∀ l:Int,0<=l->l<2*(c.first+(i:Int))->good c u (l/2).toNat->litV (runG v0 s.gates) (lmap s.m l)=litV (runG v0 (c.gates.take i)) l:=by
    intro l l0 l1 lg;have hm:=hb.mb _ (qac (l:=s.m) (i:=(l/2).toNat) (z:=0) (by omega));rw[qlB hm.1,hs.val _ (by omega) lg];rfl
   rw[lit _ hg.1.1 hg.1.2 c1,lit _ hg.2.1 hg.2.2 c2]
theorem qkD {c:Circ}(hv:c.Valid) {u:List Bool}(hc:Closed c u) {share:Bool}{v0:List Bool}(hl:v0.length=cFst c) (h0:v0.getD 0 false=false) : ∀ i,i<=c.gates.length->Bsem c u share v0 i (bdSt c u share i)
 | 0,_=>by
  have hm : ∀ v,v<cFst c->(bdSt c u share 0).m.getD v 0=2*(v:Int):=fun v h=>by simp[bdSt,List.getD,h]
  refine⟨hm,fun _=>GN.nil,fun v h hgd=>?_⟩;rw[hm v (by omega)];show litV v0 _=v0.getD v false
  unfold litV;rw[show(2*(v:Int)/2).toNat=v by omega,decide_eq_false (by omega)];cases v0.getD v false <;> rfl
 | i+1,hi=>by
  have hs:=qkD hv hc (share:=share) hl h0 i (by omega);have hb:=qgV hv u share i (by omega);have hg:=hv.g i (by omega);have hf:=qaI hv;have hml:=hb.ml;unfold qaK at hg;rw[bdSt];generalize bdSt c u share i=s at *
  have hA:=qeq (m:=s.m) (l:=(c.gates.getD i (0,0)).1) hb.mb (by omega);have hB:=qeq (m:=s.m) (l:=(c.gates.getD i (0,0)).2) hb.mb (by omega);cases hu:u.getD i false with
  | false=>
   rw[qe2 hu];have:=qiD hv hc hl (by omega) hs hb (t:=[]) (x:=0) (fun h=>by rw[yaL];exact hs.gn h) (fun h=>by rw[hu] at h;cases h)
   rwa [yaL] at this
  | true=>
   cases share with
   | true=>
    rw[qhs hu];obtain⟨q1,q2,t,q3⟩:=qs4 (v:=v0) hl (by unfold cFst;omega) h0 (hs.gn rfl) hA hB;rw[q3] at q1 q2 ⊢;exact qiD hv hc hl (by omega) hs hb (fun _=>q1) (fun _=>q2)
   | false=>
    rw[qes hu];refine qiD hv hc hl (by omega) hs hb (fun h=>by cases h) (fun _=>?_);rw[qfk];have hrl:(runG v0 s.gates).length=cFst c+s.gates.length:=by rw[qer,hl]
    unfold litV;rw[show(2*((cFst c:Int)+(s.gates.length:Int))/2).toNat=(runG v0 s.gates).length by omega,qbQ,show decide (2*((cFst c:Int)+(s.gates.length:Int))%2=1)=false from decide_eq_false (by omega)];cases(_&&_) <;> rfl
section sem
variable {c:Circ}{st ins:List Bool}
theorem qlD (hv:c.Valid) (share:Bool) (h1:st.length=c.next.length) (h2:(ins.length:Int)=c.inputs) {l:Int}(hl:l∈c.outs++c.next):litV (values (built c share) st ins) (lmap (qkz c share).m l)=litV (values c st ins) l:=by
 have hv0:(false::(ins++st)).length=cFst c:=by unfold cFst;simp;omega
 have hs:=qkD hv (qfV hv) (share:=share) hv0 rfl c.gates.length (yad _);have hb:=qgV hv (usdN c c.gates.length) share c.gates.length (yad _);obtain⟨r1,r2⟩:=qlC hv hl;have hf:=qaI hv;unfold Circ.vars at r1;have hml:=hb.ml;have hm:=hb.mb _ (qac (l:=(bdSt c (usdN c c.gates.length) share c.gates.length).m) (i:=(l/2).toNat) (z:=0) (by omega));rw[qjJ,qjJ];show litV (runG (false::(ins++st)) (bdSt c (usdN c c.gates.length) share c.gates.length).gates) (lmap (bdSt c (usdN c c.gates.length) share c.gates.length).m l)=_
 rw[qlB hm.1,hs.val _ (by omega) r2,yav];rfl
theorem qoR (hv:c.Valid) (share:Bool) (h1:st.length=c.next.length) (h2:(ins.length:Int)=c.inputs):qbs (values (built c share) st ins) (built c share).outs=qbs (values c st ins) c.outs:=by
 show((c.outs.map (lmap (qkz c share).m)).map _)=c.outs.map _
 rw[List.map_map];exact ybd fun l hl=>qlD hv share h1 h2 (yaC _ hl)
theorem qmW (hv:c.Valid) (share:Bool) (h1:st.length=c.next.length) (h2:(ins.length:Int)=c.inputs):qbs (values (built c share) st ins) (built c share).next=qbs (values c st ins) c.next:=by
 show((c.next.map (lmap (qkz c share).m)).map _)=c.next.map _
 rw[List.map_map];exact ybd fun l hl=>qlD hv share h1 h2 (List.mem_append_right _ hl)
end sem
theorem qht (c:Circ) (rows:List (List Bool)) (i:Nat):(qbj c rows i).length=c.next.length:=by cases i <;> simp[qbj,qbs]
theorem qiE {c:Circ}(hv:c.Valid) (share:Bool) {rows:List (List Bool)}(h : ∀ r∈rows,(r.length:Int)=c.inputs) : ∀ i,i<=rows.length->qbj (built c share) rows i=qbj c rows i
 | 0,_=>by
  show List.replicate (built c share).next.length false=List.replicate c.next.length false
  simp[built]
 | i+1,hi=>by
  show qbs (values (built c share) (qbj (built c share) rows i) (rows.getD i [])) (built c share).next=qbs (values c (qbj c rows i) (rows.getD i [])) c.next
  rw[qiE hv share h i (by omega)];exact qmW hv share (qht c rows i) (h _ (qac (by omega)))
theorem qlE {c:Circ}(hv:c.Valid) (share:Bool) {rows:List (List Bool)}(h : ∀ r∈rows,(r.length:Int)=c.inputs) {i:Nat}(hi:i<rows.length):qbs (qda (built c share) rows i) (built c share).outs=qbs (qda c rows i) c.outs:=by
 show qbs (values (built c share) (qbj (built c share) rows i) (rows.getD i [])) (built c share).outs=qbs (values c (qbj c rows i) (rows.getD i [])) c.outs
 rw[qiE hv share h i (by omega)];exact qoR hv share (qht c rows i) (h _ (qac hi))
theorem qs5 {c:Circ}(hv:c.Valid):GN (cFst c) (built c true).gates:=by
 have h0:(List.replicate (cFst c) false).getD 0 false=false:=by
  rw[List.getD_eq_getElem?_getD,List.getElem?_replicate];split <;> rfl
 exact(qkD hv (qfV hv) (share:=true) (v0:=List.replicate (cFst c) false) (by simp) h0 c.gates.length (yad _)).gn rfl
theorem qmX {c:Circ}(hv:c.Valid) (share:Bool) (hg:GN (cFst c) (built c share).gates):(built c share).Valid:=by
 have hb:=qgV hv (usdN c c.gates.length) share c.gates.length (yad _);have hf:=qaI hv;have hl:=hb.gl;have hml:=hb.ml;have hlg:=hv.lg;have hbf:(built c share).first=(cFst c:Int):=by
  rw[<-hf];unfold Circ.first built;simp
 have hbv:(built c share).vars=(cFst c:Int)+((built c share).gates.length:Int):=by unfold Circ.vars;rw[hbf]
 have lit : ∀ l,qaK l c.vars->qaK (lmap (qkz c share).m l) (built c share).vars:=by
  intro l h;unfold qaK at h ⊢;unfold Circ.vars at h;rw[hbv];exact qeq hb.mb (by omega)
 refine⟨hv.i0,hv.i1,by simpa [built] using hv.ln,?_,by simpa [built] using hv.lo,fun i hi=>?_,fun x hx=>?_,fun x hx=>?_⟩
 ·show(bdSt c (usdN c c.gates.length) share c.gates.length).gates.length<=14
  omega
 ·have:=hg.nf i hi;rw[hbf];unfold qaK;omega
 ·obtain⟨l,h,rfl⟩:=List.mem_map.1 hx;exact lit l (hv.n l h)
 ·obtain⟨l,h,rfl⟩:=List.mem_map.1 hx;exact lit l (hv.o l h)
theorem qfW {c:Circ}(hv:c.Valid):(built c true).Valid:=qmX hv true (qs5 hv)
structure Bpr (c:Circ) (u:List Bool) (i:Nat) (s:BdS):Prop where
 pre : ∀ v,v<cFst c->s.m.getD v 0=2*(v:Int)
 up : ∀ j,j<i->u.getD j false=true->∃ k,k<s.gates.length/\s.m.getD (cFst c+j) 0=2*((cFst c:Int)+(k:Int))/\s.gates.getD k (0,0)=(lmap s.m ((c.gates.getD j (0,0)).1),lmap s.m ((c.gates.getD j (0,0)).2))
 dn : ∀ k,k<s.gates.length->∃ j,j<i/\u.getD j false=true/\s.m.getD (cFst c+j) 0=2*((cFst c:Int)+(k:Int))
 mono : ∀ a b,a<b->b<cFst c+i->good c u a->good c u b->s.m.getD a 0<s.m.getD b 0
theorem qqt {c:Circ}(hv:c.Valid) {u:List Bool} : ∀ i,i<=c.gates.length->Bpr c u i (bdSt c u false i)
 | 0,_=>by
  have hm : ∀ v,v<cFst c->(bdSt c u false 0).m.getD v 0=2*(v:Int):=fun v h=>by simp[bdSt,List.getD,h]
  refine⟨hm,fun j h=>by omega,fun k h=>by simp[bdSt] at h,fun a b h1 h2 _ _=>?_⟩;rw[hm a (by omega),hm b (by omega)];omega
 | i+1,hi=>by
  have hs:=qqt hv (u:=u) i (by omega);have hb:=qgV hv u false i (by omega);have hg:=fun j (h:j<c.gates.length)=>hv.g j h
  have hf:=qaI hv;have hml:=hb.ml;unfold qaK at hg;rw[bdSt];generalize bdSt c u false i=s at *
  have hlm : ∀ j,j<i->∀ x,lmap (s.m ++ [x]) ((c.gates.getD j (0,0)).1)=lmap s.m ((c.gates.getD j (0,0)).1)/\lmap (s.m ++ [x]) ((c.gates.getD j (0,0)).2)=lmap s.m ((c.gates.getD j (0,0)).2):=fun j hj x=>by
   have:=hg j (by omega);exact⟨qhK (by omega) (by omega),qhK (by omega) (by omega)⟩
  cases hu:u.getD i false with
  | false=>
   rw[qe2 hu];refine⟨fun v h=>?_,fun j hj h=>?_,fun k h=>?_,fun a b h1 h2 g1 g2=>?_⟩
   ·simp only;rw[qae (by omega)];exact hs.pre v h
   ·have hji:j<i:=by
     by_cases e:j=i
     ·subst e;rw[hu] at h;cases h
     ·omega
    obtain⟨k,k1,k2,k3⟩:=hs.up j hji h;refine⟨k,k1,?_,?_⟩
    ·simp only;rw[qae (by omega)];exact k2
    ·simp only;rw[(hlm j hji 0).1,(hlm j hji 0).2];exact k3
   ·obtain⟨j,j1,j2,j3⟩:=hs.dn k h;refine⟨j,by omega,j2,?_⟩;simp only;rw[qae (by omega)];exact j3
   ·have hbi:b≠cFst c+i:=by
     rintro rfl;rcases g2 with h|h
     ·omega
     ·rw[Nat.add_sub_cancel_left,hu] at h;cases h
    simp only;rw[qae (by omega),qae (by omega)];exact hs.mono a b h1 (by omega) g1 g2
  | true=>
   rw[qes hu];refine⟨fun v h=>?_,fun j hj h=>?_,fun k h=>?_,fun a b h1 h2 g1 g2=>?_⟩
   ·simp only;rw[qae (by omega)];exact hs.pre v h
   ·by_cases e:j=i
    ·subst e;refine⟨s.gates.length,by simp,?_,?_⟩
     ·simp only;rw[show cFst c+j=s.m.length by omega,qbQ]
     ·simp only;have:=hg j (by omega);rw[qbQ,qhK (by omega) (by omega),qhK (by omega) (by omega)]
    ·have hji:j<i:=by omega
     obtain⟨k,k1,k2,k3⟩:=hs.up j hji h;refine⟨k,by simp;omega,?_,?_⟩
     ·simp only;rw[qae (by omega)];exact k2
     ·simp only;rw[(hlm j hji _).1,(hlm j hji _).2,qae k1];exact k3
   ·simp only[yae,yaK] at h;by_cases e:k=s.gates.length
    ·subst e;refine⟨i,by omega,hu,?_⟩;simp only;rw[show cFst c+i=s.m.length by omega,qbQ]
    ·obtain⟨j,j1,j2,j3⟩:=hs.dn k (by omega);refine⟨j,by omega,j2,?_⟩;simp only;rw[qae (by omega)];exact j3
   ·simp only;by_cases e:b=cFst c+i
    ·subst e;rw[qae (by omega),show cFst c+i=s.m.length by omega,qbQ];have hm:=hb.mb _ (qac (l:=s.m) (i:=a) (z:=0) (by omega));omega
    ·rw[qae (by omega),qae (by omega)];exact hs.mono a b h1 (by omega) g1 g2
section prune
variable {c:Circ}
theorem qoS {m:List Int}{l:Int}(h:m.getD (l/2).toNat 0%2=0):lmap m l=m.getD (l/2).toNat 0+l%2:=by
 unfold lmap;split
 ·rw[flip,if_pos h];omega
 ·omega
end prune
theorem qs6 {c:Circ}(hv:c.Valid) {rows:List (List Bool)}(h : ∀ r∈rows,(r.length:Int)=c.inputs) {i:Nat}(hi:i<rows.length):qbs (qda (optC c) rows i) (optC c).outs=qbs (qda c rows i) c.outs:=by
 show qbs (qda (built (built c true) false) rows i) (built (built c true) false).outs=_
 rw[qlE (qfW hv) false h hi,qlE hv true h hi]

def qiF (c:Circ) (u:List Bool) (i:Nat):List Bool:=
 if u.getD (cFst c+i) false=true then(u.set ((c.gates.getD i (0,0)).1/2).toNat true).set ((c.gates.getD i (0,0)).2/2).toNat true else u
def rcM (l:List Int) (u:List Bool):Nat->List Bool
 | 0=>u
 | k+1=>(rcM l u k).set ((l.getD k 0)/2).toNat true
def rcN (c:Circ):Nat->List Bool
 | 0=>rcM c.roots (List.replicate (cFst c+c.gates.length) false) c.roots.length
 | k+1=>qiF c (rcN c k) (c.gates.length-1-k)
theorem qkE {l:List Int}{u:List Bool} : ∀ k,(rcM l u k).length=u.length
 | 0=>rfl
 | k+1=>by rw[rcM,yax,qkE k]
theorem qoT {c:Circ}{u:List Bool}{i:Nat}:(qiF c u i).length=u.length:=by unfold qiF;split <;> simp
theorem qiG {c:Circ} : ∀ k,(rcN c k).length=cFst c+c.gates.length
 | 0=>by rw[rcN,qkE,yaH]
 | k+1=>by rw[rcN,qoT,qiG k]
set_option maxHeartbeats 4000000 in
theorem Tryz.c_reached (c:Circ) (hv:c.Valid):Pure prog 160 [pC c] (dBs (rcN c c.gates.length)):=by
 refine qav func160 rfl ntmps160 fun ok=>?_
 simp only[go_sem,seval] at ok;have hfb:=hv.first_bd;have hvb:=hv.vars_bd;have hln:=hv.ln;have hlg:=hv.lg;have hlo:=hv.lo;have hi0:=hv.i0;have hi1:=hv.i1;have hcf:=qaI hv;have hva:c.vars=c.first+c.gates.length:=rfl
 have hvn:c.vars.toNat=cFst c+c.gates.length:=by omega
 simp only[go_sem,seval]
 repeat' first|assumption|(simp (disch:=first|assumption|omega|(simp;done)|(simp;omega)) only[];try simp only[go_sem,seval])|(with_reducible first|apply And.intro|intro _)|(refine qab (c_vars c (by omega)) ?_;simp only[go_sem,seval])|(refine qab (c_roots c (by omega)) ?_;simp only[go_sem,seval])|((try rw[qaa]);omega)
 rw[hvn];have hrl : ∀ i,i<c.roots.length->qaK (c.roots.getD i 0) c.vars:=fun i hi=>by
  have:=qac (l:=c.roots) (i:=i) (z:=0) hi;unfold Circ.roots at this;rcases List.mem_append.1 this with h|h
  ·first|exact hv.o _ h|exact hv.n _ h
  ·first|exact hv.n _ h|exact hv.o _ h
 have hll:c.roots.length<=100:=by unfold Circ.roots;simp;omega
 have hq:rcN c 0=rcM c.roots (List.replicate (cFst c+c.gates.length) false) c.roots.length:=rfl;generalize c.roots=rs at *
 refine qay (E:=env 0) tok (σ:=Nat) (fun i=>[(0,.d (pC c)),(3,.sl 0 0 1 0 (cFst c+c.gates.length)),(11,.d (dIs rs)),(12,.d (dI rs.length)),(13,.d (dI i))])
  (fun i=>[.row 0 1 true ((rcM rs (List.replicate (cFst c+c.gates.length) false) i).map D.bool)]) (fun i=>i<=rs.length) (fun i=>rs.length-i) [] 1000 1000 ?_ ?_ ?_
 ·simp only[go_sem,seval]
 ·simp only[go_sem,seval];exact⟨0,by omega,rfl,rfl⟩
 ·intro i hi;have hml:(rcM rs (List.replicate (cFst c+c.gates.length) false) i).length=cFst c+c.gates.length:=by rw[qkE];simp
  have hs:rcM rs (List.replicate (cFst c+c.gates.length) false) (i+1)=(rcM rs (List.replicate (cFst c+c.gates.length) false) i).set ((rs.getD i 0)/2).toNat true:=rfl;have hr:=hrl i;unfold qaK at hr;by_cases hlt:i<rs.length
  ·have hr:=hr hlt;simp only[go_sem,seval]
   repeat' first|assumption|(simp (disch:=first|assumption|omega|(simp;done)|(simp;omega)) only[];try simp only[go_sem,seval])|(with_reducible first|apply And.intro|intro _)|((try rw[qaa]);omega)
   exact⟨i+1,by omega,by omega,rfl,hs.symm⟩
  ·obtain rfl:i=rs.length:=by omega
   simp only[go_sem,seval]
   repeat' first|assumption|(simp (disch:=first|assumption|omega|(simp;done)|(simp;omega)) only[];try simp only[go_sem,seval])|(with_reducible first|apply And.intro|intro _)|((try rw[qaa]);omega)
   rw[<-hq];refine qay (E:=env 0) tok (σ:=Nat) (fun k=>[(0,.d (pC c)),(3,.sl 0 0 1 0 (cFst c+c.gates.length)),(6,.d (dI ((c.gates.length:Int)-1-(k:Int))))])
    (fun k=>[.row 0 1 true ((rcN c k).map D.bool)]) (fun k=>k<=c.gates.length) (fun k=>c.gates.length-k) [] 1000 1000 ?_ ?_ ?_
   ·simp only[go_sem,seval]
   ·simp only[go_sem,seval];exact⟨0,by omega,by simp,rfl⟩
   ·intro k hk;have hul:=qiG (c:=c) k;have hfg:=c_firstGate c (by omega);by_cases hlt:k<c.gates.length
    ·have hg:=hv.g (c.gates.length-1-k) (by omega);unfold qaK at hg;have hki:((c.gates.length:Int)-1-(k:Int)).toNat=c.gates.length-1-k:=by omega
     have hs2:rcN c (k+1)=qiF c (rcN c k) (c.gates.length-1-k):=rfl;have hfi:(c.first+((c.gates.length:Int)-1-(k:Int))).toNat=cFst c+(c.gates.length-1-k):=by omega
     simp only[go_sem,seval,hki]
     repeat' first|assumption|(simp (disch:=first|assumption|omega|(simp;done)|(simp;omega)) only[];try simp only[go_sem,seval,hki,hfi])|(with_reducible first|apply And.intro|intro _)|(refine qab hfg ?_;simp only[go_sem,seval,hki,hfi])|((try rw[qaa]);omega)
     ·rename_i h1;exact⟨k+1,by omega,by omega,by omega,by rw[hs2,qiF,if_pos h1]⟩
     ·rename_i h1;exact⟨k+1,by omega,by omega,by omega,by rw[hs2,qiF,if_neg (by rw[h1];decide)]⟩
    ·obtain rfl:k=c.gates.length:=by omega
     simp only[go_sem,seval]
     repeat' first|assumption|(simp (disch:=first|assumption|omega|(simp;done)|(simp;omega)) only[];try simp only[go_sem,seval])|(with_reducible first|apply And.intro|intro _)|((try rw[qaa]);omega)
theorem qqu {l:List Int}{u:List Bool}{j:Nat}(hj:j<u.length) : ∀ k,(rcM l u k).getD j false=true↔u.getD j false=true∨∃ i,i<k/\((l.getD i 0)/2).toNat=j
 | 0=>by simp[rcM]
 | k+1=>by
  have hl:j<(rcM l u k).length:=by rw[qkE];exact hj
  rw[rcM];by_cases e:((l.getD k 0)/2).toNat=j
  ·rw[e,qah hl];exact⟨fun _=>.inr ⟨k,by omega,e⟩,fun _=>rfl⟩
  ·rw[qaA e,qqu hj k];constructor
   ·rintro(h|⟨i,h1,h2⟩)
    ·exact .inl h
    ·exact .inr ⟨i,by omega,h2⟩
   ·rintro(h|⟨i,h1,h2⟩)
    ·exact .inl h
    ·refine .inr ⟨i,?_,h2⟩;by_cases hik:i=k
     ·subst hik;exact absurd h2 e
     ·omega
theorem Tryz.c_ownLits (c:Circ) (hv:c.Valid):Pure prog 161 [pC c] (dIs ((List.range (cFst c)).map fun(v:Nat)=>2*(v:Int))):=by
 refine qav func161 rfl ntmps161 fun ok=>?_
 simp only[go_sem,seval] at ok;have hfb:=hv.first_bd;have hi0:=hv.i0;have hi1:=hv.i1;have hcf:=qaI hv;have hfg:=c_firstGate c (by omega);simp only[go_sem,seval]
 repeat' first|assumption|(simp (disch:=first|assumption|omega|(simp;done)|(simp;omega)) only[];try simp only[go_sem,seval])|(with_reducible first|apply And.intro|intro _)|(refine qab hfg ?_;simp only[go_sem,seval])|((try rw[qaa]);omega)
 refine qay (E:=env 0) tok (σ:=Nat) (fun i=>[(0,.d (pC c)),(3,.sl 0 i 1 0 i),(6,.d (dI c.first)),(7,.d (dI i))])
  (fun i=>[.row i 1 true (((List.range i).map fun(v:Nat)=>2*(v:Int)).map (D.int .i64))]) (fun i=>i<=cFst c) (fun i=>cFst c-i) [(3,1,true)] 1000 1000 ?_ ?_ ?_
 ·simp only[go_sem,seval]
 ·simp only[go_sem,seval];exact⟨0,by omega,by simp⟩
 ·intro i hi;have hl:((List.range i).map fun(v:Nat)=>2*(v:Int)).length=i:=by simp
  have hst:((List.range (i+1)).map fun(v:Nat)=>2*(v:Int))=((List.range i).map fun(v:Nat)=>2*(v:Int)) ++ [2*(i:Int)]:=by rw[yaO,yaE];rfl
  by_cases hlt:i<cFst c
  ·simp only[go_sem,seval]
   repeat' first|assumption|(simp (disch:=first|assumption|omega|(simp;done)|(simp;omega)) only[];try simp only[go_sem,seval])|(with_reducible first|apply And.intro|intro _)|((try rw[qaa]);omega)
   ·simp
   ·exact⟨i+1,by omega,by omega,rfl,rfl,hst.symm⟩
  ·obtain rfl:i=cFst c:=by omega
   simp only[go_sem,seval]
   repeat' first|assumption|(simp (disch:=first|assumption|omega|(simp;done)|(simp;omega)) only[];try simp only[go_sem,seval])|(with_reducible first|apply And.intro|intro _)|((try rw[qaa]);omega)
   simp
end Go.Proofs
