/- Contracts, plain definitions and lemmas. Conditions: none; lemmas. -/
import Derived.Test.YteikeianenfhaaaGreatK8
import Derived.Test.YteikeianenfhaaaGreatC11
import Derived.Test.YteikeianenfhaaaGreatK3
import Derived.Test.YteikeianenfhaaaGreatC77
import Derived.Test.YteikeianenfhaaaGreatK4
import Derived.Test.YteikeianenfhaaaGreatK1
set_option maxRecDepth 20000
set_option linter.unusedSimpArgs false
set_option linter.unusedVariables false
set_option maxHeartbeats 2000000
namespace Go.Proofs
open Go Go.VL Tryz
def qdu (V:Wr->Bool) (t s:Int):Bool:=decide (s≠15)&&V (t,s)
def lutE (k:Kcfg) (V:Wr->Bool) (t:Int):Bool:=((k.tiles.getD t.toNat tc0).table.toNat).testBit (qbk (qdu V t) (k.tiles.getD t.toNat tc0).select)
def qtC (k:Kcfg) (regs ins:List Bool) (V:Wr->Bool) (w:Wr):Bool:=
 if drv k w=6 then ins.getD (w.1/5).toNat false
 else if drv k w=1 then(if(k.tiles.getD w.1.toNat tc0).reg then regs.getD w.1.toNat false else lutE k V w.1)
 else if 2<=drv k w/\drv k w<=5 then V (nb w.1 (drv k w),w.2) else false
def VOk (k:Kcfg) (regs ins:List Bool) (V:Wr->Bool):Prop:=∀ w,wOk w->V w=qtC k regs ins V w
def outE (k:Kcfg) (V:Wr->Bool):List Bool:=(List.range k.pads.length).map fun(o:Nat)=>qdu V ((o:Int)*5+4) (k.pads.getD o (0,false)).1 != (k.pads.getD o (0,false)).2
def qkS (k:Kcfg) (V:Wr->Bool):List Bool:=(List.range 25).map fun(t:Nat)=>(k.tiles.getD t tc0).reg&&lutE k V (t:Int)
theorem qme {f:Int->Bool}{g:Int->Int} : ∀ l:List Int,qbk f (l.map g)=qbk (fun z=>f (g z)) l
 | []=>rfl
 | z::l=>by rw[yaI,qbk,qbk,qme l]
theorem qj2 {f:Int->Bool} : ∀ {l:List Int},(∀ z∈l,f z=false)->qbk f l=0
 | [],_=>rfl
 | z::l,h=>by
  rw[qbk,h z (yaw ..),qj2 (fun y hy=>h y (yai _ hy))];rfl
theorem qmf {f:Int->Bool}{m:List Int}(h : ∀ z∈m,f z=false) : ∀ l:List Int,qbk f (l++m)=qbk f l
 | []=>qj2 h
 | z::l=>by rw[ybk,qbk,qbk,qmf h l]
theorem qi9 {f g:Int->Bool} : ∀ {l:List Int},(∀ z∈l,f z=g z)->qbk f l=qbk g l
 | [],_=>rfl
 | z::l,h=>by rw[qbk,qbk,h z (yaw ..),qi9 (fun y hy=>h y (yai _ hy))]
theorem qj3 {f:Nat->Bool}{n i:Nat}(h:i<n):((List.range n).map f).getD i false=f i:=by simp[List.getD,h]
section routed
variable {c:Circ}{place:List Int}{rs:List Rt}
def qhF (c:Circ) (rs:List Rt) (st ins:List Bool) (w:Wr):Bool:=match rs.find? (fun r=>decide (r.track=w.2/\w.1∈qak r.hops)) with
 | some r=>VL.valOf c st ins r.net
 | none=>false
theorem Routed.one (R:Routed c place rs) {a b:Rt}(ha:a∈rs) (hb:b∈rs) {t:Int}(e:a.track=b.track) (h1:t∈qak a.hops) (h2:t∈qak b.hops):a=b:=by
 obtain⟨i,hi,rfl⟩:=qaE rt0 ha;obtain⟨j,hj,rfl⟩:=qaE rt0 hb;have hp:=R.apart;rw[ybj] at hp;have ei:rs.getD i rt0=rs[i]:=by simp[List.getD,hi]
 have ej:rs.getD j rt0=rs[j]:=by simp[List.getD,hj]
 rw[ei] at e h1;rw[ej] at e h2;rcases Nat.lt_trichotomy i j with h|h|h
 ·exact absurd h2 (hp i j hi hj h e t h1)
 ·subst h;rfl
 ·exact absurd h1 (hp j i hj hi h e.symm t h2)
theorem Routed.V_in (R:Routed c place rs) {st ins:List Bool}{r:Rt}(hr:r∈rs) {t:Int}(ht:t∈qak r.hops):qhF c rs st ins (t,r.track)=VL.valOf c st ins r.net:=by
 unfold qhF;cases h:rs.find? (fun x=>decide (x.track=r.track/\t∈qak x.hops)) with
 | none=>rw[List.find?_eq_none] at h;exact absurd (h r hr) (by simp[ht])
 | some x=>
  have h2:=List.find?_some h;rw[decide_eq_true_iff] at h2;rw[R.one (List.mem_of_find?_eq_some h) hr h2.1 h2.2 ht]
theorem Routed.V_out {st ins:List Bool}{w:Wr}(hn : ∀ r∈rs,r.track=w.2->w.1∉qak r.hops):qhF c rs st ins w=false:=by
 unfold qhF;rw[List.find?_eq_none.2 (fun r hr=>by simpa using hn r hr)]
theorem Routed.reads (R:Routed c place rs) {st ins:List Bool}{i:Nat}(hi:i<(qad c).length) :
  qbk (qdu (qhF c rs st ins) (place.getD i 0)) (selS [15,15,15] (((qad c).getD i ce0).inputs.map fun v=>(qaX c.vars.toNat rs).getD v.toNat 0))=qbk (VL.valOf c st ins) ((qad c).getD i ce0).inputs:=by
 unfold selS;rw[qmf (fun z hz=>by
  have:=yaM hz;obtain rfl:z=15:=by simpa using this
  rfl),qme]
 refine qi9 fun v hv=>?_
 obtain⟨r,hr,rfl,e2,e3⟩:=R.input hi hv;have hb:=(R.bd r hr).2.1;rw[e2,qdu,R.V_in hr e3,decide_eq_true (by omega),ybi]
theorem Routed.lut (R:Routed c place rs) {st ins:List Bool}{i:Nat}(hi:i<(qad c).length):lutE (bK c place rs) (qhF c rs st ins) (place.getD i 0)=(((qad c).getD i ce0).table.toNat).testBit (qbk (VL.valOf c st ins) ((qad c).getD i ce0).inputs):=by
 have hcell:=R.cell hi;have hsel:((bK c place rs).tiles.getD (place.getD i 0).toNat tc0).select=selS [15,15,15] (((qad c).getD i ce0).inputs.map fun v=>(qaX c.vars.toNat rs).getD v.toNat 0):=congrArg (fun x=>x.2.1) hcell;have htb:((bK c place rs).tiles.getD (place.getD i 0).toNat tc0).table=((qad c).getD i ce0).table:=congrArg (fun x=>x.1) hcell;rw[lutE,hsel,htb,R.reads hi]
theorem Routed.reg (R:Routed c place rs) {i:Nat}(hi:i<(qad c).length):((bK c place rs).tiles.getD (place.getD i 0).toNat tc0).reg=((qad c).getD i ce0).reg:=congrArg (fun x=>x.2.2) (R.cell hi)
theorem Routed.lut_gate (R:Routed c place rs) {st ins:List Bool}(h1:st.length=c.next.length) (h2:(ins.length:Int)=c.inputs) {i g:Nat}(hi:i<(qad c).length) (hg:g<c.gates.length) (hk:(qad c).getD i ce0=qbE (qe4 c g)) :
  lutE (bK c place rs) (qhF c rs st ins) (place.getD i 0)=VL.valOf c st ins (c.first+(g:Int)):=by
 rw[R.lut hi,hk];exact qqQ R.v h1 h2 hg
theorem Routed.lut_latch (R:Routed c place rs) {st ins:List Bool}(h1:st.length=c.next.length) (h2:(ins.length:Int)=c.inputs) {i:Nat}(hi:i<c.next.length) (hi2:i<(qad c).length) (hk:(qad c).getD i ce0=qaO c i) :
  lutE (bK c place rs) (qhF c rs st ins) (place.getD i 0)=litV (values c st ins) (c.next.getD i 0):=by
 rw[R.lut hi2,hk];have hn:=R.v.n _ (qac hi:c.next.getD i 0∈c.next);unfold qaK at hn;have hl:litV (values c st ins) (c.next.getD i 0)=(VL.valOf c st ins (c.next.getD i 0/2) != decide (c.next.getD i 0%2=1)):=rfl;rw[hl];unfold qaO;split
 ·have hr:qbk (VL.valOf c st ins) [c.next.getD i 0/2]=if VL.valOf c st ins (c.next.getD i 0/2) then 1 else 0:=by simp[qbk]
  show((2-c.next.getD i 0%2).toNat).testBit (qbk (VL.valOf c st ins) [c.next.getD i 0/2])=_
  rw[hr];obtain h|h:c.next.getD i 0%2=0∨c.next.getD i 0%2=1:=by omega
  all_goals rw[h];cases VL.valOf c st ins (c.next.getD i 0/2) <;> decide
 ·rename_i h0;have e0:c.next.getD i 0/2=0:=by omega
  rw[e0,qkJ];obtain h|h:c.next.getD i 0%2=0∨c.next.getD i 0%2=1:=by omega
  all_goals simp only[h,qbk];decide
def RegOk (c:Circ) (place:List Int) (st regs:List Bool):Prop:=∀ i,i<c.next.length->regs.getD (place.getD i 0).toNat false=st.getD i false
theorem Routed.vok (R:Routed c place rs) {st ins regs:List Bool}(h1:st.length=c.next.length) (h2:(ins.length:Int)=c.inputs) (hg:RegOk c place st regs):VOk (bK c place rs) regs ins (qhF c rs st ins):=by
 intro w hw;by_cases hn : ∀ r∈rs,r.track=w.2->w.1∉qak r.hops
 ·rw[Routed.V_out hn,qtC,R.drv_out hw hn,if_neg (by omega),if_neg (by omega),if_neg (by omega)]
 ·simp only[Classical.not_forall,Classical.not_not] at hn;obtain⟨r,hr,e1,e2⟩:=hn;obtain⟨t,u⟩:=w;simp only at e1 e2;subst e1;obtain⟨j,hj,rfl⟩:=qfq e2;rw[R.V_in hr e2,qtC];have hb:=R.bd r hr;rcases R.hop hr hj with⟨hd,hni,ht⟩|⟨hd,hni,i,hi,hnet,ht⟩|⟨g2,g5,m,hm,hnb⟩
  ·rw[if_pos hd,val_in h2 (by omega) hni];simp only[ht];congr 2;omega
  ·rw[if_neg (by rw[hd];omega),if_pos hd];simp only[ht];rw[R.reg hi];rcases qgz R.v hi with⟨k1,hk⟩|⟨-,g,hgg,hk⟩
   ·have hr2:((qad c).getD i ce0).reg=true:=by rw[hk];unfold qaO;split <;> rfl
    rw[if_pos hr2,hg i k1,<-hnet,hk,qcf,qqO h1 h2 k1]
   ·rw[if_neg (by rw[hk];simp[qbE]),R.lut_gate h1 h2 hi hgg hk,<-hnet,hk];rfl
  ·rw[if_neg (by omega),if_neg (by omega),if_pos ⟨g2,g5⟩];simp only;rw[hnb,R.V_in hr];exact ybh (qac (by omega))
theorem qja {trk:List Int} : ∀ (n o:Nat),n<=3->o<n->(qez c trk n).getD o (0,false)=(trk.getD (c.outs.getD o 0/2).toNat 0,decide (c.outs.getD o 0%2=1))
 | 0,o,_,h=>by omega
 | n+1,o,h3,h=>by
  have hs:qez c trk (n+1)=(qez c trk n).set n (trk.getD (c.outs.getD n 0/2).toNat 0,decide (c.outs.getD n 0%2=1)):=by simp only[qez,yaO,yaQ,yap,List.foldl_nil]
  rw[hs];by_cases e:n=o
  ·subst e;rw[qah (by rw[padsT_len];omega)]
  ·rw[qaA e];exact qja n o (by omega) (by omega)
theorem Routed.outs (R:Routed c place rs) {st ins:List Bool}:outE (bK c place rs) (qhF c rs st ins)=qbs (values c st ins) c.outs++List.replicate (3-c.outs.length) false:=by
 have hlo:=R.v.lo;have hpl:(bK c place rs).pads.length=3:=padsT_len;have hz:(qaX c.vars.toNat rs).getD 0 0=15:=qe8 (by have:=R.v.vars_bd;have:=R.v.first_bd;omega) (fun r hr=>(R.bd r hr).1.1);refine qfe false (by rw[outE,yay,ybo,hpl,yae,qdV,yaH];omega) fun o ho=>?_
 rw[outE,yay,ybo] at ho;rw[outE,qj3 ho];have hpd:(bK c place rs).pads=qez c (qaX c.vars.toNat rs) c.outs.length:=rfl;by_cases h:o<c.outs.length
 ·have hl:=R.v.o _ (qac h:c.outs.getD o 0∈c.outs);unfold qaK at hl;rw[hpd,qja _ _ (by omega) h,qae (by rw[qdV];exact h)];have e:(qbs (values c st ins) c.outs).getD o false=(VL.valOf c st ins (c.outs.getD o 0/2) != decide (c.outs.getD o 0%2=1)):=by
   rw[qbs];simp[List.getD,h];rfl
  rw[e];congr 1;by_cases hv:1<=c.outs.getD o 0/2
  ·obtain⟨r,hr,q1,q2,q3⟩:=R.pad h hv;have hb:=(R.bd r hr).2.1;simp only[q2];rw[qdu,R.V_in hr q3,q1,decide_eq_true (by omega),ybi]
  ·have e0:c.outs.getD o 0/2=0:=by omega
   simp only[e0];rw[qkJ,qdu,show(qaX c.vars.toNat rs).getD (0:Int).toNat 0=15 from hz];rfl
 ·have e1:(bK c place rs).pads.getD o (0,false)=(15,false):=by rw[hpd];exact qfp _ _ (by omega) (by omega)
  rw[e1];have e2:(qbs (values c st ins) c.outs++List.replicate (3-c.outs.length) false).getD o false=false:=by
   simp only[List.getD];rw[List.getElem?_append_right (by rw[qdV];omega),List.getElem?_replicate];split <;> rfl
  rw[e2];rfl
theorem Routed.next (R:Routed c place rs) {st ins:List Bool}(h1:st.length=c.next.length) (h2:(ins.length:Int)=c.inputs):RegOk c place (qbs (values c st ins) c.next) (qkS (bK c place rs) (qhF c rs st ins)):=by
 intro i hi;have hi2:i<(qad c).length:=by simp only[qad,yae,yay,ybo];omega
 have hb:=R.p.get hi2;rw[qkS,qj3 (by omega),R.reg hi2];rcases qgz R.v hi2 with⟨-,hk⟩|⟨k1,-⟩
 ·have hr2:((qad c).getD i ce0).reg=true:=by rw[hk];unfold qaO;split <;> rfl
  rw[hr2,ybi,show(((place.getD i 0).toNat:Nat):Int)=place.getD i 0 by omega,R.lut_latch h1 h2 hi hi2 hk,qbs];simp[List.getD,hi]
 ·omega
theorem Routed.cell_ok (R:Routed c place rs) {i:Nat}(hi:i<(qad c).length):0<=((qad c).getD i ce0).table/\((qad c).getD i ce0).table<256:=by
 rcases qgz R.v hi with⟨-,hk⟩|⟨-,g,hg,hk⟩
 ·rw[hk];unfold qaO;split <;> simp only <;> omega
 ·rw[hk];have hl:=(qet R.v hg).2.1;have ht:(qbE (qe4 c g)).table=((qd2 c (c.first+(g:Int)) ((qbY c).getD (c.first.toNat+g) []) (2 ^ ((qbY c).getD (c.first.toNat+g) []).length):Nat):Int):=rfl;rw[ht];have h1:=qgk c (c.first+(g:Int)) ((qbY c).getD (c.first.toNat+g) []) (2 ^ ((qbY c).getD (c.first.toNat+g) []).length);have h2:2 ^ (2 ^ ((qbY c).getD (c.first.toNat+g) []).length)<=2 ^ (2 ^ 3):=ybn (by omega) (ybn (by omega) hl);have h3:2 ^ (2 ^ 3)=256:=by decide
  omega
theorem qg9:qbX 15=true:=by decide
theorem qmg {u:Int}(h:0<=u/\u<=7):qbX u=true:=by simp[qbX,h.1,h.2]
theorem Routed.ok (R:Routed c place rs):(bK c place rs).ok:=by
 have hT:Tsz (bK c place rs).tiles:=qq8 (qe7 Tsz.empty (fun x hx=>(qcZ R.v x hx).1) R.p _ (yad _)) (fun r hr=>⟨by have:=(R.bd r hr).1;omega,(R.bd r hr).1.2,(R.bd r hr).2.1.1,(R.bd r hr).2.1.2,(R.bd r hr).2.2.1⟩) _;have hpl:(bK c place rs).pads.length=3:=padsT_len;have hlo:=R.v.lo;have hz:(qaX c.vars.toNat rs).getD 0 0=15:=qe8 (by have:=R.v.vars_bd;have:=R.v.first_bd;omega) (fun r hr=>(R.bd r hr).1.1);have hpd:(bK c place rs).pads=qez c (qaX c.vars.toNat rs) c.outs.length:=rfl;refine⟨hT.1,⟨hpl,fun o ho=>?_⟩,fun t ht=>?_⟩
 ·rw[hpl] at ho;rw[hpd];by_cases h:o<c.outs.length
  ·rw[qja _ _ (by omega) h];have hl:=R.v.o _ (qac h:c.outs.getD o 0∈c.outs);unfold qaK at hl;by_cases hv:1<=c.outs.getD o 0/2
   ·obtain⟨r,hr,q1,q2,q3⟩:=R.pad h hv;simp only[q2];exact qmg (R.bd r hr).2.1
   ·have e0:c.outs.getD o 0/2=0:=by omega
    simp only[e0];rw[show(qaX c.vars.toNat rs).getD (0:Int).toNat 0=15 from hz];exact qg9
  ·rw[qfp _ _ (by omega) ho];exact qg9
 ·rw[hT.1] at ht;have hsz:=hT.get ht;rw[Tcfg.ok_iff];have hdr : ∀ u:Nat,u<8->qaL (t:Int) (drv (bK c place rs) ((t:Int),(u:Int)))=true:=by
   intro u hu;by_cases hn : ∀ r∈rs,r.track=(u:Int)->(t:Int)∉qak r.hops
   ·rw[R.drv_out (w:=((t:Int),(u:Int))) ⟨⟨by simp only;omega,by simp only;omega⟩,by simp only;omega,by simp only;omega⟩ hn];simp[qaL]
   ·simp only[Classical.not_forall,Classical.not_not] at hn;obtain⟨r,hr,e1,e2⟩:=hn;obtain⟨j,hj,e3⟩:=qfq e2;have hb:=R.bd r hr;have hi1:=R.v.i1;rw[<-e1,<-e3];unfold qaL;rw[decide_eq_true_eq];rcases R.hop hr hj with⟨hd,hni,h3⟩|⟨hd,-,-⟩|⟨g2,g5,m,hm,hnb⟩
    ·right;right;right;rw[hd,h3];exact⟨rfl,by omega,by omega⟩
    ·right;left;exact hd
    ·right;right;left;refine⟨g2,g5,?_⟩;rw[hnb];exact(hb.2.2.1 _ (qac (by omega))).1
  have hdr2 : ∀ j,j<((bK c place rs).tiles.getD t tc0).drive.length->qaL (t:Int) (((bK c place rs).tiles.getD t tc0).drive.getD j 0)=true:=fun j hj=>hdr j (by rw[hsz.2] at hj;exact hj)
  by_cases hc : ∃ i,i<(qad c).length/\(place.getD i 0).toNat=t
  ·obtain⟨i,hi,rfl⟩:=hc;have hcell:=R.cell hi;have hsel:((bK c place rs).tiles.getD (place.getD i 0).toNat tc0).select=selS [15,15,15] (((qad c).getD i ce0).inputs.map fun v=>(qaX c.vars.toNat rs).getD v.toNat 0):=congrArg (fun x=>x.2.1) hcell;have htb:((bK c place rs).tiles.getD (place.getD i 0).toNat tc0).table=((qad c).getD i ce0).table:=congrArg (fun x=>x.1) hcell;have hco:=R.cell_ok hi;refine⟨by rw[htb];exact hco,hsz.1,hsz.2,fun j hj=>?_,hdr2⟩;have hm:((bK c place rs).tiles.getD (place.getD i 0).toNat tc0).select.getD j 0∈((bK c place rs).tiles.getD (place.getD i 0).toNat tc0).select:=qac hj;generalize ((bK c place rs).tiles.getD (place.getD i 0).toNat tc0).select.getD j 0=s at *
   rw[hsel] at hm;rcases qn9 hm with h|rfl
   ·obtain⟨v,hv,rfl⟩:=List.mem_map.1 h;obtain⟨r,hr,q1,q2,q3⟩:=R.input hi hv;rw[q2];exact qmg (R.bd r hr).2.1
   ·exact qg9
  ·have hbl:=R.blank ht (fun i hi e=>hc ⟨i,hi,e⟩);have hsel:((bK c place rs).tiles.getD t tc0).select=[15,15,15]:=congrArg (fun x=>x.2.1) hbl;have htb:((bK c place rs).tiles.getD t tc0).table=0:=congrArg (fun x=>x.1) hbl;refine⟨by rw[htb];omega,hsz.1,hsz.2,fun j hj=>?_,hdr2⟩;rw[hsel] at hj ⊢;have hj3:j<3:=hj;obtain rfl|rfl|rfl:j=0∨j=1∨j=2:=by omega
   all_goals rfl
def qgA (k:Kcfg) (V:Nat->Wr->Bool):Nat->List Bool
 | 0=>List.replicate 25 false
 | i+1=>qkS k (V i)
def runV (c:Circ) (rs:List Rt) (rows:List (List Bool)) (i:Nat):Wr->Bool:=qhF c rs (qbj c rows i) (rows.getD i [])
theorem qjb (c:Circ) (rows:List (List Bool)) (i:Nat):(qbj c rows i).length=c.next.length:=by cases i <;> simp[qbj,qbs]
theorem Routed.regs (R:Routed c place rs) {rows:List (List Bool)}(h : ∀ r∈rows,(r.length:Int)=c.inputs) : ∀ i,i<=rows.length->RegOk c place (qbj c rows i) (qgA (bK c place rs) (runV c rs rows) i)
 | 0,_=>fun i hi=>by
  have e : ∀ n j:Nat,(List.replicate n false).getD j false=false:=fun n j=>by
   rw[List.getD_eq_getElem?_getD,List.getElem?_replicate];split <;> rfl
  rw[qgA,qbj,e,e]
 | i+1,hi=>R.next (qjb c rows i) (h _ (qac (by omega)))
theorem Routed.run (R:Routed c place rs) {rows:List (List Bool)}(h : ∀ r∈rows,(r.length:Int)=c.inputs) {i:Nat}(hi:i<rows.length):VOk (bK c place rs) (qgA (bK c place rs) (runV c rs rows) i) (rows.getD i []) (runV c rs rows i):=
 R.vok (qjb c rows i) (h _ (qac hi)) (R.regs h i (by omega))
theorem Routed.run_out (R:Routed c place rs) {rows:List (List Bool)}{i:Nat}:outE (bK c place rs) (runV c rs rows i)=qbs (qda c rows i) c.outs++List.replicate (3-c.outs.length) false:=R.outs
end routed

def kz:Kcfg:=⟨[],[]⟩

theorem qmh {c:Circ}(hc:c.Valid) {place:List Int}(hp:PlaceOk (qad c).length place) {busy0:List (List Bool)}(hb:BusyOk busy0) {rs:List Rt}(h:qe5 c (qad c) place busy0=some rs):Routed c place rs/\rs.length<=1000/\∀ r∈rs,r.hops.length<=1000:=by
 have hf:=hc.first_bd;have hv:=hc.vars_bd;have hrc:qe5 c (qad c) place busy0=(qfG c (qad c) place busy0 (c.vars.toNat-1)).map (·.2):=rfl;rw[hrc] at h;obtain⟨⟨busy,out⟩,h1,rfl⟩:=Option.map_eq_some_iff.1 h;have hR:=qlV hc hp hb _ h1;refine⟨⟨hc,hp,busy0,busy,hR⟩,?_,fun r hr=>?_⟩
 ·have h2:=(qi0 (c:=c) (cells:=qad c) (place:=place) (c.vars.toNat-1)).2.2;rw[<-hR.nets,yay] at h2;show out.length<=1000
  omega
 ·have:=(hR.each r hr).len;omega
noncomputable def qbF (c:Circ) (list:List (Int×Int)):Option Kcfg:=open Classical in if c.Valid/\qm9 list then(qe5 c (qad c) (qdb c (qad c)) (qdt list)).map (ql6 c (qad c) (qdb c (qad c))) else none
theorem qhw {c:Circ}{list:List (Int×Int)}{k:Kcfg}(h:qbF c list=some k):c.Valid/\qm9 list/\∃ rs,Routed c (qdb c (qad c)) rs/\qe5 c (qad c) (qdb c (qad c)) (qdt list)=some rs/\k=bK c (qdb c (qad c)) rs:=by
 classical
 unfold qbF at h;split at h
 ·rename_i hv;obtain⟨rs,h1,rfl⟩:=Option.map_eq_some_iff.1 h;have hcl:=qbV hv.1;exact⟨hv.1,hv.2,rs,(qmh hv.1 (qlQ (by omega)) (qkO list) h1).1,h1,rfl⟩
 ·cases h
theorem Tryz.c_ConfigureAround (c:Circ) (list:List (Int×Int)):Pure prog 13 [dC c,dPs list] (.tup [dK ((qbF c list).getD kz),dB (qbF c list).isSome]):=by
 classical
 have hcv:=c_CircuitValid c;have hdv:=c_DefectsValid list;by_cases hc:c.Valid
 ·rw[decide_eq_true hc] at hcv;by_cases hd:qm9 list
  ·rw[(def_iff list).2 hd] at hdv;have hA:qbF c list=(qe5 c (qad c) (qdb c (qad c)) (qdt list)).map (ql6 c (qad c) (qdb c (qad c))):=if_pos ⟨hc,hd⟩;have hcl:=qbV hc;have hp:PlaceOk (qad c).length (qdb c (qad c)):=qlQ (by omega);have hpl:=c_Place c hc;have hra:=c_RouteAround c (qdb c (qad c)) list;rw[show qdg c (qdb c (qad c)) list=qe5 c (qad c) (qdb c (qad c)) (qdt list) by rw[qdg,if_pos ⟨⟨hc,hp⟩,hd⟩]] at hra;rw[hA];cases hro:qe5 c (qad c) (qdb c (qad c)) (qdt list) with
   | none=>
    rw[hro] at hra;simp only[qf3] at hra;rw[yah];refine qb8 (E:=env 0) tok rfl 1000 func13 rfl rfl ntmps13 (by simp) fun ok=>?_
    simp only[go_sem,seval,-List.reduceReplicate] at ok
    repeat' first|assumption|(simp (disch:=first|assumption|omega|(simp;done)|(simp;omega)) only[go_sem,seval,-List.reduceReplicate])|(with_reducible first|apply And.intro|intro _)|(refine qab hcv ?_)|(refine qaR (fun _=>hdv) ?_)|(refine qcN hpl ?_)|(refine qab hra ?_)|((try rw[qaa]);omega)
    all_goals first|rfl|simp[wk2,wkL,wk1,kz]
   | some rs=>
    rw[hro] at hra;simp only[qf3] at hra;rw[yaj];obtain⟨R,h1,h2⟩:=qmh hc hp (qkO list) hro;have hcf:=c_configure c hc (qdb c (qad c)) hp rs (fun r hr=>⟨(R.bd r hr).1.1,(R.bd r hr).1.2,(R.bd r hr).2.1.1,(R.bd r hr).2.1.2,(R.bd r hr).2.2.1⟩) h2 h1 R.nd (fun x hx v hv=>by
     obtain⟨i,hi,rfl⟩:=qaE ce0 hx;obtain⟨r,hr,e,-⟩:=R.input hi hv;exact⟨r,hr,e⟩) (fun l hl hv=>by
     obtain⟨o,ho,rfl⟩:=qaE (0:Int) hl;obtain⟨r,hr,e,-⟩:=R.pad ho (by omega);exact⟨r,hr,e⟩)
    refine qb8 (E:=env 0) tok rfl 1000 func13 rfl rfl ntmps13 (by simp) fun ok=>?_
    simp only[go_sem,seval,-List.reduceReplicate] at ok
    repeat' first|assumption|(simp (disch:=first|assumption|omega|(simp;done)|(simp;omega)) only[go_sem,seval,-List.reduceReplicate])|(with_reducible first|apply And.intro|intro _)|(refine qab hcv ?_)|(refine qaR (fun _=>hdv) ?_)|(refine qcN hpl ?_)|(refine qab hra ?_)|(refine qbr hcf ?_)|((try rw[qaa]);omega)
    all_goals first|rfl|simp[wk2,wkL,wk1,kz]
  ·rw[show defectsValid list=false from Bool.eq_false_iff.2 (fun h=>hd ((def_iff list).1 h))] at hdv;rw[show qbF c list=none from if_neg (fun h=>hd h.2)];refine qb8 (E:=env 0) tok rfl 1000 func13 rfl rfl ntmps13 (by simp) fun ok=>?_
   simp only[go_sem,seval,-List.reduceReplicate] at ok
   repeat' first|assumption|(simp (disch:=first|assumption|omega|(simp;done)|(simp;omega)) only[go_sem,seval,-List.reduceReplicate])|(with_reducible first|apply And.intro|intro _)|(refine qab hcv ?_)|(refine qaR (fun _=>hdv) ?_)|((try rw[qaa]);omega)
   all_goals first|rfl|simp[wk2,wkL,wk1,kz]
 ·rw[decide_eq_false hc] at hcv;rw[show qbF c list=none from if_neg (fun h=>hc h.1)];refine qb8 (E:=env 0) tok rfl 1000 func13 rfl rfl ntmps13 (by simp) fun ok=>?_
  simp only[go_sem,seval,-List.reduceReplicate] at ok
  repeat' first|assumption|(simp (disch:=first|assumption|omega|(simp;done)|(simp;omega)) only[go_sem,seval,-List.reduceReplicate])|(with_reducible first|apply And.intro|intro _)|(refine qab hcv ?_)|(refine qaR (x:=.nil) (fun h=>by cases h) ?_)|((try rw[qaa]);omega)
  all_goals first|rfl|simp[wk2,wkL,wk1,kz]
theorem Tryz.c_Configure (c:Circ):Pure prog 51 [dC c] (.tup [dK ((qbF c []).getD kz),dB (qbF c []).isSome]):=by
 have hca:Pure prog 13 [dC c,.nil] (.tup [dK ((qbF c []).getD kz),dB (qbF c []).isSome]):=(c_ConfigureAround c []).wk (by simp[wkT,wk2,wk1,wkL]);generalize (qbF c []).getD kz=k at *
 generalize (qbF c []).isSome=b at *
 refine qb8 (E:=env 0) tok rfl 1000 func51 rfl rfl ntmps51 (by simp) fun ok=>?_
 simp only[go_sem,seval,-List.reduceReplicate] at ok
 repeat' first|assumption|(simp (disch:=first|assumption|omega|(simp;done)|(simp;omega)) only[go_sem,seval,-List.reduceReplicate])|(with_reducible first|apply And.intro|intro _)|(refine qbr hca ?_)|((try rw[qaa]);omega)
end Go.Proofs
