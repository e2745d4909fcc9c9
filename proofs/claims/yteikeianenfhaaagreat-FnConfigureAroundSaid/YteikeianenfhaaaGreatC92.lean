/- Contracts, plain definitions and lemmas. Conditions: none; lemmas. -/
import Derived.Test.YteikeianenfhaaaGreatK8
import Derived.Test.YteikeianenfhaaaGreatC9
import Derived.Test.YteikeianenfhaaaGreatC61
import Derived.Test.YteikeianenfhaaaGreatC7
set_option maxRecDepth 20000
set_option linter.unusedSimpArgs false
set_option linter.unusedVariables false
set_option maxHeartbeats 2000000
namespace Go.Proofs
set_option linter.defProp false
open Go Go.VL Tryz
variable {i x:Nat}{t:Int}{st ins:List Bool}{rows:List (List Bool)}{leaves:List Int}
def qdV (V:Wr->Bool) (t s:Int):Bool:=decide (s≠15)&&V (t,s)
def lutE (k:Kcfg) (V:Wr->Bool) (t:Int):Bool:=((k.tiles.getD t.toNat tc0).table.toNat).testBit (qbx (qdV V t) (k.tiles.getD t.toNat tc0).select)
def qr6 (k:Kcfg) (regs ins:List Bool) (V:Wr->Bool) (w:Wr):Bool:=
 if drv k w=6 then ins.getD (w.1/5).toNat false
 else if drv k w=1 then(if(k.tiles.getD w.1.toNat tc0).reg then regs.getD w.1.toNat false else lutE k V w.1)
 else if 2<=drv k w/\drv k w<=5 then V (nb w.1 (drv k w),w.2) else false
def VOk (k:Kcfg) (regs ins:List Bool) (V:Wr->Bool):Prop:=∀ w,wOk w->V w=qr6 k regs ins V w
def outE (k:Kcfg) (V:Wr->Bool):List Bool:=(List.range k.pads.length).map fun(o:Nat)=>qdV V ((o:Int)*5+4) (k.pads.getD o (0,false)).1 != (k.pads.getD o (0,false)).2
def qkN (k:Kcfg) (V:Wr->Bool):List Bool:=(List.range 25).map fun(t:Nat)=>(k.tiles.getD t tc0).reg&&lutE k V (t:Int)
def qlT {f:Int->Bool}{g:Int->Int} : ∀ l:List Int,qbx f (l.map g)=qbx (fun z=>f (g z)) l
 | []=>rfl
 | z::l=>by rw[yaL,qbx,qbx,qlT l]
def qj2 {f:Int->Bool} : ∀ {l:List Int},(∀ z∈l,f z=false)->qbx f l=0
 | [],_=>rfl
 | z::l,h=>by
  rw[qbx,h z (yaC ..),qj2 (fun y hy=>h y (yaj _ hy))];rfl
def qlU {f:Int->Bool}{m:List Int}(h : ∀ z∈m,f z=false) : ∀ l:List Int,qbx f (l++m)=qbx f l
 | []=>qj2 h
 | z::l=>by rw[List.cons_append,qbx,qbx,qlU h l]
def qi9 {f g:Int->Bool} : ∀ {l:List Int},(∀ z∈l,f z=g z)->qbx f l=qbx g l
 | [],_=>rfl
 | z::l,h=>by rw[qbx,qbx,h z (yaC ..),qi9 (fun y hy=>h y (yaj _ hy))]
def qj3 {f:Nat->Bool}{n:Nat}(h:i<n):((List.range n).map f).getD i false=f i:=by simp[List.getD,h]
section routed
variable {c:Circ}{place:List Int}{rs:List Rt}
def qhS (c:Circ) (rs:List Rt) (st ins:List Bool) (w:Wr):Bool:=match rs.find? (fun r=>decide (r.track=w.2/\w.1∈qao r.hops)) with
 | some r=>VL.valOf c st ins r.net
 | none=>false
def Routed.one (R:Routed c place rs) {a b:Rt}(ha:a∈rs) (hb:b∈rs) (e:a.track=b.track) (h1:t∈qao a.hops) (h2:t∈qao b.hops):a=b:=by
 obtain⟨i,hi,rfl⟩:=qaV rt0 ha;obtain⟨j,hj,rfl⟩:=qaV rt0 hb;have hp:=R.apart;rw[ybn] at hp;have ei:rs.getD i rt0=rs[i]:=by simp[List.getD,hi]
 have ej:rs.getD j rt0=rs[j]:=by simp[List.getD,hj]
 rw[ei] at e h1;rw[ej] at e h2;rcases Nat.lt_trichotomy i j with h|h|h
 ·exact absurd h2 (hp i j hi hj h e t h1)
 ·subst h;rfl
 ·exact absurd h1 (hp j i hj hi h e.symm t h2)
def Routed.V_in (R:Routed c place rs) {r:Rt}(hr:r∈rs) (ht:t∈qao r.hops):qhS c rs st ins (t,r.track)=VL.valOf c st ins r.net:=by
 unfold qhS;cases h:rs.find? (fun x=>decide (x.track=r.track/\t∈qao x.hops)) with
 | none=>rw[List.find?_eq_none] at h;exact absurd (h r hr) (by simp[ht])
 | some x=>
  have h2:=List.find?_some h;rw[decide_eq_true_iff] at h2;rw[R.one (List.mem_of_find?_eq_some h) hr h2.1 h2.2 ht]
def Routed.V_out {w:Wr}(hn : ∀ r∈rs,r.track=w.2->w.1∉qao r.hops):qhS c rs st ins w=false:=by
 unfold qhS;rw[List.find?_eq_none.2 (fun r hr=>by simpa using hn r hr)]
def Routed.reads (R:Routed c place rs) (hi:i<(qae c).length) :
  qbx (qdV (qhS c rs st ins) (place.getD i 0)) (selS [15,15,15] (((qae c).getD i ce0).inputs.map fun v=>(qaP c.vars.toNat rs).getD v.toNat 0))=qbx (VL.valOf c st ins) ((qae c).getD i ce0).inputs:=by
 unfold selS;rw[qlU (fun z hz=>by
  have:=yaN hz;obtain rfl:z=15:=by simpa using this
  rfl),qlT]
 refine qi9 fun v hv=>?_
 obtain⟨r,hr,rfl,e2,e3⟩:=R.input hi hv;have hb:=(R.bd r hr).2.1;rw[e2,qdV,R.V_in hr e3,decide_eq_true (by omega),ybq]
def Routed.lut (R:Routed c place rs) (hi:i<(qae c).length):lutE (bK c place rs) (qhS c rs st ins) (place.getD i 0)=(((qae c).getD i ce0).table.toNat).testBit (qbx (VL.valOf c st ins) ((qae c).getD i ce0).inputs):=by
 have hcell:=R.cell hi;have hsel:((bK c place rs).tiles.getD (place.getD i 0).toNat tc0).select=selS [15,15,15] (((qae c).getD i ce0).inputs.map fun v=>(qaP c.vars.toNat rs).getD v.toNat 0):=congrArg (fun x=>x.2.1) hcell;have htb:((bK c place rs).tiles.getD (place.getD i 0).toNat tc0).table=((qae c).getD i ce0).table:=congrArg (fun x=>x.1) hcell;rw[lutE,hsel,htb,R.reads hi]
def Routed.reg (R:Routed c place rs) {i:Nat}(hi:i<(qae c).length):((bK c place rs).tiles.getD (place.getD i 0).toNat tc0).reg=((qae c).getD i ce0).reg:=congrArg (fun x=>x.2.2) (R.cell hi)
def Routed.lut_gate (R:Routed c place rs) (h1:st.length=c.next.length) (h2:(ins.length:Int)=c.inputs) {g:Nat}(hi:i<(qae c).length) (hg:g<c.gates.length) (hk:(qae c).getD i ce0=qa6 (qfm c g)) :
  lutE (bK c place rs) (qhS c rs st ins) (place.getD i 0)=VL.valOf c st ins (c.first+(g:Int)):=by
 rw[R.lut hi,hk];exact qpT R.v h1 h2 hg
def Routed.lut_latch (R:Routed c place rs) (h1:st.length=c.next.length) (h2:(ins.length:Int)=c.inputs) (hi:i<c.next.length) (hi2:i<(qae c).length) (hk:(qae c).getD i ce0=qaM c i) :
  lutE (bK c place rs) (qhS c rs st ins) (place.getD i 0)=litV (values c st ins) (c.next.getD i 0):=by
 rw[R.lut hi2,hk];have hn:=R.v.n _ (qad hi:c.next.getD i 0∈c.next);unfold qaY at hn;have hl:litV (values c st ins) (c.next.getD i 0)=(VL.valOf c st ins (c.next.getD i 0/2) != decide (c.next.getD i 0%2=1)):=rfl;rw[hl];unfold qaM;split
 ·have hr:qbx (VL.valOf c st ins) [c.next.getD i 0/2]=if VL.valOf c st ins (c.next.getD i 0/2) then 1 else 0:=by simp[qbx]
  show((2-c.next.getD i 0%2).toNat).testBit (qbx (VL.valOf c st ins) [c.next.getD i 0/2])=_
  rw[hr];obtain h|h:c.next.getD i 0%2=0∨c.next.getD i 0%2=1:=by omega
  all_goals rw[h];cases VL.valOf c st ins (c.next.getD i 0/2) <;> decide
 ·rename_i h0;have e0:c.next.getD i 0/2=0:=by omega
  rw[e0,qkC];obtain h|h:c.next.getD i 0%2=0∨c.next.getD i 0%2=1:=by omega
  all_goals simp only[h,qbx];decide
def RegOk (c:Circ) (place:List Int) (st regs:List Bool):Prop:=∀ i,i<c.next.length->regs.getD (place.getD i 0).toNat false=st.getD i false
def Routed.vok (R:Routed c place rs) {regs:List Bool}(h1:st.length=c.next.length) (h2:(ins.length:Int)=c.inputs) (hg:RegOk c place st regs):VOk (bK c place rs) regs ins (qhS c rs st ins):=by
 intro w hw;by_cases hn : ∀ r∈rs,r.track=w.2->w.1∉qao r.hops
 ·rw[Routed.V_out hn,qr6,R.drv_out hw hn,if_neg (by omega),if_neg (by omega),if_neg (by omega)]
 ·simp only[Classical.not_forall,Classical.not_not] at hn;obtain⟨r,hr,e1,e2⟩:=hn;obtain⟨t,u⟩:=w;simp only at e1 e2;subst e1;obtain⟨j,hj,rfl⟩:=qez e2;rw[R.V_in hr e2,qr6];have hb:=R.bd r hr;rcases R.hop hr hj with⟨hd,hni,ht⟩|⟨hd,hni,i,hi,hnet,ht⟩|⟨g2,g5,m,hm,hnb⟩
  ·rw[if_pos hd,val_in h2 (by omega) hni];simp only[ht];congr 2;omega
  ·rw[if_neg (by rw[hd];omega),if_pos hd];simp only[ht];rw[R.reg hi];rcases qgO R.v hi with⟨k1,hk⟩|⟨-,g,hgg,hk⟩
   ·have hr2:((qae c).getD i ce0).reg=true:=by rw[hk];unfold qaM;split <;> rfl
    rw[if_pos hr2,hg i k1,<-hnet,hk,qcl,qpR h1 h2 k1]
   ·rw[if_neg (by rw[hk];simp[qa6]),R.lut_gate h1 h2 hi hgg hk,<-hnet,hk];rfl
  ·rw[if_neg (by omega),if_neg (by omega),if_pos ⟨g2,g5⟩];simp only;rw[hnb,R.V_in hr];exact ybm (qad (by omega))
def qja {trk:List Int} : ∀ (n o:Nat),n<=3->o<n->(qdj c trk n).getD o (0,false)=(trk.getD (c.outs.getD o 0/2).toNat 0,decide (c.outs.getD o 0%2=1))
 | 0,o,_,h=>by omega
 | n+1,o,h3,h=>by
  have hs:qdj c trk (n+1)=(qdj c trk n).set n (trk.getD (c.outs.getD n 0/2).toNat 0,decide (c.outs.getD n 0%2=1)):=by simp only[qdj,yaH,yaM,yao,List.foldl_nil]
  rw[hs];by_cases e:n=o
  ·subst e;rw[qak (by rw[padsT_len];omega)]
  ·rw[qbG e];exact qja n o (by omega) (by omega)
def Routed.outs (R:Routed c place rs) {st ins:List Bool}:outE (bK c place rs) (qhS c rs st ins)=qcG (values c st ins) c.outs++List.replicate (3-c.outs.length) false:=by
 have hlo:=R.v.lo;have hpl:(bK c place rs).pads.length=3:=padsT_len;have hz:(qaP c.vars.toNat rs).getD 0 0=15:=qfo (by have:=R.v.vars_bd;have:=R.v.first_bd;omega) (fun r hr=>(R.bd r hr).1.1);refine qda false (by rw[outE,yaw,ybr,hpl,yae,qek,yaK];omega) fun o ho=>?_
 rw[outE,yaw,ybr] at ho;rw[outE,qj3 ho];have hpd:(bK c place rs).pads=qdj c (qaP c.vars.toNat rs) c.outs.length:=rfl;by_cases h:o<c.outs.length
 ·have hl:=R.v.o _ (qad h:c.outs.getD o 0∈c.outs);unfold qaY at hl;rw[hpd,qja _ _ (by omega) h,qaq (by rw[qek];exact h)];have e:(qcG (values c st ins) c.outs).getD o false=(VL.valOf c st ins (c.outs.getD o 0/2) != decide (c.outs.getD o 0%2=1)):=by
   rw[qcG];simp[List.getD,h];rfl
  rw[e];congr 1;by_cases hv:1<=c.outs.getD o 0/2
  ·obtain⟨r,hr,q1,q2,q3⟩:=R.pad h hv;have hb:=(R.bd r hr).2.1;simp only[q2];rw[qdV,R.V_in hr q3,q1,decide_eq_true (by omega),ybq]
  ·have e0:c.outs.getD o 0/2=0:=by omega
   simp only[e0];rw[qkC,qdV,show(qaP c.vars.toNat rs).getD (0:Int).toNat 0=15 from hz];rfl
 ·have e1:(bK c place rs).pads.getD o (0,false)=(15,false):=by rw[hpd];exact qfE _ _ (by omega) (by omega)
  rw[e1];have e2:(qcG (values c st ins) c.outs++List.replicate (3-c.outs.length) false).getD o false=false:=by
   simp only[List.getD];rw[List.getElem?_append_right (by rw[qek];omega),List.getElem?_replicate];split <;> rfl
  rw[e2];rfl
def Routed.next (R:Routed c place rs) {st ins:List Bool}(h1:st.length=c.next.length) (h2:(ins.length:Int)=c.inputs):RegOk c place (qcG (values c st ins) c.next) (qkN (bK c place rs) (qhS c rs st ins)):=by
 intro i hi;have hi2:i<(qae c).length:=by simp only[qae,yae,yaw,ybr];omega
 have hb:=R.p.get hi2;rw[qkN,qj3 (by omega),R.reg hi2];rcases qgO R.v hi2 with⟨-,hk⟩|⟨k1,-⟩
 ·have hr2:((qae c).getD i ce0).reg=true:=by rw[hk];unfold qaM;split <;> rfl
  rw[hr2,ybq,show(((place.getD i 0).toNat:Nat):Int)=place.getD i 0 by omega,R.lut_latch h1 h2 hi hi2 hk,qcG];simp[List.getD,hi]
 ·omega
def Routed.cell_ok (R:Routed c place rs) (hi:i<(qae c).length):0<=((qae c).getD i ce0).table/\((qae c).getD i ce0).table<256:=by
 rcases qgO R.v hi with⟨-,hk⟩|⟨-,g,hg,hk⟩
 ·rw[hk];unfold qaM;split <;> simp only <;> omega
 ·rw[hk];have hl:=(qcI R.v hg).2.1;have ht:(qa6 (qfm c g)).table=((qdg c (c.first+(g:Int)) ((qbm c).getD (c.first.toNat+g) []) (2 ^ ((qbm c).getD (c.first.toNat+g) []).length):Nat):Int):=rfl;rw[ht];have h1:=qfj c (c.first+(g:Int)) ((qbm c).getD (c.first.toNat+g) []) (2 ^ ((qbm c).getD (c.first.toNat+g) []).length);have h2:2 ^ (2 ^ ((qbm c).getD (c.first.toNat+g) []).length)<=2 ^ (2 ^ 3):=ybb (by omega) (ybb (by omega) hl);have h3:2 ^ (2 ^ 3)=256:=by decide
  omega
def qhp:qcM 15=true:=by decide
def qlV {u:Int}(h:0<=u/\u<=7):qcM u=true:=by simp[qcM,h.1,h.2]
def Routed.ok (R:Routed c place rs):(bK c place rs).ok:=by
 have hT:Tsz (bK c place rs).tiles:=qkK (qey Tsz.empty (fun x hx=>(qdk R.v x hx).1) R.p _ (yad _)) (fun r hr=>⟨by have:=(R.bd r hr).1;omega,(R.bd r hr).1.2,(R.bd r hr).2.1.1,(R.bd r hr).2.1.2,(R.bd r hr).2.2.1⟩) _;have hpl:(bK c place rs).pads.length=3:=padsT_len;have hlo:=R.v.lo;have hz:(qaP c.vars.toNat rs).getD 0 0=15:=qfo (by have:=R.v.vars_bd;have:=R.v.first_bd;omega) (fun r hr=>(R.bd r hr).1.1);have hpd:(bK c place rs).pads=qdj c (qaP c.vars.toNat rs) c.outs.length:=rfl;refine⟨hT.1,⟨hpl,fun o ho=>?_⟩,fun t ht=>?_⟩
 ·rw[hpl] at ho;rw[hpd];by_cases h:o<c.outs.length
  ·rw[qja _ _ (by omega) h];have hl:=R.v.o _ (qad h:c.outs.getD o 0∈c.outs);unfold qaY at hl;by_cases hv:1<=c.outs.getD o 0/2
   ·obtain⟨r,hr,q1,q2,q3⟩:=R.pad h hv;simp only[q2];exact qlV (R.bd r hr).2.1
   ·have e0:c.outs.getD o 0/2=0:=by omega
    simp only[e0];rw[show(qaP c.vars.toNat rs).getD (0:Int).toNat 0=15 from hz];exact qhp
  ·rw[qfE _ _ (by omega) ho];exact qhp
 ·rw[hT.1] at ht;have hsz:=hT.get ht;rw[Tcfg.ok_iff];have hdr : ∀ u:Nat,u<8->qa1 (t:Int) (drv (bK c place rs) ((t:Int),(u:Int)))=true:=by
   intro u hu;by_cases hn : ∀ r∈rs,r.track=(u:Int)->(t:Int)∉qao r.hops
   ·rw[R.drv_out (w:=((t:Int),(u:Int))) ⟨⟨by simp only;omega,by simp only;omega⟩,by simp only;omega,by simp only;omega⟩ hn];simp[qa1]
   ·simp only[Classical.not_forall,Classical.not_not] at hn;obtain⟨r,hr,e1,e2⟩:=hn;obtain⟨j,hj,e3⟩:=qez e2;have hb:=R.bd r hr;have hi1:=R.v.i1;rw[<-e1,<-e3];unfold qa1;rw[decide_eq_true_eq];rcases R.hop hr hj with⟨hd,hni,h3⟩|⟨hd,-,-⟩|⟨g2,g5,m,hm,hnb⟩
    ·right;right;right;rw[hd,h3];exact⟨rfl,by omega,by omega⟩
    ·right;left;exact hd
    ·right;right;left;refine⟨g2,g5,?_⟩;rw[hnb];exact(hb.2.2.1 _ (qad (by omega))).1
  have hdr2 : ∀ j,j<((bK c place rs).tiles.getD t tc0).drive.length->qa1 (t:Int) (((bK c place rs).tiles.getD t tc0).drive.getD j 0)=true:=fun j hj=>hdr j (by rw[hsz.2] at hj;exact hj)
  by_cases hc : ∃ i,i<(qae c).length/\(place.getD i 0).toNat=t
  ·obtain⟨i,hi,rfl⟩:=hc;have hcell:=R.cell hi;have hsel:((bK c place rs).tiles.getD (place.getD i 0).toNat tc0).select=selS [15,15,15] (((qae c).getD i ce0).inputs.map fun v=>(qaP c.vars.toNat rs).getD v.toNat 0):=congrArg (fun x=>x.2.1) hcell;have htb:((bK c place rs).tiles.getD (place.getD i 0).toNat tc0).table=((qae c).getD i ce0).table:=congrArg (fun x=>x.1) hcell;have hco:=R.cell_ok hi;refine⟨by rw[htb];exact hco,hsz.1,hsz.2,fun j hj=>?_,hdr2⟩;have hm:((bK c place rs).tiles.getD (place.getD i 0).toNat tc0).select.getD j 0∈((bK c place rs).tiles.getD (place.getD i 0).toNat tc0).select:=qad hj;generalize ((bK c place rs).tiles.getD (place.getD i 0).toNat tc0).select.getD j 0=s at *
   rw[hsel] at hm;rcases qnG hm with h|rfl
   ·obtain⟨v,hv,rfl⟩:=List.mem_map.1 h;obtain⟨r,hr,q1,q2,q3⟩:=R.input hi hv;rw[q2];exact qlV (R.bd r hr).2.1
   ·exact qhp
  ·have hbl:=R.blank ht (fun i hi e=>hc ⟨i,hi,e⟩);have hsel:((bK c place rs).tiles.getD t tc0).select=[15,15,15]:=congrArg (fun x=>x.2.1) hbl;have htb:((bK c place rs).tiles.getD t tc0).table=0:=congrArg (fun x=>x.1) hbl;refine⟨by rw[htb];omega,hsz.1,hsz.2,fun j hj=>?_,hdr2⟩;rw[hsel] at hj ⊢;have hj3:j<3:=hj;obtain rfl|rfl|rfl:j=0∨j=1∨j=2:=by omega
   all_goals rfl
def qhT (k:Kcfg) (V:Nat->Wr->Bool):Nat->List Bool
 | 0=>List.replicate 25 false
 | i+1=>qkN k (V i)
def runV (c:Circ) (rs:List Rt) (rows:List (List Bool)) (i:Nat):Wr->Bool:=qhS c rs (qcH c rows i) (rows.getD i [])
def qjb (c:Circ) (rows:List (List Bool)) (i:Nat):(qcH c rows i).length=c.next.length:=by cases i <;> simp[qcH,qcG]
def Routed.regs (R:Routed c place rs) (h : ∀ r∈rows,(r.length:Int)=c.inputs) : ∀ i,i<=rows.length->RegOk c place (qcH c rows i) (qhT (bK c place rs) (runV c rs rows) i)
 | 0,_=>fun i hi=>by
  have e : ∀ n j:Nat,(List.replicate n false).getD j false=false:=fun n j=>by
   rw[List.getD_eq_getElem?_getD,List.getElem?_replicate];split <;> rfl
  rw[qhT,qcH,e,e]
 | i+1,hi=>R.next (qjb c rows i) (h _ (qad (by omega)))
def Routed.run (R:Routed c place rs) (h : ∀ r∈rows,(r.length:Int)=c.inputs) (hi:i<rows.length):VOk (bK c place rs) (qhT (bK c place rs) (runV c rs rows) i) (rows.getD i []) (runV c rs rows i):=
 R.vok (qjb c rows i) (h _ (qad hi)) (R.regs h i (by omega))
def Routed.run_out (R:Routed c place rs):outE (bK c place rs) (runV c rs rows i)=qcG (qfS c rows i) c.outs++List.replicate (3-c.outs.length) false:=R.outs
end routed

abbrev Kn:=List (Int×Bool)
variable {m:Kn}
def kn (m:Kn) (k:Int):Option Bool:=(m.find? fun e=>decide (e.1=k)).map fun e=>e.2
def knUp:Kn->Int->Bool->Kn
 | [],k,b=>[(k,b)]
 | e::r,k,b=>if e.1=k then(k,b)::r else e::knUp r k b
def qmO (k:Int) (b:Bool) (j:Int) : ∀ m,kn (knUp m k b) j=if j=k then some b else kn m j
 | []=>by by_cases h:j=k <;> simp[kn,knUp,h,eq_comm]
 | e::r=>by
  have ih:=qmO k b j r;unfold knUp;by_cases h:e.1=k
  ·rw[if_pos h];by_cases h2:j=k
   ·simp[kn,h2]
   ·have h3 : ¬ e.1=j:=fun h4=>h2 (by rw[<-h4,h])
    have h4 : ¬ k=j:=fun h5=>h2 h5.symm
    simp[kn,h2,h3,h4]
  ·rw[if_neg h];by_cases h3:e.1=j
   ·have h2 : ¬ j=k:=fun h4=>h (by rw[h3,h4])
    simp[kn,h2,h3]
   ·unfold kn at ih ⊢;simp only[List.find?_cons,decide_eq_false h3,ih]
def knE (m:Kn):List (D×D):=m.map fun e=>(dI e.1,D.bool e.2)
def qkO (k:Int) : ∀ m,qcP (knE m) (dI k)=(kn m k).map D.bool
 | []=>rfl
 | e::r=>by
  have ih:=qkO k r;show qcP ((dI e.1,D.bool e.2)::knE r) _=_
  rw[qeh,qdE];by_cases h:e.1=k
  ·subst h;simp[kn]
  ·rw[decide_eq_false (fun h2=>h h2.symm)];simp only[yah,if_false,ih];simp[kn,h]
def qkP (k:Int) (b:Bool) : ∀ m,updD (knE m) (dI k) (D.bool b)=knE (knUp m k b)
 | []=>rfl
 | e::r=>by
  have ih:=qkP k b r;show updD ((dI e.1,D.bool e.2)::knE r) _ _=_
  rw[updD,qdE];by_cases h:e.1=k
  ·subst h;simp[knUp,knE]
  ·rw[decide_eq_false (fun h2=>h h2.symm)];simp only[yah,if_false,ih];simp[knUp,knE,h]
def qh4 (m:Kn):qbw (.int .i64) (knE m):=by
 rw[qcV];intro e he;obtain⟨x,_,rfl⟩:=List.mem_map.1 he;exact rfl
structure KnOk (c:Circ) (leaves:List Int) (x:Nat) (m:Kn):Prop where
 val : ∀ k b,kn m k=some b->b=qco c leaves x k
 leaf : ∀ z∈leaves,kn m z≠none
def KnOk.up {c:Circ}(h:KnOk c leaves x m) (k:Int):KnOk c leaves x (knUp m k (qco c leaves x k)):=by
 refine⟨fun j b hj=>?_,fun z hz=>?_⟩
 ·rw[qmO] at hj;split at hj
  ·rename_i e;subst e;simpa using hj.symm
  ·exact h.val j b hj
 ·rw[qmO];split
  ·simp
  ·exact h.leaf z hz
def qtd {c:Circ}{v:Int}{X:Bool}{T:List R}(hm:KnOk c leaves x m) (hX:X=qco c leaves x v) :
  endI 1 (fun r H'=>∃ m',KnOk c leaves x m'/\r=I.d (dB (qco c leaves x v))/\H'=[R.map (knE m')]) (I.d (D.bool X)) (.map (updD (knE m) (dI v) (D.bool X))::T):=by
 subst hX;rw[qkP];refine qaK (r0:=.d (dB (qco c leaves x v))) (H1:=[.map (knE (knUp m v (qco c leaves x v)))]) ?_ ⟨_,hm.up v,rfl,rfl⟩;simp only[go_sem,seval]
set_option maxHeartbeats 4000000 in
def Tryz.c_coneValue (c:Circ) (hc:c.Valid) (leaves:List Int) (x:Nat) : ∀ (n:Nat) (v:Int) (m:Kn),v.toNat<n->0<=v->v<c.vars->KnOk c leaves x m->
  ICall prog 208 [.d (pC c),.d (dI v),.map 0] [.map (knE m)] (fun r H'=>∃ m',KnOk c leaves x m'/\r=.d (dB (qco c leaves x v))/\H'=[.map (knE m')]):=by
 have hf:=hc.first_bd;have hi0:=hc.i0;have hi1:=hc.i1;have hvv:=hc.vars_bd;have hfst:=c_firstGate c (by omega);intro n;induction n with
 | zero=>intro v m h;omega
 | succ n ih=>
  intro v m hvn hv0 hv hm;have ek:=qkO v m;have hks:=qh4 m;have hnl:kn m v=none->v∉leaves:=fun h hv=>hm.leaf v hv h
  cases hkn:kn m v with
  | some b=>
   rw[hkn] at ek;refine qaz (E:=env 1) tok rfl 1000 func208 rfl rfl ntmps208 (by simp) ?_;simp only[go_sem,seval,ek,yak]
   repeat' first|assumption|(simp (disch:=first|assumption|omega|(simp;done)|(simp;omega)) only[];try simp only[go_sem,seval,ek,yak])|(with_reducible first|apply And.intro|intro _)|(refine qac hfst ?_;simp only[go_sem,seval,ek,yak])|(refine qaN (fun _=>hfst) ?_;simp only[go_sem,seval,ek,yak])|((try rw[qaa]);omega)
   refine qaK (r0:=.d (dB (qco c leaves x v))) (H1:=[.map (knE m)]) ?_ ⟨m,hm,rfl,rfl⟩;rw[<-hm.val v b hkn];simp only[go_sem,seval]
  | none=>
   rw[hkn] at ek;have hvl:=hnl hkn;by_cases hlow:v<c.first
   ·have hval:qco c leaves x v=false:=by rw[qfi hv0 hlow,qdS,if_neg hvl]
    refine qaz (E:=env 1) tok rfl 1000 func208 rfl rfl ntmps208 (by simp) ?_;simp only[go_sem,seval,ek,yai]
    repeat' first|assumption|(simp (disch:=first|assumption|omega|(simp;done)|(simp;omega)) only[];try simp only[go_sem,seval,ek,yai])|(with_reducible first|apply And.intro|intro _)|(refine qac hfst ?_;simp only[go_sem,seval,ek,yai])|(refine qaN (fun _=>hfst) ?_;simp only[go_sem,seval,ek,yai])|((try rw[qaa]);omega)
    refine qaK (r0:=.d (dB (qco c leaves x v))) (H1:=[.map (knE m)]) ?_ ⟨m,hm,rfl,rfl⟩;rw[hval];simp only[go_sem,seval]
   ·obtain⟨i,rfl⟩ : ∃ i:Nat,v=c.first+(i:Int):=⟨(v-c.first).toNat,by omega⟩
    have hi:i<c.gates.length:=by unfold Circ.vars at hv;omega
    obtain⟨g1,g2⟩:=hc.g i hi;have hval:=qfB hc (leaves:=leaves) (x:=x) hi;rw[qdS,if_neg hvl] at hval;have ei:(c.first+(i:Int)-c.first).toNat=i:=by omega
    have ea:qbi c i=(c.gates.getD i (0,0)).1:=rfl;have eb:qbj c i=(c.gates.getD i (0,0)).2:=rfl;rw[ea,eb] at hval;unfold qaY at g1 g2;have iha:=fun m hm=>ih ((c.gates.getD i (0,0)).1/2) m (by omega) (by omega) (by unfold Circ.vars;omega) hm
    have ihb:=fun m hm=>ih ((c.gates.getD i (0,0)).2/2) m (by omega) (by omega) (by unfold Circ.vars;omega) hm
    have hg : ∀ z,(c.gates.map fun x=>dP x).getD i z=dP (c.gates.getD i (0,0)):=fun z=>getD_lt _ _ _ _ _ hi
    generalize c.gates.getD i (0,0)=gg at *
    obtain⟨ga,gb⟩:=gg;simp only at hval g1 g2 iha ihb;have ha2:((ga.toNat &&& 1:Nat):Int)=ga%2:=by rw[Nat.and_one_is_mod];omega
    have hb2:((gb.toNat &&& 1:Nat):Int)=gb%2:=by rw[Nat.and_one_is_mod];omega
    have cva : ∀ {m:Kn}{T:List R}{K:I->List R->Prop},KnOk c leaves x m->(∀ m',KnOk c leaves x m'->K (.d (dB (qco c leaves x (ga/2)))) (.map (knE m')::T))->
      ICall prog 208 [.d (pC c),.d (dI (ga/2)),.map 0] (.map (knE m)::T) K:=fun {m T K} hm hk=>by
     refine qan (iha m hm) [0] (by simp only[go_sem,seval]) ?_;rintro r0 H1 ⟨m',hm',rfl,rfl⟩;have:=hk m' hm';simp only[go_sem,seval];simpa using this
    have cvb : ∀ {m:Kn}{T:List R}{K:I->List R->Prop},KnOk c leaves x m->(∀ m',KnOk c leaves x m'->K (.d (dB (qco c leaves x (gb/2)))) (.map (knE m')::T))->
      ICall prog 208 [.d (pC c),.d (dI (gb/2)),.map 0] (.map (knE m)::T) K:=fun {m T K} hm hk=>by
     refine qan (ihb m hm) [0] (by simp only[go_sem,seval]) ?_;rintro r0 H1 ⟨m',hm',rfl,rfl⟩;have:=hk m' hm';simp only[go_sem,seval];simpa using this
    refine qaz (E:=env 1) tok rfl 1000 func208 rfl rfl ntmps208 (by simp) ?_;simp only[go_sem,seval,ek,yai,ei,hg]
    repeat' first|assumption|(simp (disch:=first|assumption|omega|(simp;done)|(simp;omega)) only[];try simp only[go_sem,seval,ek,yai,ei,hg])|(with_reducible first|apply And.intro|intro _)|(refine qac hfst ?_;simp only[go_sem,seval,ek,yai,ei,hg])|(refine qaN (fun _=>hfst) ?_;simp only[go_sem,seval,ek,yai,ei,hg])|((try rw[qaa]);omega)
    refine qaL (n:=1) [11] (fsts [0,1,2,4,5,3] (.two 6 (fsts [7,8] (.two 9 (.one 10 (.one 11 .done)) 10 (.one 9 (.one 11 .done)))) 10 (.one 6 (fsts [7,8] (.one 9 (.one 11 .done)))))) ?_;simp only[go_sem,seval,ek,yai,ei,hg]
    repeat' first|assumption|(simp (disch:=first|assumption|omega|(simp;done)|(simp;omega)) only[];try simp only[go_sem,seval,ek,yai,ei,hg])|(with_reducible first|apply And.intro|intro _)|(refine qac hfst ?_;simp only[go_sem,seval,ek,yai,ei,hg])|(refine qaN (fun _=>hfst) ?_;simp only[go_sem,seval,ek,yai,ei,hg])|((try rw[qaa]);omega)
    all_goals (
     refine qaL (n:=1) [5,17] (fsts [0,1,4,6,2,3] (.two 5 (.one 7 (fsts [8,9,10,11,12,13,16,18] (.two 14 (.fst 15 (.two 17 (.one 19 (fsts [20,21,22,23,24] .done)) 19 (fsts [20,21] (.one 17 (fsts [22,23,24] .done))))) 19 (fsts [20,21] (.one 14 (.fst 15 (.one 17 (fsts [22,23,24] .done)))))))) 7 (fsts [8,9] (.one 5 (fsts [10,11,12,13,16,18] (.two 14 (.fst 15 (.two 17 (.one 19 (fsts [20,21,22,23,24] .done)) 19 (fsts [20,21] (.one 17 (fsts [22,23,24] .done))))) 19 (fsts [20,21] (.one 14 (.fst 15 (.one 17 (fsts [22,23,24] .done))))))))))) ?_;simp only[go_sem,seval,ha2,hb2]
     repeat' first|assumption|(simp (disch:=first|assumption|omega|(simp;done)|(simp;omega)) only[];try simp only[go_sem,seval,ha2,hb2])|(with_reducible first|apply And.intro|intro _)|(refine cva (by assumption) ?_;simp only[go_sem,seval,ha2,hb2])|(refine cvb (by assumption) ?_;simp only[go_sem,seval,ha2,hb2])|(refine @Exists.intro I _ (I.d (D.bool false)) ?_;simp only[go_sem,seval,ha2,hb2])|((try rw[qaa]);omega))
    all_goals first
     | exact qh4 _
     | exact qtd (by assumption) hval.symm
     | exact qtd (by assumption) (by rw[hval];simp_all)
end Go.Proofs
