/- Contracts, plain definitions and lemmas. Conditions: none; lemmas. -/
import Derived.Test.YteikeianenfhaaaGreatK8
import Derived.Test.YteikeianenfhaaaGreatC11
import Derived.Test.YteikeianenfhaaaGreatC78
set_option maxRecDepth 20000
set_option linter.unusedSimpArgs false
set_option linter.unusedVariables false
set_option maxHeartbeats 2000000
namespace Go.Proofs
open Go Go.VL Tryz
def qnR (V:Wr->Bool) (t s:Int):Bool:=decide (s≠15)&&V (t,s)
def lutE (k:Kcfg) (V:Wr->Bool) (t:Int):Bool:=((k.tiles.getD t.toNat tc0).table.toNat).testBit (qch (qnR V t) (k.tiles.getD t.toNat tc0).select)
def wireE (k:Kcfg) (regs ins:List Bool) (V:Wr->Bool) (w:Wr):Bool:=
 if drv k w=6 then ins.getD (w.1/5).toNat false
 else if drv k w=1 then(if(k.tiles.getD w.1.toNat tc0).reg then regs.getD w.1.toNat false else lutE k V w.1)
 else if 2<=drv k w/\drv k w<=5 then V (nb w.1 (drv k w),w.2) else false
def VOk (k:Kcfg) (regs ins:List Bool) (V:Wr->Bool):Prop:=∀ w,wOk w->V w=wireE k regs ins V w
def outE (k:Kcfg) (V:Wr->Bool):List Bool:=(List.range k.pads.length).map fun(o:Nat)=>qnR V ((o:Int)*5+4) (k.pads.getD o (0,false)).1 != (k.pads.getD o (0,false)).2
def nextE (k:Kcfg) (V:Wr->Bool):List Bool:=(List.range 25).map fun(t:Nat)=>(k.tiles.getD t tc0).reg&&lutE k V (t:Int)
theorem qly {f:Int->Bool}{g:Int->Int} : ∀ l:List Int,qch f (l.map g)=qch (fun z=>f (g z)) l
 | []=>rfl
 | z::l=>by rw[yaH,qch,qch,qly l]
theorem qjD {f:Int->Bool} : ∀ {l:List Int},(∀ z∈l,f z=false)->qch f l=0
 | [],_=>rfl
 | z::l,h=>by
  rw[qch,h z (yay ..),qjD (fun y hy=>h y (yah _ hy))];rfl
theorem qlz {f:Int->Bool}{m:List Int}(h : ∀ z∈m,f z=false) : ∀ l:List Int,qch f (l++m)=qch f l
 | []=>qjD h
 | z::l=>by rw[List.cons_append,qch,qch,qlz h l]
theorem qiJ {f g:Int->Bool} : ∀ {l:List Int},(∀ z∈l,f z=g z)->qch f l=qch g l
 | [],_=>rfl
 | z::l,h=>by rw[qch,qch,h z (yay ..),qiJ (fun y hy=>h y (yah _ hy))]
theorem qjE {f:Nat->Bool}{n i:Nat}(h:i<n):((List.range n).map f).getD i false=f i:=by simp[List.getD,h]
section routed
variable {c:Circ}{place:List Int}{rs:List Rt}
def qht (c:Circ) (rs:List Rt) (st ins:List Bool) (w:Wr):Bool:=match rs.find? (fun r=>decide (r.track=w.2/\w.1∈qal r.hops)) with
 | some r=>VL.valOf c st ins r.net
 | none=>false
theorem Routed.one (R:Routed c place rs) {a b:Rt}(ha:a∈rs) (hb:b∈rs) {t:Int}(e:a.track=b.track) (h1:t∈qal a.hops) (h2:t∈qal b.hops):a=b:=by
 obtain⟨i,hi,rfl⟩:=qaU rt0 ha;obtain⟨j,hj,rfl⟩:=qaU rt0 hb;have hp:=R.apart;rw[ybh] at hp;have ei:rs.getD i rt0=rs[i]:=by simp[List.getD,hi]
 have ej:rs.getD j rt0=rs[j]:=by simp[List.getD,hj]
 rw[ei] at e h1;rw[ej] at e h2;rcases Nat.lt_trichotomy i j with h|h|h
 ·exact absurd h2 (hp i j hi hj h e t h1)
 ·subst h;rfl
 ·exact absurd h1 (hp j i hj hi h e.symm t h2)
theorem Routed.V_in (R:Routed c place rs) {st ins:List Bool}{r:Rt}(hr:r∈rs) {t:Int}(ht:t∈qal r.hops):qht c rs st ins (t,r.track)=VL.valOf c st ins r.net:=by
 unfold qht;cases h:rs.find? (fun x=>decide (x.track=r.track/\t∈qal x.hops)) with
 | none=>rw[List.find?_eq_none] at h;exact absurd (h r hr) (by simp[ht])
 | some x=>
  have h2:=List.find?_some h;rw[decide_eq_true_iff] at h2;rw[R.one (List.mem_of_find?_eq_some h) hr h2.1 h2.2 ht]
theorem Routed.V_out {st ins:List Bool}{w:Wr}(hn : ∀ r∈rs,r.track=w.2->w.1∉qal r.hops):qht c rs st ins w=false:=by
 unfold qht;rw[List.find?_eq_none.2 (fun r hr=>by simpa using hn r hr)]
theorem Routed.reads (R:Routed c place rs) {st ins:List Bool}{i:Nat}(hi:i<(qac c).length) :
  qch (qnR (qht c rs st ins) (place.getD i 0)) (selS [15,15,15] (((qac c).getD i ce0).inputs.map fun v=>(qaM c.vars.toNat rs).getD v.toNat 0))=qch (VL.valOf c st ins) ((qac c).getD i ce0).inputs:=by
 unfold selS;rw[qlz (fun z hz=>by
  have:=yaI hz;obtain rfl:z=15:=by simpa using this
  rfl),qly]
 refine qiJ fun v hv=>?_
 obtain⟨r,hr,rfl,e2,e3⟩:=R.input hi hv;have hb:=(R.bd r hr).2.1;rw[e2,qnR,R.V_in hr e3,decide_eq_true (by omega),Bool.true_and]
theorem Routed.lut (R:Routed c place rs) {st ins:List Bool}{i:Nat}(hi:i<(qac c).length):lutE (bK c place rs) (qht c rs st ins) (place.getD i 0)=(((qac c).getD i ce0).table.toNat).testBit (qch (VL.valOf c st ins) ((qac c).getD i ce0).inputs):=by
 have hcell:=R.cell hi;have hsel:((bK c place rs).tiles.getD (place.getD i 0).toNat tc0).select=selS [15,15,15] (((qac c).getD i ce0).inputs.map fun v=>(qaM c.vars.toNat rs).getD v.toNat 0):=congrArg (fun x=>x.2.1) hcell;have htb:((bK c place rs).tiles.getD (place.getD i 0).toNat tc0).table=((qac c).getD i ce0).table:=congrArg (fun x=>x.1) hcell;rw[lutE,hsel,htb,R.reads hi]
theorem Routed.reg (R:Routed c place rs) {i:Nat}(hi:i<(qac c).length):((bK c place rs).tiles.getD (place.getD i 0).toNat tc0).reg=((qac c).getD i ce0).reg:=congrArg (fun x=>x.2.2) (R.cell hi)
theorem Routed.lut_gate (R:Routed c place rs) {st ins:List Bool}(h1:st.length=c.next.length) (h2:(ins.length:Int)=c.inputs) {i g:Nat}(hi:i<(qac c).length) (hg:g<c.gates.length) (hk:(qac c).getD i ce0=qa1 (qe4 c g)) :
  lutE (bK c place rs) (qht c rs st ins) (place.getD i 0)=VL.valOf c st ins (c.first+(g:Int)):=by
 rw[R.lut hi,hk];exact qpe R.v h1 h2 hg
theorem Routed.lut_latch (R:Routed c place rs) {st ins:List Bool}(h1:st.length=c.next.length) (h2:(ins.length:Int)=c.inputs) {i:Nat}(hi:i<c.next.length) (hi2:i<(qac c).length) (hk:(qac c).getD i ce0=qaK c i) :
  lutE (bK c place rs) (qht c rs st ins) (place.getD i 0)=litV (values c st ins) (c.next.getD i 0):=by
 rw[R.lut hi2,hk];have hn:=R.v.n _ (qae hi:c.next.getD i 0∈c.next);unfold qaX at hn;have hl:litV (values c st ins) (c.next.getD i 0)=(VL.valOf c st ins (c.next.getD i 0/2) != decide (c.next.getD i 0%2=1)):=rfl;rw[hl];unfold qaK;split
 ·have hr:qch (VL.valOf c st ins) [c.next.getD i 0/2]=if VL.valOf c st ins (c.next.getD i 0/2) then 1 else 0:=by simp[qch]
  show((2-c.next.getD i 0%2).toNat).testBit (qch (VL.valOf c st ins) [c.next.getD i 0/2])=_
  rw[hr];obtain h|h:c.next.getD i 0%2=0∨c.next.getD i 0%2=1:=by omega
  all_goals rw[h];cases VL.valOf c st ins (c.next.getD i 0/2) <;> decide
 ·rename_i h0;have e0:c.next.getD i 0/2=0:=by omega
  rw[e0,qkb];obtain h|h:c.next.getD i 0%2=0∨c.next.getD i 0%2=1:=by omega
  all_goals simp only[h,qch];decide
def RegOk (c:Circ) (place:List Int) (st regs:List Bool):Prop:=∀ i,i<c.next.length->regs.getD (place.getD i 0).toNat false=st.getD i false
theorem Routed.vok (R:Routed c place rs) {st ins regs:List Bool}(h1:st.length=c.next.length) (h2:(ins.length:Int)=c.inputs) (hg:RegOk c place st regs):VOk (bK c place rs) regs ins (qht c rs st ins):=by
 intro w hw;by_cases hn : ∀ r∈rs,r.track=w.2->w.1∉qal r.hops
 ·rw[Routed.V_out hn,wireE,R.drv_out hw hn,if_neg (by omega),if_neg (by omega),if_neg (by omega)]
 ·simp only[Classical.not_forall,Classical.not_not] at hn;obtain⟨r,hr,e1,e2⟩:=hn;obtain⟨t,u⟩:=w;simp only at e1 e2;subst e1;obtain⟨j,hj,rfl⟩:=qfj e2;rw[R.V_in hr e2,wireE];have hb:=R.bd r hr;rcases R.hop hr hj with⟨hd,hni,ht⟩|⟨hd,hni,i,hi,hnet,ht⟩|⟨g2,g5,m,hm,hnb⟩
  ·rw[if_pos hd,val_in h2 (by omega) hni];simp only[ht];congr 2;omega
  ·rw[if_neg (by rw[hd];omega),if_pos hd];simp only[ht];rw[R.reg hi];rcases qgt R.v hi with⟨k1,hk⟩|⟨-,g,hgg,hk⟩
   ·have hr2:((qac c).getD i ce0).reg=true:=by rw[hk];unfold qaK;split <;> rfl
    rw[if_pos hr2,hg i k1,<-hnet,hk,qcg,qpc h1 h2 k1]
   ·rw[if_neg (by rw[hk];simp[qa1]),R.lut_gate h1 h2 hi hgg hk,<-hnet,hk];rfl
  ·rw[if_neg (by omega),if_neg (by omega),if_pos ⟨g2,g5⟩];simp only;rw[hnb,R.V_in hr];exact ybg (qae (by omega))
theorem qiK {trk:List Int} : ∀ (n o:Nat),n<=3->o<n->(qc9 c trk n).getD o (0,false)=(trk.getD (c.outs.getD o 0/2).toNat 0,decide (c.outs.getD o 0%2=1))
 | 0,o,_,h=>by omega
 | n+1,o,h3,h=>by
  have hs:qc9 c trk (n+1)=(qc9 c trk n).set n (trk.getD (c.outs.getD n 0/2).toNat 0,decide (c.outs.getD n 0%2=1)):=by simp only[qc9,yaT,yaN,yaj,List.foldl_nil]
  rw[hs];by_cases e:n=o
  ·subst e;rw[qaf (by rw[padsT_len];omega)]
  ·rw[qbl e];exact qiK n o (by omega) (by omega)
theorem Routed.outs (R:Routed c place rs) {st ins:List Bool}:outE (bK c place rs) (qht c rs st ins)=qiV (values c st ins) c.outs++List.replicate (3-c.outs.length) false:=by
 have hlo:=R.v.lo;have hpl:(bK c place rs).pads.length=3:=padsT_len;have hz:(qaM c.vars.toNat rs).getD 0 0=15:=qe6 (by have:=R.v.vars_bd;have:=R.v.first_bd;omega) (fun r hr=>(R.bd r hr).1.1);refine qbD false (by rw[outE,yav,List.length_range,hpl,yae,qh9,yaE];omega) fun o ho=>?_
 rw[outE,yav,List.length_range] at ho;rw[outE,qjE ho];have hpd:(bK c place rs).pads=qc9 c (qaM c.vars.toNat rs) c.outs.length:=rfl;by_cases h:o<c.outs.length
 ·have hl:=R.v.o _ (qae h:c.outs.getD o 0∈c.outs);unfold qaX at hl;rw[hpd,qiK _ _ (by omega) h,qao (by rw[qh9];exact h)];have e:(qiV (values c st ins) c.outs).getD o false=(VL.valOf c st ins (c.outs.getD o 0/2) != decide (c.outs.getD o 0%2=1)):=by
   rw[qiV];simp[List.getD,h];rfl
  rw[e];congr 1;by_cases hv:1<=c.outs.getD o 0/2
  ·obtain⟨r,hr,q1,q2,q3⟩:=R.pad h hv;have hb:=(R.bd r hr).2.1;simp only[q2];rw[qnR,R.V_in hr q3,q1,decide_eq_true (by omega),Bool.true_and]
  ·have e0:c.outs.getD o 0/2=0:=by omega
   simp only[e0];rw[qkb,qnR,show(qaM c.vars.toNat rs).getD (0:Int).toNat 0=15 from hz];rfl
 ·have e1:(bK c place rs).pads.getD o (0,false)=(15,false):=by rw[hpd];exact qfi _ _ (by omega) (by omega)
  rw[e1];have e2:(qiV (values c st ins) c.outs++List.replicate (3-c.outs.length) false).getD o false=false:=by
   simp only[List.getD];rw[List.getElem?_append_right (by rw[qh9];omega),List.getElem?_replicate];split <;> rfl
  rw[e2];rfl
theorem Routed.next (R:Routed c place rs) {st ins:List Bool}(h1:st.length=c.next.length) (h2:(ins.length:Int)=c.inputs):RegOk c place (qiV (values c st ins) c.next) (nextE (bK c place rs) (qht c rs st ins)):=by
 intro i hi;have hi2:i<(qac c).length:=by simp only[qac,yae,yav,List.length_range];omega
 have hb:=R.p.get hi2;rw[nextE,qjE (by omega),R.reg hi2];rcases qgt R.v hi2 with⟨-,hk⟩|⟨k1,-⟩
 ·have hr2:((qac c).getD i ce0).reg=true:=by rw[hk];unfold qaK;split <;> rfl
  rw[hr2,Bool.true_and,show(((place.getD i 0).toNat:Nat):Int)=place.getD i 0 by omega,R.lut_latch h1 h2 hi hi2 hk,qiV];simp[List.getD,hi]
 ·omega
theorem Routed.cell_ok (R:Routed c place rs) {i:Nat}(hi:i<(qac c).length):0<=((qac c).getD i ce0).table/\((qac c).getD i ce0).table<256:=by
 rcases qgt R.v hi with⟨-,hk⟩|⟨-,g,hg,hk⟩
 ·rw[hk];unfold qaK;split <;> simp only <;> omega
 ·rw[hk];have hl:=(qcC R.v hg).2.1;have ht:(qa1 (qe4 c g)).table=((qc0 c (c.first+(g:Int)) ((qbi c).getD (c.first.toNat+g) []) (2 ^ ((qbi c).getD (c.first.toNat+g) []).length):Nat):Int):=rfl;rw[ht];have h1:=qe1 c (c.first+(g:Int)) ((qbi c).getD (c.first.toNat+g) []) (2 ^ ((qbi c).getD (c.first.toNat+g) []).length);have h2:2 ^ (2 ^ ((qbi c).getD (c.first.toNat+g) []).length)<=2 ^ (2 ^ 3):=yaY (by omega) (yaY (by omega) hl);have h3:2 ^ (2 ^ 3)=256:=by decide
  omega
theorem qg1:qgX 15=true:=by decide
theorem qlA {u:Int}(h:0<=u/\u<=7):qgX u=true:=by simp[qgX,h.1,h.2]
theorem Routed.ok (R:Routed c place rs):(bK c place rs).ok:=by
 have hT:Tsz (bK c place rs).tiles:=qkj (qei Tsz.empty (fun x hx=>(qc8 R.v x hx).1) R.p _ (yad _)) (fun r hr=>⟨by have:=(R.bd r hr).1;omega,(R.bd r hr).1.2,(R.bd r hr).2.1.1,(R.bd r hr).2.1.2,(R.bd r hr).2.2.1⟩) _;have hpl:(bK c place rs).pads.length=3:=padsT_len;have hlo:=R.v.lo;have hz:(qaM c.vars.toNat rs).getD 0 0=15:=qe6 (by have:=R.v.vars_bd;have:=R.v.first_bd;omega) (fun r hr=>(R.bd r hr).1.1);have hpd:(bK c place rs).pads=qc9 c (qaM c.vars.toNat rs) c.outs.length:=rfl;refine⟨hT.1,⟨hpl,fun o ho=>?_⟩,fun t ht=>?_⟩
 ·rw[hpl] at ho;rw[hpd];by_cases h:o<c.outs.length
  ·rw[qiK _ _ (by omega) h];have hl:=R.v.o _ (qae h:c.outs.getD o 0∈c.outs);unfold qaX at hl;by_cases hv:1<=c.outs.getD o 0/2
   ·obtain⟨r,hr,q1,q2,q3⟩:=R.pad h hv;simp only[q2];exact qlA (R.bd r hr).2.1
   ·have e0:c.outs.getD o 0/2=0:=by omega
    simp only[e0];rw[show(qaM c.vars.toNat rs).getD (0:Int).toNat 0=15 from hz];exact qg1
  ·rw[qfi _ _ (by omega) ho];exact qg1
 ·rw[hT.1] at ht;have hsz:=hT.get ht;rw[Tcfg.ok_iff];have hdr : ∀ u:Nat,u<8->qgY (t:Int) (drv (bK c place rs) ((t:Int),(u:Int)))=true:=by
   intro u hu;by_cases hn : ∀ r∈rs,r.track=(u:Int)->(t:Int)∉qal r.hops
   ·rw[R.drv_out (w:=((t:Int),(u:Int))) ⟨⟨by simp only;omega,by simp only;omega⟩,by simp only;omega,by simp only;omega⟩ hn];simp[qgY]
   ·simp only[Classical.not_forall,Classical.not_not] at hn;obtain⟨r,hr,e1,e2⟩:=hn;obtain⟨j,hj,e3⟩:=qfj e2;have hb:=R.bd r hr;have hi1:=R.v.i1;rw[<-e1,<-e3];unfold qgY;rw[decide_eq_true_eq];rcases R.hop hr hj with⟨hd,hni,h3⟩|⟨hd,-,-⟩|⟨g2,g5,m,hm,hnb⟩
    ·right;right;right;rw[hd,h3];exact⟨rfl,by omega,by omega⟩
    ·right;left;exact hd
    ·right;right;left;refine⟨g2,g5,?_⟩;rw[hnb];exact(hb.2.2.1 _ (qae (by omega))).1
  have hdr2 : ∀ j,j<((bK c place rs).tiles.getD t tc0).drive.length->qgY (t:Int) (((bK c place rs).tiles.getD t tc0).drive.getD j 0)=true:=fun j hj=>hdr j (by rw[hsz.2] at hj;exact hj)
  by_cases hc : ∃ i,i<(qac c).length/\(place.getD i 0).toNat=t
  ·obtain⟨i,hi,rfl⟩:=hc;have hcell:=R.cell hi;have hsel:((bK c place rs).tiles.getD (place.getD i 0).toNat tc0).select=selS [15,15,15] (((qac c).getD i ce0).inputs.map fun v=>(qaM c.vars.toNat rs).getD v.toNat 0):=congrArg (fun x=>x.2.1) hcell;have htb:((bK c place rs).tiles.getD (place.getD i 0).toNat tc0).table=((qac c).getD i ce0).table:=congrArg (fun x=>x.1) hcell;have hco:=R.cell_ok hi;refine⟨by rw[htb];exact hco,hsz.1,hsz.2,fun j hj=>?_,hdr2⟩;have hm:((bK c place rs).tiles.getD (place.getD i 0).toNat tc0).select.getD j 0∈((bK c place rs).tiles.getD (place.getD i 0).toNat tc0).select:=qae hj;generalize ((bK c place rs).tiles.getD (place.getD i 0).toNat tc0).select.getD j 0=s at *
   rw[hsel] at hm;rcases qnd hm with h|rfl
   ·obtain⟨v,hv,rfl⟩:=List.mem_map.1 h;obtain⟨r,hr,q1,q2,q3⟩:=R.input hi hv;rw[q2];exact qlA (R.bd r hr).2.1
   ·exact qg1
  ·have hbl:=R.blank ht (fun i hi e=>hc ⟨i,hi,e⟩);have hsel:((bK c place rs).tiles.getD t tc0).select=[15,15,15]:=congrArg (fun x=>x.2.1) hbl;have htb:((bK c place rs).tiles.getD t tc0).table=0:=congrArg (fun x=>x.1) hbl;refine⟨by rw[htb];omega,hsz.1,hsz.2,fun j hj=>?_,hdr2⟩;rw[hsel] at hj ⊢;have hj3:j<3:=hj;obtain rfl|rfl|rfl:j=0∨j=1∨j=2:=by omega
   all_goals rfl
def regsF (k:Kcfg) (V:Nat->Wr->Bool):Nat->List Bool
 | 0=>List.replicate 25 false
 | i+1=>nextE k (V i)
def runV (c:Circ) (rs:List Rt) (rows:List (List Bool)) (i:Nat):Wr->Bool:=qht c rs (qgN c rows i) (rows.getD i [])
theorem qiL (c:Circ) (rows:List (List Bool)) (i:Nat):(qgN c rows i).length=c.next.length:=by cases i <;> simp[qgN,qiV]
theorem Routed.regs (R:Routed c place rs) {rows:List (List Bool)}(h : ∀ r∈rows,(r.length:Int)=c.inputs) : ∀ i,i<=rows.length->RegOk c place (qgN c rows i) (regsF (bK c place rs) (runV c rs rows) i)
 | 0,_=>fun i hi=>by
  have e : ∀ n j:Nat,(List.replicate n false).getD j false=false:=fun n j=>by
   rw[List.getD_eq_getElem?_getD,List.getElem?_replicate];split <;> rfl
  rw[regsF,qgN,e,e]
 | i+1,hi=>R.next (qiL c rows i) (h _ (qae (by omega)))
theorem Routed.run (R:Routed c place rs) {rows:List (List Bool)}(h : ∀ r∈rows,(r.length:Int)=c.inputs) {i:Nat}(hi:i<rows.length):VOk (bK c place rs) (regsF (bK c place rs) (runV c rs rows) i) (rows.getD i []) (runV c rs rows i):=
 R.vok (qiL c rows i) (h _ (qae hi)) (R.regs h i (by omega))
end routed

theorem qnS {c:Circ}(hc:c.Valid) : ∀ x∈qac c,∀ v∈x.inputs,0<=v/\v<c.vars:=by
 intro x hx v hv;have hf:=hc.first_bd;have hvv:c.vars=c.first+(c.gates.length:Int):=rfl
 rcases List.mem_append.1 hx with h|h
 ·obtain⟨i,hi,rfl⟩:=List.mem_map.1 h;have hi':i<c.next.length:=List.mem_range.1 hi;have hn:=hc.n _ (qae hi':c.next.getD i 0∈c.next);unfold qaX at hn;unfold qaK at hv;split at hv
  ·rw[List.mem_singleton.1 hv];omega
  ·cases hv
 ·obtain⟨l,hl,rfl⟩:=List.mem_map.1 h;obtain⟨m,hm,rfl⟩:=(qcS hc).each l hl;have:=(qcC hc hm).2.2 v hv;omega
theorem qpF {c:Circ}(hc:c.Valid) {cells:List Cel}{place:List Int}(hp:PlaceOk cells.length place) {rs:List Rt}(h:qcv c cells place qdG=some rs) :
  (∀ r∈rs,0<=r.net/\r.net<c.vars/\0<=r.track/\r.track<=7/\∀ h∈r.hops,0<=h.1/\h.1<=24)/\∀ r∈rs,r.hops.length<=1000:=by
 have hf:=hc.first_bd;have hv:=hc.vars_bd;have hrc:qcv c cells place qdG=(qcF c cells place qdG (c.vars.toNat-1)).map (·.2):=rfl;rw[hrc] at h;obtain⟨⟨busy,out⟩,h1,rfl⟩:=Option.map_eq_some_iff.1 h;have hR:=qgl hc hp free0_ok _ h1;constructor
 ·intro r hr;have e:=hR.each r hr;have e1:=e.net;have e2:=e.track;exact⟨by omega,by omega,by omega,by omega,e.tree.rng⟩
 ·intro r hr;have:=qcT (hR.each r hr).tree;omega
noncomputable def qiM (c:Circ):Option Kcfg:=if c.Valid then(qcv c (qac c) (qb8 c (qac c)) qdG).map (qhk c (qac c) (qb8 c (qac c))) else none
def kz:Kcfg:=⟨[],[]⟩
theorem Tryz.c_sConfigure (c:Circ):Pure prog 50 [dC c] (.tup [dK ((qiM c).getD kz),dB (qiM c).isSome]):=by
 have hcv:=c_sCircuitValid c;unfold qiM;by_cases hc:c.Valid
 ·rw[if_pos hc];rw[decide_eq_true hc] at hcv;have h1:=c_l6Cells c hc;have hcl:=qbM hc;have hci:=qlf hc;have hcx:=qnS hc;generalize qac c=cells at *
  have h2:=c_l7Place c hc cells (by omega) hci;have hp:=qiu (c:=c) (cells:=cells) (by omega);generalize qb8 c cells=place at *
  have h3:=c_l8Route c hc cells (by omega) hci place hp;cases hro:qcv c cells place qdG with
  | none=>
   rw[hro] at h3;refine qck (E:=env 0) tok rfl 1000 func50 rfl rfl ntmps50 (by simp) fun ok=>?_
   simp only[go_sem,seval,-List.reduceReplicate] at ok
   repeat' first|assumption|(simp (disch:=first|assumption|omega|(simp;done)|(simp;omega)) only[go_sem,seval,-List.reduceReplicate])|(with_reducible first|apply And.intro|intro _)|(refine qad hcv ?_)|(refine qad h1 ?_)|(refine qbC h2 ?_)|(refine qbC h3 ?_)|((try rw[qaa]);omega)
   all_goals first|rfl|simp[wk2,wkL,wk1,kz]
  | some rs=>
   rw[hro] at h3;obtain⟨hr1,hr2⟩:=qpF hc hp hro;have h4:=c_l9Build c hc cells (by omega) hci place hp hcx rs hr1 hr2;refine qck (E:=env 0) tok rfl 1000 func50 rfl rfl ntmps50 (by simp) fun ok=>?_
   simp only[go_sem,seval,-List.reduceReplicate] at ok
   repeat' first|assumption|(simp (disch:=first|assumption|omega|(simp;done)|(simp;omega)) only[go_sem,seval,-List.reduceReplicate])|(with_reducible first|apply And.intro|intro _)|(refine qad hcv ?_)|(refine qad h1 ?_)|(refine qbC h2 ?_)|(refine qbC h3 ?_)|(refine qbX h4 ?_)|((try rw[qaa]);omega)
   all_goals first|rfl|simp[wk2,wkL,wk1]
 ·rw[if_neg hc];rw[decide_eq_false hc] at hcv;refine qck (E:=env 0) tok rfl 1000 func50 rfl rfl ntmps50 (by simp) fun ok=>?_
  simp only[go_sem,seval,-List.reduceReplicate] at ok
  repeat' first|assumption|(simp (disch:=first|assumption|omega|(simp;done)|(simp;omega)) only[go_sem,seval,-List.reduceReplicate])|(with_reducible first|apply And.intro|intro _)|(refine qad hcv ?_)|((try rw[qaa]);omega)
  all_goals first|rfl|simp[wk2,wkL,wk1,kz]
end Go.Proofs
