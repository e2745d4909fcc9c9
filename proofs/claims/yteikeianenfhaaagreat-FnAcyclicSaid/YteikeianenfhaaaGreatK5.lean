/- Contracts, plain definitions and lemmas. Conditions: none; lemmas. -/
import Derived.Test.YteikeianenfhaaaGreatK8
import Derived.Test.YteikeianenfhaaaGreatC11
import Derived.Test.YteikeianenfhaaaGreatF3
import Derived.Test.YteikeianenfhaaaGreatK4
import Derived.Test.YteikeianenfhaaaGreatC79
import Derived.Test.YteikeianenfhaaaGreatK1
set_option maxRecDepth 20000
set_option linter.unusedSimpArgs false
set_option linter.unusedVariables false
set_option maxHeartbeats 2000000
namespace Go.Proofs
set_option linter.defProp false
open Go Go.VL Tryz
variable {i:Nat}{t:Int}{st ins:List Bool}{rows:List (List Bool)}
def qop (V:Wr->Bool) (t s:Int):Bool:=decide (s≠15)&&V (t,s)
def lutE (k:Kcfg) (V:Wr->Bool) (t:Int):Bool:=((k.tiles.getD t.toNat tc0).table.toNat).testBit (qcm (qop V t) (k.tiles.getD t.toNat tc0).select)
def wireE (k:Kcfg) (regs ins:List Bool) (V:Wr->Bool) (w:Wr):Bool:=
 if drv k w=6 then ins.getD (w.1/5).toNat false
 else if drv k w=1 then(if(k.tiles.getD w.1.toNat tc0).reg then regs.getD w.1.toNat false else lutE k V w.1)
 else if 2<=drv k w/\drv k w<=5 then V (nb w.1 (drv k w),w.2) else false
def VOk (k:Kcfg) (regs ins:List Bool) (V:Wr->Bool):Prop:=∀ w,wOk w->V w=wireE k regs ins V w
def outE (k:Kcfg) (V:Wr->Bool):List Bool:=(List.range k.pads.length).map fun(o:Nat)=>qop V ((o:Int)*5+4) (k.pads.getD o (0,false)).1 != (k.pads.getD o (0,false)).2
def nextE (k:Kcfg) (V:Wr->Bool):List Bool:=(List.range 25).map fun(t:Nat)=>(k.tiles.getD t tc0).reg&&lutE k V (t:Int)
def qlU {f:Int->Bool}{g:Int->Int} : ∀ l:List Int,qcm f (l.map g)=qcm (fun z=>f (g z)) l
 | []=>rfl
 | z::l=>by rw[yaL,qcm,qcm,qlU l]
def qj0 {f:Int->Bool} : ∀ {l:List Int},(∀ z∈l,f z=false)->qcm f l=0
 | [],_=>rfl
 | z::l,h=>by
  rw[qcm,h z (yaC ..),qj0 (fun y hy=>h y (yaj _ hy))];rfl
def qlV {f:Int->Bool}{m:List Int}(h : ∀ z∈m,f z=false) : ∀ l:List Int,qcm f (l++m)=qcm f l
 | []=>qj0 h
 | z::l=>by rw[List.cons_append,qcm,qcm,qlV h l]
def qi6 {f g:Int->Bool} : ∀ {l:List Int},(∀ z∈l,f z=g z)->qcm f l=qcm g l
 | [],_=>rfl
 | z::l,h=>by rw[qcm,qcm,h z (yaC ..),qi6 (fun y hy=>h y (yaj _ hy))]
def qj1 {f:Nat->Bool}{n:Nat}(h:i<n):((List.range n).map f).getD i false=f i:=by simp[List.getD,h]
section routed
variable {c:Circ}{place:List Int}{rs:List Rt}
def qhH (c:Circ) (rs:List Rt) (st ins:List Bool) (w:Wr):Bool:=match rs.find? (fun r=>decide (r.track=w.2/\w.1∈qan r.hops)) with
 | some r=>VL.valOf c st ins r.net
 | none=>false
def Routed.one (R:Routed c place rs) {a b:Rt}(ha:a∈rs) (hb:b∈rs) (e:a.track=b.track) (h1:t∈qan a.hops) (h2:t∈qan b.hops):a=b:=by
 obtain⟨i,hi,rfl⟩:=qa4 rt0 ha;obtain⟨j,hj,rfl⟩:=qa4 rt0 hb;have hp:=R.apart;rw[ybn] at hp;have ei:rs.getD i rt0=rs[i]:=by simp[List.getD,hi]
 have ej:rs.getD j rt0=rs[j]:=by simp[List.getD,hj]
 rw[ei] at e h1;rw[ej] at e h2;rcases Nat.lt_trichotomy i j with h|h|h
 ·exact absurd h2 (hp i j hi hj h e t h1)
 ·subst h;rfl
 ·exact absurd h1 (hp j i hj hi h e.symm t h2)
def Routed.V_in (R:Routed c place rs) {r:Rt}(hr:r∈rs) (ht:t∈qan r.hops):qhH c rs st ins (t,r.track)=VL.valOf c st ins r.net:=by
 unfold qhH;cases h:rs.find? (fun x=>decide (x.track=r.track/\t∈qan x.hops)) with
 | none=>rw[List.find?_eq_none] at h;exact absurd (h r hr) (by simp[ht])
 | some x=>
  have h2:=List.find?_some h;rw[decide_eq_true_iff] at h2;rw[R.one (List.mem_of_find?_eq_some h) hr h2.1 h2.2 ht]
def Routed.V_out {w:Wr}(hn : ∀ r∈rs,r.track=w.2->w.1∉qan r.hops):qhH c rs st ins w=false:=by
 unfold qhH;rw[List.find?_eq_none.2 (fun r hr=>by simpa using hn r hr)]
def Routed.reads (R:Routed c place rs) (hi:i<(qaf c).length) :
  qcm (qop (qhH c rs st ins) (place.getD i 0)) (selS [15,15,15] (((qaf c).getD i ce0).inputs.map fun v=>(qaT c.vars.toNat rs).getD v.toNat 0))=qcm (VL.valOf c st ins) ((qaf c).getD i ce0).inputs:=by
 unfold selS;rw[qlV (fun z hz=>by
  have:=yaE hz;obtain rfl:z=15:=by simpa using this
  rfl),qlU]
 refine qi6 fun v hv=>?_
 obtain⟨r,hr,rfl,e2,e3⟩:=R.input hi hv;have hb:=(R.bd r hr).2.1;rw[e2,qop,R.V_in hr e3,decide_eq_true (by omega),Bool.true_and]
def Routed.lut (R:Routed c place rs) (hi:i<(qaf c).length):lutE (bK c place rs) (qhH c rs st ins) (place.getD i 0)=(((qaf c).getD i ce0).table.toNat).testBit (qcm (VL.valOf c st ins) ((qaf c).getD i ce0).inputs):=by
 have hcell:=R.cell hi;have hsel:((bK c place rs).tiles.getD (place.getD i 0).toNat tc0).select=selS [15,15,15] (((qaf c).getD i ce0).inputs.map fun v=>(qaT c.vars.toNat rs).getD v.toNat 0):=congrArg (fun x=>x.2.1) hcell;have htb:((bK c place rs).tiles.getD (place.getD i 0).toNat tc0).table=((qaf c).getD i ce0).table:=congrArg (fun x=>x.1) hcell;rw[lutE,hsel,htb,R.reads hi]
def Routed.reg (R:Routed c place rs) {i:Nat}(hi:i<(qaf c).length):((bK c place rs).tiles.getD (place.getD i 0).toNat tc0).reg=((qaf c).getD i ce0).reg:=congrArg (fun x=>x.2.2) (R.cell hi)
def Routed.lut_gate (R:Routed c place rs) (h1:st.length=c.next.length) (h2:(ins.length:Int)=c.inputs) {g:Nat}(hi:i<(qaf c).length) (hg:g<c.gates.length) (hk:(qaf c).getD i ce0=qba (qfb c g)) :
  lutE (bK c place rs) (qhH c rs st ins) (place.getD i 0)=VL.valOf c st ins (c.first+(g:Int)):=by
 rw[R.lut hi,hk];exact qpI R.v h1 h2 hg
def Routed.lut_latch (R:Routed c place rs) (h1:st.length=c.next.length) (h2:(ins.length:Int)=c.inputs) (hi:i<c.next.length) (hi2:i<(qaf c).length) (hk:(qaf c).getD i ce0=qaQ c i) :
  lutE (bK c place rs) (qhH c rs st ins) (place.getD i 0)=litV (values c st ins) (c.next.getD i 0):=by
 rw[R.lut hi2,hk];have hn:=R.v.n _ (qae hi:c.next.getD i 0∈c.next);unfold qa7 at hn;have hl:litV (values c st ins) (c.next.getD i 0)=(VL.valOf c st ins (c.next.getD i 0/2) != decide (c.next.getD i 0%2=1)):=rfl;rw[hl];unfold qaQ;split
 ·have hr:qcm (VL.valOf c st ins) [c.next.getD i 0/2]=if VL.valOf c st ins (c.next.getD i 0/2) then 1 else 0:=by simp[qcm]
  show((2-c.next.getD i 0%2).toNat).testBit (qcm (VL.valOf c st ins) [c.next.getD i 0/2])=_
  rw[hr];obtain h|h:c.next.getD i 0%2=0∨c.next.getD i 0%2=1:=by omega
  all_goals rw[h];cases VL.valOf c st ins (c.next.getD i 0/2) <;> decide
 ·rename_i h0;have e0:c.next.getD i 0/2=0:=by omega
  rw[e0,qkw];obtain h|h:c.next.getD i 0%2=0∨c.next.getD i 0%2=1:=by omega
  all_goals simp only[h,qcm];decide
def RegOk (c:Circ) (place:List Int) (st regs:List Bool):Prop:=∀ i,i<c.next.length->regs.getD (place.getD i 0).toNat false=st.getD i false
def Routed.vok (R:Routed c place rs) {regs:List Bool}(h1:st.length=c.next.length) (h2:(ins.length:Int)=c.inputs) (hg:RegOk c place st regs):VOk (bK c place rs) regs ins (qhH c rs st ins):=by
 intro w hw;by_cases hn : ∀ r∈rs,r.track=w.2->w.1∉qan r.hops
 ·rw[Routed.V_out hn,wireE,R.drv_out hw hn,if_neg (by omega),if_neg (by omega),if_neg (by omega)]
 ·simp only[Classical.not_forall,Classical.not_not] at hn;obtain⟨r,hr,e1,e2⟩:=hn;obtain⟨t,u⟩:=w;simp only at e1 e2;subst e1;obtain⟨j,hj,rfl⟩:=qfv e2;rw[R.V_in hr e2,wireE];have hb:=R.bd r hr;rcases R.hop hr hj with⟨hd,hni,ht⟩|⟨hd,hni,i,hi,hnet,ht⟩|⟨g2,g5,m,hm,hnb⟩
  ·rw[if_pos hd,val_in h2 (by omega) hni];simp only[ht];congr 2;omega
  ·rw[if_neg (by rw[hd];omega),if_pos hd];simp only[ht];rw[R.reg hi];rcases qgH R.v hi with⟨k1,hk⟩|⟨-,g,hgg,hk⟩
   ·have hr2:((qaf c).getD i ce0).reg=true:=by rw[hk];unfold qaQ;split <;> rfl
    rw[if_pos hr2,hg i k1,<-hnet,hk,qcl,qpG h1 h2 k1]
   ·rw[if_neg (by rw[hk];simp[qba]),R.lut_gate h1 h2 hi hgg hk,<-hnet,hk];rfl
  ·rw[if_neg (by omega),if_neg (by omega),if_pos ⟨g2,g5⟩];simp only;rw[hnb,R.V_in hr];exact ybm (qae (by omega))
def qi7 {trk:List Int} : ∀ (n o:Nat),n<=3->o<n->(qdf c trk n).getD o (0,false)=(trk.getD (c.outs.getD o 0/2).toNat 0,decide (c.outs.getD o 0%2=1))
 | 0,o,_,h=>by omega
 | n+1,o,h3,h=>by
  have hs:qdf c trk (n+1)=(qdf c trk n).set n (trk.getD (c.outs.getD n 0/2).toNat 0,decide (c.outs.getD n 0%2=1)):=by simp only[qdf,yaT,yaO,yan,List.foldl_nil]
  rw[hs];by_cases e:n=o
  ·subst e;rw[qab (by rw[padsT_len];omega)]
  ·rw[qbs e];exact qi7 n o (by omega) (by omega)
def Routed.outs (R:Routed c place rs) {st ins:List Bool}:outE (bK c place rs) (qhH c rs st ins)=qjh (values c st ins) c.outs++List.replicate (3-c.outs.length) false:=by
 have hlo:=R.v.lo;have hpl:(bK c place rs).pads.length=3:=padsT_len;have hz:(qaT c.vars.toNat rs).getD 0 0=15:=qff (by have:=R.v.vars_bd;have:=R.v.first_bd;omega) (fun r hr=>(R.bd r hr).1.1);refine qeD false (by rw[outE,yah,List.length_range,hpl,yaf,qit,yaH];omega) fun o ho=>?_
 rw[outE,yah,List.length_range] at ho;rw[outE,qj1 ho];have hpd:(bK c place rs).pads=qdf c (qaT c.vars.toNat rs) c.outs.length:=rfl;by_cases h:o<c.outs.length
 ·have hl:=R.v.o _ (qae h:c.outs.getD o 0∈c.outs);unfold qa7 at hl;rw[hpd,qi7 _ _ (by omega) h,qap (by rw[qit];exact h)];have e:(qjh (values c st ins) c.outs).getD o false=(VL.valOf c st ins (c.outs.getD o 0/2) != decide (c.outs.getD o 0%2=1)):=by
   rw[qjh];simp[List.getD,h];rfl
  rw[e];congr 1;by_cases hv:1<=c.outs.getD o 0/2
  ·obtain⟨r,hr,q1,q2,q3⟩:=R.pad h hv;have hb:=(R.bd r hr).2.1;simp only[q2];rw[qop,R.V_in hr q3,q1,decide_eq_true (by omega),Bool.true_and]
  ·have e0:c.outs.getD o 0/2=0:=by omega
   simp only[e0];rw[qkw,qop,show(qaT c.vars.toNat rs).getD (0:Int).toNat 0=15 from hz];rfl
 ·have e1:(bK c place rs).pads.getD o (0,false)=(15,false):=by rw[hpd];exact qfu _ _ (by omega) (by omega)
  rw[e1];have e2:(qjh (values c st ins) c.outs++List.replicate (3-c.outs.length) false).getD o false=false:=by
   simp only[List.getD];rw[List.getElem?_append_right (by rw[qit];omega),List.getElem?_replicate];split <;> rfl
  rw[e2];rfl
def Routed.next (R:Routed c place rs) {st ins:List Bool}(h1:st.length=c.next.length) (h2:(ins.length:Int)=c.inputs):RegOk c place (qjh (values c st ins) c.next) (nextE (bK c place rs) (qhH c rs st ins)):=by
 intro i hi;have hi2:i<(qaf c).length:=by simp only[qaf,yaf,yah,List.length_range];omega
 have hb:=R.p.get hi2;rw[nextE,qj1 (by omega),R.reg hi2];rcases qgH R.v hi2 with⟨-,hk⟩|⟨k1,-⟩
 ·have hr2:((qaf c).getD i ce0).reg=true:=by rw[hk];unfold qaQ;split <;> rfl
  rw[hr2,Bool.true_and,show(((place.getD i 0).toNat:Nat):Int)=place.getD i 0 by omega,R.lut_latch h1 h2 hi hi2 hk,qjh];simp[List.getD,hi]
 ·omega
def Routed.cell_ok (R:Routed c place rs) (hi:i<(qaf c).length):0<=((qaf c).getD i ce0).table/\((qaf c).getD i ce0).table<256:=by
 rcases qgH R.v hi with⟨-,hk⟩|⟨-,g,hg,hk⟩
 ·rw[hk];unfold qaQ;split <;> simp only <;> omega
 ·rw[hk];have hl:=(qcH R.v hg).2.1;have ht:(qba (qfb c g)).table=((qdd c (c.first+(g:Int)) ((qbq c).getD (c.first.toNat+g) []) (2 ^ ((qbq c).getD (c.first.toNat+g) []).length):Nat):Int):=rfl;rw[ht];have h1:=qe8 c (c.first+(g:Int)) ((qbq c).getD (c.first.toNat+g) []) (2 ^ ((qbq c).getD (c.first.toNat+g) []).length);have h2:2 ^ (2 ^ ((qbq c).getD (c.first.toNat+g) []).length)<=2 ^ (2 ^ 3):=yaY (by omega) (yaY (by omega) hl);have h3:2 ^ (2 ^ 3)=256:=by decide
  omega
def qhf:qcf 15=true:=by decide
def qlW {u:Int}(h:0<=u/\u<=7):qcf u=true:=by simp[qcf,h.1,h.2]
def Routed.ok (R:Routed c place rs):(bK c place rs).ok:=by
 have hT:Tsz (bK c place rs).tiles:=qiQ (qdN Tsz.empty (fun x hx=>(qdg R.v x hx).1) R.p _ (yad _)) (fun r hr=>⟨by have:=(R.bd r hr).1;omega,(R.bd r hr).1.2,(R.bd r hr).2.1.1,(R.bd r hr).2.1.2,(R.bd r hr).2.2.1⟩) _;have hpl:(bK c place rs).pads.length=3:=padsT_len;have hlo:=R.v.lo;have hz:(qaT c.vars.toNat rs).getD 0 0=15:=qff (by have:=R.v.vars_bd;have:=R.v.first_bd;omega) (fun r hr=>(R.bd r hr).1.1);have hpd:(bK c place rs).pads=qdf c (qaT c.vars.toNat rs) c.outs.length:=rfl;refine⟨hT.1,⟨hpl,fun o ho=>?_⟩,fun t ht=>?_⟩
 ·rw[hpl] at ho;rw[hpd];by_cases h:o<c.outs.length
  ·rw[qi7 _ _ (by omega) h];have hl:=R.v.o _ (qae h:c.outs.getD o 0∈c.outs);unfold qa7 at hl;by_cases hv:1<=c.outs.getD o 0/2
   ·obtain⟨r,hr,q1,q2,q3⟩:=R.pad h hv;simp only[q2];exact qlW (R.bd r hr).2.1
   ·have e0:c.outs.getD o 0/2=0:=by omega
    simp only[e0];rw[show(qaT c.vars.toNat rs).getD (0:Int).toNat 0=15 from hz];exact qhf
  ·rw[qfu _ _ (by omega) ho];exact qhf
 ·rw[hT.1] at ht;have hsz:=hT.get ht;rw[Tcfg.ok_iff];have hdr : ∀ u:Nat,u<8->qaV (t:Int) (drv (bK c place rs) ((t:Int),(u:Int)))=true:=by
   intro u hu;by_cases hn : ∀ r∈rs,r.track=(u:Int)->(t:Int)∉qan r.hops
   ·rw[R.drv_out (w:=((t:Int),(u:Int))) ⟨⟨by simp only;omega,by simp only;omega⟩,by simp only;omega,by simp only;omega⟩ hn];simp[qaV]
   ·simp only[Classical.not_forall,Classical.not_not] at hn;obtain⟨r,hr,e1,e2⟩:=hn;obtain⟨j,hj,e3⟩:=qfv e2;have hb:=R.bd r hr;have hi1:=R.v.i1;rw[<-e1,<-e3];unfold qaV;rw[decide_eq_true_eq];rcases R.hop hr hj with⟨hd,hni,h3⟩|⟨hd,-,-⟩|⟨g2,g5,m,hm,hnb⟩
    ·right;right;right;rw[hd,h3];exact⟨rfl,by omega,by omega⟩
    ·right;left;exact hd
    ·right;right;left;refine⟨g2,g5,?_⟩;rw[hnb];exact(hb.2.2.1 _ (qae (by omega))).1
  have hdr2 : ∀ j,j<((bK c place rs).tiles.getD t tc0).drive.length->qaV (t:Int) (((bK c place rs).tiles.getD t tc0).drive.getD j 0)=true:=fun j hj=>hdr j (by rw[hsz.2] at hj;exact hj)
  by_cases hc : ∃ i,i<(qaf c).length/\(place.getD i 0).toNat=t
  ·obtain⟨i,hi,rfl⟩:=hc;have hcell:=R.cell hi;have hsel:((bK c place rs).tiles.getD (place.getD i 0).toNat tc0).select=selS [15,15,15] (((qaf c).getD i ce0).inputs.map fun v=>(qaT c.vars.toNat rs).getD v.toNat 0):=congrArg (fun x=>x.2.1) hcell;have htb:((bK c place rs).tiles.getD (place.getD i 0).toNat tc0).table=((qaf c).getD i ce0).table:=congrArg (fun x=>x.1) hcell;have hco:=R.cell_ok hi;refine⟨by rw[htb];exact hco,hsz.1,hsz.2,fun j hj=>?_,hdr2⟩;have hm:((bK c place rs).tiles.getD (place.getD i 0).toNat tc0).select.getD j 0∈((bK c place rs).tiles.getD (place.getD i 0).toNat tc0).select:=qae hj;generalize ((bK c place rs).tiles.getD (place.getD i 0).toNat tc0).select.getD j 0=s at *
   rw[hsel] at hm;rcases qnE hm with h|rfl
   ·obtain⟨v,hv,rfl⟩:=List.mem_map.1 h;obtain⟨r,hr,q1,q2,q3⟩:=R.input hi hv;rw[q2];exact qlW (R.bd r hr).2.1
   ·exact qhf
  ·have hbl:=R.blank ht (fun i hi e=>hc ⟨i,hi,e⟩);have hsel:((bK c place rs).tiles.getD t tc0).select=[15,15,15]:=congrArg (fun x=>x.2.1) hbl;have htb:((bK c place rs).tiles.getD t tc0).table=0:=congrArg (fun x=>x.1) hbl;refine⟨by rw[htb];omega,hsz.1,hsz.2,fun j hj=>?_,hdr2⟩;rw[hsel] at hj ⊢;have hj3:j<3:=hj;obtain rfl|rfl|rfl:j=0∨j=1∨j=2:=by omega
   all_goals rfl
def regsF (k:Kcfg) (V:Nat->Wr->Bool):Nat->List Bool
 | 0=>List.replicate 25 false
 | i+1=>nextE k (V i)
def runV (c:Circ) (rs:List Rt) (rows:List (List Bool)) (i:Nat):Wr->Bool:=qhH c rs (qgX c rows i) (rows.getD i [])
def qi8 (c:Circ) (rows:List (List Bool)) (i:Nat):(qgX c rows i).length=c.next.length:=by cases i <;> simp[qgX,qjh]
def Routed.regs (R:Routed c place rs) (h : ∀ r∈rows,(r.length:Int)=c.inputs) : ∀ i,i<=rows.length->RegOk c place (qgX c rows i) (regsF (bK c place rs) (runV c rs rows) i)
 | 0,_=>fun i hi=>by
  have e : ∀ n j:Nat,(List.replicate n false).getD j false=false:=fun n j=>by
   rw[List.getD_eq_getElem?_getD,List.getElem?_replicate];split <;> rfl
  rw[regsF,qgX,e,e]
 | i+1,hi=>R.next (qi8 c rows i) (h _ (qae (by omega)))
def Routed.run (R:Routed c place rs) (h : ∀ r∈rows,(r.length:Int)=c.inputs) (hi:i<rows.length):VOk (bK c place rs) (regsF (bK c place rs) (runV c rs rows) i) (rows.getD i []) (runV c rs rows i):=
 R.vok (qi8 c rows i) (h _ (qae hi)) (R.regs h i (by omega))
end routed

def qlX {c:Circ}(hc:c.Valid) {place:List Int}(hp:PlaceOk (qaf c).length place) {busy0:List (List Bool)}(hb:BusyOk busy0) {rs:List Rt}(h:qcz c (qaf c) place busy0=some rs):Routed c place rs/\rs.length<=1000/\∀ r∈rs,r.hops.length<=1000:=by
 have hf:=hc.first_bd;have hv:=hc.vars_bd;have hrc:qcz c (qaf c) place busy0=(qcK c (qaf c) place busy0 (c.vars.toNat-1)).map (·.2):=rfl;rw[hrc] at h;obtain⟨⟨busy,out⟩,h1,rfl⟩:=Option.map_eq_some_iff.1 h;have hR:=qgy hc hp hb _ h1;refine⟨⟨hc,hp,busy0,busy,hR⟩,?_,fun r hr=>?_⟩
 ·have h2:=(qiY (c:=c) (cells:=qaf c) (place:=place) (c.vars.toNat-1)).2.2;rw[<-hR.nets,yah] at h2;show out.length<=1000
  omega
 ·have:=(hR.each r hr).len;omega
noncomputable def qb4 (c:Circ) (list:List (Int×Int)):Option Kcfg:=open Classical in if c.Valid/\qmK list then(qcz c (qaf c) (qcq c (qaf c)) (qdP list)).map (qhy c (qaf c) (qcq c (qaf c))) else none
def qlY {c:Circ}{list:List (Int×Int)}{k:Kcfg}(h:qb4 c list=some k):c.Valid/\qmK list/\∃ rs,Routed c (qcq c (qaf c)) rs/\qcz c (qaf c) (qcq c (qaf c)) (qdP list)=some rs/\k=bK c (qcq c (qaf c)) rs:=by
 classical
 unfold qb4 at h;split at h
 ·rename_i hv;obtain⟨rs,h1,rfl⟩:=Option.map_eq_some_iff.1 h;have hcl:=qbA hv.1;exact⟨hv.1,hv.2,rs,(qlX hv.1 (qgu (by omega)) (qkG list) h1).1,h1,rfl⟩
 ·cases h
def Tryz.c_ConfigureAround (c:Circ) (list:List (Int×Int)):Pure prog 13 [dC c,dPs list] (.tup [dK ((qb4 c list).getD kz),dB (qb4 c list).isSome]):=by
 classical
 have hcv:=c_CircuitValid c;have hdv:=c_DefectsValid list;by_cases hc:c.Valid
 ·rw[decide_eq_true hc] at hcv;by_cases hd:qmK list
  ·rw[(def_iff list).2 hd] at hdv;have hA:qb4 c list=(qcz c (qaf c) (qcq c (qaf c)) (qdP list)).map (qhy c (qaf c) (qcq c (qaf c))):=if_pos ⟨hc,hd⟩;have hcl:=qbA hc;have hp:PlaceOk (qaf c).length (qcq c (qaf c)):=qgu (by omega);have hpl:=c_Place c hc;have hra:=c_RouteAround c (qcq c (qaf c)) list;rw[show qdt c (qcq c (qaf c)) list=qcz c (qaf c) (qcq c (qaf c)) (qdP list) by rw[qdt,if_pos ⟨⟨hc,hp⟩,hd⟩]] at hra;rw[hA];cases hro:qcz c (qaf c) (qcq c (qaf c)) (qdP list) with
   | none=>
    rw[hro] at hra;simp only[qf6] at hra;rw[yaJ];refine qco (E:=env 0) tok rfl 1000 func13 rfl rfl ntmps13 (by simp) fun ok=>?_
    simp only[go_sem,seval,-List.reduceReplicate] at ok
    repeat' first|assumption|(simp (disch:=first|assumption|omega|(simp;done)|(simp;omega)) only[go_sem,seval,-List.reduceReplicate])|(with_reducible first|apply And.intro|intro _)|(refine qad hcv ?_)|(refine qaK (fun _=>hdv) ?_)|(refine qbK hpl ?_)|(refine qad hra ?_)|((try rw[qaa]);omega)
    all_goals first|rfl|simp[wk2,wkL,wk1,kz]
   | some rs=>
    rw[hro] at hra;simp only[qf6] at hra;rw[yaK];obtain⟨R,h1,h2⟩:=qlX hc hp (qkG list) hro;have hcf:=c_configure c hc (qcq c (qaf c)) hp rs (fun r hr=>⟨(R.bd r hr).1.1,(R.bd r hr).1.2,(R.bd r hr).2.1.1,(R.bd r hr).2.1.2,(R.bd r hr).2.2.1⟩) h2 h1 R.nd (fun x hx v hv=>by
     obtain⟨i,hi,rfl⟩:=qa4 ce0 hx;obtain⟨r,hr,e,-⟩:=R.input hi hv;exact⟨r,hr,e⟩) (fun l hl hv=>by
     obtain⟨o,ho,rfl⟩:=qa4 (0:Int) hl;obtain⟨r,hr,e,-⟩:=R.pad ho (by omega);exact⟨r,hr,e⟩)
    refine qco (E:=env 0) tok rfl 1000 func13 rfl rfl ntmps13 (by simp) fun ok=>?_
    simp only[go_sem,seval,-List.reduceReplicate] at ok
    repeat' first|assumption|(simp (disch:=first|assumption|omega|(simp;done)|(simp;omega)) only[go_sem,seval,-List.reduceReplicate])|(with_reducible first|apply And.intro|intro _)|(refine qad hcv ?_)|(refine qaK (fun _=>hdv) ?_)|(refine qbK hpl ?_)|(refine qad hra ?_)|(refine qce hcf ?_)|((try rw[qaa]);omega)
    all_goals first|rfl|simp[wk2,wkL,wk1,kz]
  ·rw[show defectsValid list=false from Bool.eq_false_iff.2 (fun h=>hd ((def_iff list).1 h))] at hdv;rw[show qb4 c list=none from if_neg (fun h=>hd h.2)];refine qco (E:=env 0) tok rfl 1000 func13 rfl rfl ntmps13 (by simp) fun ok=>?_
   simp only[go_sem,seval,-List.reduceReplicate] at ok
   repeat' first|assumption|(simp (disch:=first|assumption|omega|(simp;done)|(simp;omega)) only[go_sem,seval,-List.reduceReplicate])|(with_reducible first|apply And.intro|intro _)|(refine qad hcv ?_)|(refine qaK (fun _=>hdv) ?_)|((try rw[qaa]);omega)
   all_goals first|rfl|simp[wk2,wkL,wk1,kz]
 ·rw[decide_eq_false hc] at hcv;rw[show qb4 c list=none from if_neg (fun h=>hc h.1)];refine qco (E:=env 0) tok rfl 1000 func13 rfl rfl ntmps13 (by simp) fun ok=>?_
  simp only[go_sem,seval,-List.reduceReplicate] at ok
  repeat' first|assumption|(simp (disch:=first|assumption|omega|(simp;done)|(simp;omega)) only[go_sem,seval,-List.reduceReplicate])|(with_reducible first|apply And.intro|intro _)|(refine qad hcv ?_)|(refine qaK (x:=.nil) (fun h=>by cases h) ?_)|((try rw[qaa]);omega)
  all_goals first|rfl|simp[wk2,wkL,wk1,kz]
def Tryz.c_Configure (c:Circ):Pure prog 51 [dC c] (.tup [dK ((qb4 c []).getD kz),dB (qb4 c []).isSome]):=by
 have hca:Pure prog 13 [dC c,.nil] (.tup [dK ((qb4 c []).getD kz),dB (qb4 c []).isSome]):=(c_ConfigureAround c []).wk (by simp[wkT,wk2,wk1,wkL]);generalize (qb4 c []).getD kz=k at *
 generalize (qb4 c []).isSome=b at *
 refine qco (E:=env 0) tok rfl 1000 func51 rfl rfl ntmps51 (by simp) fun ok=>?_
 simp only[go_sem,seval,-List.reduceReplicate] at ok
 repeat' first|assumption|(simp (disch:=first|assumption|omega|(simp;done)|(simp;omega)) only[go_sem,seval,-List.reduceReplicate])|(with_reducible first|apply And.intro|intro _)|(refine qce hca ?_)|((try rw[qaa]);omega)
end Go.Proofs
