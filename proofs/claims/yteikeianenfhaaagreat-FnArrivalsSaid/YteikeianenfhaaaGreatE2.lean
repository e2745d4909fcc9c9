/- Contracts, plain definitions and lemmas. Conditions: none; lemmas. -/
import Derived.Test.YteikeianenfhaaaGreatC75
set_option maxRecDepth 20000
set_option linter.unusedSimpArgs false
set_option linter.unusedVariables false
set_option maxHeartbeats 2000000
namespace Go.Proofs
open Go Go.VL Tryz
theorem qkq {c:Circ}{cells:List Cel}{place:List Int}{busy0:List (List Bool)} : ∀ {k n:Nat},k<=n->qcq c cells place busy0 k=none->qcq c cells place busy0 n=none
 | k,0,h,e=>by
           obtain rfl:k=0:=by omega
           exact e
 | k,n+1,h,e=>by
  by_cases hk:k<=n
  ·rw[qcq,qkq hk e]
  ·obtain rfl:k=n+1:=by omega
   exact e
theorem qlb {c:Circ}{cells:List Cel}{place:List Int}{busy0 busy:List (List Bool)}{out:List Rt}{k:Nat}(h:qcq c cells place busy0 k=some (busy,out)) :
  qcq c cells place busy0 (k+1)=if qds c cells place ((k:Int)+1)=[] then some (busy,out) else match netB (qds c cells place ((k:Int)+1)) busy 8 0 with
   | none=>none
   | some (t,hs)=>some (takeB busy t hs,out ++ [⟨(k:Int)+1,(t:Int),hs⟩]):=by
 rw[qcq,h];rfl
theorem qmx {cells:List Cel}(hci : ∀ x∈cells,x.inputs.length<=3) (net:Int) : ∀ n,n<=cells.length->(qaU cells net n).length<=3*n:=by
 intro n;induction n with
 | zero=>intro _;simp[qaU]
 | succ n ih=>
  intro h;have h1:=ih (by omega);have h2:=hci _ (qab (by omega):cells.getD n ce0∈cells);have h3:(qeA (cells.getD n ce0) net n).length<=(cells.getD n ce0).inputs.length:=by
   simp only[qeA,yay];exact List.length_filter_le _ _
  rw[qaU,yae];omega
theorem qkr : ∀ (l out:List Int),(l.foldl addU out).length<=out.length+l.length
 | [],out=>by simp
 | x::l,out=>by
  have h1:=qkr l (addU out x);have h2:(addU out x).length<=out.length+1:=by unfold addU;split <;> simp
  rw[yan,yah];omega
theorem qgm {c:Circ}{net:Int} : ∀ o,(qaR c net o).length<=o
 | 0=>by simp[qaR]
 | o+1=>by
  have:=qgm (c:=c) (net:=net) o;rw[qaR,yae];split <;> simp <;> omega
theorem qgE {cells:List Cel}{place:List Int}{net:Int} : ∀ i,(qaY cells place net i).length<=i
 | 0=>by simp[qaY]
 | i+1=>by
  have:=qgE (cells:=cells) (place:=place) (net:=net) i;rw[qaY,yae];split <;> simp <;> omega
theorem qn7 {c:Circ}(hc:c.Valid) {cells:List Cel}(hcl:cells.length<=25) (hci : ∀ x∈cells,x.inputs.length<=3) {place:List Int}{net:Int}:(qds c cells place net).length<=1000:=by
 have hlo:=hc.lo;unfold qds;split
 ·simp
 ·have h1:=qkr (qaE c cells place net) (qgL c net++qaY cells place net cells.length);have h2:=qmx hci net cells.length (yad _);have h3:=qgm (c:=c) (net:=net) c.outs.length;have h4:=qgE (cells:=cells) (place:=place) (net:=net) cells.length;have h5:(qgL c net).length<=1:=by unfold qgL;split <;> simp
  have h6:(qaE c cells place net).length=(qaU cells net cells.length).length+(qaR c net c.outs.length).length:=by simp[qaE,qcJ]
  rw[yae] at h1;omega
theorem qiL {busy:List (List Bool)}{t:Nat}(ht:t<busy.length) {hs:List (Int×Int)}{i:Nat}(hi:i<hs.length) :
  takeB busy t (hs.take (i+1))=(takeB busy t (hs.take i)).set t (((takeB busy t (hs.take i)).getD t []).set (hs.getD i (0,0)).1.toNat true):=by
 have e:qfN (busy.getD t []) (hs.take (i+1))=(qfN (busy.getD t []) (hs.take i)).set (hs.getD i (0,0)).1.toNat true:=qaw (f:=fun(b:List Bool) (h:Int×Int)=>b.set h.1.toNat true) (b:=busy.getD t []) ((0,0):Int×Int) hi;unfold takeB;rw[e,List.set_set];congr 1;simp[List.getD,ht]
theorem Tryz.c_l8Route (c:Circ) (hc:c.Valid) (cells:List Cel) (hcl:cells.length<=25) (hci : ∀ x∈cells,x.inputs.length<=3) (place:List Int) (hp:PlaceOk cells.length place) :
  PureF prog 109 [dC c,dCes cells,dIs place] (.tup [dRts ((qdO c cells place qd9).getD []),dB (qdO c cells place qd9).isSome]):=by
 have hf:=hc.first_bd;have hv:=hc.vars_bd;have hi0:=hc.i0;have hi1:=hc.i1;have hvv:c.vars=c.first+(c.gates.length:Int):=rfl
 have hfst:=c_l1First c (by omega);have k3:scal (dI c.first):=by show InK .i64 _;rw[qaa];omega
 have hpb:=fun net=>qjh hc hp (net:=net)
 refine qck (E:=envd 0) tok rfl 1000 func109 rfl rfl ntmps109 (by simp) fun ok=>?_
 simp only[go_sem,seval,-List.reduceReplicate] at ok
 repeat' first|assumption|(simp (disch:=first|assumption|omega|(simp;done)|(simp;omega)) only[go_sem,seval,-List.reduceReplicate,qal,yaa,qal])|(with_reducible first|apply And.intro|intro _)|exact lexT|((try rw[qaa]);omega)
 refine qai (E:=envd 0) tok (σ:=Nat) (fun t=>[(0,.d (dC c)),(1,.d (dCes cells)),(2,.d (dIs place)),(3,.ptr 0 0),(6,.d .nil),(7,.d (dB false)),(8,.sl 1 t 1 0 t),(9,.d (dI t))]) (fun t=>[.box [.d (dI c.inputs),.d (dIs c.next),.d (dPs c.gates),.d (dIs c.outs)],.row t 1 true ((List.replicate t (List.replicate 25 false)).map fun x=>dBs x)]) (fun t=>t<=8) (fun t=>8-t) [] [] 1000 1000 ?_ ?_
 ·simp only[go_sem,seval,-List.reduceReplicate];exact⟨0,by omega,by simp⟩
 ·intro t ht;by_cases htt:t<8
  ·have hrl:(List.replicate t (List.replicate 25 false)).length=t:=by simp
   have hrs:List.replicate (t+1) (List.replicate 25 false)=List.replicate t (List.replicate 25 false) ++ [List.replicate 25 false]:=List.replicate_succ';generalize List.replicate t (List.replicate 25 false)=q at *
   simp only[go_sem,seval,-List.reduceReplicate]
   repeat' first|assumption|(simp (disch:=first|assumption|omega|(simp;done)|(simp;omega)) only[go_sem,seval,-List.reduceReplicate,hrl,qal,yaa,qal])|(with_reducible first|apply And.intro|intro _)|exact lexT|((try rw[qaa]);omega)
   refine⟨t+1,by omega,by omega,rfl,rfl,?_⟩;rw[hrs]
  ·obtain rfl:t=8:=by omega
   rw[show List.replicate 8 (List.replicate 25 false)=qd9 from rfl]
   repeat' first|assumption|(simp (disch:=first|assumption|omega|(simp;done)|(simp;omega)) only[go_sem,seval,-List.reduceReplicate,qal,yaa,qal])|(with_reducible first|apply And.intro|intro _)|exact lexT|((try rw[qaa]);omega)
   have hrc:qdO c cells place qd9=(qcq c cells place qd9 (c.vars.toNat-1)).map (·.2):=rfl;refine qai (E:=envd 0) tok (σ:=Nat×List (List Bool)×List Rt) (fun s=>[(0,.d (dC c)),(1,.d (dCes cells)),(2,.d (dIs place)),(3,.ptr 0 0),(6,.d .nil),(7,.d (dB false)),(8,.sl 1 8 1 0 8),(10,.sl 2 s.2.2.length 3 0 s.2.2.length),(11,.d (dI ((s.1+1:Nat):Int)))]) (fun s=>[.box [.d (dI c.inputs),.d (dIs c.next),.d (dPs c.gates),.d (dIs c.outs)],.row 8 1 true (s.2.1.map fun x=>dBs x),.row s.2.2.length 3 false (s.2.2.map fun x=>dRt x)])
    (fun s=>(s.1:Int)<=c.vars-1/\qcq c cells place qd9 s.1=some (s.2.1,s.2.2)/\s.2.2.length<=s.1) (fun s=>c.vars.toNat-s.1) [] [] 1000 1000 ?_ ?_
   ·simp only[go_sem,seval,-List.reduceReplicate];exact⟨(0,qd9,[]),⟨by simp only;omega,rfl,by simp⟩,by simp⟩
   ·rintro⟨k,busy,out⟩ ⟨hk,hro,hol⟩;simp only at hk hro hol;have hR:=qhM hc hp free0_ok k hro;have hbl:=hR.bok.len;have ek:(k:Int)+1=((k+1:Nat):Int):=by omega
    by_cases hlt:(k:Int)<c.vars-1
    ·have hst:=qlb hro;rw[ek] at hst;have h1:=c_l7Pins c hc cells hcl hci place hp ((k+1:Nat):Int) (by omega);have hpbk:=hpb ((k+1:Nat):Int);have hpl:=qn7 hc hcl hci (place:=place) (net:=((k+1:Nat):Int));generalize qds c cells place ((k+1:Nat):Int)=pins at *
     by_cases hpe:pins=[]
     ·rw[if_pos hpe] at hst;subst hpe
      repeat' first|assumption|(simp (disch:=first|assumption|omega|(simp;done)|(simp;omega)) only[go_sem,seval,-List.reduceReplicate,qal,yaa,qal])|(with_reducible first|apply And.intro|intro _)|(refine qb3 (fun _=>⟨hfst,k3⟩) ?_)|(refine qad h1 ?_)|exact lexT|((try rw[qaa]);omega)
      exact⟨(k+1,busy,out),⟨by simp only;omega,hst,by simp only;omega⟩,by simp only;omega,⟨rfl,rfl⟩,rfl,rfl,rfl⟩
     ·rw[if_neg hpe] at hst;have hpp:0<pins.length:=List.length_pos_iff.2 hpe;have hnt:=c_l8Net 8 ((k+1:Nat):Int) pins busy hR.bok hpbk hpe hpl;cases hne:netB pins busy 8 0 with
      | none=>
       rw[hne] at hst hnt;simp only at hst;have hrn:qdO c cells place qd9=none:=by rw[hrc,qkq (by omega) hst];rfl
       rw[hrn]
       repeat' first|assumption|(simp (disch:=first|assumption|omega|(simp;done)|(simp;omega)) only[go_sem,seval,-List.reduceReplicate,qal,yaa,qal])|(with_reducible first|apply And.intro|intro _)|(refine qb3 (fun _=>⟨hfst,k3⟩) ?_)|(refine qad h1 ?_)|exact lexT|((try rw[qaa]);omega)
       refine qaq hnt [1] (by simp only[go_sem,seval,-List.reduceReplicate]) ?_;rintro r0 H1 ⟨rfl,rfl⟩
       repeat' first|assumption|(simp (disch:=first|assumption|omega|(simp;done)|(simp;omega)) only[go_sem,seval,-List.reduceReplicate,netR,qal,yaa,qal])|(with_reducible first|apply And.intro|intro _)|exact lexT|((try rw[qaa]);omega)
      | some q=>
       obtain⟨t,hs⟩:=q;rw[hne] at hst hnt;simp only at hst;obtain⟨-,ht8,htr,-⟩:=qji 8 0 hne;obtain⟨b1,b2,b3⟩:=qgR hpbk hpe htr
       repeat' first|assumption|(simp (disch:=first|assumption|omega|(simp;done)|(simp;omega)) only[go_sem,seval,-List.reduceReplicate,qal,yaa,qal])|(with_reducible first|apply And.intro|intro _)|(refine qb3 (fun _=>⟨hfst,k3⟩) ?_)|(refine qad h1 ?_)|exact lexT|((try rw[qaa]);omega)
       refine qaq hnt [1] (by simp only[go_sem,seval,-List.reduceReplicate]) ?_;rintro r0 H1 ⟨rfl,rfl⟩
       repeat' first|assumption|(simp (disch:=first|assumption|omega|(simp;done)|(simp;omega)) only[go_sem,seval,-List.reduceReplicate,netR,qal,yaa,qal])|(with_reducible first|apply And.intro|intro _)|exact lexT|((try rw[qaa]);omega)
       have hhl:=qcP b1;refine qai (E:=envd 0) tok (σ:=Nat) (fun i=>[(0,.d (dC c)),(1,.d (dCes cells)),(2,.d (dIs place)),(3,.ptr 0 0),(6,.d .nil),(7,.d (dB false)),(8,.sl 1 8 1 0 8),(10,.sl 2 out.length 3 0 out.length),(11,.d (dI ((k+1:Nat):Int))),(13,.ptr 3 0),(15,.d (dI i))]) (fun i=>[.box [.d (dI c.inputs),.d (dIs c.next),.d (dPs c.gates),.d (dIs c.outs)],.row 8 1 true ((takeB busy t (hs.take i)).map fun x=>dBs x),.row out.length 3 false (out.map fun x=>dRt x),.box [.d (dI ((k+1:Nat):Int)),.d (dI t),.d (dPs hs)]])
        (fun i=>i<=hs.length) (fun i=>hs.length-i) [] [] 1000 1000 ?_ ?_
       ·simp only[go_sem,seval,-List.reduceReplicate];exact⟨0,by omega,rfl,by rw[show takeB busy t (hs.take 0)=busy from set_self (by omega)]⟩
       ·intro i hi;have hTl:(takeB busy t (hs.take i)).length=8:=by simp[takeB];omega
        have hTr:((takeB busy t (hs.take i)).getD t []).length=25:=(qgS hR.bok (by omega)).row t (by omega);by_cases hit:i<hs.length
        ·have hstp:=qiL (busy:=busy) (t:=t) (by omega) hit;have hr:=b1.rng _ (qab hit:hs.getD i (0,0)∈hs);generalize takeB busy t (hs.take i)=T at *
         generalize hh9:hs.getD i (0,0)=hh at *
         simp only[go_sem,seval,-List.reduceReplicate,hh9]
         repeat' first|assumption|(simp (disch:=first|assumption|omega|(simp;done)|(simp;omega)) only[go_sem,seval,-List.reduceReplicate,hh9,hTl,hTr,qal,yaa,qal])|(with_reducible first|apply And.intro|intro _)|exact lexT|((try rw[qaa]);omega)
         refine qlA (E:=envd 0) tok Tryz.follows 1000 1000 [12] (fsts [0,1,5,7,2,3,4,6,8,9,10,11] (.one 12 .done)) (by kernel_rfl) ?_
         repeat' first|assumption|(simp (disch:=first|assumption|omega|(simp;done)|(simp;omega)) only[go_sem,seval,-List.reduceReplicate,hh9,hTl,hTr,qal,yaa,qal])|(with_reducible first|apply And.intro|intro _)|exact lexT|((try rw[qaa]);omega)
         refine⟨i+1,by omega,by omega,rfl,?_⟩;rw[hstp,yaa (by rw[yaz];omega)];exact qhv (f:=fun x=>dBs x)
        ·rw[show hs.take i=hs from yaa (by omega)];rw[show hs.take i=hs from yaa (by omega)] at hTl
         repeat' first|assumption|(simp (disch:=first|assumption|omega|(simp;done)|(simp;omega)) only[go_sem,seval,-List.reduceReplicate,netR,qal,yaa,qal])|(with_reducible first|apply And.intro|intro _)|exact lexT|((try rw[qaa]);omega)
         refine⟨(k+1,takeB busy t hs,out ++ [⟨((k+1:Nat):Int),(t:Int),hs⟩]),⟨by simp only;omega,hst,by simp only[yae,yaO];omega⟩,by simp only;omega,⟨by simp,rfl⟩,rfl,by simp,by simp⟩
    ·have hkk:k=c.vars.toNat-1:=by omega
     have hrn:qdO c cells place qd9=some out:=by rw[hrc,<-hkk,hro];rfl
     rw[hrn]
     repeat' first|assumption|(simp (disch:=first|assumption|omega|(simp;done)|(simp;omega)) only[go_sem,seval,-List.reduceReplicate,qal,yaa,qal])|(with_reducible first|apply And.intro|intro _)|(refine qb3 (fun _=>⟨hfst,k3⟩) ?_)|exact lexT|((try rw[qaa]);omega)

def qn8 (busy:List (List Bool)) (n:Nin) (o:Option (Nat×List (Int×Int))) (r:I) (H':List R):Prop:=
 match o with
 | none=>r=.tup [.d (.agg [dI 0,dI 0,.nil]),.d (dB false)]/\H'=[.box (bx (qbS busy))]
 | some (t,h)=>∃ g,r=.tup [.agg [.d (dI n.net),.d (dI t),.sl 3 g 2 0 h.length],.d (dB true)]/\H'=[.box (bx (qbS (takeB busy t h))),.box [.d (dI n.net),.d (dI n.cell),.d (dI n.tile),.d (dIs n.sinks),.d (dIs n.pads)],.box [.d (dI n.net),.d (dI t),.sl 3 g 2 0 h.length],.row g 2 true (h.map fun x=>dP x)]
theorem Tryz.c_route (busy:List (List Bool)) (hb:BusyOk busy) (n:Nin) (place:List Int) (hs : ∀ i∈n.sinks,0<=i/\i<place.length) (hk:n.cell<place.length) (hl:n.sinks.length<=400) (hl2:n.pads.length<=400) (hp:place.length<=1000) (ht : ∀ t∈qbW n place,0<=t/\t<=24) :
  ICall prog 132 [.ptr 0 0,.d (dNi n),.d (dIs place)] [.box (bx (qbS busy))] (qn8 busy n (netB (qbW n place) busy 8 0)):=by
 have hti:=c_tiles n place hs hk (by omega) (by omega) hp;have htl:(qbW n place).length<=1000:=by simp[qbW];omega
 have htn:qbW n place≠[]:=by simp[qbW]
 have htr:=fun u hu=>c_tree busy (qbW n place) u hu htn ht htl
 have hokb:=fun k h=>qgR (busy:=busy.getD k []) ht htn (hops:=h)
 generalize qbW n place=tiles at *
 refine qaz (E:=env 1) tok rfl 1000 func132 rfl rfl ntmps132 (by simp) ?_
 repeat' first|assumption|(simp (disch:=first|assumption|omega|(simp;done)|(simp;omega)) only[go_sem,seval,yaa])|(with_reducible first|apply And.intro|intro _)|(refine qad hti ?_)|((try rw[qaa]);omega)
 refine qai (E:=env 1) tok (σ:=Nat) (fun k=>[(0,.ptr 0 0),(4,.ptr 1 0),(6,.ptr 2 0),(8,.d (dIs tiles)),(17,.d (dI k))])
  (fun k=>[.box (bx (qbS busy)),.box [.d (dI n.net),.d (dI n.cell),.d (dI n.tile),.d (dIs n.sinks),.d (dIs n.pads)],.box [.d (dI 0),.d (dI 0),.d .nil]]) (fun k=>k<=8/\netB tiles busy (8-k) k=netB tiles busy 8 0) (fun k=>8-k) [] [] 1000 1000 ?_ ?_
 ·simp only[go_sem,seval];exact⟨0,⟨by omega,rfl⟩,rfl⟩
 ·rintro k ⟨hk8,hnb⟩;by_cases hlt:k<8
  ·have htk:=htr k hlt;have hokk:=fun h=>hokb k h
   have hstep:netB tiles busy (8-k) k=match qd8 (busy.getD k []) tiles with
     | some h=>some (k,h)
     | none=>netB tiles busy (8-(k+1)) (k+1):=by
    rw[show 8-k=(8-(k+1))+1 by omega];rfl
   rw[hnb] at hstep
   repeat' first|assumption|(simp (disch:=first|assumption|omega|(simp;done)|(simp;omega)) only[go_sem,seval,yaa])|(with_reducible first|apply And.intro|intro _)|((try rw[qaa]);omega)
   refine qaq htk [0] (by simp only[go_sem,seval]) ?_;cases htre:qd8 (busy.getD k []) tiles with
   | none=>
    rw[htre] at hstep;simp only at hstep;rintro r0 H1 ⟨rfl,rfl⟩
    repeat' first|assumption|(simp (disch:=first|assumption|omega|(simp;done)|(simp;omega)) only[go_sem,seval,yaa])|(with_reducible first|apply And.intro|intro _)|((try rw[qaa]);omega)
    exact⟨k+1,⟨by omega,hstep.symm⟩,by omega,rfl⟩
   | some h=>
    rw[htre] at hstep;simp only at hstep;obtain⟨hT,-,-⟩:=hokk h htre;have hhl:=qcP hT;rw[hstep];rintro r0 H1 ⟨g,rfl,rfl⟩
    repeat' first|assumption|(simp (disch:=first|assumption|omega|(simp;done)|(simp;omega)) only[go_sem,seval,yaa])|(with_reducible first|apply And.intro|intro _)|((try rw[qaa]);omega)
    refine qai (E:=env 1) tok (σ:=Nat) (fun i=>[(0,.ptr 0 0),(4,.ptr 1 0),(6,.ptr 2 0),(9,.d (dI k)),(10,.sl 3 g 2 0 h.length),(29,.sl 3 g 2 0 h.length),(30,.d (dI h.length)),(31,.d (dI i))])
     (fun i=>[.box (bx (qbS (takeB busy k (h.take i)))),.box [.d (dI n.net),.d (dI n.cell),.d (dI n.tile),.d (dIs n.sinks),.d (dIs n.pads)],.box [.d (dI 0),.d (dI 0),.d .nil],.row g 2 true (h.map fun x=>dP x)]) (fun i=>i<=h.length) (fun i=>h.length-i) [] [] 1000 1000 ?_ ?_
    ·simp only[go_sem,seval];refine⟨0,by omega,?_⟩;rw[show takeB busy k (h.take 0)=busy from set_self (by rw[hb.len];omega)];simp only[go_sem,seval]
    ·intro i hi;have hTl:(takeB busy k (h.take i)).length=8:=by simp[takeB,hb.len]
     have hTr:((takeB busy k (h.take i)).getD k []).length=25:=(qgS hb hlt).row k hlt;by_cases hit:i<h.length
     ·have hstp:=qiL (busy:=busy) (t:=k) (by rw[hb.len];exact hlt) hit;have hr:=hT.rng _ (qab hit:h.getD i (0,0)∈h);generalize takeB busy k (h.take i)=T at *
      generalize hh9:h.getD i (0,0)=hh at *
      have hset:=qqN (l:=qbS T) (k:=hh.1.toNat*8+k) (b:=true);rw[qkj (by omega) hlt (by omega) (by omega),<-hstp] at hset
      repeat' first|assumption|(simp (disch:=first|assumption|omega|(simp;done)|(simp;omega)) only[go_sem,seval,hh9,yaK,qbe,hset,yaa])|(with_reducible first|apply And.intro|intro _)|((try rw[qaa]);omega)
      refine qbN (n:=1) [8] (fsts [0,1,3,4,5,2,6,7] (.one 8 .done)) ?_
      repeat' first|assumption|(simp (disch:=first|assumption|omega|(simp;done)|(simp;omega)) only[go_sem,seval,hh9,yaK,qbe,hset,yaa])|(with_reducible first|apply And.intro|intro _)|((try rw[qaa]);omega)
      refine⟨i+1,by omega,by omega,rfl,?_⟩;simp only[go_sem,seval]
     ·rw[show h.take i=h from yaa (by omega)]
      repeat' first|assumption|(simp (disch:=first|assumption|omega|(simp;done)|(simp;omega)) only[go_sem,seval,yaa])|(with_reducible first|apply And.intro|intro _)|((try rw[qaa]);omega)
      exact qbm ⟨_,rfl,rfl⟩
  ·obtain rfl:k=8:=by omega
   have hnn:netB tiles busy (8-8) 8=none:=rfl;rw[<-hnb,hnn]
   repeat' first|assumption|(simp (disch:=first|assumption|omega|(simp;done)|(simp;omega)) only[go_sem,seval,yaa])|(with_reducible first|apply And.intro|intro _)|((try rw[qaa]);omega)
   refine qa3 (r0:=.tup [.d (.agg [dI 0,dI 0,.nil]),.d (dB false)]) (H1:=[.box (bx (qbS busy))]) ?_ ⟨rfl,rfl⟩;simp only[go_sem,seval]
end Go.Proofs
