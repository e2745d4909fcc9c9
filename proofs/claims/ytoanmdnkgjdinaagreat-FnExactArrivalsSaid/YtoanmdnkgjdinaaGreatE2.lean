/- Contracts, plain definitions and lemmas. Conditions: none; lemmas. -/
import Derived.Test.YtoanmdnkgjdinaaGreatC75
set_option maxRecDepth 20000
set_option linter.unusedVariables false
set_option linter.unusedSimpArgs false
namespace Go.Proofs
open Go Go.VL
theorem qh7 {c:Circ}{cells:List Cel}{place:List Int}{busy0:List (List Bool)} : ∀ {k n:Nat},k≤n→qcs c cells place busy0 k=none→qcs c cells place busy0 n=none
 | k,0,h,e=>by
           obtain rfl:k=0:=by omega
           exact e
 | k,n+1,h,e=>by
  by_cases hk:k≤n
  ·rw[qcs,qh7 hk e]
  ·obtain rfl:k=n+1:=by omega
   exact e
theorem qh8 {c:Circ}{cells:List Cel}{place:List Int}{busy0 busy:List (List Bool)}{out:List Rt}{k:Nat}(h:qcs c cells place busy0 k=some (busy,out)) :
  qcs c cells place busy0 (k+1)=if qdk c cells place ((k:Int)+1)=[] then some (busy,out) else match netB (qdk c cells place ((k:Int)+1)) busy 8 0 with
   | none=>none
   | some (t,hs)=>some (takeB busy t hs,out ++ [⟨(k:Int)+1,(t:Int),hs⟩]):=by
 rw[qcs,h];rfl
theorem qmp {cells:List Cel}(hci : ∀ x∈cells,x.inputs.length≤3) (net:Int) : ∀ n,n≤cells.length→(qaZ cells net n).length≤3*n:=by
 intro n
 induction n with
 | zero=>intro _;simp[qaZ]
 | succ n ih=>
  intro h
  have h1:=ih (by omega)
  have h2:=hci _ (qak (by omega):cells.getD n ce0∈cells)
  have h3:(qeG (cells.getD n ce0) net n).length≤(cells.getD n ce0).inputs.length:=by
   simp only[qeG,List.length_map];exact List.length_filter_le _ _
  rw[qaZ,List.length_append];omega
theorem qkw : ∀ (l out:List Int),(l.foldl addU out).length≤out.length+l.length
 | [],out=>by simp
 | x::l,out=>by
  have h1:=qkw l (addU out x)
  have h2:(addU out x).length≤out.length+1:=by unfold addU;split <;> simp
  rw[List.foldl_cons,List.length_cons];omega
theorem qgw {c:Circ}{net:Int} : ∀ o,(qaW c net o).length≤o
 | 0=>by simp[qaW]
 | o+1=>by
  have:=qgw (c:=c) (net:=net) o
  rw[qaW,List.length_append];split <;> simp <;> omega
theorem qgM {cells:List Cel}{place:List Int}{net:Int} : ∀ i,(qa4 cells place net i).length≤i
 | 0=>by simp[qa4]
 | i+1=>by
  have:=qgM (cells:=cells) (place:=place) (net:=net) i
  rw[qa4,List.length_append];split <;> simp <;> omega
theorem qkx {c:Circ}(hc:c.Valid) {cells:List Cel}(hcl:cells.length≤25) (hci : ∀ x∈cells,x.inputs.length≤3) {place:List Int}{net:Int}:(qdk c cells place net).length≤1000:=by
 have hlo:=hc.lo
 unfold qdk
 split
 ·simp
 ·have h1:=qkw (qaL c cells place net) (qgV c net++qa4 cells place net cells.length)
  have h2:=qmp hci net cells.length (Nat.le_refl _)
  have h3:=qgw (c:=c) (net:=net) c.outs.length
  have h4:=qgM (cells:=cells) (place:=place) (net:=net) cells.length
  have h5:(qgV c net).length≤1:=by unfold qgV;split <;> simp
  have h6:(qaL c cells place net).length=(qaZ cells net cells.length).length+(qaW c net c.outs.length).length:=by simp[qaL,qcU]
  rw[List.length_append] at h1
  omega
theorem qgx {busy:List (List Bool)}{t:Nat}(ht:t<busy.length) {hs:List (Int×Int)}{i:Nat}(hi:i<hs.length) :
  takeB busy t (hs.take (i+1))=(takeB busy t (hs.take i)).set t (((takeB busy t (hs.take i)).getD t []).set (hs.getD i (0,0)).1.toNat true):=by
 have e:qfZ (busy.getD t []) (hs.take (i+1))=(qfZ (busy.getD t []) (hs.take i)).set (hs.getD i (0,0)).1.toNat true:=qaH (f:=fun(b:List Bool) (h:Int×Int)=>b.set h.1.toNat true) (b:=busy.getD t []) ((0,0):Int×Int) hi
 unfold takeB
 rw[e,List.set_set]
 congr 1
 simp[List.getD,ht]
theorem Tryz.c_l8Route (c:Circ) (hc:c.Valid) (cells:List Cel) (hcl:cells.length≤25) (hci : ∀ x∈cells,x.inputs.length≤3) (place:List Int) (hp:PlaceOk cells.length place) :
  PureF Tryz.prog 45 [dC c,dCes cells,dIs place] (.tup [dRts ((qcB c cells place qdQ).getD []),dB (qcB c cells place qdQ).isSome]):=by
 have hf:=hc.first_bd
 have hv:=hc.vars_bd
 have hi0:=hc.i0
 have hi1:=hc.i1
 have hvv:c.vars=c.first+(c.gates.length:Int):=rfl
 have hfst:=Tryz.c_l1First c (by omega)
 have k3:scal (dI c.first):=by show InK .i64 _;rw[qad];omega
 have hpb:=fun net=>qg0 hc hp (net:=net)
 refine qbI (E:=Tryz.envd 0) Tryz.tok rfl 1000 Tryz.func45 rfl rfl Tryz.ntmps45 (by simp) fun ok=>?_
 simp only[go_sem,seval,-List.reduceReplicate] at ok
 simp only[go_sem,seval,-List.reduceReplicate,Tryz.results45]
 repeat' first|assumption|(simp (disch:=first|assumption|omega|(simp;done)|(simp;omega)) only[qaa,qac,List.take_of_length_le,qab,qae,qaf,qag,qah,qaj,qaa];try simp only[go_sem,seval,-List.reduceReplicate,Tryz.results45])|(with_reducible refine And.intro ?_ ?_)|(with_reducible intro _)|((with_reducible (show Region.lexB _ _=true));kernel_rfl)|((try rw[qad]);omega)
 refine qaq (E:=Tryz.envd 0) Tryz.tok (σ:=Nat) (fun t=>[(0,.d (dC c)),(1,.d (dCes cells)),(2,.d (dIs place)),(3,.ptr 0 0),(6,.d .nil),(7,.d (dB false)),(8,.sl 1 t 1 0 t),(9,.d (dI t))]) (fun t=>[.box [.d (dI c.inputs),.d (dIs c.next),.d (dPs c.gates),.d (dIs c.outs)],.row t 1 true ((List.replicate t (List.replicate 25 false)).map fun x=>dBs x)]) (fun t=>t≤8) (fun t=>8-t) [] [] 1000 1000 ?_ ?_
 ·simp only[go_sem,seval,-List.reduceReplicate]
  exact⟨0,by omega,by simp⟩
 ·intro t ht
  by_cases htt:t<8
  ·have hrl:(List.replicate t (List.replicate 25 false)).length=t:=by simp
   have hrs:List.replicate (t+1) (List.replicate 25 false)=List.replicate t (List.replicate 25 false) ++ [List.replicate 25 false]:=List.replicate_succ'
   generalize List.replicate t (List.replicate 25 false)=q at *
   simp only[go_sem,seval,-List.reduceReplicate,Tryz.results45]
   repeat' first|assumption|(simp (disch:=first|assumption|omega|(simp;done)|(simp;omega)) only[qaa,qac,List.take_of_length_le,qab,qae,qaf,qag,qah,qaj,qaa];try simp only[go_sem,seval,-List.reduceReplicate,Tryz.results45,hrl])|(with_reducible refine And.intro ?_ ?_)|(with_reducible intro _)|((with_reducible (show Region.lexB _ _=true));kernel_rfl)|((try rw[qad]);omega)
   refine⟨t+1,by omega,by omega,rfl,rfl,?_⟩
   rw[hrs]
  ·obtain rfl:t=8:=by omega
   rw[show List.replicate 8 (List.replicate 25 false)=qdQ from rfl]
   simp only[go_sem,seval,-List.reduceReplicate,Tryz.results45]
   repeat' first|assumption|(simp (disch:=first|assumption|omega|(simp;done)|(simp;omega)) only[qaa,qac,List.take_of_length_le,qab,qae,qaf,qag,qah,qaj,qaa];try simp only[go_sem,seval,-List.reduceReplicate,Tryz.results45])|(with_reducible refine And.intro ?_ ?_)|(with_reducible intro _)|((with_reducible (show Region.lexB _ _=true));kernel_rfl)|((try rw[qad]);omega)
   have hrc:qcB c cells place qdQ=(qcs c cells place qdQ (c.vars.toNat-1)).map (·.2):=rfl
   refine qaq (E:=Tryz.envd 0) Tryz.tok (σ:=Nat×List (List Bool)×List Rt) (fun s=>[(0,.d (dC c)),(1,.d (dCes cells)),(2,.d (dIs place)),(3,.ptr 0 0),(6,.d .nil),(7,.d (dB false)),(8,.sl 1 8 1 0 8),(10,.sl 2 s.2.2.length 3 0 s.2.2.length),(11,.d (dI ((s.1+1:Nat):Int)))]) (fun s=>[.box [.d (dI c.inputs),.d (dIs c.next),.d (dPs c.gates),.d (dIs c.outs)],.row 8 1 true (s.2.1.map fun x=>dBs x),.row s.2.2.length 3 false (s.2.2.map fun x=>dRt x)])
    (fun s=>(s.1:Int)≤c.vars-1∧qcs c cells place qdQ s.1=some (s.2.1,s.2.2)∧s.2.2.length≤s.1) (fun s=>c.vars.toNat-s.1) [] [] 1000 1000 ?_ ?_
   ·simp only[go_sem,seval,-List.reduceReplicate]
    exact⟨(0,qdQ,[]),⟨by simp only;omega,rfl,by simp⟩,by simp⟩
   ·rintro⟨k,busy,out⟩ ⟨hk,hro,hol⟩
    simp only at hk hro hol
    have hR:=qf4 hc hp free0_ok k hro
    have hbl:=hR.bok.len
    have ek:(k:Int)+1=((k+1:Nat):Int):=by omega
    by_cases hlt:(k:Int)<c.vars-1
    ·have hst:=qh8 hro
     rw[ek] at hst
     have h1:=Tryz.c_l7Pins c hc cells hcl hci place hp ((k+1:Nat):Int) (by omega)
     have hpbk:=hpb ((k+1:Nat):Int)
     have hpl:=qkx hc hcl hci (place:=place) (net:=((k+1:Nat):Int))
     generalize qdk c cells place ((k+1:Nat):Int)=pins at *
     by_cases hpe:pins=[]
     ·rw[if_pos hpe] at hst
      subst hpe
      simp only[go_sem,seval,-List.reduceReplicate,Tryz.results45]
      repeat' first|assumption|(simp (disch:=first|assumption|omega|(simp;done)|(simp;omega)) only[qaa,qac,List.take_of_length_le,qab,qae,qaf,qag,qah,qaj,qaa];try simp only[go_sem,seval,-List.reduceReplicate,Tryz.results45])|(with_reducible refine And.intro ?_ ?_)|(with_reducible intro _)|(refine qa9 (fun _=>⟨hfst,k3⟩) ?_;simp only[go_sem,seval,-List.reduceReplicate,Tryz.results45])|(refine qai h1 ?_;simp only[go_sem,seval,-List.reduceReplicate,Tryz.results45])|((with_reducible (show Region.lexB _ _=true));kernel_rfl)|((try rw[qad]);omega)
      exact⟨(k+1,busy,out),⟨by simp only;omega,hst,by simp only;omega⟩,by simp only;omega,⟨rfl,rfl⟩,rfl,rfl,rfl⟩
     ·rw[if_neg hpe] at hst
      have hpp:0<pins.length:=List.length_pos_iff.2 hpe
      have hnt:=Tryz.c_l8Net 8 ((k+1:Nat):Int) pins busy hR.bok hpbk hpe hpl
      cases hne:netB pins busy 8 0 with
      | none=>
       rw[hne] at hst hnt
       simp only at hst
       have hrn:qcB c cells place qdQ=none:=by rw[hrc,qh7 (by omega) hst];rfl
       rw[hrn]
       simp only[go_sem,seval,-List.reduceReplicate,Tryz.results45]
       repeat' first|assumption|(simp (disch:=first|assumption|omega|(simp;done)|(simp;omega)) only[qaa,qac,List.take_of_length_le,qab,qae,qaf,qag,qah,qaj,qaa];try simp only[go_sem,seval,-List.reduceReplicate,Tryz.results45])|(with_reducible refine And.intro ?_ ?_)|(with_reducible intro _)|(refine qa9 (fun _=>⟨hfst,k3⟩) ?_;simp only[go_sem,seval,-List.reduceReplicate,Tryz.results45])|(refine qai h1 ?_;simp only[go_sem,seval,-List.reduceReplicate,Tryz.results45])|((with_reducible (show Region.lexB _ _=true));kernel_rfl)|((try rw[qad]);omega)
       refine qax hnt [1] (by simp only[go_sem,seval,-List.reduceReplicate]) ?_
       rintro r0 H1 ⟨rfl,rfl⟩
       simp only[go_sem,seval,-List.reduceReplicate,Tryz.results45,netR]
       repeat' first|assumption|(simp (disch:=first|assumption|omega|(simp;done)|(simp;omega)) only[qaa,qac,List.take_of_length_le,qab,qae,qaf,qag,qah,qaj,qaa];try simp only[go_sem,seval,-List.reduceReplicate,Tryz.results45,netR])|(with_reducible refine And.intro ?_ ?_)|(with_reducible intro _)|((with_reducible (show Region.lexB _ _=true));kernel_rfl)|((try rw[qad]);omega)
      | some q=>
       obtain⟨t,hs⟩:=q
       rw[hne] at hst hnt
       simp only at hst
       obtain⟨-,ht8,htr,-⟩:=qhT 8 0 hne
       obtain⟨b1,b2,b3⟩:=qf2 hpbk hpe htr
       simp only[go_sem,seval,-List.reduceReplicate,Tryz.results45]
       repeat' first|assumption|(simp (disch:=first|assumption|omega|(simp;done)|(simp;omega)) only[qaa,qac,List.take_of_length_le,qab,qae,qaf,qag,qah,qaj,qaa];try simp only[go_sem,seval,-List.reduceReplicate,Tryz.results45])|(with_reducible refine And.intro ?_ ?_)|(with_reducible intro _)|(refine qa9 (fun _=>⟨hfst,k3⟩) ?_;simp only[go_sem,seval,-List.reduceReplicate,Tryz.results45])|(refine qai h1 ?_;simp only[go_sem,seval,-List.reduceReplicate,Tryz.results45])|((with_reducible (show Region.lexB _ _=true));kernel_rfl)|((try rw[qad]);omega)
       refine qax hnt [1] (by simp only[go_sem,seval,-List.reduceReplicate]) ?_
       rintro r0 H1 ⟨rfl,rfl⟩
       simp only[go_sem,seval,-List.reduceReplicate,Tryz.results45,netR]
       repeat' first|assumption|(simp (disch:=first|assumption|omega|(simp;done)|(simp;omega)) only[qaa,qac,List.take_of_length_le,qab,qae,qaf,qag,qah,qaj,qaa];try simp only[go_sem,seval,-List.reduceReplicate,Tryz.results45,netR])|(with_reducible refine And.intro ?_ ?_)|(with_reducible intro _)|((with_reducible (show Region.lexB _ _=true));kernel_rfl)|((try rw[qad]);omega)
       have hhl:=qcK b1
       refine qaq (E:=Tryz.envd 0) Tryz.tok (σ:=Nat) (fun i=>[(0,.d (dC c)),(1,.d (dCes cells)),(2,.d (dIs place)),(3,.ptr 0 0),(6,.d .nil),(7,.d (dB false)),(8,.sl 1 8 1 0 8),(10,.sl 2 out.length 3 0 out.length),(11,.d (dI ((k+1:Nat):Int))),(13,.ptr 3 0),(15,.d (dI i))]) (fun i=>[.box [.d (dI c.inputs),.d (dIs c.next),.d (dPs c.gates),.d (dIs c.outs)],.row 8 1 true ((takeB busy t (hs.take i)).map fun x=>dBs x),.row out.length 3 false (out.map fun x=>dRt x),.box [.d (dI ((k+1:Nat):Int)),.d (dI t),.d (dPs hs)]])
        (fun i=>i≤hs.length) (fun i=>hs.length-i) [] [] 1000 1000 ?_ ?_
       ·simp only[go_sem,seval,-List.reduceReplicate]
        exact⟨0,by omega,rfl,by rw[show takeB busy t (hs.take 0)=busy from set_self (by omega)]⟩
       ·intro i hi
        have hTl:(takeB busy t (hs.take i)).length=8:=by simp[takeB];omega
        have hTr:((takeB busy t (hs.take i)).getD t []).length=25:=(qf3 hR.bok (by omega)).row t (by omega)
        by_cases hit:i<hs.length
        ·have hstp:=qgx (busy:=busy) (t:=t) (by omega) hit
         have hr:=b1.rng _ (qak hit:hs.getD i (0,0)∈hs)
         generalize takeB busy t (hs.take i)=T at *
         generalize hh9:hs.getD i (0,0)=hh at *
         simp only[go_sem,seval,-List.reduceReplicate,Tryz.results45,hh9]
         repeat' first|assumption|(simp (disch:=first|assumption|omega|(simp;done)|(simp;omega)) only[qaa,qac,List.take_of_length_le,qab,qae,qaf,qag,qah,qaj,qaa];try simp only[go_sem,seval,-List.reduceReplicate,Tryz.results45,hh9,hTl,hTr])|(with_reducible refine And.intro ?_ ?_)|(with_reducible intro _)|((with_reducible (show Region.lexB _ _=true));kernel_rfl)|((try rw[qad]);omega)
         refine qaT (E:=Tryz.envd 0) Tryz.tok Tryz.follows 1000 1000 [12] (.fst 0 (.fst 1 (.fst 5 (.fst 7 (.fst 2 (.fst 3 (.fst 4 (.fst 6 (.fst 8 (.fst 9 (.fst 10 (.fst 11 (.one 12 (.done)))))))))))))) (by kernel_rfl) ?_
         simp only[go_sem,seval,-List.reduceReplicate,Tryz.results45,hh9,hTl,hTr]
         repeat' first|assumption|(simp (disch:=first|assumption|omega|(simp;done)|(simp;omega)) only[qaa,qac,List.take_of_length_le,qab,qae,qaf,qag,qah,qaj,qaa];try simp only[go_sem,seval,-List.reduceReplicate,Tryz.results45,hh9,hTl,hTr])|(with_reducible refine And.intro ?_ ?_)|(with_reducible intro _)|((with_reducible (show Region.lexB _ _=true));kernel_rfl)|((try rw[qad]);omega)
         refine⟨i+1,by omega,by omega,rfl,?_⟩
         rw[hstp,List.take_of_length_le (by rw[List.length_set];omega)]
         exact qeD (f:=fun x=>dBs x)
        ·rw[show hs.take i=hs from List.take_of_length_le (by omega)]
         rw[show hs.take i=hs from List.take_of_length_le (by omega)] at hTl
         simp only[go_sem,seval,-List.reduceReplicate,Tryz.results45,netR]
         repeat' first|assumption|(simp (disch:=first|assumption|omega|(simp;done)|(simp;omega)) only[qaa,qac,List.take_of_length_le,qab,qae,qaf,qag,qah,qaj,qaa];try simp only[go_sem,seval,-List.reduceReplicate,Tryz.results45,netR])|(with_reducible refine And.intro ?_ ?_)|(with_reducible intro _)|((with_reducible (show Region.lexB _ _=true));kernel_rfl)|((try rw[qad]);omega)
         refine⟨(k+1,takeB busy t hs,out ++ [⟨((k+1:Nat):Int),(t:Int),hs⟩]),⟨by simp only;omega,hst,by simp only[List.length_append,List.length_singleton];omega⟩,by simp only;omega,⟨by simp,rfl⟩,rfl,by simp,by simp⟩
    ·have hkk:k=c.vars.toNat-1:=by omega
     have hrn:qcB c cells place qdQ=some out:=by rw[hrc,←hkk,hro];rfl
     rw[hrn]
     simp only[go_sem,seval,-List.reduceReplicate,Tryz.results45]
     repeat' first|assumption|(simp (disch:=first|assumption|omega|(simp;done)|(simp;omega)) only[qaa,qac,List.take_of_length_le,qab,qae,qaf,qag,qah,qaj,qaa];try simp only[go_sem,seval,-List.reduceReplicate,Tryz.results45])|(with_reducible refine And.intro ?_ ?_)|(with_reducible intro _)|(refine qa9 (fun _=>⟨hfst,k3⟩) ?_;simp only[go_sem,seval,-List.reduceReplicate,Tryz.results45])|((with_reducible (show Region.lexB _ _=true));kernel_rfl)|((try rw[qad]);omega)
end Go.Proofs

set_option maxRecDepth 20000
set_option linter.unusedVariables false
set_option linter.unusedSimpArgs false
namespace Go.Proofs
open Go Go.VL
def qn0 (busy:List (List Bool)) (n:Nin) (o:Option (Nat×List (Int×Int))) (r:I) (H':List R):Prop:=
 match o with
 | none=>r=.tup [.d (.agg [dI 0,dI 0,.nil]),.d (dB false)]∧H'=[.box (bx (qb7 busy))]
 | some (t,h)=>∃ g,r=.tup [.agg [.d (dI n.net),.d (dI t),.sl 3 g 2 0 h.length],.d (dB true)]∧H'=[.box (bx (qb7 (takeB busy t h))),.box [.d (dI n.net),.d (dI n.cell),.d (dI n.tile),.d (dIs n.sinks),.d (dIs n.pads)],.box [.d (dI n.net),.d (dI t),.sl 3 g 2 0 h.length],.row g 2 true (h.map fun x=>dP x)]
theorem Tryz.c_route (busy:List (List Bool)) (hb:BusyOk busy) (n:Nin) (place:List Int) (hs : ∀ i∈n.sinks,0≤i∧i<place.length) (hk:n.cell<place.length) (hl:n.sinks.length≤400) (hl2:n.pads.length≤400) (hp:place.length≤1000) (ht : ∀ t∈qce n place,0≤t∧t≤24) :
  ICall Tryz.prog 61 [.ptr 0 0,.d (dNi n),.d (dIs place)] [.box (bx (qb7 busy))] (qn0 busy n (netB (qce n place) busy 8 0)):=by
 have hti:=Tryz.c_tiles n place hs hk (by omega) (by omega) hp
 have htl:(qce n place).length≤1000:=by simp[qce];omega
 have htn:qce n place≠[]:=by simp[qce]
 have htr:=fun u hu=>Tryz.c_tree busy (qce n place) u hu htn ht htl
 have hokb:=fun k h=>qf2 (busy:=busy.getD k []) ht htn (hops:=h)
 generalize qce n place=tiles at *
 refine qaJ (E:=Tryz.env 1) Tryz.tok rfl 1000 Tryz.func61 rfl rfl Tryz.ntmps61 (by simp) ?_
 simp only[go_sem,seval,Tryz.results61]
 repeat' first|assumption|(simp (disch:=first|assumption|omega|(simp;done)|(simp;omega)) only[qaa,qac,List.take_of_length_le,qab,qaG,qae,qaf,qag,qah,qao];try simp only[go_sem,seval,Tryz.results61])|(with_reducible refine And.intro ?_ ?_)|(with_reducible intro _)|(refine qai hti ?_;simp only[go_sem,seval,Tryz.results61])|((try rw[qad]);omega)
 refine qaq (E:=Tryz.env 1) Tryz.tok (σ:=Nat) (fun k=>[(0,.ptr 0 0),(4,.ptr 1 0),(6,.ptr 2 0),(8,.d (dIs tiles)),(17,.d (dI k))])
  (fun k=>[.box (bx (qb7 busy)),.box [.d (dI n.net),.d (dI n.cell),.d (dI n.tile),.d (dIs n.sinks),.d (dIs n.pads)],.box [.d (dI 0),.d (dI 0),.d .nil]]) (fun k=>k≤8∧netB tiles busy (8-k) k=netB tiles busy 8 0) (fun k=>8-k) [] [] 1000 1000 ?_ ?_
 ·simp only[go_sem,seval]
  exact⟨0,⟨by omega,rfl⟩,rfl⟩
 ·rintro k ⟨hk8,hnb⟩
  by_cases hlt:k<8
  ·have htk:=htr k hlt
   have hokk:=fun h=>hokb k h
   have hstep:netB tiles busy (8-k) k=match qea (busy.getD k []) tiles with
     | some h=>some (k,h)
     | none=>netB tiles busy (8-(k+1)) (k+1):=by
    rw[show 8-k=(8-(k+1))+1 by omega];rfl
   rw[hnb] at hstep
   simp only[go_sem,seval,Tryz.results61]
   repeat' first|assumption|(simp (disch:=first|assumption|omega|(simp;done)|(simp;omega)) only[qaa,qac,List.take_of_length_le,qab,qaG,qae,qaf,qag,qah,qao];try simp only[go_sem,seval,Tryz.results61])|(with_reducible refine And.intro ?_ ?_)|(with_reducible intro _)|((try rw[qad]);omega)
   refine qax htk [0] (by simp only[go_sem,seval]) ?_
   cases htre:qea (busy.getD k []) tiles with
   | none=>
    rw[htre] at hstep
    simp only at hstep
    rintro r0 H1 ⟨rfl,rfl⟩
    simp only[go_sem,seval,Tryz.results61]
    repeat' first|assumption|(simp (disch:=first|assumption|omega|(simp;done)|(simp;omega)) only[qaa,qac,List.take_of_length_le,qab,qaG,qae,qaf,qag,qah,qao];try simp only[go_sem,seval,Tryz.results61])|(with_reducible refine And.intro ?_ ?_)|(with_reducible intro _)|((try rw[qad]);omega)
    exact⟨k+1,⟨by omega,hstep.symm⟩,by omega,rfl⟩
   | some h=>
    rw[htre] at hstep
    simp only at hstep
    obtain⟨hT,-,-⟩:=hokk h htre
    have hhl:=qcK hT
    rw[hstep]
    rintro r0 H1 ⟨g,rfl,rfl⟩
    simp only[go_sem,seval,Tryz.results61]
    repeat' first|assumption|(simp (disch:=first|assumption|omega|(simp;done)|(simp;omega)) only[qaa,qac,List.take_of_length_le,qab,qaG,qae,qaf,qag,qah,qao];try simp only[go_sem,seval,Tryz.results61])|(with_reducible refine And.intro ?_ ?_)|(with_reducible intro _)|((try rw[qad]);omega)
    refine qaq (E:=Tryz.env 1) Tryz.tok (σ:=Nat) (fun i=>[(0,.ptr 0 0),(4,.ptr 1 0),(6,.ptr 2 0),(9,.d (dI k)),(10,.sl 3 g 2 0 h.length),(29,.sl 3 g 2 0 h.length),(30,.d (dI h.length)),(31,.d (dI i))])
     (fun i=>[.box (bx (qb7 (takeB busy k (h.take i)))),.box [.d (dI n.net),.d (dI n.cell),.d (dI n.tile),.d (dIs n.sinks),.d (dIs n.pads)],.box [.d (dI 0),.d (dI 0),.d .nil],.row g 2 true (h.map fun x=>dP x)]) (fun i=>i≤h.length) (fun i=>h.length-i) [] [] 1000 1000 ?_ ?_
    ·simp only[go_sem,seval]
     refine⟨0,by omega,?_⟩
     rw[show takeB busy k (h.take 0)=busy from set_self (by rw[hb.len];omega)]
     simp only[go_sem,seval]
    ·intro i hi
     have hTl:(takeB busy k (h.take i)).length=8:=by simp[takeB,hb.len]
     have hTr:((takeB busy k (h.take i)).getD k []).length=25:=(qf3 hb hlt).row k hlt
     by_cases hit:i<h.length
     ·have hstp:=qgx (busy:=busy) (t:=k) (by rw[hb.len];exact hlt) hit
      have hr:=hT.rng _ (qak hit:h.getD i (0,0)∈h)
      generalize takeB busy k (h.take i)=T at *
      generalize hh9:h.getD i (0,0)=hh at *
      have hset:=qqZ (l:=qb7 T) (k:=hh.1.toNat*8+k) (b:=true)
      rw[qkp (by omega) hlt (by omega) (by omega),←hstp] at hset
      simp only[go_sem,seval,Tryz.results61,hh9,Nat.mul_one,qaS,hset]
      repeat' first|assumption|(simp (disch:=first|assumption|omega|(simp;done)|(simp;omega)) only[qaa,qac,List.take_of_length_le,qab,qaG,qae,qaf,qag,qah,qao];try simp only[go_sem,seval,Tryz.results61,hh9,Nat.mul_one,qaS,hset])|(with_reducible refine And.intro ?_ ?_)|(with_reducible intro _)|((try rw[qad]);omega)
      refine qaT (E:=Tryz.env 1) Tryz.tok Tryz.follows 1000 1000 [8] (.fst 0 (.fst 1 (.fst 3 (.fst 4 (.fst 5 (.fst 2 (.fst 6 (.fst 7 (.one 8 (.done)))))))))) (by kernel_rfl) ?_
      simp only[go_sem,seval,Tryz.results61,hh9,Nat.mul_one,qaS,hset]
      repeat' first|assumption|(simp (disch:=first|assumption|omega|(simp;done)|(simp;omega)) only[qaa,qac,List.take_of_length_le,qab,qaG,qae,qaf,qag,qah,qao];try simp only[go_sem,seval,Tryz.results61,hh9,Nat.mul_one,qaS,hset])|(with_reducible refine And.intro ?_ ?_)|(with_reducible intro _)|((try rw[qad]);omega)
      refine⟨i+1,by omega,by omega,rfl,?_⟩
      simp only[go_sem,seval]
     ·rw[show h.take i=h from List.take_of_length_le (by omega)]
      simp only[go_sem,seval,Tryz.results61]
      repeat' first|assumption|(simp (disch:=first|assumption|omega|(simp;done)|(simp;omega)) only[qaa,qac,List.take_of_length_le,qab,qaG,qae,qaf,qag,qah,qao];try simp only[go_sem,seval,Tryz.results61])|(with_reducible refine And.intro ?_ ?_)|(with_reducible intro _)|((try rw[qad]);omega)
      exact qcd ⟨_,rfl,rfl⟩
  ·obtain rfl:k=8:=by omega
   have hnn:netB tiles busy (8-8) 8=none:=rfl
   rw[←hnb,hnn]
   simp only[go_sem,seval,Tryz.results61]
   repeat' first|assumption|(simp (disch:=first|assumption|omega|(simp;done)|(simp;omega)) only[qaa,qac,List.take_of_length_le,qab,qaG,qae,qaf,qag,qah,qao];try simp only[go_sem,seval,Tryz.results61])|(with_reducible refine And.intro ?_ ?_)|(with_reducible intro _)|((try rw[qad]);omega)
   refine qb9 (r0:=.tup [.d (.agg [dI 0,dI 0,.nil]),.d (dB false)]) (H1:=[.box (bx (qb7 busy))]) ?_ ⟨rfl,rfl⟩
   simp only[go_sem,seval]
end Go.Proofs
