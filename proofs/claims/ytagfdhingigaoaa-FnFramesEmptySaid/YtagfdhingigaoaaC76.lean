/- Contracts: the reference routes a netlist. Conditions: none; lemmas. -/
import Derived.Test.YtagfdhingigaoaaC75
set_option maxRecDepth 20000
set_option linter.unusedVariables false
set_option linter.unusedSimpArgs false
namespace Go.Proofs
open Go Go.VL
theorem qja {c:Circ}{cells:List Cel}{place:List Int}{busy0:List (List Bool)} : ∀ {k n:Nat},k≤n→qcU c cells place busy0 k=none→qcU c cells place busy0 n=none
 | k,0,h,e=>by
           obtain rfl:k=0:=by omega
           exact e
 | k,n+1,h,e=>by
  by_cases hk:k≤n
  ·rw[qcU,qja hk e]
  ·obtain rfl:k=n+1:=by omega
   exact e
theorem qjZ {c:Circ}{cells:List Cel}{place:List Int}{busy0 busy:List (List Bool)}{out:List Rt}{k:Nat}(h:qcU c cells place busy0 k=some (busy,out)) :
  qcU c cells place busy0 (k+1)=if qdL c cells place ((k:Int)+1)=[] then some (busy,out) else match netB (qdL c cells place ((k:Int)+1)) busy 8 0 with
   | none=>none
   | some (t,hs)=>some (takeB busy t hs,out ++ [⟨(k:Int)+1,(t:Int),hs⟩]):=by
 rw[qcU,h];rfl
theorem qlo {cells:List Cel}(hci : ∀ x∈cells,x.inputs.length≤3) (net:Int) : ∀ n,n≤cells.length→(qbz cells net n).length≤3*n:=by
 intro n
 induction n with
 | zero=>intro _;simp[qbz]
 | succ n ih=>
  intro h
  have h1:=ih (by omega)
  have h2:=hci _ (qan (by omega):cells.getD n ce0∈cells)
  have h3:(qfJ (cells.getD n ce0) net n).length≤(cells.getD n ce0).inputs.length:=by
   simp only[qfJ,List.length_map];exact List.length_filter_le _ _
  rw[qbz,List.length_append];omega
theorem qjb : ∀ (l out:List Int),(l.foldl addU out).length≤out.length+l.length
 | [],out=>by simp
 | x::l,out=>by
  have h1:=qjb l (addU out x)
  have h2:(addU out x).length≤out.length+1:=by unfold addU;split <;> simp
  rw[List.foldl_cons,List.length_cons];omega
theorem qhE {c:Circ}{net:Int} : ∀ o,(qbI c net o).length≤o
 | 0=>by simp[qbI]
 | o+1=>by
  have:=qhE (c:=c) (net:=net) o
  rw[qbI,List.length_append];split <;> simp <;> omega
theorem qfO {cells:List Cel}{place:List Int}{net:Int} : ∀ i,(qbc cells place net i).length≤i
 | 0=>by simp[qbc]
 | i+1=>by
  have:=qfO (cells:=cells) (place:=place) (net:=net) i
  rw[qbc,List.length_append];split <;> simp <;> omega
theorem qmS {c:Circ}(hc:c.Valid) {cells:List Cel}(hcl:cells.length≤25) (hci : ∀ x∈cells,x.inputs.length≤3) {place:List Int}{net:Int}:(qdL c cells place net).length≤1000:=by
 have hlo:=hc.lo
 unfold qdL
 split
 ·simp
 ·have h1:=qjb (qbA c cells place net) (qg9 c net++qbc cells place net cells.length)
  have h2:=qlo hci net cells.length (Nat.le_refl _)
  have h3:=qhE (c:=c) (net:=net) c.outs.length
  have h4:=qfO (cells:=cells) (place:=place) (net:=net) cells.length
  have h5:(qg9 c net).length≤1:=by unfold qg9;split <;> simp
  have h6:(qbA c cells place net).length=(qbz cells net cells.length).length+(qbI c net c.outs.length).length:=by simp[qbA,qfK]
  rw[List.length_append] at h1
  omega
theorem qlp {busy:List (List Bool)}{t:Nat}(ht:t<busy.length) {hs:List (Int×Int)}{i:Nat}(hi:i<hs.length) :
  takeB busy t (hs.take (i+1))=(takeB busy t (hs.take i)).set t (((takeB busy t (hs.take i)).getD t []).set (hs.getD i (0,0)).1.toNat true):=by
 have e:qe1 (busy.getD t []) (hs.take (i+1))=(qe1 (busy.getD t []) (hs.take i)).set (hs.getD i (0,0)).1.toNat true:=qaR (f:=fun(b:List Bool) (h:Int×Int)=>b.set h.1.toNat true) (b:=busy.getD t []) ((0,0):Int×Int) hi
 unfold takeB
 rw[e,List.set_set]
 congr 1
 simp[List.getD,ht]
theorem Try.c_l8Route (c:Circ) (hc:c.Valid) (cells:List Cel) (hcl:cells.length≤25) (hci : ∀ x∈cells,x.inputs.length≤3) (place:List Int) (hp:PlaceOk cells.length place) :
  PureF Try.prog 39 [dC c,dCes cells,dIs place] (.tup [dRts ((qe2 c cells place qd4).getD []),dB (qe2 c cells place qd4).isSome]):=by
 have hf:=hc.first_bd
 have hv:=hc.vars_bd
 have hi0:=hc.i0
 have hi1:=hc.i1
 have hvv:c.vars=c.first+(c.gates.length:Int):=rfl
 have hfst:=Try.c_l1First c (by omega)
 have k3:scal (dI c.first):=by show InK .i64 _;rw[qaa];omega
 have hpb:=fun net=>qf4 hc hp (net:=net)
 refine qde (E:=Try.envd 0) Try.tok rfl 1000 Try.func39 rfl rfl Try.ntmps39 (by simp) fun ok=>?_
 simp only[go_sem,seval,-List.reduceReplicate] at ok
 simp only[go_sem,seval,-List.reduceReplicate,Try.results39]
 repeat' first|assumption|(simp (disch:=first|assumption|omega|(simp;done)|(simp;omega)) only[qaq,List.take_of_length_le,qaq];try simp only[go_sem,seval,-List.reduceReplicate,Try.results39])|(with_reducible first|apply And.intro|intro _)|(refine qac ?_;simp only[go_sem,seval,-List.reduceReplicate,Try.results39])|exact lexT|((try rw[qaa]);omega)
 refine qas (E:=Try.envd 0) Try.tok (σ:=Nat) (fun t=>[(0,.d (dC c)),(1,.d (dCes cells)),(2,.d (dIs place)),(3,.ptr 0 0),(6,.d .nil),(7,.d (dB false)),(8,.sl 1 t 1 0 t),(9,.d (dI t))]) (fun t=>[.box [.d (dI c.inputs),.d (dIs c.next),.d (dPs c.gates),.d (dIs c.outs)],.row t 1 true ((List.replicate t (List.replicate 25 false)).map fun x=>dBs x)]) (fun t=>t≤8) (fun t=>8-t) [] [] 1000 1000 ?_ ?_
 ·simp only[go_sem,seval,-List.reduceReplicate]
  exact⟨0,by omega,by simp⟩
 ·intro t ht
  by_cases htt:t<8
  ·have hrl:(List.replicate t (List.replicate 25 false)).length=t:=by simp
   have hrs:List.replicate (t+1) (List.replicate 25 false)=List.replicate t (List.replicate 25 false) ++ [List.replicate 25 false]:=List.replicate_succ'
   generalize List.replicate t (List.replicate 25 false)=q at *
   simp only[go_sem,seval,-List.reduceReplicate,Try.results39]
   repeat' first|assumption|(simp (disch:=first|assumption|omega|(simp;done)|(simp;omega)) only[qaq,List.take_of_length_le,qaq];try simp only[go_sem,seval,-List.reduceReplicate,Try.results39,hrl])|(with_reducible first|apply And.intro|intro _)|(refine qac ?_;simp only[go_sem,seval,-List.reduceReplicate,Try.results39,hrl])|exact lexT|((try rw[qaa]);omega)
   refine⟨t+1,by omega,by omega,rfl,rfl,?_⟩
   rw[hrs]
  ·obtain rfl:t=8:=by omega
   rw[show List.replicate 8 (List.replicate 25 false)=qd4 from rfl]
   simp only[go_sem,seval,-List.reduceReplicate,Try.results39]
   repeat' first|assumption|(simp (disch:=first|assumption|omega|(simp;done)|(simp;omega)) only[qaq,List.take_of_length_le,qaq];try simp only[go_sem,seval,-List.reduceReplicate,Try.results39])|(with_reducible first|apply And.intro|intro _)|(refine qac ?_;simp only[go_sem,seval,-List.reduceReplicate,Try.results39])|exact lexT|((try rw[qaa]);omega)
   have hrc:qe2 c cells place qd4=(qcU c cells place qd4 (c.vars.toNat-1)).map (·.2):=rfl
   refine qas (E:=Try.envd 0) Try.tok (σ:=Nat×List (List Bool)×List Rt) (fun s=>[(0,.d (dC c)),(1,.d (dCes cells)),(2,.d (dIs place)),(3,.ptr 0 0),(6,.d .nil),(7,.d (dB false)),(8,.sl 1 8 1 0 8),(10,.sl 2 s.2.2.length 3 0 s.2.2.length),(11,.d (dI ((s.1+1:Nat):Int)))]) (fun s=>[.box [.d (dI c.inputs),.d (dIs c.next),.d (dPs c.gates),.d (dIs c.outs)],.row 8 1 true (s.2.1.map fun x=>dBs x),.row s.2.2.length 3 false (s.2.2.map fun x=>dRt x)])
    (fun s=>(s.1:Int)≤c.vars-1∧qcU c cells place qd4 s.1=some (s.2.1,s.2.2)∧s.2.2.length≤s.1) (fun s=>c.vars.toNat-s.1) [] [] 1000 1000 ?_ ?_
   ·simp only[go_sem,seval,-List.reduceReplicate]
    exact⟨(0,qd4,[]),⟨by simp only;omega,rfl,by simp⟩,by simp⟩
   ·rintro⟨k,busy,out⟩ ⟨hk,hro,hol⟩
    simp only at hk hro hol
    have hR:=qgX hc hp qkH k hro
    have hbl:=hR.bok.len
    have ek:(k:Int)+1=((k+1:Nat):Int):=by omega
    by_cases hlt:(k:Int)<c.vars-1
    ·have hst:=qjZ hro
     rw[ek] at hst
     have h1:=Try.c_l7Pins c hc cells hcl hci place hp ((k+1:Nat):Int) (by omega)
     have hpbk:=hpb ((k+1:Nat):Int)
     have hpl:=qmS hc hcl hci (place:=place) (net:=((k+1:Nat):Int))
     generalize qdL c cells place ((k+1:Nat):Int)=pins at *
     by_cases hpe:pins=[]
     ·rw[if_pos hpe] at hst
      subst hpe
      simp only[go_sem,seval,-List.reduceReplicate,Try.results39]
      repeat' first|assumption|(simp (disch:=first|assumption|omega|(simp;done)|(simp;omega)) only[qaq,List.take_of_length_le,qaq];try simp only[go_sem,seval,-List.reduceReplicate,Try.results39])|(with_reducible first|apply And.intro|intro _)|(refine qbP (fun _=>⟨hfst,k3⟩) ?_;simp only[go_sem,seval,-List.reduceReplicate,Try.results39])|(refine qag h1 ?_;simp only[go_sem,seval,-List.reduceReplicate,Try.results39])|(refine qac ?_;simp only[go_sem,seval,-List.reduceReplicate,Try.results39])|exact lexT|((try rw[qaa]);omega)
      exact⟨(k+1,busy,out),⟨by simp only;omega,hst,by simp only;omega⟩,by simp only;omega,⟨rfl,rfl⟩,rfl,rfl,rfl⟩
     ·rw[if_neg hpe] at hst
      have hpp:0<pins.length:=List.length_pos_iff.2 hpe
      have hnt:=Try.c_l8Net 8 ((k+1:Nat):Int) pins busy hR.bok hpbk hpe hpl
      cases hne:netB pins busy 8 0 with
      | none=>
       rw[hne] at hst hnt
       simp only at hst
       have hrn:qe2 c cells place qd4=none:=by rw[hrc,qja (by omega) hst];rfl
       rw[hrn]
       simp only[go_sem,seval,-List.reduceReplicate,Try.results39]
       repeat' first|assumption|(simp (disch:=first|assumption|omega|(simp;done)|(simp;omega)) only[qaq,List.take_of_length_le,qaq];try simp only[go_sem,seval,-List.reduceReplicate,Try.results39])|(with_reducible first|apply And.intro|intro _)|(refine qbP (fun _=>⟨hfst,k3⟩) ?_;simp only[go_sem,seval,-List.reduceReplicate,Try.results39])|(refine qag h1 ?_;simp only[go_sem,seval,-List.reduceReplicate,Try.results39])|(refine qac ?_;simp only[go_sem,seval,-List.reduceReplicate,Try.results39])|exact lexT|((try rw[qaa]);omega)
       refine qaX hnt [1] (by simp only[go_sem,seval,-List.reduceReplicate]) ?_
       rintro r0 H1 ⟨rfl,rfl⟩
       simp only[go_sem,seval,-List.reduceReplicate,Try.results39,netR]
       repeat' first|assumption|(simp (disch:=first|assumption|omega|(simp;done)|(simp;omega)) only[qaq,List.take_of_length_le,qaq];try simp only[go_sem,seval,-List.reduceReplicate,Try.results39,netR])|(with_reducible first|apply And.intro|intro _)|(refine qac ?_;simp only[go_sem,seval,-List.reduceReplicate,Try.results39,netR])|exact lexT|((try rw[qaa]);omega)
      | some q=>
       obtain⟨t,hs⟩:=q
       rw[hne] at hst hnt
       simp only at hst
       obtain⟨-,ht8,htr,-⟩:=qjY 8 0 hne
       obtain⟨b1,b2,b3⟩:=qkG hpbk hpe htr
       simp only[go_sem,seval,-List.reduceReplicate,Try.results39]
       repeat' first|assumption|(simp (disch:=first|assumption|omega|(simp;done)|(simp;omega)) only[qaq,List.take_of_length_le,qaq];try simp only[go_sem,seval,-List.reduceReplicate,Try.results39])|(with_reducible first|apply And.intro|intro _)|(refine qbP (fun _=>⟨hfst,k3⟩) ?_;simp only[go_sem,seval,-List.reduceReplicate,Try.results39])|(refine qag h1 ?_;simp only[go_sem,seval,-List.reduceReplicate,Try.results39])|(refine qac ?_;simp only[go_sem,seval,-List.reduceReplicate,Try.results39])|exact lexT|((try rw[qaa]);omega)
       refine qaX hnt [1] (by simp only[go_sem,seval,-List.reduceReplicate]) ?_
       rintro r0 H1 ⟨rfl,rfl⟩
       simp only[go_sem,seval,-List.reduceReplicate,Try.results39,netR]
       repeat' first|assumption|(simp (disch:=first|assumption|omega|(simp;done)|(simp;omega)) only[qaq,List.take_of_length_le,qaq];try simp only[go_sem,seval,-List.reduceReplicate,Try.results39,netR])|(with_reducible first|apply And.intro|intro _)|(refine qac ?_;simp only[go_sem,seval,-List.reduceReplicate,Try.results39,netR])|exact lexT|((try rw[qaa]);omega)
       have hhl:=qf7 b1
       refine qas (E:=Try.envd 0) Try.tok (σ:=Nat) (fun i=>[(0,.d (dC c)),(1,.d (dCes cells)),(2,.d (dIs place)),(3,.ptr 0 0),(6,.d .nil),(7,.d (dB false)),(8,.sl 1 8 1 0 8),(10,.sl 2 out.length 3 0 out.length),(11,.d (dI ((k+1:Nat):Int))),(13,.ptr 3 0),(15,.d (dI i))]) (fun i=>[.box [.d (dI c.inputs),.d (dIs c.next),.d (dPs c.gates),.d (dIs c.outs)],.row 8 1 true ((takeB busy t (hs.take i)).map fun x=>dBs x),.row out.length 3 false (out.map fun x=>dRt x),.box [.d (dI ((k+1:Nat):Int)),.d (dI t),.d (dPs hs)]])
        (fun i=>i≤hs.length) (fun i=>hs.length-i) [] [] 1000 1000 ?_ ?_
       ·simp only[go_sem,seval,-List.reduceReplicate]
        exact⟨0,by omega,rfl,by rw[show takeB busy t (hs.take 0)=busy from set_self (by omega)]⟩
       ·intro i hi
        have hTl:(takeB busy t (hs.take i)).length=8:=by simp[takeB];omega
        have hTr:((takeB busy t (hs.take i)).getD t []).length=25:=(qkI hR.bok (by omega)).row t (by omega)
        by_cases hit:i<hs.length
        ·have hstp:=qlp (busy:=busy) (t:=t) (by omega) hit
         have hr:=b1.rng _ (qan hit:hs.getD i (0,0)∈hs)
         generalize takeB busy t (hs.take i)=T at *
         generalize hh9:hs.getD i (0,0)=hh at *
         simp only[go_sem,seval,-List.reduceReplicate,Try.results39,hh9]
         repeat' first|assumption|(simp (disch:=first|assumption|omega|(simp;done)|(simp;omega)) only[qaq,List.take_of_length_le,qaq];try simp only[go_sem,seval,-List.reduceReplicate,Try.results39,hh9,hTl,hTr])|(with_reducible first|apply And.intro|intro _)|(refine qac ?_;simp only[go_sem,seval,-List.reduceReplicate,Try.results39,hh9,hTl,hTr])|exact lexT|((try rw[qaa]);omega)
         refine qau (E:=Try.envd 0) Try.tok Try.follows 1000 1000 [12] (fsts [0,1,5,7,2,3,4,6,8,9,10,11] (.one 12 .done)) (by kernel_rfl) ?_
         simp only[go_sem,seval,-List.reduceReplicate,Try.results39,hh9,hTl,hTr]
         repeat' first|assumption|(simp (disch:=first|assumption|omega|(simp;done)|(simp;omega)) only[qaq,List.take_of_length_le,qaq];try simp only[go_sem,seval,-List.reduceReplicate,Try.results39,hh9,hTl,hTr])|(with_reducible first|apply And.intro|intro _)|(refine qac ?_;simp only[go_sem,seval,-List.reduceReplicate,Try.results39,hh9,hTl,hTr])|exact lexT|((try rw[qaa]);omega)
         refine⟨i+1,by omega,by omega,rfl,?_⟩
         rw[hstp,List.take_of_length_le (by rw[List.length_set];omega)]
         exact qgI (f:=fun x=>dBs x)
        ·rw[show hs.take i=hs from List.take_of_length_le (by omega)]
         rw[show hs.take i=hs from List.take_of_length_le (by omega)] at hTl
         simp only[go_sem,seval,-List.reduceReplicate,Try.results39,netR]
         repeat' first|assumption|(simp (disch:=first|assumption|omega|(simp;done)|(simp;omega)) only[qaq,List.take_of_length_le,qaq];try simp only[go_sem,seval,-List.reduceReplicate,Try.results39,netR])|(with_reducible first|apply And.intro|intro _)|(refine qac ?_;simp only[go_sem,seval,-List.reduceReplicate,Try.results39,netR])|exact lexT|((try rw[qaa]);omega)
         refine⟨(k+1,takeB busy t hs,out ++ [⟨((k+1:Nat):Int),(t:Int),hs⟩]),⟨by simp only;omega,hst,by simp only[List.length_append,List.length_singleton];omega⟩,by simp only;omega,⟨by simp,rfl⟩,rfl,by simp,by simp⟩
    ·have hkk:k=c.vars.toNat-1:=by omega
     have hrn:qe2 c cells place qd4=some out:=by rw[hrc,←hkk,hro];rfl
     rw[hrn]
     simp only[go_sem,seval,-List.reduceReplicate,Try.results39]
     repeat' first|assumption|(simp (disch:=first|assumption|omega|(simp;done)|(simp;omega)) only[qaq,List.take_of_length_le,qaq];try simp only[go_sem,seval,-List.reduceReplicate,Try.results39])|(with_reducible first|apply And.intro|intro _)|(refine qbP (fun _=>⟨hfst,k3⟩) ?_;simp only[go_sem,seval,-List.reduceReplicate,Try.results39])|(refine qac ?_;simp only[go_sem,seval,-List.reduceReplicate,Try.results39])|exact lexT|((try rw[qaa]);omega)
end Go.Proofs
