/- Contracts: arrival times, clock period, delays of routes. Conditions: none; lemmas. -/
import Derived.Test.YtoanmdnkgjdinaaG2
set_option maxRecDepth 20000
set_option linter.unusedVariables false
set_option linter.unusedSimpArgs false
namespace Go.Proofs
open Go Go.VL
noncomputable def arrO (c:Circ) (place:List Int):D:=match qaI c place [] with
 | none=>.nil
 | some rs=>dIs (qaS c (qaj c) place rs)
noncomputable def qd6 (c:Circ) (place:List Int) (net tile:Int):Int:=match qaI c place [] with
 | none=>-1
 | some rs=>qbQ rs net tile
noncomputable def qcO (c:Circ) (place:List Int):Int:=match qaI c place [] with
 | none=>-1
 | some rs=>qce c (qaj c) place rs
theorem qrK {c:Circ}(hv:c.Valid) (place:List Int) (rs:List Rt):(qaS c (qaj c) place rs).getD 0 0=0:=by
 have key : ∀ i,i≤(qaj c).length→(arrT (qaj c) place rs c.vars.toNat i).getD 0 0=0:=by
  intro i
  induction i with
  | zero=>
   intro _
   rw[arrT,List.getD_eq_getElem?_getD,List.getElem?_replicate]
   split <;> rfl
  | succ i ih=>
   intro hi
   have h1:=ih (by omega)
   have h2:=qd3 hv _ (qal (by omega):(qaj c).getD i ce0∈qaj c)
   have h3:=hv.i0
   rw[arrT]
   split
   ·exact h1
   ·rw[List.getD_eq_getElem?_getD,List.getElem?_set_ne (by omega),←List.getD_eq_getElem?_getD]
    exact h1
 exact key _ (Nat.le_refl _)
theorem Try.c_Arrivals (c:Circ) (place:List Int):Pure Try.prog 34 [dC c,dIs place] (arrO c place):=by
 have hT:=Try.c_timingOf c place
 unfold arrO
 cases hra:qaI c place [] with
 | none=>
  rw[hra] at hT
  show Pure _ _ _ .nil
  refine qan (E:=Try.env 0) Try.tok rfl 1000 Try.func34 rfl rfl Try.ntmps34 (by simp) fun ok=>?_
  simp only[go_sem,seval,-List.reduceReplicate] at ok
  simp only[go_sem,seval,-List.reduceReplicate,Try.results34]
  repeat' first|assumption|(simp (disch:=first|assumption|omega|(simp;done)|(simp;omega)) only[qaa,qac,List.take_of_length_le,qab,qae,qaf,qag,qah,qak];try simp only[go_sem,seval,-List.reduceReplicate,Try.results34])|(with_reducible refine And.intro ?_ ?_)|(with_reducible intro _)|((try rw[qad]);omega)
  refine qar hT [0] (by simp only[go_sem,seval,-List.reduceReplicate]) ?_
  rintro r0 H1 ⟨rfl,rfl⟩
  simp only[go_sem,seval,-List.reduceReplicate,Try.results34]
  repeat' first|assumption|(simp (disch:=first|assumption|omega|(simp;done)|(simp;omega)) only[qaa,qac,List.take_of_length_le,qab,qae,qaf,qag,qah,qak];try simp only[go_sem,seval,-List.reduceReplicate,Try.results34])|(with_reducible refine And.intro ?_ ?_)|(with_reducible intro _)|((try rw[qad]);omega)
 | some rs=>
  rw[hra] at hT
  show Pure _ _ _ (dIs (qaS c (qaj c) place rs))
  refine qan (E:=Try.env 0) Try.tok rfl 1000 Try.func34 rfl rfl Try.ntmps34 (by simp) fun ok=>?_
  simp only[go_sem,seval,-List.reduceReplicate] at ok
  simp only[go_sem,seval,-List.reduceReplicate,Try.results34]
  repeat' first|assumption|(simp (disch:=first|assumption|omega|(simp;done)|(simp;omega)) only[qaa,qac,List.take_of_length_le,qab,qae,qaf,qag,qah,qak];try simp only[go_sem,seval,-List.reduceReplicate,Try.results34])|(with_reducible refine And.intro ?_ ?_)|(with_reducible intro _)|((try rw[qad]);omega)
  refine qar hT [0] (by simp only[go_sem,seval,-List.reduceReplicate]) ?_
  rintro r0 H1 ⟨m,B1,B4,hm,rfl,rfl⟩
  simp only[go_sem,seval,-List.reduceReplicate,Try.results34]
  repeat' first|assumption|(simp (disch:=first|assumption|omega|(simp;done)|(simp;omega)) only[qaa,qac,List.take_of_length_le,qab,qae,qaf,qag,qah,qak];try simp only[go_sem,seval,-List.reduceReplicate,Try.results34])|(with_reducible refine And.intro ?_ ?_)|(with_reducible intro _)|((try rw[qad]);omega)
theorem Try.c_RouteDelay (c:Circ) (place:List Int) (net tile:Int):Pure Try.prog 23 [dC c,dIs place,dI net,dI tile] (dI (qd6 c place net tile)):=by
 have hT:=Try.c_timingOf c place
 unfold qd6
 cases hra:qaI c place [] with
 | none=>
  rw[hra] at hT
  show Pure _ _ _ (dI (-1))
  refine qan (E:=Try.env 0) Try.tok rfl 1000 Try.func23 rfl rfl Try.ntmps23 (by simp) fun ok=>?_
  simp only[go_sem,seval,-List.reduceReplicate] at ok
  simp only[go_sem,seval,-List.reduceReplicate,Try.results23]
  repeat' first|assumption|(simp (disch:=first|assumption|omega|(simp;done)|(simp;omega)) only[qaa,qac,List.take_of_length_le,qab,qae,qaf,qag,qah,qak];try simp only[go_sem,seval,-List.reduceReplicate,Try.results23])|(with_reducible refine And.intro ?_ ?_)|(with_reducible intro _)|((try rw[qad]);omega)
  refine qar hT [0] (by simp only[go_sem,seval,-List.reduceReplicate]) ?_
  rintro r0 H1 ⟨rfl,rfl⟩
  simp only[go_sem,seval,-List.reduceReplicate,Try.results23]
  repeat' first|assumption|(simp (disch:=first|assumption|omega|(simp;done)|(simp;omega)) only[qaa,qac,List.take_of_length_le,qab,qae,qaf,qag,qah,qak];try simp only[go_sem,seval,-List.reduceReplicate,Try.results23])|(with_reducible refine And.intro ?_ ?_)|(with_reducible intro _)|((try rw[qad]);omega)
 | some rs=>
  rw[hra] at hT
  show Pure _ _ _ (dI (qbQ rs net tile))
  refine qan (E:=Try.env 0) Try.tok rfl 1000 Try.func23 rfl rfl Try.ntmps23 (by simp) fun ok=>?_
  simp only[go_sem,seval,-List.reduceReplicate] at ok
  simp only[go_sem,seval,-List.reduceReplicate,Try.results23]
  repeat' first|assumption|(simp (disch:=first|assumption|omega|(simp;done)|(simp;omega)) only[qaa,qac,List.take_of_length_le,qab,qae,qaf,qag,qah,qak];try simp only[go_sem,seval,-List.reduceReplicate,Try.results23])|(with_reducible refine And.intro ?_ ?_)|(with_reducible intro _)|((try rw[qad]);omega)
  refine qar hT [0] (by simp only[go_sem,seval,-List.reduceReplicate]) ?_
  rintro r0 H1 ⟨m,B1,B4,hm,rfl,rfl⟩
  have ef:=qhf (net,tile) m
  obtain⟨-,hf2,hf3⟩:=hm.fin net tile
  cases hkm:hk m (net,tile) with
  | none=>
   rw[hkm] at ef
   have h3:=hf3 hkm
   simp only[go_sem,seval,-List.reduceReplicate,Try.results23,ef,Option.map_none,Option.getD_none,Option.isSome_none]
   repeat' first|assumption|(simp (disch:=first|assumption|omega|(simp;done)|(simp;omega)) only[qaa,qac,List.take_of_length_le,qab,qae,qaf,qag,qah,qak];try simp only[go_sem,seval,-List.reduceReplicate,Try.results23,ef,Option.map_none,Option.getD_none,Option.isSome_none])|(with_reducible refine And.intro ?_ ?_)|(with_reducible intro _)|((try rw[qad]);omega)
   exact qd5 rfl m
  | some d=>
   rw[hkm] at ef
   obtain⟨h2,h3⟩:=hf2 d hkm
   simp only[go_sem,seval,-List.reduceReplicate,Try.results23,ef,Option.map_some,Option.getD_some,Option.isSome_some]
   repeat' first|assumption|(simp (disch:=first|assumption|omega|(simp;done)|(simp;omega)) only[qaa,qac,List.take_of_length_le,qab,qae,qaf,qag,qah,qak];try simp only[go_sem,seval,-List.reduceReplicate,Try.results23,ef,Option.map_some,Option.getD_some,Option.isSome_some])|(with_reducible refine And.intro ?_ ?_)|(with_reducible intro _)|((try rw[qad]);omega)
   exact qd5 rfl m
theorem Try.c_ClockPeriod (c:Circ) (place:List Int):Pure Try.prog 31 [dC c,dIs place] (dI (qcO c place)):=by
 have hT:=Try.c_timingOf c place
 unfold qcO
 cases hra:qaI c place [] with
 | none=>
  rw[hra] at hT
  show Pure _ _ _ (dI (-1))
  refine qan (E:=Try.env 0) Try.tok rfl 1000 Try.func31 rfl rfl Try.ntmps31 (by simp) fun ok=>?_
  simp only[go_sem,seval,-List.reduceReplicate] at ok
  simp only[go_sem,seval,-List.reduceReplicate,Try.results31]
  repeat' first|assumption|(simp (disch:=first|assumption|omega|(simp;done)|(simp;omega)) only[qaa,qac,List.take_of_length_le,qab,qae,qaf,qag,qah,qak];try simp only[go_sem,seval,-List.reduceReplicate,Try.results31])|(with_reducible refine And.intro ?_ ?_)|(with_reducible intro _)|((try rw[qad]);omega)
  refine qar hT [0] (by simp only[go_sem,seval,-List.reduceReplicate]) ?_
  rintro r0 H1 ⟨rfl,rfl⟩
  simp only[go_sem,seval,-List.reduceReplicate,Try.results31]
  repeat' first|assumption|(simp (disch:=first|assumption|omega|(simp;done)|(simp;omega)) only[qaa,qac,List.take_of_length_le,qab,qae,qaf,qag,qah,qak];try simp only[go_sem,seval,-List.reduceReplicate,Try.results31])|(with_reducible refine And.intro ?_ ?_)|(with_reducible intro _)|((try rw[qad]);omega)
 | some rs=>
  rw[hra] at hT
  show Pure _ _ _ (dI (qce c (qaj c) place rs))
  have hro:=qb4 hra
  obtain⟨hv,hp,-,busy,hRo⟩:=qcN hra
  have hvb:=hv.vars_bd
  have hcl:=qbi hv
  have hcin:=qcD hv
  have hpr:=fun i hi=>hp.get (i:=i) hi
  have hpn:=hp.len
  have hlo:=hv.lo
  have hrl:=hro.len
  have hAl:(qaS c (qaj c) place rs).length=c.vars.toNat:=qdB _
  have hAb:=fun v=>qes (cells:=qaj c) (place:=place) hro (N:=c.vars.toNat) (qaj c).length v
  have hAd:arrT (qaj c) place rs c.vars.toNat (qaj c).length=qaS c (qaj c) place rs:=rfl
  rw[hAd] at hAb
  have hA0:=qrK hv place rs
  have hA0':(qaS c (qaj c) place rs).getD (0:Int).toNat 0=0:=hA0
  have hpd:qce c (qaj c) place rs=perB c rs (qaS c (qaj c) place rs) (perA (qaj c) place rs (qaS c (qaj c) place rs) (qaj c).length) c.outs.length:=rfl
  rw[hpd]
  refine qan (E:=Try.env 0) Try.tok rfl 1000 Try.func31 rfl rfl Try.ntmps31 (by simp) fun ok=>?_
  simp only[go_sem,seval,-List.reduceReplicate] at ok
  simp only[go_sem,seval,-List.reduceReplicate,Try.results31]
  repeat' first|assumption|(simp (disch:=first|assumption|omega|(simp;done)|(simp;omega)) only[qaa,qac,List.take_of_length_le,qab,qae,qaf,qag,qah,qak];try simp only[go_sem,seval,-List.reduceReplicate,Try.results31])|(with_reducible refine And.intro ?_ ?_)|(with_reducible intro _)|((try rw[qad]);omega)
  refine qar hT [0] (by simp only[go_sem,seval,-List.reduceReplicate]) ?_
  rintro r0 H1 ⟨m,B1,B4,hm,rfl,rfl⟩
  generalize hcs:qaj c=cells at *
  generalize qaS c cells place rs=A at *
  have hla:=fun nets hn hl tile=>Try.c_latest 0 cells m A rs hm hro (2503*(cells.length:Int)) (by omega) hAb nets hn hl tile
  simp only[go_sem,seval,-List.reduceReplicate,Try.results31]
  repeat' first|assumption|(simp (disch:=first|assumption|omega|(simp;done)|(simp;omega)) only[qaa,qac,List.take_of_length_le,qab,qae,qaf,qag,qah,qak];try simp only[go_sem,seval,-List.reduceReplicate,Try.results31])|(with_reducible refine And.intro ?_ ?_)|(with_reducible intro _)|((try rw[qad]);omega)
  refine qao (E:=Try.env 0) Try.tok (σ:=Nat) (fun i=>[(1,.d (dIs place)),(2,.ptr 0 0),(5,.ptr 5 0),(7,.d (dI (perA cells place rs A i))),(20,.d (dCes cells)),(21,.d (dI cells.length)),(22,.d (dI i))])
   (fun i=>[.box [.d (dI c.inputs),.d (dIs c.next),.d (dPs c.gates),.d (dIs c.outs)],.dead 0,.map (hkE m),.row 0 1 true (A.map (D.int .i64)),.dead 0,.box [.d (dCes cells),.map 2,.sl 3 0 1 0 A.length]]) (fun i=>i≤cells.length) (fun i=>cells.length-i) [] [] 1000 1000 ?_ ?_
  ·simp only[go_sem,seval,-List.reduceReplicate]
   exact⟨0,by omega,rfl,rfl⟩
  ·intro i hi
   have hpb:=qlx (cells:=cells) (place:=place) hro hAb i
   by_cases hit:i<cells.length
   ·have hxm:cells.getD i ce0∈cells:=qal hit
    have h2:=hcin _ hxm
    have hpi:=hpr i hit
    have hlb:=qer hAb hro (place.getD i 0) (cells.getD i ce0).inputs
    have has:perA cells place rs A (i+1)=if(cells.getD i ce0).reg then max (perA cells place rs A i) (latT A rs (cells.getD i ce0).inputs (place.getD i 0)+3) else perA cells place rs A i:=rfl
    generalize hx9:cells.getD i ce0=x at *
    have hla2:=hla x.inputs (fun n hn=>by have:=h2.2.2 n hn;omega) (by omega) (place.getD i 0)
    generalize perA cells place rs A i=w at *
    simp only[go_sem,seval,-List.reduceReplicate,Try.results31,hx9]
    repeat' first|assumption|(simp (disch:=first|assumption|omega|(simp;done)|(simp;omega)) only[qaa,qac,List.take_of_length_le,qab,qae,qaf,qag,qah,qak];try simp only[go_sem,seval,-List.reduceReplicate,Try.results31,hx9])|(with_reducible refine And.intro ?_ ?_)|(with_reducible intro _)|((try rw[qad]);omega)
    ·rename_i h7
     rw[if_pos h7] at has
     refine qaQ (E:=Try.env 0) Try.tok Try.follows 1000 1000 [8] (.fst 0 (.fst 2 (.fst 4 (.fst 5 (.fst 6 (.fst 1 (.fst 3 (.fst 7 (.one 8 (.fst 9 (.fst 10 (.fst 11 (.done))))))))))))) (by kernel_rfl) ?_
     simp only[go_sem,seval,-List.reduceReplicate,Try.results31,hx9]
     repeat' first|assumption|(simp (disch:=first|assumption|omega|(simp;done)|(simp;omega)) only[qaa,qac,List.take_of_length_le,qab,qae,qaf,qag,qah,qak];try simp only[go_sem,seval,-List.reduceReplicate,Try.results31,hx9])|(with_reducible refine And.intro ?_ ?_)|(with_reducible intro _)|((try rw[qad]);omega)
     refine qar hla2 [2,3] (by simp only[go_sem,seval,-List.reduceReplicate]) ?_
     rintro r0 H1 ⟨rfl,rfl⟩
     simp only[go_sem,seval,-List.reduceReplicate,Try.results31,hx9]
     repeat' first|assumption|(simp (disch:=first|assumption|omega|(simp;done)|(simp;omega)) only[qaa,qac,List.take_of_length_le,qab,qae,qaf,qag,qah,qak];try simp only[go_sem,seval,-List.reduceReplicate,Try.results31,hx9])|(with_reducible refine And.intro ?_ ?_)|(with_reducible intro _)|((try rw[qad]);omega)
     refine⟨i+1,by omega,by omega,?_,rfl⟩
     rw[has,Int.add_comm 3]
    ·rename_i h7
     rw[if_neg (by rw[h7];simp)] at has
     exact⟨i+1,by omega,by omega,has.symm,rfl⟩
   ·obtain rfl:i=cells.length:=by omega
    generalize perA cells place rs A cells.length=t0 at *
    simp only[go_sem,seval,-List.reduceReplicate,Try.results31]
    repeat' first|assumption|(simp (disch:=first|assumption|omega|(simp;done)|(simp;omega)) only[qaa,qac,List.take_of_length_le,qab,qae,qaf,qag,qah,qak];try simp only[go_sem,seval,-List.reduceReplicate,Try.results31])|(with_reducible refine And.intro ?_ ?_)|(with_reducible intro _)|((try rw[qad]);omega)
    have hpb2:=qly (c:=c) hro hAb hpb
    refine qao (E:=Try.env 0) Try.tok (σ:=Nat) (fun o=>[(2,.ptr 0 0),(5,.ptr 5 0),(7,.d (dI (perB c rs A t0 o))),(42,.d (dIs c.outs)),(43,.d (dI c.outs.length)),(44,.d (dI o))])
     (fun i=>[.box [.d (dI c.inputs),.d (dIs c.next),.d (dPs c.gates),.d (dIs c.outs)],.dead 0,.map (hkE m),.row 0 1 true (A.map (D.int .i64)),.dead 0,.box [.d (dCes cells),.map 2,.sl 3 0 1 0 A.length]]) (fun o=>o≤c.outs.length) (fun o=>c.outs.length-o) [] [] 1000 1000 ?_ ?_
    ·simp only[go_sem,seval,-List.reduceReplicate]
     exact⟨0,by omega,rfl,rfl⟩
    ·intro o ho
     have hpo:=hpb2 o
     by_cases hot:o<c.outs.length
     ·have hoo:=hv.o _ (qal hot:c.outs.getD o 0∈c.outs)
      unfold qbc at hoo
      have hbs:perB c rs A t0 (o+1)=max (perB c rs A t0 o) (A.getD (c.outs.getD o 0/2).toNat 0+qaW rs (c.outs.getD o 0/2) ((o:Int)*5+4)):=rfl
      have hpt:=Try.c_padTile (o:Int) (by omega)
      generalize hx9:c.outs.getD o 0=x at *
      have hr:=qab (y:=2) hoo.1
      generalize perB c rs A t0 o=w at *
      simp only[go_sem,seval,-List.reduceReplicate,Try.results31,hx9]
      repeat' first|assumption|(simp (disch:=first|assumption|omega|(simp;done)|(simp;omega)) only[qaa,qac,List.take_of_length_le,qab,qae,qaf,qag,qah,qak];try simp only[go_sem,seval,-List.reduceReplicate,Try.results31,hx9])|(with_reducible refine And.intro ?_ ?_)|(with_reducible intro _)|((try rw[qad]);omega)
      ·rename_i h7
       have hlc:=fun g=>Try.c_latestR 0 g cells m A rs hm hro (2503*(cells.length:Int)) (by omega) hAb [x/2] (fun n hn=>by
        obtain rfl:n=x/2:=by simpa using hn
        omega) (by simp) ((o:Int)*5+4)
       have hlv:latT A rs [x/2] ((o:Int)*5+4)=max 0 (A.getD (x/2).toNat 0+qaW rs (x/2) ((o:Int)*5+4)):=rfl
       refine qaQ (E:=Try.env 0) Try.tok Try.follows 1000 1000 [7] (.fst 0 (.fst 2 (.fst 3 (.fst 5 (.fst 1 (.two 4 (.one 6 (.one 7 (.fst 8 (.fst 9 (.done))))) 6 (.one 4 (.one 7 (.fst 8 (.fst 9 (.done))))))))))) (by kernel_rfl) ?_
       simp only[go_sem,seval,-List.reduceReplicate,Try.results31,hx9]
       repeat' first|assumption|(simp (disch:=first|assumption|omega|(simp;done)|(simp;omega)) only[qaa,qac,List.take_of_length_le,qab,qae,qaf,qag,qah,qak];try simp only[go_sem,seval,-List.reduceReplicate,Try.results31,hx9,hr])|(with_reducible refine And.intro ?_ ?_)|(with_reducible intro _)|(refine qai hpt ?_;simp only[go_sem,seval,-List.reduceReplicate,Try.results31,hx9,hr])|((try rw[qad]);omega)
       all_goals (
        refine qar (hlc 0) [2,3,6] (by simp only[go_sem,seval,-List.reduceReplicate]) ?_
        rintro r0 H1 ⟨rfl,rfl⟩
        simp only[go_sem,seval,-List.reduceReplicate,Try.results31,hx9,hlv]
        repeat' first|assumption|(simp (disch:=first|assumption|omega|(simp;done)|(simp;omega)) only[qaa,qac,List.take_of_length_le,qab,qae,qaf,qag,qah,qak];try simp only[go_sem,seval,-List.reduceReplicate,Try.results31,hx9,hlv])|(with_reducible refine And.intro ?_ ?_)|(with_reducible intro _)|((try rw[qad]);omega)
        have hAx:=hAb (x/2).toNat
        have hhx:=qbD (net:=x/2) (tile:=(o:Int)*5+4) hro.hops
        exact⟨o+1,by omega,by omega,by omega,rfl⟩)
      ·rename_i h7
       have hx2:x/2=0:=by omega
       rw[hx2,hA0',qfa (fun r hr2=>by have:=hro.net r hr2;omega)] at hbs
       exact⟨o+1,by omega,by omega,by omega,rfl⟩
     ·obtain rfl:o=c.outs.length:=by omega
      simp only[go_sem,seval,-List.reduceReplicate,Try.results31]
      repeat' first|assumption|(simp (disch:=first|assumption|omega|(simp;done)|(simp;omega)) only[qaa,qac,List.take_of_length_le,qab,qae,qaf,qag,qah,qak];try simp only[go_sem,seval,-List.reduceReplicate,Try.results31])|(with_reducible refine And.intro ?_ ?_)|(with_reducible intro _)|((try rw[qad]);omega)
end Go.Proofs
