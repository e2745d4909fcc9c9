/- Contracts: the reference routes around defects. Conditions: none; lemmas. -/
import Derived.Test.YtoanmdnkgjdinaaGreatE4
set_option maxRecDepth 20000
set_option linter.unusedVariables false
set_option linter.unusedSimpArgs false
namespace Go.Proofs
open Go Go.VL
theorem Tryz.c_l24Route (c:Circ) (hc:c.Valid) (cells:List Cel) (hcl:cells.length≤25) (hci : ∀ x∈cells,x.inputs.length≤3) (place:List Int) (hp:PlaceOk cells.length place) (list:List (Int×Int)) (hd:qky list) :
  PureF Tryz.prog 56 [dC c,dCes cells,dIs place,dPs list] (.tup [dRts ((qcB c cells place (qcS list)).getD []),dB (qcB c cells place (qcS list)).isSome]):=by
 have hf:=hc.first_bd
 have hv:=hc.vars_bd
 have hi0:=hc.i0
 have hi1:=hc.i1
 have hvv:c.vars=c.first+(c.gates.length:Int):=rfl
 have hfst:=Tryz.c_l1First c (by omega)
 have k3:scal (dI c.first):=by show InK .i64 _;rw[qad];omega
 have hpb:=fun net=>qg0 hc hp (net:=net)
 refine qbI (E:=Tryz.envd 0) Tryz.tok rfl 1000 Tryz.func56 rfl rfl Tryz.ntmps56 (by simp) fun ok=>?_
 simp only[go_sem,seval,-List.reduceReplicate] at ok
 simp only[go_sem,seval,-List.reduceReplicate,Tryz.results56]
 repeat' first|assumption|(simp (disch:=first|assumption|omega|(simp;done)|(simp;omega)) only[qaa,qac,List.take_of_length_le,qab,qae,qaf,qag,qah,qao,qaj,qaa];try simp only[go_sem,seval,-List.reduceReplicate,Tryz.results56])|(with_reducible refine And.intro ?_ ?_)|(with_reducible intro _)|((with_reducible (show Region.lexB _ _=true));kernel_rfl)|((try rw[qad]);omega)
 refine qaq (E:=Tryz.envd 0) Tryz.tok (σ:=Nat) (fun t=>[(0,.d (dC c)),(1,.d (dCes cells)),(2,.d (dIs place)),(3,.d (dPs list)),(4,.ptr 0 0),(8,.d .nil),(9,.d (dB false)),(10,.sl 1 t 1 0 t),(11,.d (dI t))]) (fun t=>[.box [.d (dI c.inputs),.d (dIs c.next),.d (dPs c.gates),.d (dIs c.outs)],.row t 1 true ((List.replicate t (List.replicate 25 false)).map fun x=>dBs x)]) (fun t=>t≤8) (fun t=>8-t) [] [] 1000 1000 ?_ ?_
 ·simp only[go_sem,seval,-List.reduceReplicate]
  exact⟨0,by omega,by simp⟩
 ·intro t ht
  by_cases htt:t<8
  ·have hrl:(List.replicate t (List.replicate 25 false)).length=t:=by simp
   have hrs:List.replicate (t+1) (List.replicate 25 false)=List.replicate t (List.replicate 25 false) ++ [List.replicate 25 false]:=List.replicate_succ'
   generalize List.replicate t (List.replicate 25 false)=q at *
   simp only[go_sem,seval,-List.reduceReplicate,Tryz.results56]
   repeat' first|assumption|(simp (disch:=first|assumption|omega|(simp;done)|(simp;omega)) only[qaa,qac,List.take_of_length_le,qab,qae,qaf,qag,qah,qao,qaj,qaa];try simp only[go_sem,seval,-List.reduceReplicate,Tryz.results56,hrl])|(with_reducible refine And.intro ?_ ?_)|(with_reducible intro _)|((with_reducible (show Region.lexB _ _=true));kernel_rfl)|((try rw[qad]);omega)
   refine⟨t+1,by omega,by omega,rfl,rfl,?_⟩
   rw[hrs]
  ·obtain rfl:t=8:=by omega
   rw[show List.replicate 8 (List.replicate 25 false)=qdQ from rfl]
   simp only[go_sem,seval,-List.reduceReplicate,Tryz.results56]
   repeat' first|assumption|(simp (disch:=first|assumption|omega|(simp;done)|(simp;omega)) only[qaa,qac,List.take_of_length_le,qab,qae,qaf,qag,qah,qao,qaj,qaa];try simp only[go_sem,seval,-List.reduceReplicate,Tryz.results56])|(with_reducible refine And.intro ?_ ?_)|(with_reducible intro _)|((with_reducible (show Region.lexB _ _=true));kernel_rfl)|((try rw[qad]);omega)
   refine qaq (E:=Tryz.envd 0) Tryz.tok (σ:=Nat) (fun i=>[(0,.d (dC c)),(1,.d (dCes cells)),(2,.d (dIs place)),(3,.d (dPs list)),(4,.ptr 0 0),(8,.d .nil),(9,.d (dB false)),(10,.sl 1 8 1 0 8),(12,.d (dI i))]) (fun i=>[.box [.d (dI c.inputs),.d (dIs c.next),.d (dPs c.gates),.d (dIs c.outs)],.row 8 1 true ((qcS (list.take i)).map fun x=>dBs x)]) (fun i=>i≤list.length) (fun i=>list.length-i) [] [] 1000 1000 ?_ ?_
   ·simp only[go_sem,seval,-List.reduceReplicate]
    exact⟨0,by omega,rfl,rfl⟩
   ·intro i hi
    have hbl:=qia (list.take i)
    have hbr:=qib (list.take i)
    by_cases hit:i<list.length
    ·have hstp:=qiW hit
     have hr:=hd.2 _ (qak hit:list.getD i (0,0)∈list)
     generalize qcS (list.take i)=T at *
     generalize hh9:list.getD i (0,0)=hh at *
     have hbr2:=hbr hh.2.toNat (by omega)
     simp only[go_sem,seval,-List.reduceReplicate,Tryz.results56,hh9]
     repeat' first|assumption|(simp (disch:=first|assumption|omega|(simp;done)|(simp;omega)) only[qaa,qac,List.take_of_length_le,qab,qae,qaf,qag,qah,qao,qaj,qaa];try simp only[go_sem,seval,-List.reduceReplicate,Tryz.results56,hh9,hbl,hbr2])|(with_reducible refine And.intro ?_ ?_)|(with_reducible intro _)|((with_reducible (show Region.lexB _ _=true));kernel_rfl)|((try rw[qad]);omega)
     refine qaT (E:=Tryz.envd 0) Tryz.tok Tryz.follows 1000 1000 [14] (.fst 0 (.fst 1 (.fst 2 (.fst 3 (.fst 4 (.fst 8 (.fst 9 (.fst 10 (.fst 11 (.fst 5 (.fst 6 (.fst 7 (.fst 12 (.fst 13 (.one 14 (.done)))))))))))))))) (by kernel_rfl) ?_
     simp only[go_sem,seval,-List.reduceReplicate,Tryz.results56,hh9]
     repeat' first|assumption|(simp (disch:=first|assumption|omega|(simp;done)|(simp;omega)) only[qaa,qac,List.take_of_length_le,qab,qae,qaf,qag,qah,qao,qaj,qaa];try simp only[go_sem,seval,-List.reduceReplicate,Tryz.results56,hh9,hbl,hbr2])|(with_reducible refine And.intro ?_ ?_)|(with_reducible intro _)|((with_reducible (show Region.lexB _ _=true));kernel_rfl)|((try rw[qad]);omega)
     refine⟨i+1,by omega,by omega,rfl,?_⟩
     rw[hstp,List.take_of_length_le (by rw[List.length_set];omega)]
     exact qeD (f:=fun x=>dBs x)
    ·rw[show list.take i=list from List.take_of_length_le (by omega)]
     have hbok:=qg3 list
     generalize qcS list=busy0 at *
     simp only[go_sem,seval,-List.reduceReplicate,Tryz.results56]
     repeat' first|assumption|(simp (disch:=first|assumption|omega|(simp;done)|(simp;omega)) only[qaa,qac,List.take_of_length_le,qab,qae,qaf,qag,qah,qao,qaj,qaa];try simp only[go_sem,seval,-List.reduceReplicate,Tryz.results56])|(with_reducible refine And.intro ?_ ?_)|(with_reducible intro _)|((with_reducible (show Region.lexB _ _=true));kernel_rfl)|((try rw[qad]);omega)
     have hrc:qcB c cells place busy0=(qcs c cells place busy0 (c.vars.toNat-1)).map (·.2):=rfl
     refine qaq (E:=Tryz.envd 0) Tryz.tok (σ:=Nat×List (List Bool)×List Rt) (fun s=>[(0,.d (dC c)),(1,.d (dCes cells)),(2,.d (dIs place)),(4,.ptr 0 0),(8,.d .nil),(9,.d (dB false)),(10,.sl 1 8 1 0 8),(13,.sl 2 s.2.2.length 3 0 s.2.2.length),(14,.d (dI ((s.1+1:Nat):Int)))]) (fun s=>[.box [.d (dI c.inputs),.d (dIs c.next),.d (dPs c.gates),.d (dIs c.outs)],.row 8 1 true (s.2.1.map fun x=>dBs x),.row s.2.2.length 3 false (s.2.2.map fun x=>dRt x)])
      (fun s=>(s.1:Int)≤c.vars-1∧qcs c cells place busy0 s.1=some (s.2.1,s.2.2)∧s.2.2.length≤s.1) (fun s=>c.vars.toNat-s.1) [] [] 1000 1000 ?_ ?_
     ·simp only[go_sem,seval,-List.reduceReplicate]
      exact⟨(0,busy0,[]),⟨by simp only;omega,rfl,by simp⟩,by simp⟩
     ·rintro⟨k,busy,out⟩ ⟨hk,hro,hol⟩
      simp only at hk hro hol
      have hR:=qf4 hc hp hbok k hro
      have hbl:=hR.bok.len
      have ek:(k:Int)+1=((k+1:Nat):Int):=by omega
      by_cases hlt:(k:Int)<c.vars-1
      ·have hst:=qh8 hro
       rw[ek] at hst
       have h1:=Tryz.c_l7Pins c hc cells hcl hci place hp ((k+1:Nat):Int) (by omega)
       have hpbk:=hpb ((k+1:Nat):Int)
       have hpl:=qkx hc hcl hci (place:=place) (net:=((k+1:Nat):Int))
       generalize qdk c cells place ((k+1:Nat):Int)=pins at *
       by_cases hpe:pins=[]
       ·rw[if_pos hpe] at hst
        subst hpe
        simp only[go_sem,seval,-List.reduceReplicate,Tryz.results56]
        repeat' first|assumption|(simp (disch:=first|assumption|omega|(simp;done)|(simp;omega)) only[qaa,qac,List.take_of_length_le,qab,qae,qaf,qag,qah,qao,qaj,qaa];try simp only[go_sem,seval,-List.reduceReplicate,Tryz.results56])|(with_reducible refine And.intro ?_ ?_)|(with_reducible intro _)|(refine qa9 (fun _=>⟨hfst,k3⟩) ?_;simp only[go_sem,seval,-List.reduceReplicate,Tryz.results56])|(refine qai h1 ?_;simp only[go_sem,seval,-List.reduceReplicate,Tryz.results56])|((with_reducible (show Region.lexB _ _=true));kernel_rfl)|((try rw[qad]);omega)
        exact⟨(k+1,busy,out),⟨by simp only;omega,hst,by simp only;omega⟩,by simp only;omega,⟨rfl,rfl⟩,rfl,rfl,rfl⟩
       ·rw[if_neg hpe] at hst
        have hpp:0<pins.length:=List.length_pos_iff.2 hpe
        have hnt:=Tryz.c_l8Net 8 ((k+1:Nat):Int) pins busy hR.bok hpbk hpe hpl
        cases hne:netB pins busy 8 0 with
        | none=>
         rw[hne] at hst hnt
         simp only at hst
         have hrn:qcB c cells place busy0=none:=by rw[hrc,qh7 (by omega) hst];rfl
         rw[hrn]
         simp only[go_sem,seval,-List.reduceReplicate,Tryz.results56]
         repeat' first|assumption|(simp (disch:=first|assumption|omega|(simp;done)|(simp;omega)) only[qaa,qac,List.take_of_length_le,qab,qae,qaf,qag,qah,qao,qaj,qaa];try simp only[go_sem,seval,-List.reduceReplicate,Tryz.results56])|(with_reducible refine And.intro ?_ ?_)|(with_reducible intro _)|(refine qa9 (fun _=>⟨hfst,k3⟩) ?_;simp only[go_sem,seval,-List.reduceReplicate,Tryz.results56])|(refine qai h1 ?_;simp only[go_sem,seval,-List.reduceReplicate,Tryz.results56])|((with_reducible (show Region.lexB _ _=true));kernel_rfl)|((try rw[qad]);omega)
         refine qax hnt [1] (by simp only[go_sem,seval,-List.reduceReplicate]) ?_
         rintro r0 H1 ⟨rfl,rfl⟩
         simp only[go_sem,seval,-List.reduceReplicate,Tryz.results56,netR]
         repeat' first|assumption|(simp (disch:=first|assumption|omega|(simp;done)|(simp;omega)) only[qaa,qac,List.take_of_length_le,qab,qae,qaf,qag,qah,qao,qaj,qaa];try simp only[go_sem,seval,-List.reduceReplicate,Tryz.results56,netR])|(with_reducible refine And.intro ?_ ?_)|(with_reducible intro _)|((with_reducible (show Region.lexB _ _=true));kernel_rfl)|((try rw[qad]);omega)
        | some q=>
         obtain⟨t,hs⟩:=q
         rw[hne] at hst hnt
         simp only at hst
         obtain⟨-,ht8,htr,-⟩:=qhT 8 0 hne
         obtain⟨b1,b2,b3⟩:=qf2 hpbk hpe htr
         simp only[go_sem,seval,-List.reduceReplicate,Tryz.results56]
         repeat' first|assumption|(simp (disch:=first|assumption|omega|(simp;done)|(simp;omega)) only[qaa,qac,List.take_of_length_le,qab,qae,qaf,qag,qah,qao,qaj,qaa];try simp only[go_sem,seval,-List.reduceReplicate,Tryz.results56])|(with_reducible refine And.intro ?_ ?_)|(with_reducible intro _)|(refine qa9 (fun _=>⟨hfst,k3⟩) ?_;simp only[go_sem,seval,-List.reduceReplicate,Tryz.results56])|(refine qai h1 ?_;simp only[go_sem,seval,-List.reduceReplicate,Tryz.results56])|((with_reducible (show Region.lexB _ _=true));kernel_rfl)|((try rw[qad]);omega)
         refine qax hnt [1] (by simp only[go_sem,seval,-List.reduceReplicate]) ?_
         rintro r0 H1 ⟨rfl,rfl⟩
         simp only[go_sem,seval,-List.reduceReplicate,Tryz.results56,netR]
         repeat' first|assumption|(simp (disch:=first|assumption|omega|(simp;done)|(simp;omega)) only[qaa,qac,List.take_of_length_le,qab,qae,qaf,qag,qah,qao,qaj,qaa];try simp only[go_sem,seval,-List.reduceReplicate,Tryz.results56,netR])|(with_reducible refine And.intro ?_ ?_)|(with_reducible intro _)|((with_reducible (show Region.lexB _ _=true));kernel_rfl)|((try rw[qad]);omega)
         have hhl:=qcK b1
         refine qaq (E:=Tryz.envd 0) Tryz.tok (σ:=Nat) (fun i=>[(0,.d (dC c)),(1,.d (dCes cells)),(2,.d (dIs place)),(4,.ptr 0 0),(8,.d .nil),(9,.d (dB false)),(10,.sl 1 8 1 0 8),(13,.sl 2 out.length 3 0 out.length),(14,.d (dI ((k+1:Nat):Int))),(16,.ptr 3 0),(18,.d (dI i))]) (fun i=>[.box [.d (dI c.inputs),.d (dIs c.next),.d (dPs c.gates),.d (dIs c.outs)],.row 8 1 true ((takeB busy t (hs.take i)).map fun x=>dBs x),.row out.length 3 false (out.map fun x=>dRt x),.box [.d (dI ((k+1:Nat):Int)),.d (dI t),.d (dPs hs)]])
          (fun i=>i≤hs.length) (fun i=>hs.length-i) [] [] 1000 1000 ?_ ?_
         ·simp only[go_sem,seval,-List.reduceReplicate]
          exact⟨0,by omega,rfl,by rw[show takeB busy t (hs.take 0)=busy from set_self (by omega)]⟩
         ·intro i hi
          have hTl:(takeB busy t (hs.take i)).length=8:=by simp[takeB];omega
          have hTr:((takeB busy t (hs.take i)).getD t []).length=25:=(qf3 hR.bok (by omega)).row t (by omega)
          by_cases hit:i<hs.length
          ·have hstp:=qgx (busy:=busy) (t:=t) (by omega) hit
           have hr:=b1.rng _ (qak hit:hs.getD i (0,0)∈hs)
           generalize takeB busy t (hs.take i)=T at *
           generalize hh9:hs.getD i (0,0)=hh at *
           simp only[go_sem,seval,-List.reduceReplicate,Tryz.results56,hh9]
           repeat' first|assumption|(simp (disch:=first|assumption|omega|(simp;done)|(simp;omega)) only[qaa,qac,List.take_of_length_le,qab,qae,qaf,qag,qah,qao,qaj,qaa];try simp only[go_sem,seval,-List.reduceReplicate,Tryz.results56,hh9,hTl,hTr])|(with_reducible refine And.intro ?_ ?_)|(with_reducible intro _)|((with_reducible (show Region.lexB _ _=true));kernel_rfl)|((try rw[qad]);omega)
           refine qaT (E:=Tryz.envd 0) Tryz.tok Tryz.follows 1000 1000 [12] (.fst 0 (.fst 1 (.fst 5 (.fst 7 (.fst 2 (.fst 3 (.fst 4 (.fst 6 (.fst 8 (.fst 9 (.fst 10 (.fst 11 (.one 12 (.done)))))))))))))) (by kernel_rfl) ?_
           simp only[go_sem,seval,-List.reduceReplicate,Tryz.results56,hh9,hTl,hTr]
           repeat' first|assumption|(simp (disch:=first|assumption|omega|(simp;done)|(simp;omega)) only[qaa,qac,List.take_of_length_le,qab,qae,qaf,qag,qah,qao,qaj,qaa];try simp only[go_sem,seval,-List.reduceReplicate,Tryz.results56,hh9,hTl,hTr])|(with_reducible refine And.intro ?_ ?_)|(with_reducible intro _)|((with_reducible (show Region.lexB _ _=true));kernel_rfl)|((try rw[qad]);omega)
           refine⟨i+1,by omega,by omega,rfl,?_⟩
           rw[hstp,List.take_of_length_le (by rw[List.length_set];omega)]
           exact qeD (f:=fun x=>dBs x)
          ·rw[show hs.take i=hs from List.take_of_length_le (by omega)]
           rw[show hs.take i=hs from List.take_of_length_le (by omega)] at hTl
           simp only[go_sem,seval,-List.reduceReplicate,Tryz.results56,netR]
           repeat' first|assumption|(simp (disch:=first|assumption|omega|(simp;done)|(simp;omega)) only[qaa,qac,List.take_of_length_le,qab,qae,qaf,qag,qah,qao,qaj,qaa];try simp only[go_sem,seval,-List.reduceReplicate,Tryz.results56,netR])|(with_reducible refine And.intro ?_ ?_)|(with_reducible intro _)|((with_reducible (show Region.lexB _ _=true));kernel_rfl)|((try rw[qad]);omega)
           refine⟨(k+1,takeB busy t hs,out ++ [⟨((k+1:Nat):Int),(t:Int),hs⟩]),⟨by simp only;omega,hst,by simp only[List.length_append,List.length_singleton];omega⟩,by simp only;omega,⟨by simp,rfl⟩,rfl,by simp,by simp⟩
      ·have hkk:k=c.vars.toNat-1:=by omega
       have hrn:qcB c cells place busy0=some out:=by rw[hrc,←hkk,hro];rfl
       rw[hrn]
       simp only[go_sem,seval,-List.reduceReplicate,Tryz.results56]
       repeat' first|assumption|(simp (disch:=first|assumption|omega|(simp;done)|(simp;omega)) only[qaa,qac,List.take_of_length_le,qab,qae,qaf,qag,qah,qao,qaj,qaa];try simp only[go_sem,seval,-List.reduceReplicate,Tryz.results56])|(with_reducible refine And.intro ?_ ?_)|(with_reducible intro _)|(refine qa9 (fun _=>⟨hfst,k3⟩) ?_;simp only[go_sem,seval,-List.reduceReplicate,Tryz.results56])|((with_reducible (show Region.lexB _ _=true));kernel_rfl)|((try rw[qad]);omega)
theorem Tryz.c_sRouteAround (c:Circ) (place:List Int) (list:List (Int×Int)):PureF Tryz.prog 31 [dC c,dIs place,dPs list] (.tup [dRts ((qaw c place list).getD []),dB (qaw c place list).isSome]):=by
 have hpv:=Tryz.c_sPlacementValid c place
 have hdv:=Tryz.c_sDefectsValid list
 by_cases hv:c.Valid∧PlaceOk (qan c).length place
 ·rw[decide_eq_true hv] at hpv
  by_cases hd:qky list
  ·rw[(Tryz.def_iff list).2 hd] at hdv
   have hra:qaw c place list=qcB c (qan c) place (qcS list):=by
    classical
    rw[qaw,if_pos ⟨hv,hd⟩]
   have hce:=Tryz.c_l6Cells c hv.1
   have hcl:=qb4 hv.1
   have hro:=Tryz.c_l24Route c hv.1 (qan c) (by omega) (fun x hx=>(qdi hv.1 x hx).1) place hv.2 list hd
   rw[hra]
   refine qbI (E:=Tryz.env 0) Tryz.tok rfl 1000 Tryz.func31 rfl rfl Tryz.ntmps31 (by simp) fun ok=>?_
   simp only[go_sem,seval,-List.reduceReplicate] at ok
   simp only[go_sem,seval,-List.reduceReplicate,Tryz.results31]
   repeat' first|assumption|(simp (disch:=first|assumption|omega|(simp;done)|(simp;omega)) only[qaa,qac,List.take_of_length_le,qab,qae,qaf,qag,qah,qao,qaj,qaa];try simp only[go_sem,seval,-List.reduceReplicate,Tryz.results31])|(with_reducible refine And.intro ?_ ?_)|(with_reducible intro _)|(refine qai hpv ?_;simp only[go_sem,seval,-List.reduceReplicate,Tryz.results31])|(refine qaR (fun _=>hdv) ?_;simp only[go_sem,seval,-List.reduceReplicate,Tryz.results31])|(refine qai hce ?_;simp only[go_sem,seval,-List.reduceReplicate,Tryz.results31])|(refine qbt hro ?_;simp only[go_sem,seval,-List.reduceReplicate,Tryz.results31])|((with_reducible (show Region.lexB _ _=true));kernel_rfl)|((try rw[qad]);omega)
   refine qaT (E:=Tryz.env 0) Tryz.tok Tryz.follows 1000 1000 [] (.fst 3 (.fst 4 (.fst 0 (.fst 1 (.one 2 (.one 5 (.fst 6 (.fst 7 (.fst 8 (.fst 9 (.done))))))))))) (by kernel_rfl) ?_
   simp only[go_sem,seval,-List.reduceReplicate,Tryz.results31]
   repeat' first|assumption|(simp (disch:=first|assumption|omega|(simp;done)|(simp;omega)) only[qaa,qac,List.take_of_length_le,qab,qae,qaf,qag,qah,qao,qaj,qaa];try simp only[go_sem,seval,-List.reduceReplicate,Tryz.results31])|(with_reducible refine And.intro ?_ ?_)|(with_reducible intro _)|(refine qai hpv ?_;simp only[go_sem,seval,-List.reduceReplicate,Tryz.results31])|(refine qaR (fun _=>hdv) ?_;simp only[go_sem,seval,-List.reduceReplicate,Tryz.results31])|(refine qai hce ?_;simp only[go_sem,seval,-List.reduceReplicate,Tryz.results31])|(refine qbt hro ?_;simp only[go_sem,seval,-List.reduceReplicate,Tryz.results31])|((with_reducible (show Region.lexB _ _=true));kernel_rfl)|((try rw[qad]);omega)
  ·rw[show Tryz.defectsValid list=false from Bool.eq_false_iff.2 (fun h=>hd ((Tryz.def_iff list).1 h))] at hdv
   have hra:qaw c place list=none:=by
    classical
    rw[qaw,if_neg (fun h=>hd h.2)]
   rw[hra]
   refine qbI (E:=Tryz.env 0) Tryz.tok rfl 1000 Tryz.func31 rfl rfl Tryz.ntmps31 (by simp) fun ok=>?_
   simp only[go_sem,seval,-List.reduceReplicate] at ok
   simp only[go_sem,seval,-List.reduceReplicate,Tryz.results31]
   repeat' first|assumption|(simp (disch:=first|assumption|omega|(simp;done)|(simp;omega)) only[qaa,qac,List.take_of_length_le,qab,qae,qaf,qag,qah,qao,qaj,qaa];try simp only[go_sem,seval,-List.reduceReplicate,Tryz.results31])|(with_reducible refine And.intro ?_ ?_)|(with_reducible intro _)|(refine qai hpv ?_;simp only[go_sem,seval,-List.reduceReplicate,Tryz.results31])|(refine qaR (fun _=>hdv) ?_;simp only[go_sem,seval,-List.reduceReplicate,Tryz.results31])|((with_reducible (show Region.lexB _ _=true));kernel_rfl)|((try rw[qad]);omega)
 ·have hra:qaw c place list=none:=by
   classical
   rw[qaw,if_neg (fun h=>hv h.1)]
  rw[decide_eq_false hv] at hpv
  rw[hra]
  refine qbI (E:=Tryz.env 0) Tryz.tok rfl 1000 Tryz.func31 rfl rfl Tryz.ntmps31 (by simp) fun ok=>?_
  simp only[go_sem,seval,-List.reduceReplicate] at ok
  simp only[go_sem,seval,-List.reduceReplicate,Tryz.results31]
  repeat' first|assumption|(simp (disch:=first|assumption|omega|(simp;done)|(simp;omega)) only[qaa,qac,List.take_of_length_le,qab,qae,qaf,qag,qah,qao,qaj,qaa];try simp only[go_sem,seval,-List.reduceReplicate,Tryz.results31])|(with_reducible refine And.intro ?_ ?_)|(with_reducible intro _)|(refine qai hpv ?_;simp only[go_sem,seval,-List.reduceReplicate,Tryz.results31])|(refine qaR (x:=.nil) (fun h=>by cases h) ?_;simp only[go_sem,seval,-List.reduceReplicate,Tryz.results31])|((with_reducible (show Region.lexB _ _=true));kernel_rfl)|((try rw[qad]);omega)
end Go.Proofs
