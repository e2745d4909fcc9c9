/- Law: a repaired configuration works on the defective fabric. Conditions: none; lemmas. -/
import Derived.Test.YteikeianenfhaaaGreatM5
set_option maxRecDepth 20000
set_option linter.unusedVariables false
set_option linter.unusedSimpArgs false
set_option maxHeartbeats 2000000
namespace Go.Proofs
open Go Go.VL Tryz
def qfs (more:List Int) (n:Nat) (i:Nat):List (List Bool):=(List.range i).map fun j=>bitsOf (more.getD j 0) n
theorem qoC (more:List Int) (n i:Nat):qfs more n (i+1)=qfs more n i ++ [bitsOf (more.getD i 0) n]:=by rw[qfs,yaH,yaz];rfl
theorem qqu (more:List Int) (n i:Nat):(qfs more n i).length=i:=by simp[qfs]
theorem Tryz.c_FnConfigureAround (code more:List Int):Pure prog 3 [dUs code,dUs more] (.bool true):=by
 refine qax func3 rfl ntmps3 fun ok=>?_
 simp only[go_sem,seval,-List.reduceReplicate] at ok;simp only[go_sem,seval,-List.reduceReplicate]
 repeat' first|assumption|(simp (disch:=first|assumption|omega|(simp;done)|(simp;omega)) only[qag];try simp only[go_sem,seval,-List.reduceReplicate])|(with_reducible first|apply And.intro|intro _)|((try rw[qaa]);omega)
 refine qpt (c_DrawConfigureAround code) ?_;rintro x ⟨c,ds,rfl,hds⟩;have hi:=c_ConfigureAround c ds;have hs:=c_sConfigureAround c ds;have hal:=c_alive;cases ho:qcu c ds with
 | none=>
  rw[ho] at hi hs;simp only[yan,Option.isSome_none] at hi hs;have hsc:=c_sameConfig kz kz;rw[decide_eq_true rfl] at hsc;simp only[go_sem,seval,-List.reduceReplicate]
  repeat' first|assumption|(simp (disch:=first|assumption|omega|(simp;done)|(simp;omega)) only[qag];try simp only[go_sem,seval,-List.reduceReplicate])|(with_reducible first|apply And.intro|intro _)|(refine qac hi ?_;simp only[go_sem,seval,-List.reduceReplicate])|(refine qac hs ?_;simp only[go_sem,seval,-List.reduceReplicate])|(refine qac hsc ?_;simp only[go_sem,seval,-List.reduceReplicate])|(refine qaN (fun _=>hal) ?_;simp only[go_sem,seval,-List.reduceReplicate])|((try rw[qaa]);omega)
  rfl
 | some k=>
  rw[ho] at hi hs;simp only[yag,Option.isSome_some] at hi hs;have hsc:=c_sameConfig k k;rw[decide_eq_true rfl] at hsc;simp only[go_sem,seval,-List.reduceReplicate]
  repeat' first|assumption|(simp (disch:=first|assumption|omega|(simp;done)|(simp;omega)) only[qag];try simp only[go_sem,seval,-List.reduceReplicate])|(with_reducible first|apply And.intro|intro _)|(refine qac hi ?_;simp only[go_sem,seval,-List.reduceReplicate])|(refine qac hs ?_;simp only[go_sem,seval,-List.reduceReplicate])|(refine qac hsc ?_;simp only[go_sem,seval,-List.reduceReplicate])|((try rw[qaa]);omega)
  obtain⟨hv,hdo,-⟩:=qfq ho;have hi0:=hv.i0;have hi1:=hv.i1;refine qaf (E:=env 0) tok (σ:=Nat) (fun i=>[(1,.d (dUs more)),(5,.ptr 0 0),(6,.d (dPs ds)),(7,.ptr 1 0),(11,.sl 3 i 1 0 i),(12,.d (dI i))])
   (fun i=>[.box [.d (dI c.inputs),.d (dIs c.next),.d (dPs c.gates),.d (dIs c.outs)],.box [.d (dTcs k.tiles),.d (dQs k.pads)],.box [.d (dTcs k.tiles),.d (dQs k.pads)],.row i 1 false ((qfs more c.inputs.toNat i).map fun x=>dBs x)]) (fun i=>i<=more.length/\i<=12) (fun i=>more.length-i) [] [] 1000 1000 ?_ ?_
  ·simp only[go_sem,seval,-List.reduceReplicate];exact⟨0,by omega,⟨rfl,rfl⟩,rfl,rfl⟩
  ·rintro i ⟨hi1,hi2⟩;have hrs:=qoC more c.inputs.toNat i;have hrl:=qqu more c.inputs.toNat i;have hrw : ∀ r∈qfs more c.inputs.toNat i,(r.length:Int)=c.inputs:=fun r hr=>by
    obtain⟨j,hj,rfl⟩:=List.mem_map.1 hr;simp[bitsOf];omega
   by_cases hlt:i<more.length/\i<12
   ·have hbx:=ok.2.2 _ (qad hlt.1:more.getD i 0∈more);have hbt:=c_bits (more.getD i 0) c.inputs hbx.1 (by omega);generalize qfs more c.inputs.toNat i=R0 at *
    generalize hy9:more.getD i 0=y at *
    generalize bitsOf y c.inputs.toNat=by9 at *
    have h1:=hlt.1;have h2:=hlt.2;simp only[go_sem,seval,-List.reduceReplicate,hy9]
    repeat' first|assumption|(simp (disch:=first|assumption|omega|(simp;done)|(simp;omega)) only[qag];try simp only[go_sem,seval,-List.reduceReplicate,hy9])|(with_reducible first|apply And.intro|intro _)|((try rw[qaa]);omega)
    refine qaL (n:=0) [10] (fsts [0,1,2,3,6,4,5,7] (.one 8 (.one 9 (.one 10 (.fst 11 .done))))) ?_;simp only[go_sem,seval,-List.reduceReplicate,hy9]
    repeat' first|assumption|(simp (disch:=first|assumption|omega|(simp;done)|(simp;omega)) only[qag];try simp only[go_sem,seval,-List.reduceReplicate,hy9])|(with_reducible first|apply And.intro|intro _)|(refine qac hbt ?_;simp only[go_sem,seval,-List.reduceReplicate,hy9])|((try rw[qaa]);omega)
    ·rw[qaa];have hb1:0<=y:=hbx.1;have hb2:y<=255:=hbx.2;omega
    ·exact⟨i+1,⟨by omega,by omega⟩,by omega,rfl,rfl,hrs.symm⟩
   ·have hi3:i=more.length∨i=12:=by omega
    obtain⟨⟨-,hk,hw⟩,V,hV,hout⟩:=qoy ho hrw;rw[hrl] at hV;have hsim:=c_SimulateS i c (qfs more c.inputs.toNat i) ⟨hv,by omega,hrw⟩;have hrun:=c_RunFabricS i k hk hw (qfs more c.inputs.toNat i) (by omega) (fun r hr=>by have:=hrw r hr;omega) V (by rw[hrl];exact hV);have hbk:=c_Break k ds;rw[if_pos ⟨hk,(def_iff ds).2 hdo⟩,ql5 ho] at hbk;rw[hrl] at hsim hrun;have hsl:=qkS c (qfs more c.inputs.toNat i) i;have hrl2:=qhs k V i;have hso:=fun j (h:j<i)=>qsb c (qfs more c.inputs.toNat i) h
    have hro:=fun j (h:j<i)=>qoz k V h
    rename_i hng;have hn1 : ¬ (i<more.length/\(i:Int)<12):=by omega
    simp only[go_sem,seval,-List.reduceReplicate]
    repeat' first|assumption|(simp (disch:=first|assumption|omega|(simp;done)|(simp;omega)) only[qag];try simp only[go_sem,seval,-List.reduceReplicate])|(with_reducible first|apply And.intro|intro _)|((try rw[qaa]);omega)
    refine qan hsim [3] (by simp only[go_sem,seval,-List.reduceReplicate]) ?_;rintro r0 H1 ⟨rfl,rfl⟩;simp only[go_sem,seval,-List.reduceReplicate]
    repeat' first|assumption|(simp (disch:=first|assumption|omega|(simp;done)|(simp;omega)) only[qag];try simp only[go_sem,seval,-List.reduceReplicate])|(with_reducible first|apply And.intro|intro _)|(refine qac hbk ?_;simp only[go_sem,seval,-List.reduceReplicate])|((try rw[qaa]);omega)
    refine qan hrun [3] (by simp only[go_sem,seval,-List.reduceReplicate]) ?_;rintro r0 H1 ⟨rfl,rfl⟩;generalize simO c (qfs more c.inputs.toNat i) i=so at *
    generalize qfp k V i=ro at *
    simp only[go_sem,seval,-List.reduceReplicate]
    repeat' first|assumption|(simp (disch:=first|assumption|omega|(simp;done)|(simp;omega)) only[qag];try simp only[go_sem,seval,-List.reduceReplicate,hsl,hrl2])|(with_reducible first|apply And.intro|intro _)|((try rw[qaa]);omega)
    refine qaw (E:=env 0) tok (σ:=Nat) (fun j=>[(6,.d (dPs ds)),(7,.ptr 1 0),(13,.d (dBss so)),(14,.d (dBss ro)),(15,.d (dI j))])
     (fun _=>[.box [.d (dI c.inputs),.d (dIs c.next),.d (dPs c.gates),.d (dIs c.outs)],.box [.d (dTcs k.tiles),.d (dQs k.pads)]]) (fun j=>j<=i) (fun j=>i-j) [] 1000 1000 ?_ ?_ ?_
    ·simp only[go_sem,seval,-List.reduceReplicate]
    ·simp only[go_sem,seval,-List.reduceReplicate];exact⟨0,by omega,rfl⟩
    ·intro j hj;by_cases hlt2:j<i
     ·have e1:=hso j hlt2;have e2:=hro j hlt2;have hov:(qcG (qfS c (qfs more c.inputs.toNat i) j) c.outs).length<=3:=by rw[qek];exact hv.lo
      have hpd:=c_padded _ hov;rw[hout] at e2;have hsb:=c_sameBools (padR (qcG (qfS c (qfs more c.inputs.toNat i) j) c.outs)) (padR (qcG (qfS c (qfs more c.inputs.toNat i) j) c.outs));rw[decide_eq_true rfl] at hsb;generalize qcG (qfS c (qfs more c.inputs.toNat i) j) c.outs=q at *
      simp only[go_sem,seval,-List.reduceReplicate,e1,e2,hsl]
      repeat' first|assumption|(simp (disch:=first|assumption|omega|(simp;done)|(simp;omega)) only[qag];try simp only[go_sem,seval,-List.reduceReplicate,e1,e2,hsl])|(with_reducible first|apply And.intro|intro _)|((try rw[qaa]);omega)
      refine qaL (n:=0) [] (fsts [0,1,2,4,5,6,3,7] (.one 8 (.one 9 (.fst 10 .done)))) ?_;simp only[go_sem,seval,-List.reduceReplicate,e1,e2,hsl]
      repeat' first|assumption|(simp (disch:=first|assumption|omega|(simp;done)|(simp;omega)) only[qag];try simp only[go_sem,seval,-List.reduceReplicate,e1,e2,hsl])|(with_reducible first|apply And.intro|intro _)|(refine qac hpd ?_;simp only[go_sem,seval,-List.reduceReplicate,e1,e2,hsl])|(refine qac hsb ?_;simp only[go_sem,seval,-List.reduceReplicate,e1,e2,hsl])|((try rw[qaa]);omega)
      all_goals exact⟨j+1,by omega,by omega,rfl⟩
     ·obtain rfl:j=i:=by omega
      simp only[go_sem,seval,-List.reduceReplicate,hsl]
      repeat' first|assumption|(simp (disch:=first|assumption|omega|(simp;done)|(simp;omega)) only[qag];try simp only[go_sem,seval,-List.reduceReplicate,hsl])|(with_reducible first|apply And.intro|intro _)|((try rw[qaa]);omega)
      refine qaL (n:=0) [] (fsts [1,0,3] (.one 2 (.one 4 (.fst 5 .done)))) ?_;simp only[go_sem,seval,-List.reduceReplicate,hsl]
      repeat' first|assumption|(simp (disch:=first|assumption|omega|(simp;done)|(simp;omega)) only[qag];try simp only[go_sem,seval,-List.reduceReplicate,hsl])|(with_reducible first|apply And.intro|intro _)|(refine qac hbk ?_;simp only[go_sem,seval,-List.reduceReplicate,hsl])|(refine qac hsc ?_;simp only[go_sem,seval,-List.reduceReplicate,hsl])|((try rw[qaa]);omega)
end Go.Proofs
