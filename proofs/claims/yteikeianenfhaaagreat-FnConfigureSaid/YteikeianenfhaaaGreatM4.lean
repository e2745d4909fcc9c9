/- Laws: configured circuits behave like the circuits. Conditions: none; lemmas. -/
import Derived.Test.YteikeianenfhaaaGreatM1
import Derived.Test.YteikeianenfhaaaGreatM3
import Derived.Test.YteikeianenfhaaaGreatC19
import Derived.Test.YteikeianenfhaaaGreatC8
set_option maxRecDepth 20000
set_option linter.unusedVariables false
set_option linter.unusedSimpArgs false
set_option maxHeartbeats 2000000
namespace Go.Proofs
open Go Go.VL Tryz
def padR (l:List Bool):List Bool:=l++List.replicate (3-l.length) false
theorem qoh {c:Circ}{list:List (Int×Int)}{k:Kcfg}(h:qce c list=some k) {rows:List (List Bool)}(hr : ∀ r∈rows,(r.length:Int)=c.inputs) :
  (c.Valid/\k.ok/\Wf k)/\∃ V:Nat->Wr->Bool,(∀ i,i<rows.length->VOk k (qhG k V i) (rows.getD i []) (V i))/\∀ i,outE k (V i)=padR (qcD (qfM c rows i) c.outs):=by
 obtain⟨hv,-,rs,R,-,rfl⟩:=qhz h;refine⟨⟨hv,R.ok,R.wf⟩,runV c rs rows,fun i hi=>R.run hr hi,fun i=>?_⟩;rw[R.run_out,padR,qek]
theorem qoi (k:Kcfg) (V:Nat->Wr->Bool) {n i:Nat}(h:i<n):(qfl k V n).getD i []=outE k (V i):=by simp[qfl,List.getD,h]
theorem Tryz.c_padded (l:List Bool) (hl:l.length<=3):Pure prog 22 [dBs l] (dBs (padR l)):=by
 refine qay func22 rfl ntmps22 fun ok=>?_
 simp only[go_sem,seval,-List.reduceReplicate] at ok;simp only[go_sem,seval,-List.reduceReplicate]
 repeat' first|assumption|(simp (disch:=first|assumption|omega|(simp;done)|(simp;omega)) only[qaj];try simp only[go_sem,seval,-List.reduceReplicate])|(with_reducible first|apply And.intro|intro _)|((try rw[qaa]);omega)
 have e:(3-(l.length:Int)).toNat=3-l.length:=by omega
 rw[e];rfl
theorem Tryz.c_FnConfigure (code:List Int):Pure prog 11 [dUs code] (.bool true):=by
 refine qay func11 rfl ntmps11 fun ok=>?_
 simp only[go_sem,seval,-List.reduceReplicate] at ok;simp only[go_sem,seval,-List.reduceReplicate];refine fun h0=>qpa (c_DrawRun code) ?_
 rintro x ⟨c,rows,rfl,hrl,hrw⟩;have hi:=c_Configure c;have hs:=c_sConfigure c;rw[<-qmH] at hs;have hal:=c_alive;cases ho:qce c [] with
 | none=>
  rw[ho] at hi hs;simp only[yam,Option.isSome_none] at hi hs;have hsc:=c_sameConfig kz kz;rw[decide_eq_true rfl] at hsc;simp only[go_sem,seval,-List.reduceReplicate]
  repeat' first|assumption|(simp (disch:=first|assumption|omega|(simp;done)|(simp;omega)) only[qaj];try simp only[go_sem,seval,-List.reduceReplicate])|(with_reducible first|apply And.intro|intro _)|(refine qad hi ?_;simp only[go_sem,seval,-List.reduceReplicate])|(refine qad hs ?_;simp only[go_sem,seval,-List.reduceReplicate])|(refine qad hsc ?_;simp only[go_sem,seval,-List.reduceReplicate])|(refine qbg (fun _=>hal) ?_;simp only[go_sem,seval,-List.reduceReplicate])|((try rw[qaa]);omega)
  rfl
 | some k=>
  rw[ho] at hi hs;simp only[yag,Option.isSome_some] at hi hs;have hrows : ∀ r∈rows,(r.length:Int)=c.inputs:=fun r hr=>by
   have h1:=hrw r hr;have h2:=(qhz ho).1.i0;omega
  obtain⟨⟨hv,hk,hw⟩,V,hV,hout⟩:=qoh ho hrows;have hsc:=c_sameConfig k k;rw[decide_eq_true rfl] at hsc;have hsim:=c_SimulateD c rows ⟨hv,by omega,hrows⟩;have hrun:=c_RunFabricD k hk hw rows (by omega) (fun r hr=>by have:=hrows r hr;have:=hv.i1;omega) V hV;have hcv:=c_ConfigValid k;rw[decide_eq_true hk] at hcv;simp only[go_sem,seval,-List.reduceReplicate]
  repeat' first|assumption|(simp (disch:=first|assumption|omega|(simp;done)|(simp;omega)) only[qaj];try simp only[go_sem,seval,-List.reduceReplicate])|(with_reducible first|apply And.intro|intro _)|(refine qad hi ?_;simp only[go_sem,seval,-List.reduceReplicate])|(refine qad hs ?_;simp only[go_sem,seval,-List.reduceReplicate])|(refine qad hsc ?_;simp only[go_sem,seval,-List.reduceReplicate])|((try rw[qaa]);omega)
  refine qao hsim [] (by simp only[go_sem,seval,-List.reduceReplicate]) ?_;rintro r0 H1 ⟨rfl,rfl⟩;simp only[go_sem,seval,-List.reduceReplicate]
  repeat' first|assumption|(simp (disch:=first|assumption|omega|(simp;done)|(simp;omega)) only[qaj];try simp only[go_sem,seval,-List.reduceReplicate])|(with_reducible first|apply And.intro|intro _)|((try rw[qaa]);omega)
  refine qao hrun [] (by simp only[go_sem,seval,-List.reduceReplicate]) ?_;rintro r0 H1 ⟨rfl,rfl⟩;have hsl:=qkB c rows rows.length;have hrl2:=qhf k V rows.length;have hso:=fun i (h:i<rows.length)=>qrU c rows h
  have hro:=fun i (h:i<rows.length)=>qoi k V h
  generalize simO c rows rows.length=so at *
  generalize qfl k V rows.length=ro at *
  simp only[go_sem,seval,-List.reduceReplicate]
  repeat' first|assumption|(simp (disch:=first|assumption|omega|(simp;done)|(simp;omega)) only[qaj];try simp only[go_sem,seval,-List.reduceReplicate,hsl,hrl2])|(with_reducible first|apply And.intro|intro _)|((try rw[qaa]);omega)
  refine qaw (E:=env 0) tok (σ:=Nat) (fun i=>[(5,.ptr 1 0),(9,.d (dBss so)),(10,.d (dBss ro)),(11,.d (dI i))])
   (fun _=>[.box [.d (dI c.inputs),.d (dIs c.next),.d (dPs c.gates),.d (dIs c.outs)],.box [.d (dTcs k.tiles),.d (dQs k.pads)]]) (fun i=>i<=rows.length) (fun i=>rows.length-i) [] 1000 1000 ?_ ?_ ?_
  ·simp only[go_sem,seval,-List.reduceReplicate]
  ·simp only[go_sem,seval,-List.reduceReplicate];exact⟨0,by omega,rfl⟩
  ·intro i hi;by_cases hlt:i<rows.length
   ·have e1:=hso i hlt;have e2:=hro i hlt;have hov:(qcD (qfM c rows i) c.outs).length<=3:=by rw[qek];exact hv.lo
    have hpd:=c_padded _ hov;rw[hout] at e2;have hsb:=c_sameBools (padR (qcD (qfM c rows i) c.outs)) (padR (qcD (qfM c rows i) c.outs));rw[decide_eq_true rfl] at hsb;generalize qcD (qfM c rows i) c.outs=q at *
    simp only[go_sem,seval,-List.reduceReplicate,e1,e2,hsl]
    repeat' first|assumption|(simp (disch:=first|assumption|omega|(simp;done)|(simp;omega)) only[qaj];try simp only[go_sem,seval,-List.reduceReplicate,e1,e2,hsl])|(with_reducible first|apply And.intro|intro _)|((try rw[qaa]);omega)
    refine qaR (n:=0) [] (fsts [0,1,2,4,5,6,3,7] (.one 8 (.one 9 (.fst 10 .done)))) ?_;simp only[go_sem,seval,-List.reduceReplicate,e1,e2,hsl]
    repeat' first|assumption|(simp (disch:=first|assumption|omega|(simp;done)|(simp;omega)) only[qaj];try simp only[go_sem,seval,-List.reduceReplicate,e1,e2,hsl])|(with_reducible first|apply And.intro|intro _)|(refine qad hpd ?_;simp only[go_sem,seval,-List.reduceReplicate,e1,e2,hsl])|(refine qad hsb ?_;simp only[go_sem,seval,-List.reduceReplicate,e1,e2,hsl])|((try rw[qaa]);omega)
    all_goals exact⟨i+1,by omega,by omega,rfl⟩
   ·obtain rfl:i=rows.length:=by omega
    simp only[go_sem,seval,-List.reduceReplicate,hsl]
    repeat' first|assumption|(simp (disch:=first|assumption|omega|(simp;done)|(simp;omega)) only[qaj];try simp only[go_sem,seval,-List.reduceReplicate,hsl])|(with_reducible first|apply And.intro|intro _)|(refine qad hcv ?_;simp only[go_sem,seval,-List.reduceReplicate,hsl])|((try rw[qaa]);omega)
end Go.Proofs
