/- Laws: what is exact about compiled circuits. Conditions: none; lemmas. -/
import Derived.Test.YteikeianenfhaaaGreatP3
import Derived.Test.YteikeianenfhaaaGreatC32
import Derived.Test.YteikeianenfhaaaGreatC53
set_option maxRecDepth 20000
set_option linter.unusedVariables false
set_option linter.unusedSimpArgs false
set_option maxHeartbeats 2000000
namespace Go.Proofs
open Go Go.VL Tryz
theorem N1 (c:ac):((nI c).getD []).length<=1000:=by
 classical
 unfold nI;split
 ·cases h:i7 (cB c) [] with
  | none=>exact kr _
  | some k=>show(jh k).length<=1000;rw[NX (EH h)];omega
 ·exact kr _
set_option maxHeartbeats 4000000 in
theorem Tryz.c_FnExactCompile (c:ac):Pure prog 4 [dC c] (.bool true):=by
 refine bw func4 rfl ntmps4 fun ok=>?_
 simp only[go_sem,seval,-List.reduceReplicate] at ok;simp only[go_sem,seval,-List.reduceReplicate]
 repeat' first|assumption|simp (disch:=first|assumption|omega|simp;try omega) only[];try simp only[go_sem,seval,-List.reduceReplicate]|(with_reducible first|apply aa|intro)|(try rw[ae]);omega
 have hz:=mj c 1048576 (by omega);by_cases h1:(1048576:Int)<c.next.length+c.gates.length+c.outs.length
 ·rw[if_pos h1] at hz;refine aA hz ?_;simp only[go_sem,seval,-List.reduceReplicate]
 rw[if_neg h1] at hz;refine aA hz ?_;simp only[go_sem,seval,-List.reduceReplicate]
 repeat' first|assumption|simp (disch:=first|assumption|omega|simp;try omega) only[];try simp only[go_sem,seval,-List.reduceReplicate]|(with_reducible first|apply aa|intro)|(try rw[ae]);omega
 have htc:=lL c (by omega) (by omega) (by omega);have hec:=lE c c;rw[decide_eq_true rfl] at hec;have hR:=oG c;have hS:=nA c;have hs1:=N1 c;have he:=oF ((nI c).getD []) ((nI c).getD []);rw[decide_eq_true rfl] at he;generalize (nI c).isSome=b0 at *
 generalize (nI c).getD []=out at *
 refine aA htc ?_;simp only[go_sem,seval,-List.reduceReplicate]
 repeat' first|assumption|simp (disch:=first|assumption|omega|simp;try omega) only[];try simp only[go_sem,seval,-List.reduceReplicate]|(with_reducible first|apply aa|intro)|(refine aA hS ?_;simp only[go_sem,seval,-List.reduceReplicate])|(try rw[ae]);omega
 refine lu htc ?_;simp only[go_sem,seval,-List.reduceReplicate]
 repeat' first|assumption|simp (disch:=first|assumption|omega|simp;try omega) only[];try simp only[go_sem,seval,-List.reduceReplicate]|(with_reducible first|apply aa|intro)|(try rw[ae]);omega
 refine lu hR ?_;simp only[go_sem,seval,-List.reduceReplicate]
 repeat' first|assumption|simp (disch:=first|assumption|omega|simp;try omega) only[];try simp only[go_sem,seval,-List.reduceReplicate]|(with_reducible first|apply aa|intro)|(try rw[ae]);omega
 refine aA he ?_;simp only[go_sem,seval,-List.reduceReplicate]
 repeat' first|assumption|simp (disch:=first|assumption|omega|simp;try omega) only[];try simp only[go_sem,seval,-List.reduceReplicate]|(with_reducible first|apply aa|intro)|(try rw[ae]);omega
 refine cg (n:=0) [] (aw [0,1] (.one 2 (.one 3 (.fst 4 .done)))) ?_;simp only[go_sem,seval,-List.reduceReplicate]
 repeat' first|assumption|simp (disch:=first|assumption|omega|simp;try omega) only[];try simp only[go_sem,seval,-List.reduceReplicate]|(with_reducible first|apply aa|intro)|(refine aA htc ?_;simp only[go_sem,seval,-List.reduceReplicate])|(refine aA hec ?_;simp only[go_sem,seval,-List.reduceReplicate])|(try rw[ae]);omega
 refine uM (jW 0 0 0 c 1 (by omega) (by omega) (by omega) (by omega)) [1,2,3] (by simp only[go_sem,seval,-List.reduceReplicate]) ?_;simp only[go_sem,seval,-List.reduceReplicate]
 repeat' first|assumption|simp (disch:=first|assumption|omega|simp;try omega) only[];try simp only[go_sem,seval,-List.reduceReplicate]|(with_reducible first|apply aa|intro)|(try rw[ae]);omega
 refine io (fun _=>he) ?_;simp only[go_sem,seval,-List.reduceReplicate]
 repeat' first|assumption|simp (disch:=first|assumption|omega|simp;try omega) only[];try simp only[go_sem,seval,-List.reduceReplicate]|(with_reducible first|apply aa|intro)|(try rw[ae]);omega
 refine uM (lX 0 out 1 (by omega) (by omega)) [5] (by simp only[go_sem,seval,-List.reduceReplicate]) ?_;simp only[go_sem,seval,-List.reduceReplicate];have hh:=l9 (rn 1 out.length) 1 (by simp[rn];omega);rw[mR] at hh;have tk:(rn 1 out.length).take out.length=rn 1 out.length:=ag (by simp[rn]);rw[tk];refine aA hh ?_;simp only[go_sem,seval,-List.reduceReplicate]
 repeat' first|assumption|simp (disch:=first|assumption|omega|simp;try omega) only[];try simp only[go_sem,seval,-List.reduceReplicate,tk]|(with_reducible first|apply aa|intro)|(refine aA htc ?_;simp only[go_sem,seval,-List.reduceReplicate,tk])|(refine aA hR ?_;simp only[go_sem,seval,-List.reduceReplicate,tk])|(refine aA he ?_;simp only[go_sem,seval,-List.reduceReplicate,tk])|(refine io (fun _=>he) ?_;simp only[go_sem,seval,-List.reduceReplicate,tk])|(refine aA hh ?_;simp only[go_sem,seval,-List.reduceReplicate,tk])|(try rw[ae]);omega
end Go.Proofs
