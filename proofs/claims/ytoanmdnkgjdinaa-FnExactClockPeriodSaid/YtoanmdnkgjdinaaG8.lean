/- Laws: what is exact about the clock period. Conditions: none; lemmas. -/
import Derived.Test.YtoanmdnkgjdinaaG4
import Derived.Test.YtoanmdnkgjdinaaC13
set_option maxRecDepth 20000
set_option linter.unusedVariables false
set_option linter.unusedSimpArgs false
namespace Go.Proofs
open Go Go.VL
set_option maxHeartbeats 2000000 in
theorem Try.c_FnExactClockPeriod (c:Circ) (place:List Int):Pure Try.prog 8 [dC c,dIs place] (.bool true):=by
 have hD:=Try.c_ClockPeriod c place
 have hDs:=Try.c_sClockPeriod c place
 refine qan (E:=Try.env 0) Try.tok rfl 1000 Try.func8 rfl rfl Try.ntmps8 (by simp) fun ok=>?_
 simp only[go_sem,seval,-List.reduceReplicate] at ok
 simp only[go_sem,seval,-List.reduceReplicate,Try.results8]
 repeat' first|assumption|(simp (disch:=first|assumption|omega|(simp;done)|(simp;omega)) only[qaa,qac,List.take_of_length_le,qab,qae,qaf,qag,qah,qak];try simp only[go_sem,seval,-List.reduceReplicate,Try.results8])|(with_reducible refine And.intro ?_ ?_)|(with_reducible intro _)|((with_reducible (show Region.lexB _ _=true));kernel_rfl)|((try rw[qad]);omega)
 have hz:=Try.c_szCircuit c 1048576 (by omega)
 by_cases h1:(1048576:Int)<c.next.length+c.gates.length+c.outs.length
 ·rw[if_pos h1] at hz
  refine qai hz ?_
  simp only[go_sem,seval,-List.reduceReplicate,Try.results8]
 rw[if_neg h1] at hz
 refine qai hz ?_
 simp only[go_sem,seval,-List.reduceReplicate,Try.results8]
 repeat' first|assumption|(simp (disch:=first|assumption|omega|(simp;done)|(simp;omega)) only[qaa,qac,List.take_of_length_le,qab,qae,qaf,qag,qah,qak];try simp only[go_sem,seval,-List.reduceReplicate,Try.results8])|(with_reducible refine And.intro ?_ ?_)|(with_reducible intro _)|((with_reducible (show Region.lexB _ _=true));kernel_rfl)|((try rw[qad]);omega)
 have htc:=Try.c_toCircuit c (by omega) (by omega) (by omega)
 have hti:=Try.c_toIntS place (by omega)
 have hec:=Try.c_eqCircuit c c
 have hei:=Try.c_eqIntS place place
 rw[decide_eq_true rfl] at hec hei
 refine qai htc ?_
 simp only[go_sem,seval,-List.reduceReplicate,Try.results8]
 repeat' first|assumption|(simp (disch:=first|assumption|omega|(simp;done)|(simp;omega)) only[qaa,qac,List.take_of_length_le,qab,qae,qaf,qag,qah,qak];try simp only[go_sem,seval,-List.reduceReplicate,Try.results8])|(with_reducible refine And.intro ?_ ?_)|(with_reducible intro _)|(refine qai htc ?_;simp only[go_sem,seval,-List.reduceReplicate,Try.results8])|(refine qai hti ?_;simp only[go_sem,seval,-List.reduceReplicate,Try.results8])|(refine qai hDs ?_;simp only[go_sem,seval,-List.reduceReplicate,Try.results8])|(refine qai hD ?_;simp only[go_sem,seval,-List.reduceReplicate,Try.results8])|(refine qai hec ?_;simp only[go_sem,seval,-List.reduceReplicate,Try.results8])|(refine qai hei ?_;simp only[go_sem,seval,-List.reduceReplicate,Try.results8])|((with_reducible (show Region.lexB _ _=true));kernel_rfl)|((try rw[qad]);omega)
 refine qaQ (E:=Try.env 0) Try.tok Try.follows 1000 1000 [] (.fst 0 (.fst 1 (.one 2 (.one 3 (.fst 4 (.done)))))) (by kernel_rfl) ?_
 simp only[go_sem,seval,-List.reduceReplicate,Try.results8]
 repeat' first|assumption|(simp (disch:=first|assumption|omega|(simp;done)|(simp;omega)) only[qaa,qac,List.take_of_length_le,qab,qae,qaf,qag,qah,qak];try simp only[go_sem,seval,-List.reduceReplicate,Try.results8])|(with_reducible refine And.intro ?_ ?_)|(with_reducible intro _)|(refine qai htc ?_;simp only[go_sem,seval,-List.reduceReplicate,Try.results8])|(refine qai hti ?_;simp only[go_sem,seval,-List.reduceReplicate,Try.results8])|(refine qai hDs ?_;simp only[go_sem,seval,-List.reduceReplicate,Try.results8])|(refine qai hD ?_;simp only[go_sem,seval,-List.reduceReplicate,Try.results8])|(refine qai hec ?_;simp only[go_sem,seval,-List.reduceReplicate,Try.results8])|(refine qai hei ?_;simp only[go_sem,seval,-List.reduceReplicate,Try.results8])|((with_reducible (show Region.lexB _ _=true));kernel_rfl)|((try rw[qad]);omega)
end Go.Proofs
