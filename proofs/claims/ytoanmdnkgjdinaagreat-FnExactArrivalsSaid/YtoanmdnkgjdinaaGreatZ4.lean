/- Law: what is exact about arrival times. Conditions: none; lemmas. -/
import Derived.Test.YtoanmdnkgjdinaaGreatG4
import Derived.Test.YtoanmdnkgjdinaaGreatF1
set_option maxRecDepth 20000
set_option linter.unusedVariables false
set_option linter.unusedSimpArgs false
namespace Go.Proofs
open Go Go.VL
noncomputable def arrL (c:Circ) (place:List Int):List Int:=match qaw c place [] with
 | none=>[]
 | some rs=>qej c (qan c) place rs
theorem arrO_wk (c:Circ) (place:List Int):WK (arrO c place) (dIs (arrL c place)):=by
 unfold arrO arrL
 cases qaw c place [] with
 | none=>exact .nil (by omega)
 | some rs=>exact .refl _
theorem qpT (c:Circ) (place:List Int):(arrL c place).length≤1000:=by
 unfold arrL
 cases h:qaw c place [] with
 | none=>simp
 | some rs=>
  obtain⟨hv,-,-,-⟩:=qfx h
  have:=hv.vars_bd
  have e:(qej c (qan c) place rs).length=c.vars.toNat:=qf7 _
  show(qej c (qan c) place rs).length≤1000
  omega
theorem Tryz.c_sArrivals (c:Circ) (place:List Int):Pure Tryz.prog 8 [dC c,dIs place] (dIs (arrL c place)):=by
 unfold arrL
 have hS:=Tryz.c_sRoute c place
 cases hra:qaw c place [] with
 | none=>
  rw[hra] at hS
  have hS:PureF Tryz.prog 17 [dC c,dIs place] (.tup [dRts [],dB false]):=hS
  show Pure _ _ _ (dIs [])
  refine qam (E:=Tryz.env 0) Tryz.tok rfl 1000 Tryz.func8 rfl rfl Tryz.ntmps8 (by simp) fun ok=>?_
  simp only[go_sem,seval,-List.reduceReplicate] at ok
  simp only[go_sem,seval,-List.reduceReplicate,Tryz.results8]
  repeat' first|assumption|(simp (disch:=first|assumption|omega|(simp;done)|(simp;omega)) only[qaa,qac,List.take_of_length_le,qab];try simp only[go_sem,seval,-List.reduceReplicate,Tryz.results8])|(with_reducible refine And.intro ?_ ?_)|(with_reducible intro _)|(refine qbt hS ?_;simp only[go_sem,seval,-List.reduceReplicate,Tryz.results8])|((try rw[qad]);omega)
 | some rs=>
  rw[hra] at hS
  have hS:PureF Tryz.prog 17 [dC c,dIs place] (.tup [dRts rs,dB true]):=hS
  show Pure _ _ _ (dIs (qej c (qan c) place rs))
  have hro:=qee hra
  obtain⟨hv,hp,-,busy,hRo⟩:=qfx hra
  have hce:=Tryz.c_l6Cells c hv
  have har:=Tryz.c_l22Arrivals c hv place hp rs hro
  refine qam (E:=Tryz.env 0) Tryz.tok rfl 1000 Tryz.func8 rfl rfl Tryz.ntmps8 (by simp) fun ok=>?_
  simp only[go_sem,seval,-List.reduceReplicate] at ok
  simp only[go_sem,seval,-List.reduceReplicate,Tryz.results8]
  repeat' first|assumption|(simp (disch:=first|assumption|omega|(simp;done)|(simp;omega)) only[qaa,qac,List.take_of_length_le,qab];try simp only[go_sem,seval,-List.reduceReplicate,Tryz.results8])|(with_reducible refine And.intro ?_ ?_)|(with_reducible intro _)|(refine qbt hS ?_;simp only[go_sem,seval,-List.reduceReplicate,Tryz.results8])|(refine qai hce ?_;simp only[go_sem,seval,-List.reduceReplicate,Tryz.results8])|(refine qa6 har ?_;simp only[go_sem,seval,-List.reduceReplicate,Tryz.results8])|((try rw[qad]);omega)
  refine qaT (E:=Tryz.env 0) Tryz.tok Tryz.follows 1000 1000 [] (.fst 3 (.fst 4 (.fst 0 (.fst 1 (.one 2 (.one 5 (.fst 6 (.done)))))))) (by kernel_rfl) ?_
  simp only[go_sem,seval,-List.reduceReplicate,Tryz.results8]
  repeat' first|assumption|(simp (disch:=first|assumption|omega|(simp;done)|(simp;omega)) only[qaa,qac,List.take_of_length_le,qab];try simp only[go_sem,seval,-List.reduceReplicate,Tryz.results8])|(with_reducible refine And.intro ?_ ?_)|(with_reducible intro _)|(refine qai hce ?_;simp only[go_sem,seval,-List.reduceReplicate,Tryz.results8])|(refine qa6 har ?_;simp only[go_sem,seval,-List.reduceReplicate,Tryz.results8])|((try rw[qad]);omega)
set_option maxHeartbeats 4000000 in
theorem Tryz.c_FnExactArrivals (c:Circ) (place:List Int):Pure Tryz.prog 3 [dC c,dIs place] (.bool true):=by
 refine qam (E:=Tryz.env 0) Tryz.tok rfl 1000 Tryz.func3 rfl rfl Tryz.ntmps3 (by simp) fun ok=>?_
 simp only[go_sem,seval,-List.reduceReplicate] at ok
 simp only[go_sem,seval,-List.reduceReplicate,Tryz.results3]
 repeat' first|assumption|(simp (disch:=first|assumption|omega|(simp;done)|(simp;omega)) only[qaa,qac,List.take_of_length_le,qab];try simp only[go_sem,seval,-List.reduceReplicate,Tryz.results3])|(with_reducible refine And.intro ?_ ?_)|(with_reducible intro _)|((try rw[qad]);omega)
 have hz:=Tryz.c_szCircuit c 1048576 (by omega)
 by_cases h1:(1048576:Int)<c.next.length+c.gates.length+c.outs.length
 ·rw[if_pos h1] at hz
  refine qai hz ?_
  simp only[go_sem,seval,-List.reduceReplicate,Tryz.results3]
 rw[if_neg h1] at hz
 refine qai hz ?_
 simp only[go_sem,seval,-List.reduceReplicate,Tryz.results3]
 repeat' first|assumption|(simp (disch:=first|assumption|omega|(simp;done)|(simp;omega)) only[qaa,qac,List.take_of_length_le,qab];try simp only[go_sem,seval,-List.reduceReplicate,Tryz.results3])|(with_reducible refine And.intro ?_ ?_)|(with_reducible intro _)|((try rw[qad]);omega)
 have htc:=Tryz.c_toCircuit c (by omega) (by omega) (by omega)
 have hti:=Tryz.c_toIntS place (by omega)
 have hec:=Tryz.c_eqCircuit c c
 have hei:=Tryz.c_eqIntS place place
 rw[decide_eq_true rfl] at hec hei
 have hR:=(Tryz.c_Arrivals c place).res (arrO_wk c place)
 have hS:=Tryz.c_sArrivals c place
 have hl:=qpT c place
 have he:=Tryz.c_eqIntS (arrL c place) (arrL c place)
 rw[decide_eq_true rfl] at he
 generalize arrL c place=out at *
 refine qai htc ?_
 simp only[go_sem,seval,-List.reduceReplicate,Tryz.results3]
 repeat' first|assumption|(simp (disch:=first|assumption|omega|(simp;done)|(simp;omega)) only[qaa,qac,List.take_of_length_le,qab];try simp only[go_sem,seval,-List.reduceReplicate,Tryz.results3])|(with_reducible refine And.intro ?_ ?_)|(with_reducible intro _)|(refine qai hti ?_;simp only[go_sem,seval,-List.reduceReplicate,Tryz.results3])|(refine qai hS ?_;simp only[go_sem,seval,-List.reduceReplicate,Tryz.results3])|((try rw[qad]);omega)
 refine qa6 htc ?_
 simp only[go_sem,seval,-List.reduceReplicate,Tryz.results3]
 repeat' first|assumption|(simp (disch:=first|assumption|omega|(simp;done)|(simp;omega)) only[qaa,qac,List.take_of_length_le,qab];try simp only[go_sem,seval,-List.reduceReplicate,Tryz.results3])|(with_reducible refine And.intro ?_ ?_)|(with_reducible intro _)|((try rw[qad]);omega)
 refine qa6 hti ?_
 simp only[go_sem,seval,-List.reduceReplicate,Tryz.results3]
 repeat' first|assumption|(simp (disch:=first|assumption|omega|(simp;done)|(simp;omega)) only[qaa,qac,List.take_of_length_le,qab];try simp only[go_sem,seval,-List.reduceReplicate,Tryz.results3])|(with_reducible refine And.intro ?_ ?_)|(with_reducible intro _)|((try rw[qad]);omega)
 refine qa6 hR ?_
 simp only[go_sem,seval,-List.reduceReplicate,Tryz.results3]
 repeat' first|assumption|(simp (disch:=first|assumption|omega|(simp;done)|(simp;omega)) only[qaa,qac,List.take_of_length_le,qab];try simp only[go_sem,seval,-List.reduceReplicate,Tryz.results3])|(with_reducible refine And.intro ?_ ?_)|(with_reducible intro _)|((try rw[qad]);omega)
 refine qai he ?_
 simp only[go_sem,seval,-List.reduceReplicate,Tryz.results3]
 repeat' first|assumption|(simp (disch:=first|assumption|omega|(simp;done)|(simp;omega)) only[qaa,qac,List.take_of_length_le,qab];try simp only[go_sem,seval,-List.reduceReplicate,Tryz.results3])|(with_reducible refine And.intro ?_ ?_)|(with_reducible intro _)|((try rw[qad]);omega)
 refine qaT (E:=Tryz.env 0) Tryz.tok Tryz.follows 1000 1000 [] (.fst 0 (.fst 1 (.one 2 (.one 3 (.fst 4 (.done)))))) (by kernel_rfl) ?_
 simp only[go_sem,seval,-List.reduceReplicate,Tryz.results3]
 repeat' first|assumption|(simp (disch:=first|assumption|omega|(simp;done)|(simp;omega)) only[qaa,qac,List.take_of_length_le,qab];try simp only[go_sem,seval,-List.reduceReplicate,Tryz.results3])|(with_reducible refine And.intro ?_ ?_)|(with_reducible intro _)|(refine qai htc ?_;simp only[go_sem,seval,-List.reduceReplicate,Tryz.results3])|(refine qai hec ?_;simp only[go_sem,seval,-List.reduceReplicate,Tryz.results3])|((try rw[qad]);omega)
 refine qai hti ?_
 simp only[go_sem,seval,-List.reduceReplicate,Tryz.results3]
 repeat' first|assumption|(simp (disch:=first|assumption|omega|(simp;done)|(simp;omega)) only[qaa,qac,List.take_of_length_le,qab];try simp only[go_sem,seval,-List.reduceReplicate,Tryz.results3])|(with_reducible refine And.intro ?_ ?_)|(with_reducible intro _)|(refine qai hei ?_;simp only[go_sem,seval,-List.reduceReplicate,Tryz.results3])|((try rw[qad]);omega)
 refine qcc (Tryz.c_markCircuit 0 0 0 c 1 (by omega) (by omega) (by omega) (by omega)) [1,2,3] (by simp only[go_sem,seval,-List.reduceReplicate]) ?_
 simp only[go_sem,seval,-List.reduceReplicate,Tryz.results3]
 repeat' first|assumption|(simp (disch:=first|assumption|omega|(simp;done)|(simp;omega)) only[qaa,qac,List.take_of_length_le,qab];try simp only[go_sem,seval,-List.reduceReplicate,Tryz.results3])|(with_reducible refine And.intro ?_ ?_)|(with_reducible intro _)|((try rw[qad]);omega)
 refine qcc (Tryz.c_markIntS 0 place (1+c.next.length+2*c.gates.length+c.outs.length) (by omega) (by omega)) [5] (by simp only[go_sem,seval,-List.reduceReplicate]) ?_
 simp only[go_sem,seval,-List.reduceReplicate,Tryz.results3]
 repeat' first|assumption|(simp (disch:=first|assumption|omega|(simp;done)|(simp;omega)) only[qaa,qac,List.take_of_length_le,qab];try simp only[go_sem,seval,-List.reduceReplicate,Tryz.results3])|(with_reducible refine And.intro ?_ ?_)|(with_reducible intro _)|((try rw[qad]);omega)
 refine qaR (fun _=>he) ?_
 simp only[go_sem,seval,-List.reduceReplicate,Tryz.results3]
 repeat' first|assumption|(simp (disch:=first|assumption|omega|(simp;done)|(simp;omega)) only[qaa,qac,List.take_of_length_le,qab];try simp only[go_sem,seval,-List.reduceReplicate,Tryz.results3])|(with_reducible refine And.intro ?_ ?_)|(with_reducible intro _)|((try rw[qad]);omega)
 refine qcc (Tryz.c_markIntS 0 out 1 (by omega) (by omega)) [6] (by simp only[go_sem,seval,-List.reduceReplicate]) ?_
 simp only[go_sem,seval,-List.reduceReplicate,Tryz.results3]
 have hh:=Tryz.c_heldIntS ((List.range out.length).map fun(j:Nat)=>1+(j:Int)) 1 (by simp;omega)
 rw[show Tryz.held ((List.range out.length).map fun(j:Nat)=>1+(j:Int)) 1=1+(out.length:Int) from Tryz.held_mark _ _] at hh
 repeat' first|assumption|(simp (disch:=first|assumption|omega|(simp;done)|(simp;omega)) only[qaa,qac,List.take_of_length_le,qab];try simp only[go_sem,seval,-List.reduceReplicate,Tryz.results3])|(with_reducible refine And.intro ?_ ?_)|(with_reducible intro _)|(refine qai hh ?_;simp only[go_sem,seval,-List.reduceReplicate,Tryz.results3])|(refine qai htc ?_;simp only[go_sem,seval,-List.reduceReplicate,Tryz.results3])|(refine qai hti ?_;simp only[go_sem,seval,-List.reduceReplicate,Tryz.results3])|(refine qai hR ?_;simp only[go_sem,seval,-List.reduceReplicate,Tryz.results3])|(refine qai he ?_;simp only[go_sem,seval,-List.reduceReplicate,Tryz.results3])|(refine qaR (fun _=>he) ?_;simp only[go_sem,seval,-List.reduceReplicate,Tryz.results3])|((try rw[qad]);omega)
end Go.Proofs
