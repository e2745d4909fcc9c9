/- Law: what is exact about routes. Conditions: none; lemmas. -/
import Derived.Test.YtoanmdnkgjdinaaGreatZ1
import Derived.Test.YtoanmdnkgjdinaaGreatE4
import Derived.Test.YtoanmdnkgjdinaaGreatF1
set_option maxRecDepth 20000
set_option linter.unusedVariables false
set_option linter.unusedSimpArgs false
namespace Go.Proofs
open Go Go.VL
theorem qn4 {rs:List Rt}(h:RtsOk rs):sumR rs≤52*100:=by
 have key : ∀ l:List Rt,(∀ r∈l,r.hops.length≤25)→sumR l≤52*l.length:=by
  intro l
  induction l with
  | nil=>exact fun _=>Nat.le_refl _
  | cons x l ih=>
   intro hl
   have h1:=ih fun r hr=>hl r (by simp[hr])
   have h2:=hl x (by simp)
   have e:sumR (x::l)=wR x+sumR l:=by simp[sumR]
   rw[e,List.length_cons,wR]
   omega
 have:=key rs h.hops
 have:=h.len
 omega
theorem qiX (o:Option (List Rt)):WK (qfw o) (.tup [dRts (o.getD []),dB o.isSome]):=by
 cases o with
 | none=>exact .tup (qfo (l:=[.nil,dB false]) (l':=[dRts [],dB false]) ⟨.nil (by omega),.refl _,trivial⟩).1 (qfo (l:=[.nil,dB false]) (l':=[dRts [],dB false]) ⟨.nil (by omega),.refl _,trivial⟩).2
 | some rs=>exact .refl _
theorem qic {o:Option (List Rt)}(h : ∀ rs,o=some rs→RtsOk rs):sumR (o.getD [])≤5200∧(o.getD []).length≤100:=by
 cases o with
 | none=>exact⟨Nat.zero_le _,Nat.zero_le _⟩
 | some rs=>exact⟨qn4 (h rs rfl),(h rs rfl).len⟩
set_option maxHeartbeats 4000000 in
theorem Tryz.c_FnExactRoute (c:Circ) (place:List Int):Pure Tryz.prog 4 [dC c,dIs place] (.bool true):=by
 refine qam (E:=Tryz.env 0) Tryz.tok rfl 1000 Tryz.func4 rfl rfl Tryz.ntmps4 (by simp) fun ok=>?_
 simp only[go_sem,seval,-List.reduceReplicate] at ok
 simp only[go_sem,seval,-List.reduceReplicate,Tryz.results4]
 repeat' first|assumption|(simp (disch:=first|assumption|omega|(simp;done)|(simp;omega)) only[qaa,qac,List.take_of_length_le,qab,qae,qaf,qag,qah,qaj];try simp only[go_sem,seval,-List.reduceReplicate,Tryz.results4])|(with_reducible refine And.intro ?_ ?_)|(with_reducible intro _)|((try rw[qad]);omega)
 have hz:=Tryz.c_szCircuit c 1048576 (by omega)
 by_cases h1:(1048576:Int)<c.next.length+c.gates.length+c.outs.length
 ·rw[if_pos h1] at hz
  refine qai hz ?_
  simp only[go_sem,seval,-List.reduceReplicate,Tryz.results4]
 rw[if_neg h1] at hz
 refine qai hz ?_
 simp only[go_sem,seval,-List.reduceReplicate,Tryz.results4]
 repeat' first|assumption|(simp (disch:=first|assumption|omega|(simp;done)|(simp;omega)) only[qaa,qac,List.take_of_length_le,qab,qae,qaf,qag,qah,qaj];try simp only[go_sem,seval,-List.reduceReplicate,Tryz.results4])|(with_reducible refine And.intro ?_ ?_)|(with_reducible intro _)|((try rw[qad]);omega)
 have htc:=Tryz.c_toCircuit c (by omega) (by omega) (by omega)
 have hti:=Tryz.c_toIntS place (by omega)
 have hec:=Tryz.c_eqCircuit c c
 have hei:=Tryz.c_eqIntS place place
 rw[decide_eq_true rfl] at hec hei
 have hR:=(Tryz.c_Route c place).res (qiX _)
 have hS:=Tryz.c_sRoute c place
 obtain⟨hs1,hs2⟩:=qic (o:=qaw c place []) fun rs h=>qee h
 have he:=Tryz.c_eqNetRouteS ((qaw c place []).getD []) ((qaw c place []).getD [])
 rw[decide_eq_true rfl] at he
 generalize (qaw c place []).isSome=b0 at *
 generalize (qaw c place []).getD []=out at *
 refine qai htc ?_
 simp only[go_sem,seval,-List.reduceReplicate,Tryz.results4]
 repeat' first|assumption|(simp (disch:=first|assumption|omega|(simp;done)|(simp;omega)) only[qaa,qac,List.take_of_length_le,qab,qae,qaf,qag,qah,qaj];try simp only[go_sem,seval,-List.reduceReplicate,Tryz.results4])|(with_reducible refine And.intro ?_ ?_)|(with_reducible intro _)|(refine qai hti ?_;simp only[go_sem,seval,-List.reduceReplicate,Tryz.results4])|(refine qbt hS ?_;simp only[go_sem,seval,-List.reduceReplicate,Tryz.results4])|((try rw[qad]);omega)
 refine qa6 htc ?_
 simp only[go_sem,seval,-List.reduceReplicate,Tryz.results4]
 repeat' first|assumption|(simp (disch:=first|assumption|omega|(simp;done)|(simp;omega)) only[qaa,qac,List.take_of_length_le,qab,qae,qaf,qag,qah,qaj];try simp only[go_sem,seval,-List.reduceReplicate,Tryz.results4])|(with_reducible refine And.intro ?_ ?_)|(with_reducible intro _)|((try rw[qad]);omega)
 refine qa6 hti ?_
 simp only[go_sem,seval,-List.reduceReplicate,Tryz.results4]
 repeat' first|assumption|(simp (disch:=first|assumption|omega|(simp;done)|(simp;omega)) only[qaa,qac,List.take_of_length_le,qab,qae,qaf,qag,qah,qaj];try simp only[go_sem,seval,-List.reduceReplicate,Tryz.results4])|(with_reducible refine And.intro ?_ ?_)|(with_reducible intro _)|((try rw[qad]);omega)
 refine qa6 hR ?_
 simp only[go_sem,seval,-List.reduceReplicate,Tryz.results4]
 repeat' first|assumption|(simp (disch:=first|assumption|omega|(simp;done)|(simp;omega)) only[qaa,qac,List.take_of_length_le,qab,qae,qaf,qag,qah,qaj];try simp only[go_sem,seval,-List.reduceReplicate,Tryz.results4])|(with_reducible refine And.intro ?_ ?_)|(with_reducible intro _)|((try rw[qad]);omega)
 refine qai he ?_
 simp only[go_sem,seval,-List.reduceReplicate,Tryz.results4]
 repeat' first|assumption|(simp (disch:=first|assumption|omega|(simp;done)|(simp;omega)) only[qaa,qac,List.take_of_length_le,qab,qae,qaf,qag,qah,qaj];try simp only[go_sem,seval,-List.reduceReplicate,Tryz.results4])|(with_reducible refine And.intro ?_ ?_)|(with_reducible intro _)|((try rw[qad]);omega)
 refine qaT (E:=Tryz.env 0) Tryz.tok Tryz.follows 1000 1000 [] (.fst 0 (.fst 1 (.one 2 (.one 3 (.fst 4 (.done)))))) (by kernel_rfl) ?_
 simp only[go_sem,seval,-List.reduceReplicate,Tryz.results4]
 repeat' first|assumption|(simp (disch:=first|assumption|omega|(simp;done)|(simp;omega)) only[qaa,qac,List.take_of_length_le,qab,qae,qaf,qag,qah,qaj];try simp only[go_sem,seval,-List.reduceReplicate,Tryz.results4])|(with_reducible refine And.intro ?_ ?_)|(with_reducible intro _)|(refine qai htc ?_;simp only[go_sem,seval,-List.reduceReplicate,Tryz.results4])|(refine qai hec ?_;simp only[go_sem,seval,-List.reduceReplicate,Tryz.results4])|((try rw[qad]);omega)
 refine qai hti ?_
 simp only[go_sem,seval,-List.reduceReplicate,Tryz.results4]
 repeat' first|assumption|(simp (disch:=first|assumption|omega|(simp;done)|(simp;omega)) only[qaa,qac,List.take_of_length_le,qab,qae,qaf,qag,qah,qaj];try simp only[go_sem,seval,-List.reduceReplicate,Tryz.results4])|(with_reducible refine And.intro ?_ ?_)|(with_reducible intro _)|(refine qai hei ?_;simp only[go_sem,seval,-List.reduceReplicate,Tryz.results4])|((try rw[qad]);omega)
 refine qcc (Tryz.c_markCircuit 0 0 0 c 1 (by omega) (by omega) (by omega) (by omega)) [1,2,3] (by simp only[go_sem,seval,-List.reduceReplicate]) ?_
 simp only[go_sem,seval,-List.reduceReplicate,Tryz.results4]
 repeat' first|assumption|(simp (disch:=first|assumption|omega|(simp;done)|(simp;omega)) only[qaa,qac,List.take_of_length_le,qab,qae,qaf,qag,qah,qaj];try simp only[go_sem,seval,-List.reduceReplicate,Tryz.results4])|(with_reducible refine And.intro ?_ ?_)|(with_reducible intro _)|((try rw[qad]);omega)
 refine qcc (Tryz.c_markIntS 0 place (1+c.next.length+2*c.gates.length+c.outs.length) (by omega) (by omega)) [5] (by simp only[go_sem,seval,-List.reduceReplicate]) ?_
 simp only[go_sem,seval,-List.reduceReplicate,Tryz.results4]
 repeat' first|assumption|(simp (disch:=first|assumption|omega|(simp;done)|(simp;omega)) only[qaa,qac,List.take_of_length_le,qab,qae,qaf,qag,qah,qaj];try simp only[go_sem,seval,-List.reduceReplicate,Tryz.results4])|(with_reducible refine And.intro ?_ ?_)|(with_reducible intro _)|((try rw[qad]);omega)
 refine qaR (fun _=>he) ?_
 simp only[go_sem,seval,-List.reduceReplicate,Tryz.results4]
 repeat' first|assumption|(simp (disch:=first|assumption|omega|(simp;done)|(simp;omega)) only[qaa,qac,List.take_of_length_le,qab,qae,qaf,qag,qah,qaj];try simp only[go_sem,seval,-List.reduceReplicate,Tryz.results4])|(with_reducible refine And.intro ?_ ?_)|(with_reducible intro _)|((try rw[qad]);omega)
 refine qax (Tryz.c_markNetRouteS 0 out 1 (by omega) (by omega)) [6] (by simp only[go_sem,seval,-List.reduceReplicate]) ?_
 rintro r0 H1 ⟨rfl,rfl⟩
 simp only[go_sem,seval,-List.reduceReplicate,Tryz.results4]
 have hh:=Tryz.c_heldNetRouteS out 1 (by omega)
 have tk:List.take out.length ((mRts out 1).map fun x=>dRt x)=(mRts out 1).map fun x=>dRt x:=List.take_of_length_le (by simp[mRts])
 rw[tk]
 refine qai hh ?_
 simp only[go_sem,seval,-List.reduceReplicate,Tryz.results4]
 repeat' first|assumption|(simp (disch:=first|assumption|omega|(simp;done)|(simp;omega)) only[qaa,qac,List.take_of_length_le,qab,qae,qaf,qag,qah,qaj];try simp only[go_sem,seval,-List.reduceReplicate,Tryz.results4,tk])|(with_reducible refine And.intro ?_ ?_)|(with_reducible intro _)|(refine qai hh ?_;simp only[go_sem,seval,-List.reduceReplicate,Tryz.results4,tk])|(refine qai htc ?_;simp only[go_sem,seval,-List.reduceReplicate,Tryz.results4,tk])|(refine qai hti ?_;simp only[go_sem,seval,-List.reduceReplicate,Tryz.results4,tk])|(refine qai hR ?_;simp only[go_sem,seval,-List.reduceReplicate,Tryz.results4,tk])|(refine qai he ?_;simp only[go_sem,seval,-List.reduceReplicate,Tryz.results4,tk])|(refine qaR (fun _=>he) ?_;simp only[go_sem,seval,-List.reduceReplicate,Tryz.results4,tk])|((try rw[qad]);omega)
end Go.Proofs
