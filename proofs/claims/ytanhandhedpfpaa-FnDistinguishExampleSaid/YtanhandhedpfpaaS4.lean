/- Laws: a counter and a longer counter. Conditions: none; lemmas. -/
import Derived.Test.YtanhandhedpfpaaS2
import Derived.Test.YtanhandhedpfpaaS3
import Derived.Test.YtanhandhedpfpaaC23
import Derived.Test.YtanhandhedpfpaaC7
set_option maxRecDepth 20000
set_option linter.unusedVariables false
set_option linter.unusedSimpArgs false
namespace Go.Proofs
open Go Go.VL
def lowC:Circ:=⟨(cnC 2).inputs,(cnC 2).next,(cnC 2).gates,(cnC 2).outs.take 1⟩
theorem qhb:lowC.Valid:=by constructor <;> decide +kernel
theorem qhc:(cnC 1).Valid:=by constructor <;> decide +kernel
theorem qkA:(qbt 1).Valid:=by constructor <;> decide +kernel
theorem low_one:DsOk lowC (cnC 1) 4:=⟨qhb,qhc,by decide +kernel,by decide +kernel,by decide +kernel,by decide +kernel,by decide +kernel⟩
theorem qmq:(srN (stOf lowC (cnC 1)) lowC.inputs.toNat 4).res=none:=by decide +kernel
theorem one_sr:DsOk (cnC 1) (qbt 1) 3:=⟨qhc,qkA,by decide +kernel,by decide +kernel,by decide +kernel,by decide +kernel,by decide +kernel⟩
theorem qkB:((srN (stOf (cnC 1) (qbt 1)) (cnC 1).inputs.toNat 3).res.map List.length)=some 3:=by decide +kernel
theorem low_rm:(rmC lowC (qft lowC)).Valid:=by constructor <;> decide +kernel
theorem low_op:(opD (rmC lowC (qft lowC))).Valid:=by constructor <;> decide +kernel
theorem low_len:(prC (opD (rmC lowC (qft lowC)))).next.length=1:=by decide +kernel
theorem Try.c_FnDistinguishExample (code:List Int):Pure Try.prog 3 [dUs code] (.bool true):=by
 have c2:=Try.c_Counter 2
 have c1:=Try.c_Counter 1
 have cs:=Try.c_ShiftRegister 1
 have hd2:=cnDo 2 (by omega)
 have hre:=Try.c_Reachable (cnC 2) hd2.hv 2 4 hd2.hn rfl hd2.hi (fun s x hs hx=>by
  have h1:=(hd2.hf s x hs hx).1
  have h2:=hd2.hb _ (Nat.mod_lt (s+x) (show 0<2 ^ (2:Int).toNat by decide))
  rw[hd2.hn,hd2.hi]
  show numN (qb7 (values (cnC 2) (bitsOf s (2:Int).toNat) (bitsOf x 1)) (cnC 2).next) (2:Int).toNat=_
  rw[h1]
  exact h2)
 have hq:=Try.c_SeqEq lowC (cnC 1) 4 low_one
 rw[qmq,Option.isNone_none] at hq
 have hd:=Try.c_Distinguish (cnC 1) (qbt 1) 3 one_sr
 obtain⟨P,hP,hPl⟩ : ∃ P,(srN (stOf (cnC 1) (qbt 1)) (cnC 1).inputs.toNat 3).res=some P∧P.length=3:=by
  have:=qkB
  cases h:(srN (stOf (cnC 1) (qbt 1)) (cnC 1).inputs.toNat 3).res with
  | none=>rw[h] at this;cases this
  | some P=>rw[h] at this;exact⟨P,rfl,by simpa using this⟩
 have e:qfq (srN (stOf (cnC 1) (qbt 1)) (cnC 1).inputs.toNat 3)=.agg [.bool true,dBss P]:=by rw[qfq,hP]
 rw[e] at hd
 have hrm:=Try.c_RemoveLatches lowC qhb low_rm low_op
 have hrl:=low_len
 generalize prC (opD (rmC lowC (qft lowC)))=X at *
 have ho:(cnC 2).outs.length=2:=by decide +kernel
 have hL:lowC=⟨(cnC 2).inputs,(cnC 2).next,(cnC 2).gates,(cnC 2).outs.take 1⟩:=rfl
 rw[hL] at hq hrm
 clear hd2 e hP hL
 generalize cnC 2=T at *
 generalize cnC 1=W at *
 generalize qbt 1=V at *
 refine qau (E:=Try.env 0) Try.tok rfl 1000 Try.func3 rfl rfl Try.ntmps3 (by simp) fun ok=>?_
 simp only[go_sem,seval] at ok
 simp only[go_sem,seval,Try.results3]
 repeat' first|assumption|(simp (disch:=first|assumption|omega|(simp;done)|(simp;omega)) only[qae,qah,List.take_of_length_le,qag];try simp only[go_sem,seval,Try.results3])|(with_reducible first|apply And.intro|intro _)|(refine qad c2 ?_;simp only[go_sem,seval,Try.results3])|(refine qad c1 ?_;simp only[go_sem,seval,Try.results3])|(refine qai ?_;simp only[go_sem,seval,Try.results3])|exact lexT|((try rw[qaa]);omega)
 refine qax (E:=Try.env 0) Try.tok Try.follows 1000 1000 [4] (.fst 0 (.two 1 (.two 2 (.one 3 (.one 4 .done)) 3 (.one 2 (.one 4 .done))) 3 (.one 1 (.one 2 (.one 4 .done))))) (by kernel_rfl) ?_
 simp only[go_sem,seval,Try.results3]
 have hr0:(rng 4).getD 0 0=0:=rfl
 have hr4:(rng 4).length=4:=rfl
 generalize rng 4=Z at *
 repeat' first|assumption|(simp (disch:=first|assumption|omega|(simp;done)|(simp;omega)) only[qae,qah,List.take_of_length_le,qag];try simp only[go_sem,seval,Try.results3,hrl,hPl,hr0,hr4])|(with_reducible first|apply And.intro|intro _)|(refine qad cs ?_;simp only[go_sem,seval,Try.results3,hrl,hPl,hr0,hr4])|(refine qgj hd ?_;simp only[go_sem,seval,Try.results3,hrl,hPl,hr0,hr4])|(refine qad hq ?_;simp only[go_sem,seval,Try.results3,hrl,hPl,hr0,hr4])|(refine qbM (fun _=>hrm) ?_;simp only[go_sem,seval,Try.results3,hrl,hPl,hr0,hr4])|(refine qbM (fun _=>hre) ?_;simp only[go_sem,seval,Try.results3,hrl,hPl,hr0,hr4])|(refine qai ?_;simp only[go_sem,seval,Try.results3,hrl,hPl,hr0,hr4])|exact lexT|((try rw[qaa]);omega)
end Go.Proofs
