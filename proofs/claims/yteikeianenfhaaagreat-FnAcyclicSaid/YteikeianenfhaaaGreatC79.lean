/- Contracts: the reference configures a circuit. Conditions: none; lemmas. -/
import Derived.Test.YteikeianenfhaaaGreatC78
set_option maxRecDepth 20000
set_option linter.unusedVariables false
set_option linter.unusedSimpArgs false
set_option maxHeartbeats 2000000
namespace Go.Proofs
set_option linter.defProp false
open Go Go.VL Tryz
variable {c:Circ}
def qog (hc:c.Valid) : ∀ x∈qaf c,∀ v∈x.inputs,0<=v/\v<c.vars:=by
 intro x hx v hv;have hf:=hc.first_bd;have hvv:c.vars=c.first+(c.gates.length:Int):=rfl
 rcases List.mem_append.1 hx with h|h
 ·obtain⟨i,hi,rfl⟩:=List.mem_map.1 h;have hi':i<c.next.length:=List.mem_range.1 hi;have hn:=hc.n _ (qae hi':c.next.getD i 0∈c.next);unfold qa7 at hn;unfold qaQ at hv;split at hv
  ·rw[List.mem_singleton.1 hv];omega
  ·cases hv
 ·obtain⟨l,hl,rfl⟩:=List.mem_map.1 h;obtain⟨m,hm,rfl⟩:=(qcY hc).each l hl;have:=(qcH hc hm).2.2 v hv;omega
def qlB (hc:c.Valid) {cells:List Cel}{place:List Int}(hp:PlaceOk cells.length place) {rs:List Rt}(h:qcz c cells place qdM=some rs) :
  (∀ r∈rs,0<=r.net/\r.net<c.vars/\0<=r.track/\r.track<=7/\∀ h∈r.hops,0<=h.1/\h.1<=24)/\∀ r∈rs,r.hops.length<=1000:=by
 have hf:=hc.first_bd;have hv:=hc.vars_bd;have hrc:qcz c cells place qdM=(qcK c cells place qdM (c.vars.toNat-1)).map (·.2):=rfl;rw[hrc] at h;obtain⟨⟨busy,out⟩,h1,rfl⟩:=Option.map_eq_some_iff.1 h;have hR:=qgy hc hp free0_ok _ h1;constructor
 ·intro r hr;have e:=hR.each r hr;have e1:=e.net;have e2:=e.track;exact⟨by omega,by omega,by omega,by omega,e.tree.rng⟩
 ·intro r hr;have:=qcZ (hR.each r hr).tree;omega
noncomputable def qg8 (c:Circ):Option Kcfg:=if c.Valid then(qcz c (qaf c) (qcq c (qaf c)) qdM).map (qhy c (qaf c) (qcq c (qaf c))) else none
def kz:Kcfg:=⟨[],[]⟩
def Tryz.c_sConfigure (c:Circ):Pure prog 50 [dC c] (.tup [dK ((qg8 c).getD kz),dB (qg8 c).isSome]):=by
 have hcv:=c_sCircuitValid c;unfold qg8;by_cases hc:c.Valid
 ·rw[if_pos hc];rw[decide_eq_true hc] at hcv;have h1:=c_l6Cells c hc;have hcl:=qbA hc;have hci:=qhw hc;have hcx:=qog hc;generalize qaf c=cells at *
  have h2:=c_l7Place c hc cells (by omega) hci;have hp:=qgu (c:=c) (cells:=cells) (by omega);generalize qcq c cells=place at *
  have h3:=c_l8Route c hc cells (by omega) hci place hp;cases hro:qcz c cells place qdM with
  | none=>
   rw[hro] at h3;refine qco (E:=env 0) tok rfl 1000 func50 rfl rfl ntmps50 (by simp) fun ok=>?_
   simp only[go_sem,seval,-List.reduceReplicate] at ok
   repeat' first|assumption|(simp (disch:=first|assumption|omega|(simp;done)|(simp;omega)) only[go_sem,seval,-List.reduceReplicate])|(with_reducible first|apply And.intro|intro _)|(refine qad hcv ?_)|(refine qad h1 ?_)|(refine qbK h2 ?_)|(refine qbK h3 ?_)|((try rw[qaa]);omega)
   all_goals first|rfl|simp[wk2,wkL,wk1,kz]
  | some rs=>
   rw[hro] at h3;obtain⟨hr1,hr2⟩:=qlB hc hp hro;have h4:=c_l9Build c hc cells (by omega) hci place hp hcx rs hr1 hr2;refine qco (E:=env 0) tok rfl 1000 func50 rfl rfl ntmps50 (by simp) fun ok=>?_
   simp only[go_sem,seval,-List.reduceReplicate] at ok
   repeat' first|assumption|(simp (disch:=first|assumption|omega|(simp;done)|(simp;omega)) only[go_sem,seval,-List.reduceReplicate])|(with_reducible first|apply And.intro|intro _)|(refine qad hcv ?_)|(refine qad h1 ?_)|(refine qbK h2 ?_)|(refine qbK h3 ?_)|(refine qce h4 ?_)|((try rw[qaa]);omega)
   all_goals first|rfl|simp[wk2,wkL,wk1]
 ·rw[if_neg hc];rw[decide_eq_false hc] at hcv;refine qco (E:=env 0) tok rfl 1000 func50 rfl rfl ntmps50 (by simp) fun ok=>?_
  simp only[go_sem,seval,-List.reduceReplicate] at ok
  repeat' first|assumption|(simp (disch:=first|assumption|omega|(simp;done)|(simp;omega)) only[go_sem,seval,-List.reduceReplicate])|(with_reducible first|apply And.intro|intro _)|(refine qad hcv ?_)|((try rw[qaa]);omega)
  all_goals first|rfl|simp[wk2,wkL,wk1,kz]
end Go.Proofs
