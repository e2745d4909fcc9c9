/- Contracts: the reference configures a circuit. Conditions: none; lemmas. -/
import Derived.Test.YtbnocdngcmimaaaC78
set_option maxRecDepth 20000
set_option linter.unusedVariables false
set_option linter.unusedSimpArgs false
namespace Go.Proofs
open Go Go.VL
theorem qmu {c:Circ}(hc:c.Valid) : ∀ x∈qdm c,∀ v∈x.inputs,0≤v∧v<c.vars:=by
 intro x hx v hv
 have hf:=hc.first_bd
 have hvv:c.vars=c.first+(c.gates.length:Int):=rfl
 rcases List.mem_append.1 hx with h|h
 ·obtain⟨i,hi,rfl⟩:=List.mem_map.1 h
  have hi':i<c.next.length:=List.mem_range.1 hi
  have hn:=hc.n _ (qao hi':c.next.getD i 0∈c.next)
  unfold qbp at hn
  unfold qcA at hv
  split at hv
  ·rw[List.mem_singleton.1 hv];omega
  ·cases hv
 ·obtain⟨l,hl,rfl⟩:=List.mem_map.1 h
  obtain⟨m,hm,rfl⟩:=(qgY hc).each l hl
  have:=(qeV hc hm).2.2 v hv
  omega
theorem qki {c:Circ}(hc:c.Valid) {cells:List Cel}{place:List Int}(hp:PlaceOk cells.length place) {rs:List Rt}(h:qfT c cells place qeD=some rs) :
  (∀ r∈rs,0≤r.net∧r.net<c.vars∧0≤r.track∧r.track≤7∧∀ h∈r.hops,0≤h.1∧h.1≤24)∧∀ r∈rs,r.hops.length≤1000:=by
 have hf:=hc.first_bd
 have hv:=hc.vars_bd
 have hrc:qfT c cells place qeD=(qdy c cells place qeD (c.vars.toNat-1)).map (·.2):=rfl
 rw[hrc] at h
 obtain⟨⟨busy,out⟩,h1,rfl⟩:=Option.map_eq_some_iff.1 h
 have hR:=qhT hc hp qlL _ h1
 constructor
 ·intro r hr
  have e:=hR.each r hr
  have e1:=e.net
  have e2:=e.track
  exact⟨by omega,by omega,by omega,by omega,e.tree.rng⟩
 ·intro r hr
  have:=qg2 (hR.each r hr).tree
  omega
noncomputable def qgg (c:Circ):Option Kcfg:=if c.Valid then(qfT c (qdm c) (qiC c (qdm c)) qeD).map (qn2 c (qdm c) (qiC c (qdm c))) else none
def kz:Kcfg:=⟨[],[]⟩
theorem Try.c_sConfigure (c:Circ):Pure Try.prog 107 [dC c] (.tup [dK ((qgg c).getD kz),dB (qgg c).isSome]):=by
 have hcv:=Try.c_sCircuitValid c
 unfold qgg
 by_cases hc:c.Valid
 ·rw[if_pos hc]
  rw[decide_eq_true hc] at hcv
  have h1:=Try.c_l6Cells c hc
  have hcl:=qiA hc
  have hci:=qgE hc
  have hcx:=qmu hc
  generalize qdm c=cells at *
  have h2:=Try.c_l7Place c hc cells (by omega) hci
  have hp:=qj3 (c:=c) (cells:=cells) (by omega)
  generalize qiC c cells=place at *
  have h3:=Try.c_l8Route c hc cells (by omega) hci place hp
  cases hro:qfT c cells place qeD with
  | none=>
   rw[hro] at h3
   refine qdM (E:=Try.env 0) Try.tok rfl 1000 Try.func107 rfl rfl Try.ntmps107 (by simp) fun ok=>?_
   simp only[go_sem,seval,-List.reduceReplicate] at ok
   simp only[go_sem,seval,-List.reduceReplicate,Try.results107]
   repeat' first|assumption|(simp (disch:=first|assumption|omega|(simp;done)|(simp;omega)) only[qab,qad,List.take_of_length_le,qac,qaf,qag,qal,qam,qar,qab,qah,qai,qaa];try simp only[go_sem,seval,-List.reduceReplicate,Try.results107])|(with_reducible refine And.intro ?_ ?_)|(with_reducible intro _)|(refine qaj hcv ?_;simp only[go_sem,seval,-List.reduceReplicate,Try.results107])|(refine qaj h1 ?_;simp only[go_sem,seval,-List.reduceReplicate,Try.results107])|(refine qci h2 ?_;simp only[go_sem,seval,-List.reduceReplicate,Try.results107])|(refine qci h3 ?_;simp only[go_sem,seval,-List.reduceReplicate,Try.results107])|(refine @Exists.intro I _ (I.d D.nil) ?_;simp only[go_sem,seval,-List.reduceReplicate,Try.results107])|((with_reducible (show Region.lexB _ _=true));kernel_rfl)|((try rw[qae]);omega)
   all_goals first|rfl|simp[wk2,wkL,wk1,kz]
  | some rs=>
   rw[hro] at h3
   obtain⟨hr1,hr2⟩:=qki hc hp hro
   have h4:=Try.c_l9Build c hc cells (by omega) hci place hp hcx rs hr1 hr2
   refine qdM (E:=Try.env 0) Try.tok rfl 1000 Try.func107 rfl rfl Try.ntmps107 (by simp) fun ok=>?_
   simp only[go_sem,seval,-List.reduceReplicate] at ok
   simp only[go_sem,seval,-List.reduceReplicate,Try.results107]
   repeat' first|assumption|(simp (disch:=first|assumption|omega|(simp;done)|(simp;omega)) only[qab,qad,List.take_of_length_le,qac,qaf,qag,qal,qam,qar,qab,qah,qai,qaa];try simp only[go_sem,seval,-List.reduceReplicate,Try.results107])|(with_reducible refine And.intro ?_ ?_)|(with_reducible intro _)|(refine qaj hcv ?_;simp only[go_sem,seval,-List.reduceReplicate,Try.results107])|(refine qaj h1 ?_;simp only[go_sem,seval,-List.reduceReplicate,Try.results107])|(refine qci h2 ?_;simp only[go_sem,seval,-List.reduceReplicate,Try.results107])|(refine qci h3 ?_;simp only[go_sem,seval,-List.reduceReplicate,Try.results107])|(refine qaM h4 ?_;simp only[go_sem,seval,-List.reduceReplicate,Try.results107])|(refine @Exists.intro I _ (I.d D.nil) ?_;simp only[go_sem,seval,-List.reduceReplicate,Try.results107])|((with_reducible (show Region.lexB _ _=true));kernel_rfl)|((try rw[qae]);omega)
   all_goals first|rfl|simp[wk2,wkL,wk1]
 ·rw[if_neg hc]
  rw[decide_eq_false hc] at hcv
  refine qdM (E:=Try.env 0) Try.tok rfl 1000 Try.func107 rfl rfl Try.ntmps107 (by simp) fun ok=>?_
  simp only[go_sem,seval,-List.reduceReplicate] at ok
  simp only[go_sem,seval,-List.reduceReplicate,Try.results107]
  repeat' first|assumption|(simp (disch:=first|assumption|omega|(simp;done)|(simp;omega)) only[qab,qad,List.take_of_length_le,qac,qaf,qag,qal,qam,qar,qab,qah,qai,qaa];try simp only[go_sem,seval,-List.reduceReplicate,Try.results107])|(with_reducible refine And.intro ?_ ?_)|(with_reducible intro _)|(refine qaj hcv ?_;simp only[go_sem,seval,-List.reduceReplicate,Try.results107])|(refine @Exists.intro I _ (I.d D.nil) ?_;simp only[go_sem,seval,-List.reduceReplicate,Try.results107])|((with_reducible (show Region.lexB _ _=true));kernel_rfl)|((try rw[qae]);omega)
  all_goals first|rfl|simp[wk2,wkL,wk1,kz]
end Go.Proofs
