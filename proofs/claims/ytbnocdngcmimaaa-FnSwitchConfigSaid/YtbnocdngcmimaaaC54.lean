/- Contracts: what is exact about changing configurations. Conditions: none; lemmas. -/
import Derived.Test.YtbnocdngcmimaaaC53
set_option maxRecDepth 20000
set_option linter.unusedVariables false
set_option linter.unusedSimpArgs false
namespace Go.Proofs
open Go Go.VL
theorem qkj {a:Kcfg}(h:a.ok) {fs:List (Int×Tcfg)}(hf : ∀ p∈fs,frOk p=true) {n:Nat} : ∀ c∈qbf a.tiles a.pads fs n,c.ok:=by
 intro c hc
 obtain⟨j,_,rfl⟩:=List.mem_map.1 hc
 exact qcN h (qbO hf)
theorem qpI {a:Kcfg}(h:a.ok) {fs:List (Int×Tcfg)}(hf : ∀ p∈fs,frOk p=true) : ∀ c∈steps a fs,c.ok:=by
 intro c hc
 have hfe:=qkZ hf
 rcases List.mem_append.1 hc with h1|h1
 ·exact qkj h hfe c h1
 ·exact qkj (a:=⟨qax a.tiles (er fs),a.pads⟩) (qcN h hfe) hf c h1
theorem qgi (a b:Kcfg) : ∀ c∈qbg a b,c.ok:=by
 intro c hc
 unfold qbg at hc
 by_cases h:a.ok∧b.ok
 ·rw[if_pos h] at hc
  have hl : ∀ c∈(if qaP a b 25=[] then [a] else steps a (qaP a b 25)),c.ok:=by
   intro c hc
   by_cases h2:qaP a b 25=[]
   ·rw[if_pos h2] at hc
    obtain rfl:c=a:=by simpa using hc
    exact h.1
   ·rw[if_neg h2] at hc
    exact qpI h.1 (qeX h.2 (Nat.le_refl 25)) c hc
  have hne:0<(if qaP a b 25=[] then [a] else steps a (qaP a b 25)).length:=by
   by_cases h2:qaP a b 25=[]
   ·rw[if_pos h2];simp
   ·rw[if_neg h2,qdR]
    have:=List.length_pos_iff.2 h2
    omega
  generalize (if qaP a b 25=[] then [a] else steps a (qaP a b 25))=l at *
  rcases List.mem_or_eq_of_mem_set hc with h3|h3
  ·exact hl c h3
  ·have:=hl _ (qao (by omega):l.getD (l.length-1) k0∈l)
   rw[h3]
   exact⟨this.1,h.2.2.1,this.2.2⟩
 ·rw[if_neg h] at hc
  simp at hc
theorem qh2 (a b:Kcfg):(qbg a b).length≤50:=by
 unfold qbg
 by_cases h:a.ok∧b.ok
 ·rw[if_pos h]
  have:=qdp a b 25
  by_cases h2:qaP a b 25=[]
  ·rw[if_pos h2];simp[qcC]
  ·rw[if_neg h2];simp[qcC,qdR];omega
 ·rw[if_neg h];simp
end Go.Proofs
