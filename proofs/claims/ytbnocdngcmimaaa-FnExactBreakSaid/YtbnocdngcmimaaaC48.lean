/- Contracts: what is exact about the frames that differ. Conditions: none; lemmas. -/
import Derived.Test.YtbnocdngcmimaaaC47
import Derived.Test.YtbnocdngcmimaaaC49
set_option maxRecDepth 20000
set_option linter.unusedVariables false
set_option linter.unusedSimpArgs false
namespace Go.Proofs
open Go Go.VL

--@walk getD_tc, getD_q, getD_fp, getD_set_same
theorem wT_le (t : Tcfg) : wM t = 2 + wT t := by simp only [wM, wT]; omega
theorem sumB_wM (l : List Tcfg) : sumB wM l = 2 * l.length + sumB wT l := by
  induction l with
  | nil => rfl
  | cons x r ih =>
    have e1 : sumB wM (x :: r) = wM x + sumB wM r := by simp [sumB]
    have e2 : sumB wT (x :: r) = wT x + sumB wT r := by simp [sumB]
    rw [e1, e2, ih, wT_le, List.length_cons]; omega
theorem wKM_le (c : Kcfg) : wKM c ≤ 3 * wK c := by
  have e1 : wKM c = sumB wM c.tiles + 2 * c.pads.length := rfl
  have e2 : wK c = c.tiles.length + sumB wT c.tiles + c.pads.length := rfl
  rw [e1, e2, sumB_wM]; omega
end Go.Proofs
