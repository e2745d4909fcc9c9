/- Contracts: what is drawn. Conditions: none; lemmas. -/
import Derived.Test.YtaegedoalbnafaaC4
set_option maxRecDepth 20000
set_option linter.unusedVariables false
set_option linter.unusedSimpArgs false
namespace Go.Proofs
open Go Go.VL

theorem Try.bytes_of {code : List Int} (h : ∀ x ∈ code, InK .u8 x) (n : Nat) : Try.Bytes (code.take n) := fun x hx => by
  have := h x (List.mem_of_mem_take hx)
  rwa [inK_u8] at this
end Go.Proofs
