/-
  No cell of these rows narrows 'for every input' (looked for: loops, veiled, ifaces, maps, wideKeys, modest, calm, conditions, laid).
  DERIVED. THE GIVEN ROWS OF THIS SEAT. 5 by the template 'for every input the law returns true; each argument reads behind the call as it read before'; 0 by the template 'total and deterministic' (their statements: YtabdiinahgeghaaTotals.lean).
  GIVEN WITH THE SEED: the statements are not yours to turn. If you find one false, say at which input.
  Laid BY PROGRAM, IN A SANDBOX (cutbox-rows.mjs): the forced cells as the released guide's own fill.sh prints them over the translation 655ceeba3b970005… (all of the seat's roots in one cut). By AI agents, Wed Nov 11 2026. No macro, syntax, notation, axiom, sorry.
-/
import Derived.Test.YtabdiinahgeghaaChecked
import GoSem.Claim
import GoSem.ClaimJoined
import GoSem.ClaimMapViews
import Derived.JoinedTies
import Derived.KernelRfl
namespace Go.Proofs.Ytabdiinahgeghaa
/- THE CELL 'sum', in the pinned program and in every row, IS THE sha256 OF THE DUMP (.gsa) THAT YtabdiinahgeghaaProg.lean LOADS. Nothing in Lean hashes anything: it is a label: what it is worth is what the hold of that sum in a sandbox is worth. -/
noncomputable def Try.pinned : Pinned := { name := "ytabdiinahgeghaa", sum := "655ceeba3b970005fadaf21c5d0bcd49397bf114c4bb358340e7a6268160526c", checked := Try.checked }
namespace Rows
def none {H : Type} : Left H := { results := [], args := [] }

/-- 'laws.FnExactToggles': WHATEVER THE INPUT: true; the input reads as it did. -/
def fnExactTogglesSpec : ChangeSpec := { name := "fnExactToggles", fn := fun _ => fun
  | [d1, d2] => { results := [.lit (.bool true)], args := [d1, d2] }
  | _ => none }
def fnExactTogglesRow : OpenClaim := { program := "ytabdiinahgeghaa", sum := "655ceeba3b970005fadaf21c5d0bcd49397bf114c4bb358340e7a6268160526c", func := "loop.example/fpgatoolchain/laws.FnExactToggles", spec := "fnExactToggles", apart := false }
def FnExactTogglesSaid : Prop := fnExactTogglesRow.holds Try.pinned (OpenSpec.ofChange fnExactTogglesSpec)

/-- ITS FALSE NEIGHBOUR: 'it returns false'. Refute it at one input. -/
def fnExactTogglesWrong : ChangeSpec := { name := "fnExactToggles", fn := fun _ => fun
  | [d1, d2] => { results := [.lit (.bool false)], args := [d1, d2] }
  | _ => none }
def FnExactTogglesWrongFalsely : Prop := fnExactTogglesRow.holds Try.pinned (OpenSpec.ofChange fnExactTogglesWrong)

/-- 'laws.FnExactDiffFrames': WHATEVER THE INPUT: true; the input reads as it did. -/
def fnExactDiffFramesSpec : ChangeSpec := { name := "fnExactDiffFrames", fn := fun _ => fun
  | [d1, d2] => { results := [.lit (.bool true)], args := [d1, d2] }
  | _ => none }
def fnExactDiffFramesRow : OpenClaim := { program := "ytabdiinahgeghaa", sum := "655ceeba3b970005fadaf21c5d0bcd49397bf114c4bb358340e7a6268160526c", func := "loop.example/fpgatoolchain/laws.FnExactDiffFrames", spec := "fnExactDiffFrames", apart := false }
def FnExactDiffFramesSaid : Prop := fnExactDiffFramesRow.holds Try.pinned (OpenSpec.ofChange fnExactDiffFramesSpec)

/-- ITS FALSE NEIGHBOUR: 'it returns false'. Refute it at one input. -/
def fnExactDiffFramesWrong : ChangeSpec := { name := "fnExactDiffFrames", fn := fun _ => fun
  | [d1, d2] => { results := [.lit (.bool false)], args := [d1, d2] }
  | _ => none }
def FnExactDiffFramesWrongFalsely : Prop := fnExactDiffFramesRow.holds Try.pinned (OpenSpec.ofChange fnExactDiffFramesWrong)

/-- 'laws.FnExactBreak': WHATEVER THE INPUT: true; the input reads as it did. -/
def fnExactBreakSpec : ChangeSpec := { name := "fnExactBreak", fn := fun _ => fun
  | [d1, d2] => { results := [.lit (.bool true)], args := [d1, d2] }
  | _ => none }
def fnExactBreakRow : OpenClaim := { program := "ytabdiinahgeghaa", sum := "655ceeba3b970005fadaf21c5d0bcd49397bf114c4bb358340e7a6268160526c", func := "loop.example/fpgatoolchain/laws.FnExactBreak", spec := "fnExactBreak", apart := false }
def FnExactBreakSaid : Prop := fnExactBreakRow.holds Try.pinned (OpenSpec.ofChange fnExactBreakSpec)

/-- ITS FALSE NEIGHBOUR: 'it returns false'. Refute it at one input. -/
def fnExactBreakWrong : ChangeSpec := { name := "fnExactBreak", fn := fun _ => fun
  | [d1, d2] => { results := [.lit (.bool false)], args := [d1, d2] }
  | _ => none }
def FnExactBreakWrongFalsely : Prop := fnExactBreakRow.holds Try.pinned (OpenSpec.ofChange fnExactBreakWrong)

/-- 'laws.FnExactApplyFrames': WHATEVER THE INPUT: true; the input reads as it did. -/
def fnExactApplyFramesSpec : ChangeSpec := { name := "fnExactApplyFrames", fn := fun _ => fun
  | [d1, d2, d3] => { results := [.lit (.bool true)], args := [d1, d2, d3] }
  | _ => none }
def fnExactApplyFramesRow : OpenClaim := { program := "ytabdiinahgeghaa", sum := "655ceeba3b970005fadaf21c5d0bcd49397bf114c4bb358340e7a6268160526c", func := "loop.example/fpgatoolchain/laws.FnExactApplyFrames", spec := "fnExactApplyFrames", apart := false }
def FnExactApplyFramesSaid : Prop := fnExactApplyFramesRow.holds Try.pinned (OpenSpec.ofChange fnExactApplyFramesSpec)

/-- ITS FALSE NEIGHBOUR: 'it returns false'. Refute it at one input. -/
def fnExactApplyFramesWrong : ChangeSpec := { name := "fnExactApplyFrames", fn := fun _ => fun
  | [d1, d2, d3] => { results := [.lit (.bool false)], args := [d1, d2, d3] }
  | _ => none }
def FnExactApplyFramesWrongFalsely : Prop := fnExactApplyFramesRow.holds Try.pinned (OpenSpec.ofChange fnExactApplyFramesWrong)

/-- 'laws.FnExactSwitchConfig': WHATEVER THE INPUT: true; the input reads as it did. -/
def fnExactSwitchConfigSpec : ChangeSpec := { name := "fnExactSwitchConfig", fn := fun _ => fun
  | [d1, d2] => { results := [.lit (.bool true)], args := [d1, d2] }
  | _ => none }
def fnExactSwitchConfigRow : OpenClaim := { program := "ytabdiinahgeghaa", sum := "655ceeba3b970005fadaf21c5d0bcd49397bf114c4bb358340e7a6268160526c", func := "loop.example/fpgatoolchain/laws.FnExactSwitchConfig", spec := "fnExactSwitchConfig", apart := false }
def FnExactSwitchConfigSaid : Prop := fnExactSwitchConfigRow.holds Try.pinned (OpenSpec.ofChange fnExactSwitchConfigSpec)

/-- ITS FALSE NEIGHBOUR: 'it returns false'. Refute it at one input. -/
def fnExactSwitchConfigWrong : ChangeSpec := { name := "fnExactSwitchConfig", fn := fun _ => fun
  | [d1, d2] => { results := [.lit (.bool false)], args := [d1, d2] }
  | _ => none }
def FnExactSwitchConfigWrongFalsely : Prop := fnExactSwitchConfigRow.holds Try.pinned (OpenSpec.ofChange fnExactSwitchConfigWrong)

/- THE SECOND FORM. 'bulk': how many values and letters a reading holds, each counted each time it is reached (what is shared counts as often as it is met; a slice's spare places count too). A statement '..UptoSaid' is the law's where the arguments, and the package variables that the reading takes, are together of bulk at most 1048576: NARROWER than '..Said'. Prove '..Said' where nothing that the law and all that it calls make is longer than what came in: it says more and counts as full. Else prove '..UptoSaid'. A law counts once. -/
mutual
def uptoBulk {H : Type} : DataW H → Nat
  | .lit (.string bytes) => bytes.length + 1
  | .lit _ => 1
  | .nil => 1
  | .ptr d => uptoBulk d + 1
  | .slice elems spare => uptoBulkAll elems + uptoBulkAll spare + 1
  | .agg parts => uptoBulkAll parts + 1
  | .iface _ d => uptoBulk d + 1
  | .map entries => uptoBulkEntries entries + 1
  | .held _ => 1
def uptoBulkAll {H : Type} : List (DataW H) → Nat
  | [] => 0
  | d :: r => uptoBulk d + uptoBulkAll r
def uptoBulkEntries {H : Type} : List (Lit × DataW H) → Nat
  | [] => 0
  | x :: r => uptoBulkEntry x + uptoBulkEntries r
def uptoBulkEntry {H : Type} : Lit × DataW H → Nat
  | (.string bytes, d) => bytes.length + uptoBulk d + 1
  | (_, d) => uptoBulk d + 1
 end
def uptoSmall : (H : Type) → List (DataW H) → Bool := fun _ ds => decide (uptoBulkAll ds ≤ 1048576)
def OpenSpec.upto (s : _root_.Go.ChangeSpec) : _root_.Go.OpenSpec := { _root_.Go.OpenSpec.ofChange s with cond := some uptoSmall }

/-- 'laws.FnExactToggles', WHERE WHAT IT READS IS OF BULK AT MOST 1048576: true; the input reads as it did. -/
def fnExactTogglesUptoRow : OpenClaim := { program := "ytabdiinahgeghaa", sum := "655ceeba3b970005fadaf21c5d0bcd49397bf114c4bb358340e7a6268160526c", func := "loop.example/fpgatoolchain/laws.FnExactToggles", spec := "fnExactToggles", apart := false, narrowed := true }
def FnExactTogglesUptoSaid : Prop := fnExactTogglesUptoRow.holds Try.pinned (OpenSpec.upto fnExactTogglesSpec)

/-- 'laws.FnExactDiffFrames', WHERE WHAT IT READS IS OF BULK AT MOST 1048576: true; the input reads as it did. -/
def fnExactDiffFramesUptoRow : OpenClaim := { program := "ytabdiinahgeghaa", sum := "655ceeba3b970005fadaf21c5d0bcd49397bf114c4bb358340e7a6268160526c", func := "loop.example/fpgatoolchain/laws.FnExactDiffFrames", spec := "fnExactDiffFrames", apart := false, narrowed := true }
def FnExactDiffFramesUptoSaid : Prop := fnExactDiffFramesUptoRow.holds Try.pinned (OpenSpec.upto fnExactDiffFramesSpec)

/-- 'laws.FnExactBreak', WHERE WHAT IT READS IS OF BULK AT MOST 1048576: true; the input reads as it did. -/
def fnExactBreakUptoRow : OpenClaim := { program := "ytabdiinahgeghaa", sum := "655ceeba3b970005fadaf21c5d0bcd49397bf114c4bb358340e7a6268160526c", func := "loop.example/fpgatoolchain/laws.FnExactBreak", spec := "fnExactBreak", apart := false, narrowed := true }
def FnExactBreakUptoSaid : Prop := fnExactBreakUptoRow.holds Try.pinned (OpenSpec.upto fnExactBreakSpec)

/-- 'laws.FnExactApplyFrames', WHERE WHAT IT READS IS OF BULK AT MOST 1048576: true; the input reads as it did. -/
def fnExactApplyFramesUptoRow : OpenClaim := { program := "ytabdiinahgeghaa", sum := "655ceeba3b970005fadaf21c5d0bcd49397bf114c4bb358340e7a6268160526c", func := "loop.example/fpgatoolchain/laws.FnExactApplyFrames", spec := "fnExactApplyFrames", apart := false, narrowed := true }
def FnExactApplyFramesUptoSaid : Prop := fnExactApplyFramesUptoRow.holds Try.pinned (OpenSpec.upto fnExactApplyFramesSpec)

/-- 'laws.FnExactSwitchConfig', WHERE WHAT IT READS IS OF BULK AT MOST 1048576: true; the input reads as it did. -/
def fnExactSwitchConfigUptoRow : OpenClaim := { program := "ytabdiinahgeghaa", sum := "655ceeba3b970005fadaf21c5d0bcd49397bf114c4bb358340e7a6268160526c", func := "loop.example/fpgatoolchain/laws.FnExactSwitchConfig", spec := "fnExactSwitchConfig", apart := false, narrowed := true }
def FnExactSwitchConfigUptoSaid : Prop := fnExactSwitchConfigUptoRow.holds Try.pinned (OpenSpec.upto fnExactSwitchConfigSpec)

end Rows
end Go.Proofs.Ytabdiinahgeghaa
