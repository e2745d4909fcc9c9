/-
  No cell of these rows narrows 'for every input' (looked for: loops, veiled, ifaces, maps, wideKeys, modest, calm, conditions, laid).
  DERIVED. THE GIVEN ROWS OF THIS SEAT. 12 by the template 'for every input the law returns true; each argument reads behind the call as it read before'; 0 by the template 'total and deterministic' (their statements: YtbnocdngcmimaaaTotals.lean).
  GIVEN WITH THE SEED: the statements are not yours to turn. If you find one false, say at which input.
  Laid BY PROGRAM, IN A SANDBOX (cutbox-rows.mjs): the forced cells as the released guide's own fill.sh prints them over the translation e1bd67e682062468… (all of the seat's roots in one cut). By AI agents, Wed Nov 11 2026. No macro, syntax, notation, axiom, sorry.
-/
import Derived.Test.YtbnocdngcmimaaaChecked
import GoSem.Claim
import GoSem.ClaimJoined
import GoSem.ClaimMapViews
import Derived.JoinedTies
import Derived.KernelRfl
namespace Go.Proofs.Ytbnocdngcmimaaa
/- THE CELL 'sum', in the pinned program and in every row, IS THE sha256 OF THE DUMP (.gsa) THAT YtbnocdngcmimaaaProg.lean LOADS. Nothing in Lean hashes anything: it is a label: what it is worth is what the hold of that sum in a sandbox is worth. -/
noncomputable def Try.pinned : Pinned := { name := "ytbnocdngcmimaaa", sum := "e1bd67e6820624685d39a988f4ef5e72948c13bf4029ea39ad32334d605816ba", checked := Try.checked }
namespace Rows
def none {H : Type} : Left H := { results := [], args := [] }

/-- 'laws.FnExactDiffFrames': WHATEVER THE INPUT: true; the input reads as it did. -/
def fnExactDiffFramesSpec : ChangeSpec := { name := "fnExactDiffFrames", fn := fun _ => fun
  | [d1, d2] => { results := [.lit (.bool true)], args := [d1, d2] }
  | _ => none }
def fnExactDiffFramesRow : OpenClaim := { program := "ytbnocdngcmimaaa", sum := "e1bd67e6820624685d39a988f4ef5e72948c13bf4029ea39ad32334d605816ba", func := "loop.example/fpgatoolchain/laws.FnExactDiffFrames", spec := "fnExactDiffFrames", plainKeys := false, apart := false }
def FnExactDiffFramesSaid : Prop := fnExactDiffFramesRow.holds Try.pinned (OpenSpec.ofChange fnExactDiffFramesSpec)

/-- ITS FALSE NEIGHBOUR: 'it returns false'. Refute it at one input. -/
def fnExactDiffFramesWrong : ChangeSpec := { name := "fnExactDiffFrames", fn := fun _ => fun
  | [d1, d2] => { results := [.lit (.bool false)], args := [d1, d2] }
  | _ => none }
def FnExactDiffFramesWrongFalsely : Prop := fnExactDiffFramesRow.holds Try.pinned (OpenSpec.ofChange fnExactDiffFramesWrong)

/-- 'laws.FnExactBreak': WHATEVER THE INPUT: true; the input reads as it did. -/
def fnExactBreakSpec : ChangeSpec := { name := "fnExactBreak", fn := fun _ => fun
  | [d1, d2] => { results := [.lit (.bool true)], args := [d1, d2] }
  | _ => none }
def fnExactBreakRow : OpenClaim := { program := "ytbnocdngcmimaaa", sum := "e1bd67e6820624685d39a988f4ef5e72948c13bf4029ea39ad32334d605816ba", func := "loop.example/fpgatoolchain/laws.FnExactBreak", spec := "fnExactBreak", plainKeys := false, apart := false }
def FnExactBreakSaid : Prop := fnExactBreakRow.holds Try.pinned (OpenSpec.ofChange fnExactBreakSpec)

/-- ITS FALSE NEIGHBOUR: 'it returns false'. Refute it at one input. -/
def fnExactBreakWrong : ChangeSpec := { name := "fnExactBreak", fn := fun _ => fun
  | [d1, d2] => { results := [.lit (.bool false)], args := [d1, d2] }
  | _ => none }
def FnExactBreakWrongFalsely : Prop := fnExactBreakRow.holds Try.pinned (OpenSpec.ofChange fnExactBreakWrong)

/-- 'laws.FnExactApplyFrames': WHATEVER THE INPUT: true; the input reads as it did. -/
def fnExactApplyFramesSpec : ChangeSpec := { name := "fnExactApplyFrames", fn := fun _ => fun
  | [d1, d2, d3] => { results := [.lit (.bool true)], args := [d1, d2, d3] }
  | _ => none }
def fnExactApplyFramesRow : OpenClaim := { program := "ytbnocdngcmimaaa", sum := "e1bd67e6820624685d39a988f4ef5e72948c13bf4029ea39ad32334d605816ba", func := "loop.example/fpgatoolchain/laws.FnExactApplyFrames", spec := "fnExactApplyFrames", plainKeys := false, apart := false }
def FnExactApplyFramesSaid : Prop := fnExactApplyFramesRow.holds Try.pinned (OpenSpec.ofChange fnExactApplyFramesSpec)

/-- ITS FALSE NEIGHBOUR: 'it returns false'. Refute it at one input. -/
def fnExactApplyFramesWrong : ChangeSpec := { name := "fnExactApplyFrames", fn := fun _ => fun
  | [d1, d2, d3] => { results := [.lit (.bool false)], args := [d1, d2, d3] }
  | _ => none }
def FnExactApplyFramesWrongFalsely : Prop := fnExactApplyFramesRow.holds Try.pinned (OpenSpec.ofChange fnExactApplyFramesWrong)

/-- 'laws.FnExactSwitchConfig': WHATEVER THE INPUT: true; the input reads as it did. -/
def fnExactSwitchConfigSpec : ChangeSpec := { name := "fnExactSwitchConfig", fn := fun _ => fun
  | [d1, d2] => { results := [.lit (.bool true)], args := [d1, d2] }
  | _ => none }
def fnExactSwitchConfigRow : OpenClaim := { program := "ytbnocdngcmimaaa", sum := "e1bd67e6820624685d39a988f4ef5e72948c13bf4029ea39ad32334d605816ba", func := "loop.example/fpgatoolchain/laws.FnExactSwitchConfig", spec := "fnExactSwitchConfig", plainKeys := false, apart := false }
def FnExactSwitchConfigSaid : Prop := fnExactSwitchConfigRow.holds Try.pinned (OpenSpec.ofChange fnExactSwitchConfigSpec)

/-- ITS FALSE NEIGHBOUR: 'it returns false'. Refute it at one input. -/
def fnExactSwitchConfigWrong : ChangeSpec := { name := "fnExactSwitchConfig", fn := fun _ => fun
  | [d1, d2] => { results := [.lit (.bool false)], args := [d1, d2] }
  | _ => none }
def FnExactSwitchConfigWrongFalsely : Prop := fnExactSwitchConfigRow.holds Try.pinned (OpenSpec.ofChange fnExactSwitchConfigWrong)

/-- 'laws.FnFrameValid': WHATEVER THE INPUT: true; the input reads as it did. -/
def fnFrameValidSpec : ChangeSpec := { name := "fnFrameValid", fn := fun _ => fun
  | [d1, d2] => { results := [.lit (.bool true)], args := [d1, d2] }
  | _ => none }
def fnFrameValidRow : OpenClaim := { program := "ytbnocdngcmimaaa", sum := "e1bd67e6820624685d39a988f4ef5e72948c13bf4029ea39ad32334d605816ba", func := "loop.example/fpgatoolchain/laws.FnFrameValid", spec := "fnFrameValid", recurses := true, plainKeys := false, apart := false }
def FnFrameValidSaid : Prop := fnFrameValidRow.holds Try.pinned (OpenSpec.ofChange fnFrameValidSpec)

/-- ITS FALSE NEIGHBOUR: 'it returns false'. Refute it at one input. -/
def fnFrameValidWrong : ChangeSpec := { name := "fnFrameValid", fn := fun _ => fun
  | [d1, d2] => { results := [.lit (.bool false)], args := [d1, d2] }
  | _ => none }
def FnFrameValidWrongFalsely : Prop := fnFrameValidRow.holds Try.pinned (OpenSpec.ofChange fnFrameValidWrong)

/-- 'laws.FnFramesEmpty': WHATEVER THE INPUT: true; the input reads as it did. -/
def fnFramesEmptySpec : ChangeSpec := { name := "fnFramesEmpty", fn := fun _ => fun
  | [d] => { results := [.lit (.bool true)], args := [d] }
  | _ => none }
def fnFramesEmptyRow : OpenClaim := { program := "ytbnocdngcmimaaa", sum := "e1bd67e6820624685d39a988f4ef5e72948c13bf4029ea39ad32334d605816ba", func := "loop.example/fpgatoolchain/laws.FnFramesEmpty", spec := "fnFramesEmpty", recurses := true, plainKeys := false, apart := false }
def FnFramesEmptySaid : Prop := fnFramesEmptyRow.holds Try.pinned (OpenSpec.ofChange fnFramesEmptySpec)

/-- ITS FALSE NEIGHBOUR: 'it returns false'. Refute it at one input. -/
def fnFramesEmptyWrong : ChangeSpec := { name := "fnFramesEmpty", fn := fun _ => fun
  | [d] => { results := [.lit (.bool false)], args := [d] }
  | _ => none }
def FnFramesEmptyWrongFalsely : Prop := fnFramesEmptyRow.holds Try.pinned (OpenSpec.ofChange fnFramesEmptyWrong)

/-- 'laws.FnDefectUnused': WHATEVER THE INPUT: true; the input reads as it did. -/
def fnDefectUnusedSpec : ChangeSpec := { name := "fnDefectUnused", fn := fun _ => fun
  | [d1, d2] => { results := [.lit (.bool true)], args := [d1, d2] }
  | _ => none }
def fnDefectUnusedRow : OpenClaim := { program := "ytbnocdngcmimaaa", sum := "e1bd67e6820624685d39a988f4ef5e72948c13bf4029ea39ad32334d605816ba", func := "loop.example/fpgatoolchain/laws.FnDefectUnused", spec := "fnDefectUnused", recurses := true, plainKeys := false, apart := false }
def FnDefectUnusedSaid : Prop := fnDefectUnusedRow.holds Try.pinned (OpenSpec.ofChange fnDefectUnusedSpec)

/-- ITS FALSE NEIGHBOUR: 'it returns false'. Refute it at one input. -/
def fnDefectUnusedWrong : ChangeSpec := { name := "fnDefectUnused", fn := fun _ => fun
  | [d1, d2] => { results := [.lit (.bool false)], args := [d1, d2] }
  | _ => none }
def FnDefectUnusedWrongFalsely : Prop := fnDefectUnusedRow.holds Try.pinned (OpenSpec.ofChange fnDefectUnusedWrong)

/-- 'laws.FnApplyFrames': WHATEVER THE INPUT: true; the input reads as it did. -/
def fnApplyFramesSpec : ChangeSpec := { name := "fnApplyFrames", fn := fun _ => fun
  | [d] => { results := [.lit (.bool true)], args := [d] }
  | _ => none }
def fnApplyFramesRow : OpenClaim := { program := "ytbnocdngcmimaaa", sum := "e1bd67e6820624685d39a988f4ef5e72948c13bf4029ea39ad32334d605816ba", func := "loop.example/fpgatoolchain/laws.FnApplyFrames", spec := "fnApplyFrames", recurses := true, plainKeys := false, apart := false }
def FnApplyFramesSaid : Prop := fnApplyFramesRow.holds Try.pinned (OpenSpec.ofChange fnApplyFramesSpec)

/-- ITS FALSE NEIGHBOUR: 'it returns false'. Refute it at one input. -/
def fnApplyFramesWrong : ChangeSpec := { name := "fnApplyFrames", fn := fun _ => fun
  | [d] => { results := [.lit (.bool false)], args := [d] }
  | _ => none }
def FnApplyFramesWrongFalsely : Prop := fnApplyFramesRow.holds Try.pinned (OpenSpec.ofChange fnApplyFramesWrong)

/-- 'laws.FnDiffFrames': WHATEVER THE INPUT: true; the input reads as it did. -/
def fnDiffFramesSpec : ChangeSpec := { name := "fnDiffFrames", fn := fun _ => fun
  | [d] => { results := [.lit (.bool true)], args := [d] }
  | _ => none }
def fnDiffFramesRow : OpenClaim := { program := "ytbnocdngcmimaaa", sum := "e1bd67e6820624685d39a988f4ef5e72948c13bf4029ea39ad32334d605816ba", func := "loop.example/fpgatoolchain/laws.FnDiffFrames", spec := "fnDiffFrames", recurses := true, plainKeys := false, apart := false }
def FnDiffFramesSaid : Prop := fnDiffFramesRow.holds Try.pinned (OpenSpec.ofChange fnDiffFramesSpec)

/-- ITS FALSE NEIGHBOUR: 'it returns false'. Refute it at one input. -/
def fnDiffFramesWrong : ChangeSpec := { name := "fnDiffFrames", fn := fun _ => fun
  | [d] => { results := [.lit (.bool false)], args := [d] }
  | _ => none }
def FnDiffFramesWrongFalsely : Prop := fnDiffFramesRow.holds Try.pinned (OpenSpec.ofChange fnDiffFramesWrong)

/-- 'laws.FnBreak': WHATEVER THE INPUT: true; the input reads as it did. -/
def fnBreakSpec : ChangeSpec := { name := "fnBreak", fn := fun _ => fun
  | [d] => { results := [.lit (.bool true)], args := [d] }
  | _ => none }
def fnBreakRow : OpenClaim := { program := "ytbnocdngcmimaaa", sum := "e1bd67e6820624685d39a988f4ef5e72948c13bf4029ea39ad32334d605816ba", func := "loop.example/fpgatoolchain/laws.FnBreak", spec := "fnBreak", recurses := true, plainKeys := false, apart := false }
def FnBreakSaid : Prop := fnBreakRow.holds Try.pinned (OpenSpec.ofChange fnBreakSpec)

/-- ITS FALSE NEIGHBOUR: 'it returns false'. Refute it at one input. -/
def fnBreakWrong : ChangeSpec := { name := "fnBreak", fn := fun _ => fun
  | [d] => { results := [.lit (.bool false)], args := [d] }
  | _ => none }
def FnBreakWrongFalsely : Prop := fnBreakRow.holds Try.pinned (OpenSpec.ofChange fnBreakWrong)

/-- 'laws.FnSwitchConfig': WHATEVER THE INPUT: true; the input reads as it did. -/
def fnSwitchConfigSpec : ChangeSpec := { name := "fnSwitchConfig", fn := fun _ => fun
  | [d] => { results := [.lit (.bool true)], args := [d] }
  | _ => none }
def fnSwitchConfigRow : OpenClaim := { program := "ytbnocdngcmimaaa", sum := "e1bd67e6820624685d39a988f4ef5e72948c13bf4029ea39ad32334d605816ba", func := "loop.example/fpgatoolchain/laws.FnSwitchConfig", spec := "fnSwitchConfig", recurses := true, plainKeys := false, apart := false }
def FnSwitchConfigSaid : Prop := fnSwitchConfigRow.holds Try.pinned (OpenSpec.ofChange fnSwitchConfigSpec)

/-- ITS FALSE NEIGHBOUR: 'it returns false'. Refute it at one input. -/
def fnSwitchConfigWrong : ChangeSpec := { name := "fnSwitchConfig", fn := fun _ => fun
  | [d] => { results := [.lit (.bool false)], args := [d] }
  | _ => none }
def FnSwitchConfigWrongFalsely : Prop := fnSwitchConfigRow.holds Try.pinned (OpenSpec.ofChange fnSwitchConfigWrong)

/-- 'laws.FnSwitchSafe': WHATEVER THE INPUT: true; the input reads as it did. -/
def fnSwitchSafeSpec : ChangeSpec := { name := "fnSwitchSafe", fn := fun _ => fun
  | [d] => { results := [.lit (.bool true)], args := [d] }
  | _ => none }
def fnSwitchSafeRow : OpenClaim := { program := "ytbnocdngcmimaaa", sum := "e1bd67e6820624685d39a988f4ef5e72948c13bf4029ea39ad32334d605816ba", func := "loop.example/fpgatoolchain/laws.FnSwitchSafe", spec := "fnSwitchSafe", recurses := true, plainKeys := false, apart := false }
def FnSwitchSafeSaid : Prop := fnSwitchSafeRow.holds Try.pinned (OpenSpec.ofChange fnSwitchSafeSpec)

/-- ITS FALSE NEIGHBOUR: 'it returns false'. Refute it at one input. -/
def fnSwitchSafeWrong : ChangeSpec := { name := "fnSwitchSafe", fn := fun _ => fun
  | [d] => { results := [.lit (.bool false)], args := [d] }
  | _ => none }
def FnSwitchSafeWrongFalsely : Prop := fnSwitchSafeRow.holds Try.pinned (OpenSpec.ofChange fnSwitchSafeWrong)

/- THE SECOND FORM. 'bulk': how many values and letters a reading holds, each counted each time it is reached (what is shared counts as often as it is met; a slice's spare places count too). A statement '..UptoSaid' is the law's where the arguments, and the package variables that the reading takes, are together of bulk at most 1048576: NARROWER than '..Said'. Prove '..Said' where nothing that the law and all that it calls make is longer than what came in: it says more and counts as full. Else prove '..UptoSaid'. A law counts once. -/
mutual
def uptoBulk {H : Type} : DataW H → Nat
  | .lit (.string bytes) => bytes.length + 1
  | .lit _ => 1
  | .nil => 1
  | .ptr d => uptoBulk d + 1
  | .slice elems spare => uptoBulkAll elems + uptoBulkAll spare + 1
  | .agg parts => uptoBulkAll parts + 1
  | .iface _ d => uptoBulk d + 1
  | .map entries => uptoBulkEntries entries + 1
  | .held _ => 1
def uptoBulkAll {H : Type} : List (DataW H) → Nat
  | [] => 0
  | d :: r => uptoBulk d + uptoBulkAll r
def uptoBulkEntries {H : Type} : List (Lit × DataW H) → Nat
  | [] => 0
  | x :: r => uptoBulkEntry x + uptoBulkEntries r
def uptoBulkEntry {H : Type} : Lit × DataW H → Nat
  | (.string bytes, d) => bytes.length + uptoBulk d + 1
  | (_, d) => uptoBulk d + 1
 end
def uptoSmall : (H : Type) → List (DataW H) → Bool := fun _ ds => decide (uptoBulkAll ds ≤ 1048576)
def OpenSpec.upto (s : _root_.Go.ChangeSpec) : _root_.Go.OpenSpec := { _root_.Go.OpenSpec.ofChange s with cond := some uptoSmall }

/-- 'laws.FnExactDiffFrames', WHERE WHAT IT READS IS OF BULK AT MOST 1048576: true; the input reads as it did. -/
def fnExactDiffFramesUptoRow : OpenClaim := { program := "ytbnocdngcmimaaa", sum := "e1bd67e6820624685d39a988f4ef5e72948c13bf4029ea39ad32334d605816ba", func := "loop.example/fpgatoolchain/laws.FnExactDiffFrames", spec := "fnExactDiffFrames", plainKeys := false, apart := false, narrowed := true }
def FnExactDiffFramesUptoSaid : Prop := fnExactDiffFramesUptoRow.holds Try.pinned (OpenSpec.upto fnExactDiffFramesSpec)

/-- 'laws.FnExactBreak', WHERE WHAT IT READS IS OF BULK AT MOST 1048576: true; the input reads as it did. -/
def fnExactBreakUptoRow : OpenClaim := { program := "ytbnocdngcmimaaa", sum := "e1bd67e6820624685d39a988f4ef5e72948c13bf4029ea39ad32334d605816ba", func := "loop.example/fpgatoolchain/laws.FnExactBreak", spec := "fnExactBreak", plainKeys := false, apart := false, narrowed := true }
def FnExactBreakUptoSaid : Prop := fnExactBreakUptoRow.holds Try.pinned (OpenSpec.upto fnExactBreakSpec)

/-- 'laws.FnExactApplyFrames', WHERE WHAT IT READS IS OF BULK AT MOST 1048576: true; the input reads as it did. -/
def fnExactApplyFramesUptoRow : OpenClaim := { program := "ytbnocdngcmimaaa", sum := "e1bd67e6820624685d39a988f4ef5e72948c13bf4029ea39ad32334d605816ba", func := "loop.example/fpgatoolchain/laws.FnExactApplyFrames", spec := "fnExactApplyFrames", plainKeys := false, apart := false, narrowed := true }
def FnExactApplyFramesUptoSaid : Prop := fnExactApplyFramesUptoRow.holds Try.pinned (OpenSpec.upto fnExactApplyFramesSpec)

/-- 'laws.FnExactSwitchConfig', WHERE WHAT IT READS IS OF BULK AT MOST 1048576: true; the input reads as it did. -/
def fnExactSwitchConfigUptoRow : OpenClaim := { program := "ytbnocdngcmimaaa", sum := "e1bd67e6820624685d39a988f4ef5e72948c13bf4029ea39ad32334d605816ba", func := "loop.example/fpgatoolchain/laws.FnExactSwitchConfig", spec := "fnExactSwitchConfig", plainKeys := false, apart := false, narrowed := true }
def FnExactSwitchConfigUptoSaid : Prop := fnExactSwitchConfigUptoRow.holds Try.pinned (OpenSpec.upto fnExactSwitchConfigSpec)

/-- 'laws.FnFrameValid', WHERE WHAT IT READS IS OF BULK AT MOST 1048576: true; the input reads as it did. -/
def fnFrameValidUptoRow : OpenClaim := { program := "ytbnocdngcmimaaa", sum := "e1bd67e6820624685d39a988f4ef5e72948c13bf4029ea39ad32334d605816ba", func := "loop.example/fpgatoolchain/laws.FnFrameValid", spec := "fnFrameValid", recurses := true, plainKeys := false, apart := false, narrowed := true }
def FnFrameValidUptoSaid : Prop := fnFrameValidUptoRow.holds Try.pinned (OpenSpec.upto fnFrameValidSpec)

/-- 'laws.FnFramesEmpty', WHERE WHAT IT READS IS OF BULK AT MOST 1048576: true; the input reads as it did. -/
def fnFramesEmptyUptoRow : OpenClaim := { program := "ytbnocdngcmimaaa", sum := "e1bd67e6820624685d39a988f4ef5e72948c13bf4029ea39ad32334d605816ba", func := "loop.example/fpgatoolchain/laws.FnFramesEmpty", spec := "fnFramesEmpty", recurses := true, plainKeys := false, apart := false, narrowed := true }
def FnFramesEmptyUptoSaid : Prop := fnFramesEmptyUptoRow.holds Try.pinned (OpenSpec.upto fnFramesEmptySpec)

/-- 'laws.FnDefectUnused', WHERE WHAT IT READS IS OF BULK AT MOST 1048576: true; the input reads as it did. -/
def fnDefectUnusedUptoRow : OpenClaim := { program := "ytbnocdngcmimaaa", sum := "e1bd67e6820624685d39a988f4ef5e72948c13bf4029ea39ad32334d605816ba", func := "loop.example/fpgatoolchain/laws.FnDefectUnused", spec := "fnDefectUnused", recurses := true, plainKeys := false, apart := false, narrowed := true }
def FnDefectUnusedUptoSaid : Prop := fnDefectUnusedUptoRow.holds Try.pinned (OpenSpec.upto fnDefectUnusedSpec)

/-- 'laws.FnApplyFrames', WHERE WHAT IT READS IS OF BULK AT MOST 1048576: true; the input reads as it did. -/
def fnApplyFramesUptoRow : OpenClaim := { program := "ytbnocdngcmimaaa", sum := "e1bd67e6820624685d39a988f4ef5e72948c13bf4029ea39ad32334d605816ba", func := "loop.example/fpgatoolchain/laws.FnApplyFrames", spec := "fnApplyFrames", recurses := true, plainKeys := false, apart := false, narrowed := true }
def FnApplyFramesUptoSaid : Prop := fnApplyFramesUptoRow.holds Try.pinned (OpenSpec.upto fnApplyFramesSpec)

/-- 'laws.FnDiffFrames', WHERE WHAT IT READS IS OF BULK AT MOST 1048576: true; the input reads as it did. -/
def fnDiffFramesUptoRow : OpenClaim := { program := "ytbnocdngcmimaaa", sum := "e1bd67e6820624685d39a988f4ef5e72948c13bf4029ea39ad32334d605816ba", func := "loop.example/fpgatoolchain/laws.FnDiffFrames", spec := "fnDiffFrames", recurses := true, plainKeys := false, apart := false, narrowed := true }
def FnDiffFramesUptoSaid : Prop := fnDiffFramesUptoRow.holds Try.pinned (OpenSpec.upto fnDiffFramesSpec)

/-- 'laws.FnBreak', WHERE WHAT IT READS IS OF BULK AT MOST 1048576: true; the input reads as it did. -/
def fnBreakUptoRow : OpenClaim := { program := "ytbnocdngcmimaaa", sum := "e1bd67e6820624685d39a988f4ef5e72948c13bf4029ea39ad32334d605816ba", func := "loop.example/fpgatoolchain/laws.FnBreak", spec := "fnBreak", recurses := true, plainKeys := false, apart := false, narrowed := true }
def FnBreakUptoSaid : Prop := fnBreakUptoRow.holds Try.pinned (OpenSpec.upto fnBreakSpec)

/-- 'laws.FnSwitchConfig', WHERE WHAT IT READS IS OF BULK AT MOST 1048576: true; the input reads as it did. -/
def fnSwitchConfigUptoRow : OpenClaim := { program := "ytbnocdngcmimaaa", sum := "e1bd67e6820624685d39a988f4ef5e72948c13bf4029ea39ad32334d605816ba", func := "loop.example/fpgatoolchain/laws.FnSwitchConfig", spec := "fnSwitchConfig", recurses := true, plainKeys := false, apart := false, narrowed := true }
def FnSwitchConfigUptoSaid : Prop := fnSwitchConfigUptoRow.holds Try.pinned (OpenSpec.upto fnSwitchConfigSpec)

/-- 'laws.FnSwitchSafe', WHERE WHAT IT READS IS OF BULK AT MOST 1048576: true; the input reads as it did. -/
def fnSwitchSafeUptoRow : OpenClaim := { program := "ytbnocdngcmimaaa", sum := "e1bd67e6820624685d39a988f4ef5e72948c13bf4029ea39ad32334d605816ba", func := "loop.example/fpgatoolchain/laws.FnSwitchSafe", spec := "fnSwitchSafe", recurses := true, plainKeys := false, apart := false, narrowed := true }
def FnSwitchSafeUptoSaid : Prop := fnSwitchSafeUptoRow.holds Try.pinned (OpenSpec.upto fnSwitchSafeSpec)

end Rows
end Go.Proofs.Ytbnocdngcmimaaa
