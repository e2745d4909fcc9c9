/-
  No cell of these rows narrows 'for every input' (looked for: loops, veiled, ifaces, maps, wideKeys, modest, calm, conditions, laid).
  DERIVED. THE GIVEN ROWS OF THIS SEAT. 12 by the template 'for every input the law returns true; each argument reads behind the call as it read before'; 0 by the template 'total and deterministic' (their statements: YtfinoodiofghkaaTotals.lean).
  GIVEN WITH THE SEED: the statements are not yours to turn. If you find one false, say at which input.
  Laid BY PROGRAM, IN A SANDBOX (cutbox-rows.mjs): the forced cells as the released guide's own fill.sh prints them over the translation 4f6cc34995a32bfd… (all of the seat's roots in one cut). By AI agents, Wed Nov 11 2026. No macro, syntax, notation, axiom, sorry.
-/
import Derived.Test.YtfinoodiofghkaaChecked
import GoSem.Claim
import GoSem.ClaimJoined
import GoSem.ClaimMapViews
import Derived.JoinedTies
import Derived.KernelRfl
namespace Go.Proofs.Ytfinoodiofghkaa
/- THE CELL 'sum', in the pinned program and in every row, IS THE sha256 OF THE DUMP (.gsa) THAT YtfinoodiofghkaaProg.lean LOADS. Nothing in Lean hashes anything: it is a label: what it is worth is what the hold of that sum in a sandbox is worth. -/
noncomputable def Try.pinned : Pinned := { name := "ytfinoodiofghkaa", sum := "4f6cc34995a32bfdf166dcaee64f28324590bb1fee8c5a80edd4416a94aff6e4", checked := Try.checked }
namespace Rows
def none {H : Type} : Left H := { results := [], args := [] }

/-- 'laws.FnToggles': WHATEVER THE INPUT: true; the input reads as it did. -/
def fnTogglesSpec : ChangeSpec := { name := "fnToggles", fn := fun _ => fun
  | [d] => { results := [.lit (.bool true)], args := [d] }
  | _ => none }
def fnTogglesRow : OpenClaim := { program := "ytfinoodiofghkaa", sum := "4f6cc34995a32bfdf166dcaee64f28324590bb1fee8c5a80edd4416a94aff6e4", func := "loop.example/fpgatoolchain/laws.FnToggles", spec := "fnToggles", plainKeys := false, apart := false }
def FnTogglesSaid : Prop := fnTogglesRow.holds Try.pinned (OpenSpec.ofChange fnTogglesSpec)

/-- ITS FALSE NEIGHBOUR: 'it returns false'. Refute it at one input. -/
def fnTogglesWrong : ChangeSpec := { name := "fnToggles", fn := fun _ => fun
  | [d] => { results := [.lit (.bool false)], args := [d] }
  | _ => none }
def FnTogglesWrongFalsely : Prop := fnTogglesRow.holds Try.pinned (OpenSpec.ofChange fnTogglesWrong)

/-- 'laws.FnActivity': WHATEVER THE INPUT: true; the input reads as it did. -/
def fnActivitySpec : ChangeSpec := { name := "fnActivity", fn := fun _ => fun
  | [d] => { results := [.lit (.bool true)], args := [d] }
  | _ => none }
def fnActivityRow : OpenClaim := { program := "ytfinoodiofghkaa", sum := "4f6cc34995a32bfdf166dcaee64f28324590bb1fee8c5a80edd4416a94aff6e4", func := "loop.example/fpgatoolchain/laws.FnActivity", spec := "fnActivity", plainKeys := false, apart := false }
def FnActivitySaid : Prop := fnActivityRow.holds Try.pinned (OpenSpec.ofChange fnActivitySpec)

/-- ITS FALSE NEIGHBOUR: 'it returns false'. Refute it at one input. -/
def fnActivityWrong : ChangeSpec := { name := "fnActivity", fn := fun _ => fun
  | [d] => { results := [.lit (.bool false)], args := [d] }
  | _ => none }
def FnActivityWrongFalsely : Prop := fnActivityRow.holds Try.pinned (OpenSpec.ofChange fnActivityWrong)

/-- 'laws.FnExactToggles': WHATEVER THE INPUT: true; the input reads as it did. -/
def fnExactTogglesSpec : ChangeSpec := { name := "fnExactToggles", fn := fun _ => fun
  | [d1, d2] => { results := [.lit (.bool true)], args := [d1, d2] }
  | _ => none }
def fnExactTogglesRow : OpenClaim := { program := "ytfinoodiofghkaa", sum := "4f6cc34995a32bfdf166dcaee64f28324590bb1fee8c5a80edd4416a94aff6e4", func := "loop.example/fpgatoolchain/laws.FnExactToggles", spec := "fnExactToggles", plainKeys := false, apart := false }
def FnExactTogglesSaid : Prop := fnExactTogglesRow.holds Try.pinned (OpenSpec.ofChange fnExactTogglesSpec)

/-- ITS FALSE NEIGHBOUR: 'it returns false'. Refute it at one input. -/
def fnExactTogglesWrong : ChangeSpec := { name := "fnExactToggles", fn := fun _ => fun
  | [d1, d2] => { results := [.lit (.bool false)], args := [d1, d2] }
  | _ => none }
def FnExactTogglesWrongFalsely : Prop := fnExactTogglesRow.holds Try.pinned (OpenSpec.ofChange fnExactTogglesWrong)

/-- 'laws.FnExactActivity': WHATEVER THE INPUT: true; the input reads as it did. -/
def fnExactActivitySpec : ChangeSpec := { name := "fnExactActivity", fn := fun _ => fun
  | [d1, d2] => { results := [.lit (.bool true)], args := [d1, d2] }
  | _ => none }
def fnExactActivityRow : OpenClaim := { program := "ytfinoodiofghkaa", sum := "4f6cc34995a32bfdf166dcaee64f28324590bb1fee8c5a80edd4416a94aff6e4", func := "loop.example/fpgatoolchain/laws.FnExactActivity", spec := "fnExactActivity", plainKeys := false, apart := false }
def FnExactActivitySaid : Prop := fnExactActivityRow.holds Try.pinned (OpenSpec.ofChange fnExactActivitySpec)

/-- ITS FALSE NEIGHBOUR: 'it returns false'. Refute it at one input. -/
def fnExactActivityWrong : ChangeSpec := { name := "fnExactActivity", fn := fun _ => fun
  | [d1, d2] => { results := [.lit (.bool false)], args := [d1, d2] }
  | _ => none }
def FnExactActivityWrongFalsely : Prop := fnExactActivityRow.holds Try.pinned (OpenSpec.ofChange fnExactActivityWrong)

/-- 'laws.FnTernaryKnown': WHATEVER THE INPUT: true; the input reads as it did. -/
def fnTernaryKnownSpec : ChangeSpec := { name := "fnTernaryKnown", fn := fun _ => fun
  | [d] => { results := [.lit (.bool true)], args := [d] }
  | _ => none }
def fnTernaryKnownRow : OpenClaim := { program := "ytfinoodiofghkaa", sum := "4f6cc34995a32bfdf166dcaee64f28324590bb1fee8c5a80edd4416a94aff6e4", func := "loop.example/fpgatoolchain/laws.FnTernaryKnown", spec := "fnTernaryKnown", plainKeys := false, apart := false }
def FnTernaryKnownSaid : Prop := fnTernaryKnownRow.holds Try.pinned (OpenSpec.ofChange fnTernaryKnownSpec)

/-- ITS FALSE NEIGHBOUR: 'it returns false'. Refute it at one input. -/
def fnTernaryKnownWrong : ChangeSpec := { name := "fnTernaryKnown", fn := fun _ => fun
  | [d] => { results := [.lit (.bool false)], args := [d] }
  | _ => none }
def FnTernaryKnownWrongFalsely : Prop := fnTernaryKnownRow.holds Try.pinned (OpenSpec.ofChange fnTernaryKnownWrong)

/-- 'laws.FnTernaryStep': WHATEVER THE INPUT: true; the input reads as it did. -/
def fnTernaryStepSpec : ChangeSpec := { name := "fnTernaryStep", fn := fun _ => fun
  | [d] => { results := [.lit (.bool true)], args := [d] }
  | _ => none }
def fnTernaryStepRow : OpenClaim := { program := "ytfinoodiofghkaa", sum := "4f6cc34995a32bfdf166dcaee64f28324590bb1fee8c5a80edd4416a94aff6e4", func := "loop.example/fpgatoolchain/laws.FnTernaryStep", spec := "fnTernaryStep", plainKeys := false, apart := false }
def FnTernaryStepSaid : Prop := fnTernaryStepRow.holds Try.pinned (OpenSpec.ofChange fnTernaryStepSpec)

/-- ITS FALSE NEIGHBOUR: 'it returns false'. Refute it at one input. -/
def fnTernaryStepWrong : ChangeSpec := { name := "fnTernaryStep", fn := fun _ => fun
  | [d] => { results := [.lit (.bool false)], args := [d] }
  | _ => none }
def FnTernaryStepWrongFalsely : Prop := fnTernaryStepRow.holds Try.pinned (OpenSpec.ofChange fnTernaryStepWrong)

/-- 'laws.FnExactFrameValid': WHATEVER THE INPUT: true; the input reads as it did. -/
def fnExactFrameValidSpec : ChangeSpec := { name := "fnExactFrameValid", fn := fun _ => fun
  | [d] => { results := [.lit (.bool true)], args := [d] }
  | _ => none }
def fnExactFrameValidRow : OpenClaim := { program := "ytfinoodiofghkaa", sum := "4f6cc34995a32bfdf166dcaee64f28324590bb1fee8c5a80edd4416a94aff6e4", func := "loop.example/fpgatoolchain/laws.FnExactFrameValid", spec := "fnExactFrameValid", plainKeys := false, apart := false }
def FnExactFrameValidSaid : Prop := fnExactFrameValidRow.holds Try.pinned (OpenSpec.ofChange fnExactFrameValidSpec)

/-- ITS FALSE NEIGHBOUR: 'it returns false'. Refute it at one input. -/
def fnExactFrameValidWrong : ChangeSpec := { name := "fnExactFrameValid", fn := fun _ => fun
  | [d] => { results := [.lit (.bool false)], args := [d] }
  | _ => none }
def FnExactFrameValidWrongFalsely : Prop := fnExactFrameValidRow.holds Try.pinned (OpenSpec.ofChange fnExactFrameValidWrong)

/-- 'laws.FnShiftRegister': WHATEVER THE INPUT: true; the input reads as it did. -/
def fnShiftRegisterSpec : ChangeSpec := { name := "fnShiftRegister", fn := fun _ => fun
  | [d] => { results := [.lit (.bool true)], args := [d] }
  | _ => none }
def fnShiftRegisterRow : OpenClaim := { program := "ytfinoodiofghkaa", sum := "4f6cc34995a32bfdf166dcaee64f28324590bb1fee8c5a80edd4416a94aff6e4", func := "loop.example/fpgatoolchain/laws.FnShiftRegister", spec := "fnShiftRegister", plainKeys := false, apart := false }
def FnShiftRegisterSaid : Prop := fnShiftRegisterRow.holds Try.pinned (OpenSpec.ofChange fnShiftRegisterSpec)

/-- ITS FALSE NEIGHBOUR: 'it returns false'. Refute it at one input. -/
def fnShiftRegisterWrong : ChangeSpec := { name := "fnShiftRegister", fn := fun _ => fun
  | [d] => { results := [.lit (.bool false)], args := [d] }
  | _ => none }
def FnShiftRegisterWrongFalsely : Prop := fnShiftRegisterRow.holds Try.pinned (OpenSpec.ofChange fnShiftRegisterWrong)

/-- 'laws.FnScanRows': WHATEVER THE INPUT: true; the input reads as it did. -/
def fnScanRowsSpec : ChangeSpec := { name := "fnScanRows", fn := fun _ => fun
  | [d1, d2] => { results := [.lit (.bool true)], args := [d1, d2] }
  | _ => none }
def fnScanRowsRow : OpenClaim := { program := "ytfinoodiofghkaa", sum := "4f6cc34995a32bfdf166dcaee64f28324590bb1fee8c5a80edd4416a94aff6e4", func := "loop.example/fpgatoolchain/laws.FnScanRows", spec := "fnScanRows", unfollowed := true, recurses := true, plainKeys := false, apart := false }
def FnScanRowsSaid : Prop := fnScanRowsRow.holds Try.pinned (OpenSpec.ofChange fnScanRowsSpec)

/-- ITS FALSE NEIGHBOUR: 'it returns false'. Refute it at one input. -/
def fnScanRowsWrong : ChangeSpec := { name := "fnScanRows", fn := fun _ => fun
  | [d1, d2] => { results := [.lit (.bool false)], args := [d1, d2] }
  | _ => none }
def FnScanRowsWrongFalsely : Prop := fnScanRowsRow.holds Try.pinned (OpenSpec.ofChange fnScanRowsWrong)

/-- 'laws.FnAdder': WHATEVER THE INPUT: true; the input reads as it did. -/
def fnAdderSpec : ChangeSpec := { name := "fnAdder", fn := fun _ => fun
  | [d] => { results := [.lit (.bool true)], args := [d] }
  | _ => none }
def fnAdderRow : OpenClaim := { program := "ytfinoodiofghkaa", sum := "4f6cc34995a32bfdf166dcaee64f28324590bb1fee8c5a80edd4416a94aff6e4", func := "loop.example/fpgatoolchain/laws.FnAdder", spec := "fnAdder", plainKeys := false, apart := false }
def FnAdderSaid : Prop := fnAdderRow.holds Try.pinned (OpenSpec.ofChange fnAdderSpec)

/-- ITS FALSE NEIGHBOUR: 'it returns false'. Refute it at one input. -/
def fnAdderWrong : ChangeSpec := { name := "fnAdder", fn := fun _ => fun
  | [d] => { results := [.lit (.bool false)], args := [d] }
  | _ => none }
def FnAdderWrongFalsely : Prop := fnAdderRow.holds Try.pinned (OpenSpec.ofChange fnAdderWrong)

/-- 'laws.FnExactAdder': WHATEVER THE INPUT: true; the input reads as it did. -/
def fnExactAdderSpec : ChangeSpec := { name := "fnExactAdder", fn := fun _ => fun
  | [d] => { results := [.lit (.bool true)], args := [d] }
  | _ => none }
def fnExactAdderRow : OpenClaim := { program := "ytfinoodiofghkaa", sum := "4f6cc34995a32bfdf166dcaee64f28324590bb1fee8c5a80edd4416a94aff6e4", func := "loop.example/fpgatoolchain/laws.FnExactAdder", spec := "fnExactAdder", plainKeys := false, apart := false }
def FnExactAdderSaid : Prop := fnExactAdderRow.holds Try.pinned (OpenSpec.ofChange fnExactAdderSpec)

/-- ITS FALSE NEIGHBOUR: 'it returns false'. Refute it at one input. -/
def fnExactAdderWrong : ChangeSpec := { name := "fnExactAdder", fn := fun _ => fun
  | [d] => { results := [.lit (.bool false)], args := [d] }
  | _ => none }
def FnExactAdderWrongFalsely : Prop := fnExactAdderRow.holds Try.pinned (OpenSpec.ofChange fnExactAdderWrong)

/-- 'laws.FnExactDecoder': WHATEVER THE INPUT: true; the input reads as it did. -/
def fnExactDecoderSpec : ChangeSpec := { name := "fnExactDecoder", fn := fun _ => fun
  | [d1, d2] => { results := [.lit (.bool true)], args := [d1, d2] }
  | _ => none }
def fnExactDecoderRow : OpenClaim := { program := "ytfinoodiofghkaa", sum := "4f6cc34995a32bfdf166dcaee64f28324590bb1fee8c5a80edd4416a94aff6e4", func := "loop.example/fpgatoolchain/laws.FnExactDecoder", spec := "fnExactDecoder", plainKeys := false, apart := false }
def FnExactDecoderSaid : Prop := fnExactDecoderRow.holds Try.pinned (OpenSpec.ofChange fnExactDecoderSpec)

/-- ITS FALSE NEIGHBOUR: 'it returns false'. Refute it at one input. -/
def fnExactDecoderWrong : ChangeSpec := { name := "fnExactDecoder", fn := fun _ => fun
  | [d1, d2] => { results := [.lit (.bool false)], args := [d1, d2] }
  | _ => none }
def FnExactDecoderWrongFalsely : Prop := fnExactDecoderRow.holds Try.pinned (OpenSpec.ofChange fnExactDecoderWrong)

/- THE SECOND FORM. 'bulk': how many values and letters a reading holds, each counted each time it is reached (what is shared counts as often as it is met; a slice's spare places count too). A statement '..UptoSaid' is the law's where the arguments, and the package variables that the reading takes, are together of bulk at most 1048576: NARROWER than '..Said'. Prove '..Said' where nothing that the law and all that it calls make is longer than what came in: it says more and counts as full. Else prove '..UptoSaid'. A law counts once. -/
mutual
def uptoBulk {H : Type} : DataW H → Nat
  | .lit (.string bytes) => bytes.length + 1
  | .lit _ => 1
  | .nil => 1
  | .ptr d => uptoBulk d + 1
  | .slice elems spare => uptoBulkAll elems + uptoBulkAll spare + 1
  | .agg parts => uptoBulkAll parts + 1
  | .iface _ d => uptoBulk d + 1
  | .map entries => uptoBulkEntries entries + 1
  | .held _ => 1
def uptoBulkAll {H : Type} : List (DataW H) → Nat
  | [] => 0
  | d :: r => uptoBulk d + uptoBulkAll r
def uptoBulkEntries {H : Type} : List (Lit × DataW H) → Nat
  | [] => 0
  | x :: r => uptoBulkEntry x + uptoBulkEntries r
def uptoBulkEntry {H : Type} : Lit × DataW H → Nat
  | (.string bytes, d) => bytes.length + uptoBulk d + 1
  | (_, d) => uptoBulk d + 1
 end
def uptoSmall : (H : Type) → List (DataW H) → Bool := fun _ ds => decide (uptoBulkAll ds ≤ 1048576)
def OpenSpec.upto (s : _root_.Go.ChangeSpec) : _root_.Go.OpenSpec := { _root_.Go.OpenSpec.ofChange s with cond := some uptoSmall }

/-- 'laws.FnToggles', WHERE WHAT IT READS IS OF BULK AT MOST 1048576: true; the input reads as it did. -/
def fnTogglesUptoRow : OpenClaim := { program := "ytfinoodiofghkaa", sum := "4f6cc34995a32bfdf166dcaee64f28324590bb1fee8c5a80edd4416a94aff6e4", func := "loop.example/fpgatoolchain/laws.FnToggles", spec := "fnToggles", plainKeys := false, apart := false, narrowed := true }
def FnTogglesUptoSaid : Prop := fnTogglesUptoRow.holds Try.pinned (OpenSpec.upto fnTogglesSpec)

/-- 'laws.FnActivity', WHERE WHAT IT READS IS OF BULK AT MOST 1048576: true; the input reads as it did. -/
def fnActivityUptoRow : OpenClaim := { program := "ytfinoodiofghkaa", sum := "4f6cc34995a32bfdf166dcaee64f28324590bb1fee8c5a80edd4416a94aff6e4", func := "loop.example/fpgatoolchain/laws.FnActivity", spec := "fnActivity", plainKeys := false, apart := false, narrowed := true }
def FnActivityUptoSaid : Prop := fnActivityUptoRow.holds Try.pinned (OpenSpec.upto fnActivitySpec)

/-- 'laws.FnExactToggles', WHERE WHAT IT READS IS OF BULK AT MOST 1048576: true; the input reads as it did. -/
def fnExactTogglesUptoRow : OpenClaim := { program := "ytfinoodiofghkaa", sum := "4f6cc34995a32bfdf166dcaee64f28324590bb1fee8c5a80edd4416a94aff6e4", func := "loop.example/fpgatoolchain/laws.FnExactToggles", spec := "fnExactToggles", plainKeys := false, apart := false, narrowed := true }
def FnExactTogglesUptoSaid : Prop := fnExactTogglesUptoRow.holds Try.pinned (OpenSpec.upto fnExactTogglesSpec)

/-- 'laws.FnExactActivity', WHERE WHAT IT READS IS OF BULK AT MOST 1048576: true; the input reads as it did. -/
def fnExactActivityUptoRow : OpenClaim := { program := "ytfinoodiofghkaa", sum := "4f6cc34995a32bfdf166dcaee64f28324590bb1fee8c5a80edd4416a94aff6e4", func := "loop.example/fpgatoolchain/laws.FnExactActivity", spec := "fnExactActivity", plainKeys := false, apart := false, narrowed := true }
def FnExactActivityUptoSaid : Prop := fnExactActivityUptoRow.holds Try.pinned (OpenSpec.upto fnExactActivitySpec)

/-- 'laws.FnTernaryKnown', WHERE WHAT IT READS IS OF BULK AT MOST 1048576: true; the input reads as it did. -/
def fnTernaryKnownUptoRow : OpenClaim := { program := "ytfinoodiofghkaa", sum := "4f6cc34995a32bfdf166dcaee64f28324590bb1fee8c5a80edd4416a94aff6e4", func := "loop.example/fpgatoolchain/laws.FnTernaryKnown", spec := "fnTernaryKnown", plainKeys := false, apart := false, narrowed := true }
def FnTernaryKnownUptoSaid : Prop := fnTernaryKnownUptoRow.holds Try.pinned (OpenSpec.upto fnTernaryKnownSpec)

/-- 'laws.FnTernaryStep', WHERE WHAT IT READS IS OF BULK AT MOST 1048576: true; the input reads as it did. -/
def fnTernaryStepUptoRow : OpenClaim := { program := "ytfinoodiofghkaa", sum := "4f6cc34995a32bfdf166dcaee64f28324590bb1fee8c5a80edd4416a94aff6e4", func := "loop.example/fpgatoolchain/laws.FnTernaryStep", spec := "fnTernaryStep", plainKeys := false, apart := false, narrowed := true }
def FnTernaryStepUptoSaid : Prop := fnTernaryStepUptoRow.holds Try.pinned (OpenSpec.upto fnTernaryStepSpec)

/-- 'laws.FnExactFrameValid', WHERE WHAT IT READS IS OF BULK AT MOST 1048576: true; the input reads as it did. -/
def fnExactFrameValidUptoRow : OpenClaim := { program := "ytfinoodiofghkaa", sum := "4f6cc34995a32bfdf166dcaee64f28324590bb1fee8c5a80edd4416a94aff6e4", func := "loop.example/fpgatoolchain/laws.FnExactFrameValid", spec := "fnExactFrameValid", plainKeys := false, apart := false, narrowed := true }
def FnExactFrameValidUptoSaid : Prop := fnExactFrameValidUptoRow.holds Try.pinned (OpenSpec.upto fnExactFrameValidSpec)

/-- 'laws.FnShiftRegister', WHERE WHAT IT READS IS OF BULK AT MOST 1048576: true; the input reads as it did. -/
def fnShiftRegisterUptoRow : OpenClaim := { program := "ytfinoodiofghkaa", sum := "4f6cc34995a32bfdf166dcaee64f28324590bb1fee8c5a80edd4416a94aff6e4", func := "loop.example/fpgatoolchain/laws.FnShiftRegister", spec := "fnShiftRegister", plainKeys := false, apart := false, narrowed := true }
def FnShiftRegisterUptoSaid : Prop := fnShiftRegisterUptoRow.holds Try.pinned (OpenSpec.upto fnShiftRegisterSpec)

/-- 'laws.FnScanRows', WHERE WHAT IT READS IS OF BULK AT MOST 1048576: true; the input reads as it did. -/
def fnScanRowsUptoRow : OpenClaim := { program := "ytfinoodiofghkaa", sum := "4f6cc34995a32bfdf166dcaee64f28324590bb1fee8c5a80edd4416a94aff6e4", func := "loop.example/fpgatoolchain/laws.FnScanRows", spec := "fnScanRows", unfollowed := true, recurses := true, plainKeys := false, apart := false, narrowed := true }
def FnScanRowsUptoSaid : Prop := fnScanRowsUptoRow.holds Try.pinned (OpenSpec.upto fnScanRowsSpec)

/-- 'laws.FnAdder', WHERE WHAT IT READS IS OF BULK AT MOST 1048576: true; the input reads as it did. -/
def fnAdderUptoRow : OpenClaim := { program := "ytfinoodiofghkaa", sum := "4f6cc34995a32bfdf166dcaee64f28324590bb1fee8c5a80edd4416a94aff6e4", func := "loop.example/fpgatoolchain/laws.FnAdder", spec := "fnAdder", plainKeys := false, apart := false, narrowed := true }
def FnAdderUptoSaid : Prop := fnAdderUptoRow.holds Try.pinned (OpenSpec.upto fnAdderSpec)

/-- 'laws.FnExactAdder', WHERE WHAT IT READS IS OF BULK AT MOST 1048576: true; the input reads as it did. -/
def fnExactAdderUptoRow : OpenClaim := { program := "ytfinoodiofghkaa", sum := "4f6cc34995a32bfdf166dcaee64f28324590bb1fee8c5a80edd4416a94aff6e4", func := "loop.example/fpgatoolchain/laws.FnExactAdder", spec := "fnExactAdder", plainKeys := false, apart := false, narrowed := true }
def FnExactAdderUptoSaid : Prop := fnExactAdderUptoRow.holds Try.pinned (OpenSpec.upto fnExactAdderSpec)

/-- 'laws.FnExactDecoder', WHERE WHAT IT READS IS OF BULK AT MOST 1048576: true; the input reads as it did. -/
def fnExactDecoderUptoRow : OpenClaim := { program := "ytfinoodiofghkaa", sum := "4f6cc34995a32bfdf166dcaee64f28324590bb1fee8c5a80edd4416a94aff6e4", func := "loop.example/fpgatoolchain/laws.FnExactDecoder", spec := "fnExactDecoder", plainKeys := false, apart := false, narrowed := true }
def FnExactDecoderUptoSaid : Prop := fnExactDecoderUptoRow.holds Try.pinned (OpenSpec.upto fnExactDecoderSpec)

end Rows
end Go.Proofs.Ytfinoodiofghkaa
