/-
  No cell of these rows narrows 'for every input' (looked for: loops, veiled, ifaces, maps, wideKeys, modest, calm, conditions, laid).
  DERIVED. THE GIVEN ROWS OF THIS SEAT. 12 by the template 'for every input the law returns true; each argument reads behind the call as it read before'; 0 by the template 'total and deterministic' (their statements: YtaegedoalbnafaaTotals.lean).
  GIVEN WITH THE SEED: the statements are not yours to turn. If you find one false, say at which input.
  Laid BY PROGRAM, IN A SANDBOX (cutbox-rows.mjs): the forced cells as the released guide's own fill.sh prints them over the translation 8fe5dc8e60870893… (all of the seat's roots in one cut). By AI agents, Wed Nov 11 2026. No macro, syntax, notation, axiom, sorry.
-/
import Derived.Test.YtaegedoalbnafaaChecked
import GoSem.Claim
import GoSem.ClaimJoined
import GoSem.ClaimMapViews
import Derived.JoinedTies
import Derived.KernelRfl
namespace Go.Proofs.Ytaegedoalbnafaa
/- THE CELL 'sum', in the pinned program and in every row, IS THE sha256 OF THE DUMP (.gsa) THAT YtaegedoalbnafaaProg.lean LOADS. Nothing in Lean hashes anything: it is a label: what it is worth is what the hold of that sum in a sandbox is worth. -/
noncomputable def Try.pinned : Pinned := { name := "ytaegedoalbnafaa", sum := "8fe5dc8e60870893d92f85883b7d1db6b0dfa112b80eee86991f39c149251039", checked := Try.checked }
namespace Rows
def none {H : Type} : Left H := { results := [], args := [] }

/-- 'laws.FnScanDisabled': WHATEVER THE INPUT: true; the input reads as it did. -/
def fnScanDisabledSpec : ChangeSpec := { name := "fnScanDisabled", fn := fun _ => fun
  | [d1, d2] => { results := [.lit (.bool true)], args := [d1, d2] }
  | _ => none }
def fnScanDisabledRow : OpenClaim := { program := "ytaegedoalbnafaa", sum := "8fe5dc8e60870893d92f85883b7d1db6b0dfa112b80eee86991f39c149251039", func := "loop.example/fpgatoolchain/laws.FnScanDisabled", spec := "fnScanDisabled", unfollowed := true, recurses := true, plainKeys := false, apart := false }
def FnScanDisabledSaid : Prop := fnScanDisabledRow.holds Try.pinned (OpenSpec.ofChange fnScanDisabledSpec)

/-- ITS FALSE NEIGHBOUR: 'it returns false'. Refute it at one input. -/
def fnScanDisabledWrong : ChangeSpec := { name := "fnScanDisabled", fn := fun _ => fun
  | [d1, d2] => { results := [.lit (.bool false)], args := [d1, d2] }
  | _ => none }
def FnScanDisabledWrongFalsely : Prop := fnScanDisabledRow.holds Try.pinned (OpenSpec.ofChange fnScanDisabledWrong)

/-- 'laws.FnCounter': WHATEVER THE INPUT: true; the input reads as it did. -/
def fnCounterSpec : ChangeSpec := { name := "fnCounter", fn := fun _ => fun
  | [d] => { results := [.lit (.bool true)], args := [d] }
  | _ => none }
def fnCounterRow : OpenClaim := { program := "ytaegedoalbnafaa", sum := "8fe5dc8e60870893d92f85883b7d1db6b0dfa112b80eee86991f39c149251039", func := "loop.example/fpgatoolchain/laws.FnCounter", spec := "fnCounter", plainKeys := false, apart := false }
def FnCounterSaid : Prop := fnCounterRow.holds Try.pinned (OpenSpec.ofChange fnCounterSpec)

/-- ITS FALSE NEIGHBOUR: 'it returns false'. Refute it at one input. -/
def fnCounterWrong : ChangeSpec := { name := "fnCounter", fn := fun _ => fun
  | [d] => { results := [.lit (.bool false)], args := [d] }
  | _ => none }
def FnCounterWrongFalsely : Prop := fnCounterRow.holds Try.pinned (OpenSpec.ofChange fnCounterWrong)

/-- 'laws.FnApplyTest': WHATEVER THE INPUT: true; the input reads as it did. -/
def fnApplyTestSpec : ChangeSpec := { name := "fnApplyTest", fn := fun _ => fun
  | [d] => { results := [.lit (.bool true)], args := [d] }
  | _ => none }
def fnApplyTestRow : OpenClaim := { program := "ytaegedoalbnafaa", sum := "8fe5dc8e60870893d92f85883b7d1db6b0dfa112b80eee86991f39c149251039", func := "loop.example/fpgatoolchain/laws.FnApplyTest", spec := "fnApplyTest", unfollowed := true, recurses := true, plainKeys := false, apart := false }
def FnApplyTestSaid : Prop := fnApplyTestRow.holds Try.pinned (OpenSpec.ofChange fnApplyTestSpec)

/-- ITS FALSE NEIGHBOUR: 'it returns false'. Refute it at one input. -/
def fnApplyTestWrong : ChangeSpec := { name := "fnApplyTest", fn := fun _ => fun
  | [d] => { results := [.lit (.bool false)], args := [d] }
  | _ => none }
def FnApplyTestWrongFalsely : Prop := fnApplyTestRow.holds Try.pinned (OpenSpec.ofChange fnApplyTestWrong)

/-- 'laws.FnExactApplyTest': WHATEVER THE INPUT: true; the input reads as it did. -/
def fnExactApplyTestSpec : ChangeSpec := { name := "fnExactApplyTest", fn := fun _ => fun
  | [d1, d2, d3] => { results := [.lit (.bool true)], args := [d1, d2, d3] }
  | _ => none }
def fnExactApplyTestRow : OpenClaim := { program := "ytaegedoalbnafaa", sum := "8fe5dc8e60870893d92f85883b7d1db6b0dfa112b80eee86991f39c149251039", func := "loop.example/fpgatoolchain/laws.FnExactApplyTest", spec := "fnExactApplyTest", unfollowed := true, recurses := true, plainKeys := false, apart := false }
def FnExactApplyTestSaid : Prop := fnExactApplyTestRow.holds Try.pinned (OpenSpec.ofChange fnExactApplyTestSpec)

/-- ITS FALSE NEIGHBOUR: 'it returns false'. Refute it at one input. -/
def fnExactApplyTestWrong : ChangeSpec := { name := "fnExactApplyTest", fn := fun _ => fun
  | [d1, d2, d3] => { results := [.lit (.bool false)], args := [d1, d2, d3] }
  | _ => none }
def FnExactApplyTestWrongFalsely : Prop := fnExactApplyTestRow.holds Try.pinned (OpenSpec.ofChange fnExactApplyTestWrong)

/-- 'laws.FnScanFaults': WHATEVER THE INPUT: true; the input reads as it did. -/
def fnScanFaultsSpec : ChangeSpec := { name := "fnScanFaults", fn := fun _ => fun
  | [d] => { results := [.lit (.bool true)], args := [d] }
  | _ => none }
def fnScanFaultsRow : OpenClaim := { program := "ytaegedoalbnafaa", sum := "8fe5dc8e60870893d92f85883b7d1db6b0dfa112b80eee86991f39c149251039", func := "loop.example/fpgatoolchain/laws.FnScanFaults", spec := "fnScanFaults", unfollowed := true, recurses := true, plainKeys := false, apart := false }
def FnScanFaultsSaid : Prop := fnScanFaultsRow.holds Try.pinned (OpenSpec.ofChange fnScanFaultsSpec)

/-- ITS FALSE NEIGHBOUR: 'it returns false'. Refute it at one input. -/
def fnScanFaultsWrong : ChangeSpec := { name := "fnScanFaults", fn := fun _ => fun
  | [d] => { results := [.lit (.bool false)], args := [d] }
  | _ => none }
def FnScanFaultsWrongFalsely : Prop := fnScanFaultsRow.holds Try.pinned (OpenSpec.ofChange fnScanFaultsWrong)

/-- 'laws.FnExactCounter': WHATEVER THE INPUT: true; the input reads as it did. -/
def fnExactCounterSpec : ChangeSpec := { name := "fnExactCounter", fn := fun _ => fun
  | [d] => { results := [.lit (.bool true)], args := [d] }
  | _ => none }
def fnExactCounterRow : OpenClaim := { program := "ytaegedoalbnafaa", sum := "8fe5dc8e60870893d92f85883b7d1db6b0dfa112b80eee86991f39c149251039", func := "loop.example/fpgatoolchain/laws.FnExactCounter", spec := "fnExactCounter", plainKeys := false, apart := false }
def FnExactCounterSaid : Prop := fnExactCounterRow.holds Try.pinned (OpenSpec.ofChange fnExactCounterSpec)

/-- ITS FALSE NEIGHBOUR: 'it returns false'. Refute it at one input. -/
def fnExactCounterWrong : ChangeSpec := { name := "fnExactCounter", fn := fun _ => fun
  | [d] => { results := [.lit (.bool false)], args := [d] }
  | _ => none }
def FnExactCounterWrongFalsely : Prop := fnExactCounterRow.holds Try.pinned (OpenSpec.ofChange fnExactCounterWrong)

/-- 'laws.FnDecoder': WHATEVER THE INPUT: true; the input reads as it did. -/
def fnDecoderSpec : ChangeSpec := { name := "fnDecoder", fn := fun _ => fun
  | [d] => { results := [.lit (.bool true)], args := [d] }
  | _ => none }
def fnDecoderRow : OpenClaim := { program := "ytaegedoalbnafaa", sum := "8fe5dc8e60870893d92f85883b7d1db6b0dfa112b80eee86991f39c149251039", func := "loop.example/fpgatoolchain/laws.FnDecoder", spec := "fnDecoder", recurses := true, plainKeys := false, apart := false }
def FnDecoderSaid : Prop := fnDecoderRow.holds Try.pinned (OpenSpec.ofChange fnDecoderSpec)

/-- ITS FALSE NEIGHBOUR: 'it returns false'. Refute it at one input. -/
def fnDecoderWrong : ChangeSpec := { name := "fnDecoder", fn := fun _ => fun
  | [d] => { results := [.lit (.bool false)], args := [d] }
  | _ => none }
def FnDecoderWrongFalsely : Prop := fnDecoderRow.holds Try.pinned (OpenSpec.ofChange fnDecoderWrong)

/-- 'laws.FnDistinguishExample': WHATEVER THE INPUT: true; the input reads as it did. -/
def fnDistinguishExampleSpec : ChangeSpec := { name := "fnDistinguishExample", fn := fun _ => fun
  | [d] => { results := [.lit (.bool true)], args := [d] }
  | _ => none }
def fnDistinguishExampleRow : OpenClaim := { program := "ytaegedoalbnafaa", sum := "8fe5dc8e60870893d92f85883b7d1db6b0dfa112b80eee86991f39c149251039", func := "loop.example/fpgatoolchain/laws.FnDistinguishExample", spec := "fnDistinguishExample", unfollowed := true, recurses := true, plainKeys := false, apart := false }
def FnDistinguishExampleSaid : Prop := fnDistinguishExampleRow.holds Try.pinned (OpenSpec.ofChange fnDistinguishExampleSpec)

/-- ITS FALSE NEIGHBOUR: 'it returns false'. Refute it at one input. -/
def fnDistinguishExampleWrong : ChangeSpec := { name := "fnDistinguishExample", fn := fun _ => fun
  | [d] => { results := [.lit (.bool false)], args := [d] }
  | _ => none }
def FnDistinguishExampleWrongFalsely : Prop := fnDistinguishExampleRow.holds Try.pinned (OpenSpec.ofChange fnDistinguishExampleWrong)

/-- 'laws.FnAdder': WHATEVER THE INPUT: true; the input reads as it did. -/
def fnAdderSpec : ChangeSpec := { name := "fnAdder", fn := fun _ => fun
  | [d] => { results := [.lit (.bool true)], args := [d] }
  | _ => none }
def fnAdderRow : OpenClaim := { program := "ytaegedoalbnafaa", sum := "8fe5dc8e60870893d92f85883b7d1db6b0dfa112b80eee86991f39c149251039", func := "loop.example/fpgatoolchain/laws.FnAdder", spec := "fnAdder", plainKeys := false, apart := false }
def FnAdderSaid : Prop := fnAdderRow.holds Try.pinned (OpenSpec.ofChange fnAdderSpec)

/-- ITS FALSE NEIGHBOUR: 'it returns false'. Refute it at one input. -/
def fnAdderWrong : ChangeSpec := { name := "fnAdder", fn := fun _ => fun
  | [d] => { results := [.lit (.bool false)], args := [d] }
  | _ => none }
def FnAdderWrongFalsely : Prop := fnAdderRow.holds Try.pinned (OpenSpec.ofChange fnAdderWrong)

/-- 'laws.FnExactAdder': WHATEVER THE INPUT: true; the input reads as it did. -/
def fnExactAdderSpec : ChangeSpec := { name := "fnExactAdder", fn := fun _ => fun
  | [d] => { results := [.lit (.bool true)], args := [d] }
  | _ => none }
def fnExactAdderRow : OpenClaim := { program := "ytaegedoalbnafaa", sum := "8fe5dc8e60870893d92f85883b7d1db6b0dfa112b80eee86991f39c149251039", func := "loop.example/fpgatoolchain/laws.FnExactAdder", spec := "fnExactAdder", plainKeys := false, apart := false }
def FnExactAdderSaid : Prop := fnExactAdderRow.holds Try.pinned (OpenSpec.ofChange fnExactAdderSpec)

/-- ITS FALSE NEIGHBOUR: 'it returns false'. Refute it at one input. -/
def fnExactAdderWrong : ChangeSpec := { name := "fnExactAdder", fn := fun _ => fun
  | [d] => { results := [.lit (.bool false)], args := [d] }
  | _ => none }
def FnExactAdderWrongFalsely : Prop := fnExactAdderRow.holds Try.pinned (OpenSpec.ofChange fnExactAdderWrong)

/-- 'laws.FnExactDecoder': WHATEVER THE INPUT: true; the input reads as it did. -/
def fnExactDecoderSpec : ChangeSpec := { name := "fnExactDecoder", fn := fun _ => fun
  | [d1, d2] => { results := [.lit (.bool true)], args := [d1, d2] }
  | _ => none }
def fnExactDecoderRow : OpenClaim := { program := "ytaegedoalbnafaa", sum := "8fe5dc8e60870893d92f85883b7d1db6b0dfa112b80eee86991f39c149251039", func := "loop.example/fpgatoolchain/laws.FnExactDecoder", spec := "fnExactDecoder", plainKeys := false, apart := false }
def FnExactDecoderSaid : Prop := fnExactDecoderRow.holds Try.pinned (OpenSpec.ofChange fnExactDecoderSpec)

/-- ITS FALSE NEIGHBOUR: 'it returns false'. Refute it at one input. -/
def fnExactDecoderWrong : ChangeSpec := { name := "fnExactDecoder", fn := fun _ => fun
  | [d1, d2] => { results := [.lit (.bool false)], args := [d1, d2] }
  | _ => none }
def FnExactDecoderWrongFalsely : Prop := fnExactDecoderRow.holds Try.pinned (OpenSpec.ofChange fnExactDecoderWrong)

/-- 'laws.FnExactToggles': WHATEVER THE INPUT: true; the input reads as it did. -/
def fnExactTogglesSpec : ChangeSpec := { name := "fnExactToggles", fn := fun _ => fun
  | [d1, d2] => { results := [.lit (.bool true)], args := [d1, d2] }
  | _ => none }
def fnExactTogglesRow : OpenClaim := { program := "ytaegedoalbnafaa", sum := "8fe5dc8e60870893d92f85883b7d1db6b0dfa112b80eee86991f39c149251039", func := "loop.example/fpgatoolchain/laws.FnExactToggles", spec := "fnExactToggles", plainKeys := false, apart := false }
def FnExactTogglesSaid : Prop := fnExactTogglesRow.holds Try.pinned (OpenSpec.ofChange fnExactTogglesSpec)

/-- ITS FALSE NEIGHBOUR: 'it returns false'. Refute it at one input. -/
def fnExactTogglesWrong : ChangeSpec := { name := "fnExactToggles", fn := fun _ => fun
  | [d1, d2] => { results := [.lit (.bool false)], args := [d1, d2] }
  | _ => none }
def FnExactTogglesWrongFalsely : Prop := fnExactTogglesRow.holds Try.pinned (OpenSpec.ofChange fnExactTogglesWrong)

/- THE SECOND FORM. 'bulk': how many values and letters a reading holds, each counted each time it is reached (what is shared counts as often as it is met; a slice's spare places count too). A statement '..UptoSaid' is the law's where the arguments, and the package variables that the reading takes, are together of bulk at most 1048576: NARROWER than '..Said'. Prove '..Said' where nothing that the law and all that it calls make is longer than what came in: it says more and counts as full. Else prove '..UptoSaid'. A law counts once. -/
mutual
def uptoBulk {H : Type} : DataW H → Nat
  | .lit (.string bytes) => bytes.length + 1
  | .lit _ => 1
  | .nil => 1
  | .ptr d => uptoBulk d + 1
  | .slice elems spare => uptoBulkAll elems + uptoBulkAll spare + 1
  | .agg parts => uptoBulkAll parts + 1
  | .iface _ d => uptoBulk d + 1
  | .map entries => uptoBulkEntries entries + 1
  | .held _ => 1
def uptoBulkAll {H : Type} : List (DataW H) → Nat
  | [] => 0
  | d :: r => uptoBulk d + uptoBulkAll r
def uptoBulkEntries {H : Type} : List (Lit × DataW H) → Nat
  | [] => 0
  | x :: r => uptoBulkEntry x + uptoBulkEntries r
def uptoBulkEntry {H : Type} : Lit × DataW H → Nat
  | (.string bytes, d) => bytes.length + uptoBulk d + 1
  | (_, d) => uptoBulk d + 1
 end
def uptoSmall : (H : Type) → List (DataW H) → Bool := fun _ ds => decide (uptoBulkAll ds ≤ 1048576)
def OpenSpec.upto (s : _root_.Go.ChangeSpec) : _root_.Go.OpenSpec := { _root_.Go.OpenSpec.ofChange s with cond := some uptoSmall }

/-- 'laws.FnScanDisabled', WHERE WHAT IT READS IS OF BULK AT MOST 1048576: true; the input reads as it did. -/
def fnScanDisabledUptoRow : OpenClaim := { program := "ytaegedoalbnafaa", sum := "8fe5dc8e60870893d92f85883b7d1db6b0dfa112b80eee86991f39c149251039", func := "loop.example/fpgatoolchain/laws.FnScanDisabled", spec := "fnScanDisabled", unfollowed := true, recurses := true, plainKeys := false, apart := false, narrowed := true }
def FnScanDisabledUptoSaid : Prop := fnScanDisabledUptoRow.holds Try.pinned (OpenSpec.upto fnScanDisabledSpec)

/-- 'laws.FnCounter', WHERE WHAT IT READS IS OF BULK AT MOST 1048576: true; the input reads as it did. -/
def fnCounterUptoRow : OpenClaim := { program := "ytaegedoalbnafaa", sum := "8fe5dc8e60870893d92f85883b7d1db6b0dfa112b80eee86991f39c149251039", func := "loop.example/fpgatoolchain/laws.FnCounter", spec := "fnCounter", plainKeys := false, apart := false, narrowed := true }
def FnCounterUptoSaid : Prop := fnCounterUptoRow.holds Try.pinned (OpenSpec.upto fnCounterSpec)

/-- 'laws.FnApplyTest', WHERE WHAT IT READS IS OF BULK AT MOST 1048576: true; the input reads as it did. -/
def fnApplyTestUptoRow : OpenClaim := { program := "ytaegedoalbnafaa", sum := "8fe5dc8e60870893d92f85883b7d1db6b0dfa112b80eee86991f39c149251039", func := "loop.example/fpgatoolchain/laws.FnApplyTest", spec := "fnApplyTest", unfollowed := true, recurses := true, plainKeys := false, apart := false, narrowed := true }
def FnApplyTestUptoSaid : Prop := fnApplyTestUptoRow.holds Try.pinned (OpenSpec.upto fnApplyTestSpec)

/-- 'laws.FnExactApplyTest', WHERE WHAT IT READS IS OF BULK AT MOST 1048576: true; the input reads as it did. -/
def fnExactApplyTestUptoRow : OpenClaim := { program := "ytaegedoalbnafaa", sum := "8fe5dc8e60870893d92f85883b7d1db6b0dfa112b80eee86991f39c149251039", func := "loop.example/fpgatoolchain/laws.FnExactApplyTest", spec := "fnExactApplyTest", unfollowed := true, recurses := true, plainKeys := false, apart := false, narrowed := true }
def FnExactApplyTestUptoSaid : Prop := fnExactApplyTestUptoRow.holds Try.pinned (OpenSpec.upto fnExactApplyTestSpec)

/-- 'laws.FnScanFaults', WHERE WHAT IT READS IS OF BULK AT MOST 1048576: true; the input reads as it did. -/
def fnScanFaultsUptoRow : OpenClaim := { program := "ytaegedoalbnafaa", sum := "8fe5dc8e60870893d92f85883b7d1db6b0dfa112b80eee86991f39c149251039", func := "loop.example/fpgatoolchain/laws.FnScanFaults", spec := "fnScanFaults", unfollowed := true, recurses := true, plainKeys := false, apart := false, narrowed := true }
def FnScanFaultsUptoSaid : Prop := fnScanFaultsUptoRow.holds Try.pinned (OpenSpec.upto fnScanFaultsSpec)

/-- 'laws.FnExactCounter', WHERE WHAT IT READS IS OF BULK AT MOST 1048576: true; the input reads as it did. -/
def fnExactCounterUptoRow : OpenClaim := { program := "ytaegedoalbnafaa", sum := "8fe5dc8e60870893d92f85883b7d1db6b0dfa112b80eee86991f39c149251039", func := "loop.example/fpgatoolchain/laws.FnExactCounter", spec := "fnExactCounter", plainKeys := false, apart := false, narrowed := true }
def FnExactCounterUptoSaid : Prop := fnExactCounterUptoRow.holds Try.pinned (OpenSpec.upto fnExactCounterSpec)

/-- 'laws.FnDecoder', WHERE WHAT IT READS IS OF BULK AT MOST 1048576: true; the input reads as it did. -/
def fnDecoderUptoRow : OpenClaim := { program := "ytaegedoalbnafaa", sum := "8fe5dc8e60870893d92f85883b7d1db6b0dfa112b80eee86991f39c149251039", func := "loop.example/fpgatoolchain/laws.FnDecoder", spec := "fnDecoder", recurses := true, plainKeys := false, apart := false, narrowed := true }
def FnDecoderUptoSaid : Prop := fnDecoderUptoRow.holds Try.pinned (OpenSpec.upto fnDecoderSpec)

/-- 'laws.FnDistinguishExample', WHERE WHAT IT READS IS OF BULK AT MOST 1048576: true; the input reads as it did. -/
def fnDistinguishExampleUptoRow : OpenClaim := { program := "ytaegedoalbnafaa", sum := "8fe5dc8e60870893d92f85883b7d1db6b0dfa112b80eee86991f39c149251039", func := "loop.example/fpgatoolchain/laws.FnDistinguishExample", spec := "fnDistinguishExample", unfollowed := true, recurses := true, plainKeys := false, apart := false, narrowed := true }
def FnDistinguishExampleUptoSaid : Prop := fnDistinguishExampleUptoRow.holds Try.pinned (OpenSpec.upto fnDistinguishExampleSpec)

/-- 'laws.FnAdder', WHERE WHAT IT READS IS OF BULK AT MOST 1048576: true; the input reads as it did. -/
def fnAdderUptoRow : OpenClaim := { program := "ytaegedoalbnafaa", sum := "8fe5dc8e60870893d92f85883b7d1db6b0dfa112b80eee86991f39c149251039", func := "loop.example/fpgatoolchain/laws.FnAdder", spec := "fnAdder", plainKeys := false, apart := false, narrowed := true }
def FnAdderUptoSaid : Prop := fnAdderUptoRow.holds Try.pinned (OpenSpec.upto fnAdderSpec)

/-- 'laws.FnExactAdder', WHERE WHAT IT READS IS OF BULK AT MOST 1048576: true; the input reads as it did. -/
def fnExactAdderUptoRow : OpenClaim := { program := "ytaegedoalbnafaa", sum := "8fe5dc8e60870893d92f85883b7d1db6b0dfa112b80eee86991f39c149251039", func := "loop.example/fpgatoolchain/laws.FnExactAdder", spec := "fnExactAdder", plainKeys := false, apart := false, narrowed := true }
def FnExactAdderUptoSaid : Prop := fnExactAdderUptoRow.holds Try.pinned (OpenSpec.upto fnExactAdderSpec)

/-- 'laws.FnExactDecoder', WHERE WHAT IT READS IS OF BULK AT MOST 1048576: true; the input reads as it did. -/
def fnExactDecoderUptoRow : OpenClaim := { program := "ytaegedoalbnafaa", sum := "8fe5dc8e60870893d92f85883b7d1db6b0dfa112b80eee86991f39c149251039", func := "loop.example/fpgatoolchain/laws.FnExactDecoder", spec := "fnExactDecoder", plainKeys := false, apart := false, narrowed := true }
def FnExactDecoderUptoSaid : Prop := fnExactDecoderUptoRow.holds Try.pinned (OpenSpec.upto fnExactDecoderSpec)

/-- 'laws.FnExactToggles', WHERE WHAT IT READS IS OF BULK AT MOST 1048576: true; the input reads as it did. -/
def fnExactTogglesUptoRow : OpenClaim := { program := "ytaegedoalbnafaa", sum := "8fe5dc8e60870893d92f85883b7d1db6b0dfa112b80eee86991f39c149251039", func := "loop.example/fpgatoolchain/laws.FnExactToggles", spec := "fnExactToggles", plainKeys := false, apart := false, narrowed := true }
def FnExactTogglesUptoSaid : Prop := fnExactTogglesUptoRow.holds Try.pinned (OpenSpec.upto fnExactTogglesSpec)

end Rows
end Go.Proofs.Ytaegedoalbnafaa
