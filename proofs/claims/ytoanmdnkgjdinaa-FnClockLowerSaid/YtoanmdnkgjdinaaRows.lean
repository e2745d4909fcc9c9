/-
  No cell of these rows narrows 'for every input' (looked for: loops, veiled, ifaces, maps, wideKeys, modest, calm, conditions, laid).
  DERIVED. THE GIVEN ROWS OF THIS SEAT. 8 by the template 'for every input the law returns true; each argument reads behind the call as it read before'; 0 by the template 'total and deterministic' (their statements: YtoanmdnkgjdinaaTotals.lean).
  GIVEN WITH THE SEED: the statements are not yours to turn. If you find one false, say at which input.
  Laid BY PROGRAM, IN A SANDBOX (cutbox-rows.mjs): the forced cells as the released guide's own fill.sh prints them over the translation 3263d30b9e00f5b3… (all of the seat's roots in one cut). By AI agents, Wed Nov 11 2026. No macro, syntax, notation, axiom, sorry.
-/
import Derived.Test.YtoanmdnkgjdinaaChecked
import GoSem.Claim
import GoSem.ClaimJoined
import GoSem.ClaimMapViews
import Derived.JoinedTies
import Derived.KernelRfl
namespace Go.Proofs.Ytoanmdnkgjdinaa
/- THE CELL 'sum', in the pinned program and in every row, IS THE sha256 OF THE DUMP (.gsa) THAT YtoanmdnkgjdinaaProg.lean LOADS. Nothing in Lean hashes anything: it is a label: what it is worth is what the hold of that sum in a sandbox is worth. -/
noncomputable def Try.pinned : Pinned := { name := "ytoanmdnkgjdinaa", sum := "3263d30b9e00f5b38489df846f2a3d17cb1bc14e3e255d7e1adb26ffee3066a8", checked := Try.checked }
namespace Rows
def none {H : Type} : Left H := { results := [], args := [] }

/-- 'laws.FnRouteAll': WHATEVER THE INPUT: true; the input reads as it did. -/
def fnRouteAllSpec : ChangeSpec := { name := "fnRouteAll", fn := fun _ => fun
  | [d] => { results := [.lit (.bool true)], args := [d] }
  | _ => none }
def fnRouteAllRow : OpenClaim := { program := "ytoanmdnkgjdinaa", sum := "3263d30b9e00f5b38489df846f2a3d17cb1bc14e3e255d7e1adb26ffee3066a8", func := "loop.example/fpgatoolchain/laws.FnRouteAll", spec := "fnRouteAll", unfollowed := true, recurses := true, plainKeys := false, apart := false }
def FnRouteAllSaid : Prop := fnRouteAllRow.holds Try.pinned (OpenSpec.ofChange fnRouteAllSpec)

/-- ITS FALSE NEIGHBOUR: 'it returns false'. Refute it at one input. -/
def fnRouteAllWrong : ChangeSpec := { name := "fnRouteAll", fn := fun _ => fun
  | [d] => { results := [.lit (.bool false)], args := [d] }
  | _ => none }
def FnRouteAllWrongFalsely : Prop := fnRouteAllRow.holds Try.pinned (OpenSpec.ofChange fnRouteAllWrong)

/-- 'laws.FnRoute': WHATEVER THE INPUT: true; the input reads as it did. -/
def fnRouteSpec : ChangeSpec := { name := "fnRoute", fn := fun _ => fun
  | [d] => { results := [.lit (.bool true)], args := [d] }
  | _ => none }
def fnRouteRow : OpenClaim := { program := "ytoanmdnkgjdinaa", sum := "3263d30b9e00f5b38489df846f2a3d17cb1bc14e3e255d7e1adb26ffee3066a8", func := "loop.example/fpgatoolchain/laws.FnRoute", spec := "fnRoute", unfollowed := true, recurses := true, plainKeys := false, apart := false }
def FnRouteSaid : Prop := fnRouteRow.holds Try.pinned (OpenSpec.ofChange fnRouteSpec)

/-- ITS FALSE NEIGHBOUR: 'it returns false'. Refute it at one input. -/
def fnRouteWrong : ChangeSpec := { name := "fnRoute", fn := fun _ => fun
  | [d] => { results := [.lit (.bool false)], args := [d] }
  | _ => none }
def FnRouteWrongFalsely : Prop := fnRouteRow.holds Try.pinned (OpenSpec.ofChange fnRouteWrong)

/-- 'laws.FnRouteAround': WHATEVER THE INPUT: true; the input reads as it did. -/
def fnRouteAroundSpec : ChangeSpec := { name := "fnRouteAround", fn := fun _ => fun
  | [d] => { results := [.lit (.bool true)], args := [d] }
  | _ => none }
def fnRouteAroundRow : OpenClaim := { program := "ytoanmdnkgjdinaa", sum := "3263d30b9e00f5b38489df846f2a3d17cb1bc14e3e255d7e1adb26ffee3066a8", func := "loop.example/fpgatoolchain/laws.FnRouteAround", spec := "fnRouteAround", unfollowed := true, recurses := true, plainKeys := false, apart := false }
def FnRouteAroundSaid : Prop := fnRouteAroundRow.holds Try.pinned (OpenSpec.ofChange fnRouteAroundSpec)

/-- ITS FALSE NEIGHBOUR: 'it returns false'. Refute it at one input. -/
def fnRouteAroundWrong : ChangeSpec := { name := "fnRouteAround", fn := fun _ => fun
  | [d] => { results := [.lit (.bool false)], args := [d] }
  | _ => none }
def FnRouteAroundWrongFalsely : Prop := fnRouteAroundRow.holds Try.pinned (OpenSpec.ofChange fnRouteAroundWrong)

/-- 'laws.FnRouteDelay': WHATEVER THE INPUT: true; the input reads as it did. -/
def fnRouteDelaySpec : ChangeSpec := { name := "fnRouteDelay", fn := fun _ => fun
  | [d] => { results := [.lit (.bool true)], args := [d] }
  | _ => none }
def fnRouteDelayRow : OpenClaim := { program := "ytoanmdnkgjdinaa", sum := "3263d30b9e00f5b38489df846f2a3d17cb1bc14e3e255d7e1adb26ffee3066a8", func := "loop.example/fpgatoolchain/laws.FnRouteDelay", spec := "fnRouteDelay", unfollowed := true, recurses := true, plainKeys := false, apart := false }
def FnRouteDelaySaid : Prop := fnRouteDelayRow.holds Try.pinned (OpenSpec.ofChange fnRouteDelaySpec)

/-- ITS FALSE NEIGHBOUR: 'it returns false'. Refute it at one input. -/
def fnRouteDelayWrong : ChangeSpec := { name := "fnRouteDelay", fn := fun _ => fun
  | [d] => { results := [.lit (.bool false)], args := [d] }
  | _ => none }
def FnRouteDelayWrongFalsely : Prop := fnRouteDelayRow.holds Try.pinned (OpenSpec.ofChange fnRouteDelayWrong)

/-- 'laws.FnExactRouteDelay': WHATEVER THE INPUT: true; the input reads as it did. -/
def fnExactRouteDelaySpec : ChangeSpec := { name := "fnExactRouteDelay", fn := fun _ => fun
  | [d1, d2, d3, d4] => { results := [.lit (.bool true)], args := [d1, d2, d3, d4] }
  | _ => none }
def fnExactRouteDelayRow : OpenClaim := { program := "ytoanmdnkgjdinaa", sum := "3263d30b9e00f5b38489df846f2a3d17cb1bc14e3e255d7e1adb26ffee3066a8", func := "loop.example/fpgatoolchain/laws.FnExactRouteDelay", spec := "fnExactRouteDelay", unfollowed := true, recurses := true, plainKeys := false, apart := false }
def FnExactRouteDelaySaid : Prop := fnExactRouteDelayRow.holds Try.pinned (OpenSpec.ofChange fnExactRouteDelaySpec)

/-- ITS FALSE NEIGHBOUR: 'it returns false'. Refute it at one input. -/
def fnExactRouteDelayWrong : ChangeSpec := { name := "fnExactRouteDelay", fn := fun _ => fun
  | [d1, d2, d3, d4] => { results := [.lit (.bool false)], args := [d1, d2, d3, d4] }
  | _ => none }
def FnExactRouteDelayWrongFalsely : Prop := fnExactRouteDelayRow.holds Try.pinned (OpenSpec.ofChange fnExactRouteDelayWrong)

/-- 'laws.FnExactClockPeriod': WHATEVER THE INPUT: true; the input reads as it did. -/
def fnExactClockPeriodSpec : ChangeSpec := { name := "fnExactClockPeriod", fn := fun _ => fun
  | [d1, d2] => { results := [.lit (.bool true)], args := [d1, d2] }
  | _ => none }
def fnExactClockPeriodRow : OpenClaim := { program := "ytoanmdnkgjdinaa", sum := "3263d30b9e00f5b38489df846f2a3d17cb1bc14e3e255d7e1adb26ffee3066a8", func := "loop.example/fpgatoolchain/laws.FnExactClockPeriod", spec := "fnExactClockPeriod", unfollowed := true, recurses := true, plainKeys := false, apart := false }
def FnExactClockPeriodSaid : Prop := fnExactClockPeriodRow.holds Try.pinned (OpenSpec.ofChange fnExactClockPeriodSpec)

/-- ITS FALSE NEIGHBOUR: 'it returns false'. Refute it at one input. -/
def fnExactClockPeriodWrong : ChangeSpec := { name := "fnExactClockPeriod", fn := fun _ => fun
  | [d1, d2] => { results := [.lit (.bool false)], args := [d1, d2] }
  | _ => none }
def FnExactClockPeriodWrongFalsely : Prop := fnExactClockPeriodRow.holds Try.pinned (OpenSpec.ofChange fnExactClockPeriodWrong)

/-- 'laws.FnClockLower': WHATEVER THE INPUT: true; the input reads as it did. -/
def fnClockLowerSpec : ChangeSpec := { name := "fnClockLower", fn := fun _ => fun
  | [d] => { results := [.lit (.bool true)], args := [d] }
  | _ => none }
def fnClockLowerRow : OpenClaim := { program := "ytoanmdnkgjdinaa", sum := "3263d30b9e00f5b38489df846f2a3d17cb1bc14e3e255d7e1adb26ffee3066a8", func := "loop.example/fpgatoolchain/laws.FnClockLower", spec := "fnClockLower", unfollowed := true, recurses := true, plainKeys := false, apart := false }
def FnClockLowerSaid : Prop := fnClockLowerRow.holds Try.pinned (OpenSpec.ofChange fnClockLowerSpec)

/-- ITS FALSE NEIGHBOUR: 'it returns false'. Refute it at one input. -/
def fnClockLowerWrong : ChangeSpec := { name := "fnClockLower", fn := fun _ => fun
  | [d] => { results := [.lit (.bool false)], args := [d] }
  | _ => none }
def FnClockLowerWrongFalsely : Prop := fnClockLowerRow.holds Try.pinned (OpenSpec.ofChange fnClockLowerWrong)

/-- 'laws.FnClockPeriod': WHATEVER THE INPUT: true; the input reads as it did. -/
def fnClockPeriodSpec : ChangeSpec := { name := "fnClockPeriod", fn := fun _ => fun
  | [d] => { results := [.lit (.bool true)], args := [d] }
  | _ => none }
def fnClockPeriodRow : OpenClaim := { program := "ytoanmdnkgjdinaa", sum := "3263d30b9e00f5b38489df846f2a3d17cb1bc14e3e255d7e1adb26ffee3066a8", func := "loop.example/fpgatoolchain/laws.FnClockPeriod", spec := "fnClockPeriod", unfollowed := true, recurses := true, plainKeys := false, apart := false }
def FnClockPeriodSaid : Prop := fnClockPeriodRow.holds Try.pinned (OpenSpec.ofChange fnClockPeriodSpec)

/-- ITS FALSE NEIGHBOUR: 'it returns false'. Refute it at one input. -/
def fnClockPeriodWrong : ChangeSpec := { name := "fnClockPeriod", fn := fun _ => fun
  | [d] => { results := [.lit (.bool false)], args := [d] }
  | _ => none }
def FnClockPeriodWrongFalsely : Prop := fnClockPeriodRow.holds Try.pinned (OpenSpec.ofChange fnClockPeriodWrong)

/- THE SECOND FORM. 'bulk': how many values and letters a reading holds, each counted each time it is reached (what is shared counts as often as it is met; a slice's spare places count too). A statement '..UptoSaid' is the law's where the arguments, and the package variables that the reading takes, are together of bulk at most 1048576: NARROWER than '..Said'. Prove '..Said' where nothing that the law and all that it calls make is longer than what came in: it says more and counts as full. Else prove '..UptoSaid'. A law counts once. -/
mutual
def uptoBulk {H : Type} : DataW H → Nat
  | .lit (.string bytes) => bytes.length + 1
  | .lit _ => 1
  | .nil => 1
  | .ptr d => uptoBulk d + 1
  | .slice elems spare => uptoBulkAll elems + uptoBulkAll spare + 1
  | .agg parts => uptoBulkAll parts + 1
  | .iface _ d => uptoBulk d + 1
  | .map entries => uptoBulkEntries entries + 1
  | .held _ => 1
def uptoBulkAll {H : Type} : List (DataW H) → Nat
  | [] => 0
  | d :: r => uptoBulk d + uptoBulkAll r
def uptoBulkEntries {H : Type} : List (Lit × DataW H) → Nat
  | [] => 0
  | x :: r => uptoBulkEntry x + uptoBulkEntries r
def uptoBulkEntry {H : Type} : Lit × DataW H → Nat
  | (.string bytes, d) => bytes.length + uptoBulk d + 1
  | (_, d) => uptoBulk d + 1
 end
def uptoSmall : (H : Type) → List (DataW H) → Bool := fun _ ds => decide (uptoBulkAll ds ≤ 1048576)
def OpenSpec.upto (s : _root_.Go.ChangeSpec) : _root_.Go.OpenSpec := { _root_.Go.OpenSpec.ofChange s with cond := some uptoSmall }

/-- 'laws.FnRouteAll', WHERE WHAT IT READS IS OF BULK AT MOST 1048576: true; the input reads as it did. -/
def fnRouteAllUptoRow : OpenClaim := { program := "ytoanmdnkgjdinaa", sum := "3263d30b9e00f5b38489df846f2a3d17cb1bc14e3e255d7e1adb26ffee3066a8", func := "loop.example/fpgatoolchain/laws.FnRouteAll", spec := "fnRouteAll", unfollowed := true, recurses := true, plainKeys := false, apart := false, narrowed := true }
def FnRouteAllUptoSaid : Prop := fnRouteAllUptoRow.holds Try.pinned (OpenSpec.upto fnRouteAllSpec)

/-- 'laws.FnRoute', WHERE WHAT IT READS IS OF BULK AT MOST 1048576: true; the input reads as it did. -/
def fnRouteUptoRow : OpenClaim := { program := "ytoanmdnkgjdinaa", sum := "3263d30b9e00f5b38489df846f2a3d17cb1bc14e3e255d7e1adb26ffee3066a8", func := "loop.example/fpgatoolchain/laws.FnRoute", spec := "fnRoute", unfollowed := true, recurses := true, plainKeys := false, apart := false, narrowed := true }
def FnRouteUptoSaid : Prop := fnRouteUptoRow.holds Try.pinned (OpenSpec.upto fnRouteSpec)

/-- 'laws.FnRouteAround', WHERE WHAT IT READS IS OF BULK AT MOST 1048576: true; the input reads as it did. -/
def fnRouteAroundUptoRow : OpenClaim := { program := "ytoanmdnkgjdinaa", sum := "3263d30b9e00f5b38489df846f2a3d17cb1bc14e3e255d7e1adb26ffee3066a8", func := "loop.example/fpgatoolchain/laws.FnRouteAround", spec := "fnRouteAround", unfollowed := true, recurses := true, plainKeys := false, apart := false, narrowed := true }
def FnRouteAroundUptoSaid : Prop := fnRouteAroundUptoRow.holds Try.pinned (OpenSpec.upto fnRouteAroundSpec)

/-- 'laws.FnRouteDelay', WHERE WHAT IT READS IS OF BULK AT MOST 1048576: true; the input reads as it did. -/
def fnRouteDelayUptoRow : OpenClaim := { program := "ytoanmdnkgjdinaa", sum := "3263d30b9e00f5b38489df846f2a3d17cb1bc14e3e255d7e1adb26ffee3066a8", func := "loop.example/fpgatoolchain/laws.FnRouteDelay", spec := "fnRouteDelay", unfollowed := true, recurses := true, plainKeys := false, apart := false, narrowed := true }
def FnRouteDelayUptoSaid : Prop := fnRouteDelayUptoRow.holds Try.pinned (OpenSpec.upto fnRouteDelaySpec)

/-- 'laws.FnExactRouteDelay', WHERE WHAT IT READS IS OF BULK AT MOST 1048576: true; the input reads as it did. -/
def fnExactRouteDelayUptoRow : OpenClaim := { program := "ytoanmdnkgjdinaa", sum := "3263d30b9e00f5b38489df846f2a3d17cb1bc14e3e255d7e1adb26ffee3066a8", func := "loop.example/fpgatoolchain/laws.FnExactRouteDelay", spec := "fnExactRouteDelay", unfollowed := true, recurses := true, plainKeys := false, apart := false, narrowed := true }
def FnExactRouteDelayUptoSaid : Prop := fnExactRouteDelayUptoRow.holds Try.pinned (OpenSpec.upto fnExactRouteDelaySpec)

/-- 'laws.FnExactClockPeriod', WHERE WHAT IT READS IS OF BULK AT MOST 1048576: true; the input reads as it did. -/
def fnExactClockPeriodUptoRow : OpenClaim := { program := "ytoanmdnkgjdinaa", sum := "3263d30b9e00f5b38489df846f2a3d17cb1bc14e3e255d7e1adb26ffee3066a8", func := "loop.example/fpgatoolchain/laws.FnExactClockPeriod", spec := "fnExactClockPeriod", unfollowed := true, recurses := true, plainKeys := false, apart := false, narrowed := true }
def FnExactClockPeriodUptoSaid : Prop := fnExactClockPeriodUptoRow.holds Try.pinned (OpenSpec.upto fnExactClockPeriodSpec)

/-- 'laws.FnClockLower', WHERE WHAT IT READS IS OF BULK AT MOST 1048576: true; the input reads as it did. -/
def fnClockLowerUptoRow : OpenClaim := { program := "ytoanmdnkgjdinaa", sum := "3263d30b9e00f5b38489df846f2a3d17cb1bc14e3e255d7e1adb26ffee3066a8", func := "loop.example/fpgatoolchain/laws.FnClockLower", spec := "fnClockLower", unfollowed := true, recurses := true, plainKeys := false, apart := false, narrowed := true }
def FnClockLowerUptoSaid : Prop := fnClockLowerUptoRow.holds Try.pinned (OpenSpec.upto fnClockLowerSpec)

/-- 'laws.FnClockPeriod', WHERE WHAT IT READS IS OF BULK AT MOST 1048576: true; the input reads as it did. -/
def fnClockPeriodUptoRow : OpenClaim := { program := "ytoanmdnkgjdinaa", sum := "3263d30b9e00f5b38489df846f2a3d17cb1bc14e3e255d7e1adb26ffee3066a8", func := "loop.example/fpgatoolchain/laws.FnClockPeriod", spec := "fnClockPeriod", unfollowed := true, recurses := true, plainKeys := false, apart := false, narrowed := true }
def FnClockPeriodUptoSaid : Prop := fnClockPeriodUptoRow.holds Try.pinned (OpenSpec.upto fnClockPeriodSpec)

end Rows
end Go.Proofs.Ytoanmdnkgjdinaa
