/-
  No cell of these rows narrows 'for every input' (looked for: loops, veiled, ifaces, maps, wideKeys, modest, calm, conditions, laid).
  DERIVED. THE GIVEN ROWS OF THIS SEAT. 7 by the template 'for every input the law returns true; each argument reads behind the call as it read before'; 0 by the template 'total and deterministic' (their statements: YtnpeooegbmljaaaTotals.lean).
  GIVEN WITH THE SEED: the statements are not yours to turn. If you find one false, say at which input.
  Laid BY PROGRAM, IN A SANDBOX (cutbox-rows.mjs): the forced cells as the released guide's own fill.sh prints them over the translation 6813286fef22924b… (all of the seat's roots in one cut). By AI agents, Wed Nov 11 2026. No macro, syntax, notation, axiom, sorry.
-/
import Derived.Test.YtnpeooegbmljaaaChecked
import GoSem.Claim
import GoSem.ClaimJoined
import GoSem.ClaimMapViews
import Derived.JoinedTies
import Derived.KernelRfl
namespace Go.Proofs.Ytnpeooegbmljaaa
/- THE CELL 'sum', in the pinned program and in every row, IS THE sha256 OF THE DUMP (.gsa) THAT YtnpeooegbmljaaaProg.lean LOADS. Nothing in Lean hashes anything: it is a label: what it is worth is what the hold of that sum in a sandbox is worth. -/
noncomputable def Try.pinned : Pinned := { name := "ytnpeooegbmljaaa", sum := "6813286fef22924b8c1c530d8db76f349bf263eb64ab92c5f2dacc0e256ece61", checked := Try.checked }
namespace Rows
def none {H : Type} : Left H := { results := [], args := [] }

/-- 'laws.FnExactGrayOrder': WHATEVER THE INPUT: true; the input reads as it did. -/
def fnExactGrayOrderSpec : ChangeSpec := { name := "fnExactGrayOrder", fn := fun _ => fun
  | [d] => { results := [.lit (.bool true)], args := [d] }
  | _ => none }
def fnExactGrayOrderRow : OpenClaim := { program := "ytnpeooegbmljaaa", sum := "6813286fef22924b8c1c530d8db76f349bf263eb64ab92c5f2dacc0e256ece61", func := "loop.example/fpgatoolchain/laws.FnExactGrayOrder", spec := "fnExactGrayOrder", apart := false }
def FnExactGrayOrderSaid : Prop := fnExactGrayOrderRow.holds Try.pinned (OpenSpec.ofChange fnExactGrayOrderSpec)

/-- ITS FALSE NEIGHBOUR: 'it returns false'. Refute it at one input. -/
def fnExactGrayOrderWrong : ChangeSpec := { name := "fnExactGrayOrder", fn := fun _ => fun
  | [d] => { results := [.lit (.bool false)], args := [d] }
  | _ => none }
def FnExactGrayOrderWrongFalsely : Prop := fnExactGrayOrderRow.holds Try.pinned (OpenSpec.ofChange fnExactGrayOrderWrong)

/-- 'laws.FnExactDefectsValid': WHATEVER THE INPUT: true; the input reads as it did. -/
def fnExactDefectsValidSpec : ChangeSpec := { name := "fnExactDefectsValid", fn := fun _ => fun
  | [d] => { results := [.lit (.bool true)], args := [d] }
  | _ => none }
def fnExactDefectsValidRow : OpenClaim := { program := "ytnpeooegbmljaaa", sum := "6813286fef22924b8c1c530d8db76f349bf263eb64ab92c5f2dacc0e256ece61", func := "loop.example/fpgatoolchain/laws.FnExactDefectsValid", spec := "fnExactDefectsValid", apart := false }
def FnExactDefectsValidSaid : Prop := fnExactDefectsValidRow.holds Try.pinned (OpenSpec.ofChange fnExactDefectsValidSpec)

/-- ITS FALSE NEIGHBOUR: 'it returns false'. Refute it at one input. -/
def fnExactDefectsValidWrong : ChangeSpec := { name := "fnExactDefectsValid", fn := fun _ => fun
  | [d] => { results := [.lit (.bool false)], args := [d] }
  | _ => none }
def FnExactDefectsValidWrongFalsely : Prop := fnExactDefectsValidRow.holds Try.pinned (OpenSpec.ofChange fnExactDefectsValidWrong)

/-- 'laws.FnGrayNeighbours': WHATEVER THE INPUT: true; the input reads as it did. -/
def fnGrayNeighboursSpec : ChangeSpec := { name := "fnGrayNeighbours", fn := fun _ => fun
  | [d] => { results := [.lit (.bool true)], args := [d] }
  | _ => none }
def fnGrayNeighboursRow : OpenClaim := { program := "ytnpeooegbmljaaa", sum := "6813286fef22924b8c1c530d8db76f349bf263eb64ab92c5f2dacc0e256ece61", func := "loop.example/fpgatoolchain/laws.FnGrayNeighbours", spec := "fnGrayNeighbours", apart := false }
def FnGrayNeighboursSaid : Prop := fnGrayNeighboursRow.holds Try.pinned (OpenSpec.ofChange fnGrayNeighboursSpec)

/-- ITS FALSE NEIGHBOUR: 'it returns false'. Refute it at one input. -/
def fnGrayNeighboursWrong : ChangeSpec := { name := "fnGrayNeighbours", fn := fun _ => fun
  | [d] => { results := [.lit (.bool false)], args := [d] }
  | _ => none }
def FnGrayNeighboursWrongFalsely : Prop := fnGrayNeighboursRow.holds Try.pinned (OpenSpec.ofChange fnGrayNeighboursWrong)

/-- 'laws.FnGrayOrder': WHATEVER THE INPUT: true; the input reads as it did. -/
def fnGrayOrderSpec : ChangeSpec := { name := "fnGrayOrder", fn := fun _ => fun
  | [d] => { results := [.lit (.bool true)], args := [d] }
  | _ => none }
def fnGrayOrderRow : OpenClaim := { program := "ytnpeooegbmljaaa", sum := "6813286fef22924b8c1c530d8db76f349bf263eb64ab92c5f2dacc0e256ece61", func := "loop.example/fpgatoolchain/laws.FnGrayOrder", spec := "fnGrayOrder", apart := false }
def FnGrayOrderSaid : Prop := fnGrayOrderRow.holds Try.pinned (OpenSpec.ofChange fnGrayOrderSpec)

/-- ITS FALSE NEIGHBOUR: 'it returns false'. Refute it at one input. -/
def fnGrayOrderWrong : ChangeSpec := { name := "fnGrayOrder", fn := fun _ => fun
  | [d] => { results := [.lit (.bool false)], args := [d] }
  | _ => none }
def FnGrayOrderWrongFalsely : Prop := fnGrayOrderRow.holds Try.pinned (OpenSpec.ofChange fnGrayOrderWrong)

/-- 'laws.FnDefectsValid': WHATEVER THE INPUT: true; the input reads as it did. -/
def fnDefectsValidSpec : ChangeSpec := { name := "fnDefectsValid", fn := fun _ => fun
  | [d] => { results := [.lit (.bool true)], args := [d] }
  | _ => none }
def fnDefectsValidRow : OpenClaim := { program := "ytnpeooegbmljaaa", sum := "6813286fef22924b8c1c530d8db76f349bf263eb64ab92c5f2dacc0e256ece61", func := "loop.example/fpgatoolchain/laws.FnDefectsValid", spec := "fnDefectsValid", apart := false }
def FnDefectsValidSaid : Prop := fnDefectsValidRow.holds Try.pinned (OpenSpec.ofChange fnDefectsValidSpec)

/-- ITS FALSE NEIGHBOUR: 'it returns false'. Refute it at one input. -/
def fnDefectsValidWrong : ChangeSpec := { name := "fnDefectsValid", fn := fun _ => fun
  | [d] => { results := [.lit (.bool false)], args := [d] }
  | _ => none }
def FnDefectsValidWrongFalsely : Prop := fnDefectsValidRow.holds Try.pinned (OpenSpec.ofChange fnDefectsValidWrong)

/-- 'laws.FnGrayActivity': WHATEVER THE INPUT: true; the input reads as it did. -/
def fnGrayActivitySpec : ChangeSpec := { name := "fnGrayActivity", fn := fun _ => fun
  | [d] => { results := [.lit (.bool true)], args := [d] }
  | _ => none }
def fnGrayActivityRow : OpenClaim := { program := "ytnpeooegbmljaaa", sum := "6813286fef22924b8c1c530d8db76f349bf263eb64ab92c5f2dacc0e256ece61", func := "loop.example/fpgatoolchain/laws.FnGrayActivity", spec := "fnGrayActivity", apart := false }
def FnGrayActivitySaid : Prop := fnGrayActivityRow.holds Try.pinned (OpenSpec.ofChange fnGrayActivitySpec)

/-- ITS FALSE NEIGHBOUR: 'it returns false'. Refute it at one input. -/
def fnGrayActivityWrong : ChangeSpec := { name := "fnGrayActivity", fn := fun _ => fun
  | [d] => { results := [.lit (.bool false)], args := [d] }
  | _ => none }
def FnGrayActivityWrongFalsely : Prop := fnGrayActivityRow.holds Try.pinned (OpenSpec.ofChange fnGrayActivityWrong)

/-- 'laws.FnExactShiftRegister': WHATEVER THE INPUT: true; the input reads as it did. -/
def fnExactShiftRegisterSpec : ChangeSpec := { name := "fnExactShiftRegister", fn := fun _ => fun
  | [d] => { results := [.lit (.bool true)], args := [d] }
  | _ => none }
def fnExactShiftRegisterRow : OpenClaim := { program := "ytnpeooegbmljaaa", sum := "6813286fef22924b8c1c530d8db76f349bf263eb64ab92c5f2dacc0e256ece61", func := "loop.example/fpgatoolchain/laws.FnExactShiftRegister", spec := "fnExactShiftRegister", apart := false }
def FnExactShiftRegisterSaid : Prop := fnExactShiftRegisterRow.holds Try.pinned (OpenSpec.ofChange fnExactShiftRegisterSpec)

/-- ITS FALSE NEIGHBOUR: 'it returns false'. Refute it at one input. -/
def fnExactShiftRegisterWrong : ChangeSpec := { name := "fnExactShiftRegister", fn := fun _ => fun
  | [d] => { results := [.lit (.bool false)], args := [d] }
  | _ => none }
def FnExactShiftRegisterWrongFalsely : Prop := fnExactShiftRegisterRow.holds Try.pinned (OpenSpec.ofChange fnExactShiftRegisterWrong)

/- THE SECOND FORM. 'bulk': how many values and letters a reading holds, each counted each time it is reached (what is shared counts as often as it is met; a slice's spare places count too). A statement '..UptoSaid' is the law's where the arguments, and the package variables that the reading takes, are together of bulk at most 1048576: NARROWER than '..Said'. Prove '..Said' where nothing that the law and all that it calls make is longer than what came in: it says more and counts as full. Else prove '..UptoSaid'. A law counts once. -/
mutual
def uptoBulk {H : Type} : DataW H → Nat
  | .lit (.string bytes) => bytes.length + 1
  | .lit _ => 1
  | .nil => 1
  | .ptr d => uptoBulk d + 1
  | .slice elems spare => uptoBulkAll elems + uptoBulkAll spare + 1
  | .agg parts => uptoBulkAll parts + 1
  | .iface _ d => uptoBulk d + 1
  | .map entries => uptoBulkEntries entries + 1
  | .held _ => 1
def uptoBulkAll {H : Type} : List (DataW H) → Nat
  | [] => 0
  | d :: r => uptoBulk d + uptoBulkAll r
def uptoBulkEntries {H : Type} : List (Lit × DataW H) → Nat
  | [] => 0
  | x :: r => uptoBulkEntry x + uptoBulkEntries r
def uptoBulkEntry {H : Type} : Lit × DataW H → Nat
  | (.string bytes, d) => bytes.length + uptoBulk d + 1
  | (_, d) => uptoBulk d + 1
 end
def uptoSmall : (H : Type) → List (DataW H) → Bool := fun _ ds => decide (uptoBulkAll ds ≤ 1048576)
def OpenSpec.upto (s : _root_.Go.ChangeSpec) : _root_.Go.OpenSpec := { _root_.Go.OpenSpec.ofChange s with cond := some uptoSmall }

/-- 'laws.FnExactGrayOrder', WHERE WHAT IT READS IS OF BULK AT MOST 1048576: true; the input reads as it did. -/
def fnExactGrayOrderUptoRow : OpenClaim := { program := "ytnpeooegbmljaaa", sum := "6813286fef22924b8c1c530d8db76f349bf263eb64ab92c5f2dacc0e256ece61", func := "loop.example/fpgatoolchain/laws.FnExactGrayOrder", spec := "fnExactGrayOrder", apart := false, narrowed := true }
def FnExactGrayOrderUptoSaid : Prop := fnExactGrayOrderUptoRow.holds Try.pinned (OpenSpec.upto fnExactGrayOrderSpec)

/-- 'laws.FnExactDefectsValid', WHERE WHAT IT READS IS OF BULK AT MOST 1048576: true; the input reads as it did. -/
def fnExactDefectsValidUptoRow : OpenClaim := { program := "ytnpeooegbmljaaa", sum := "6813286fef22924b8c1c530d8db76f349bf263eb64ab92c5f2dacc0e256ece61", func := "loop.example/fpgatoolchain/laws.FnExactDefectsValid", spec := "fnExactDefectsValid", apart := false, narrowed := true }
def FnExactDefectsValidUptoSaid : Prop := fnExactDefectsValidUptoRow.holds Try.pinned (OpenSpec.upto fnExactDefectsValidSpec)

/-- 'laws.FnGrayNeighbours', WHERE WHAT IT READS IS OF BULK AT MOST 1048576: true; the input reads as it did. -/
def fnGrayNeighboursUptoRow : OpenClaim := { program := "ytnpeooegbmljaaa", sum := "6813286fef22924b8c1c530d8db76f349bf263eb64ab92c5f2dacc0e256ece61", func := "loop.example/fpgatoolchain/laws.FnGrayNeighbours", spec := "fnGrayNeighbours", apart := false, narrowed := true }
def FnGrayNeighboursUptoSaid : Prop := fnGrayNeighboursUptoRow.holds Try.pinned (OpenSpec.upto fnGrayNeighboursSpec)

/-- 'laws.FnGrayOrder', WHERE WHAT IT READS IS OF BULK AT MOST 1048576: true; the input reads as it did. -/
def fnGrayOrderUptoRow : OpenClaim := { program := "ytnpeooegbmljaaa", sum := "6813286fef22924b8c1c530d8db76f349bf263eb64ab92c5f2dacc0e256ece61", func := "loop.example/fpgatoolchain/laws.FnGrayOrder", spec := "fnGrayOrder", apart := false, narrowed := true }
def FnGrayOrderUptoSaid : Prop := fnGrayOrderUptoRow.holds Try.pinned (OpenSpec.upto fnGrayOrderSpec)

/-- 'laws.FnDefectsValid', WHERE WHAT IT READS IS OF BULK AT MOST 1048576: true; the input reads as it did. -/
def fnDefectsValidUptoRow : OpenClaim := { program := "ytnpeooegbmljaaa", sum := "6813286fef22924b8c1c530d8db76f349bf263eb64ab92c5f2dacc0e256ece61", func := "loop.example/fpgatoolchain/laws.FnDefectsValid", spec := "fnDefectsValid", apart := false, narrowed := true }
def FnDefectsValidUptoSaid : Prop := fnDefectsValidUptoRow.holds Try.pinned (OpenSpec.upto fnDefectsValidSpec)

/-- 'laws.FnGrayActivity', WHERE WHAT IT READS IS OF BULK AT MOST 1048576: true; the input reads as it did. -/
def fnGrayActivityUptoRow : OpenClaim := { program := "ytnpeooegbmljaaa", sum := "6813286fef22924b8c1c530d8db76f349bf263eb64ab92c5f2dacc0e256ece61", func := "loop.example/fpgatoolchain/laws.FnGrayActivity", spec := "fnGrayActivity", apart := false, narrowed := true }
def FnGrayActivityUptoSaid : Prop := fnGrayActivityUptoRow.holds Try.pinned (OpenSpec.upto fnGrayActivitySpec)

/-- 'laws.FnExactShiftRegister', WHERE WHAT IT READS IS OF BULK AT MOST 1048576: true; the input reads as it did. -/
def fnExactShiftRegisterUptoRow : OpenClaim := { program := "ytnpeooegbmljaaa", sum := "6813286fef22924b8c1c530d8db76f349bf263eb64ab92c5f2dacc0e256ece61", func := "loop.example/fpgatoolchain/laws.FnExactShiftRegister", spec := "fnExactShiftRegister", apart := false, narrowed := true }
def FnExactShiftRegisterUptoSaid : Prop := fnExactShiftRegisterUptoRow.holds Try.pinned (OpenSpec.upto fnExactShiftRegisterSpec)

end Rows
end Go.Proofs.Ytnpeooegbmljaaa
