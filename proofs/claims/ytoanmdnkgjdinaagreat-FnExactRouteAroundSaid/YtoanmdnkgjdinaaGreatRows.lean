/-
  No cell of these rows narrows 'for every input' (looked for: loops, veiled, ifaces, maps, wideKeys, modest, calm, conditions, laid).
  DERIVED. THE GIVEN ROWS OF THIS SEAT. 4 by the template 'for every input the law returns true; each argument reads behind the call as it read before'; 0 by the template 'total and deterministic' (their statements: YtoanmdnkgjdinaaGreatTotals.lean).
  GIVEN WITH THE SEED: the statements are not yours to turn. If you find one false, say at which input.
  Laid BY PROGRAM, IN A SANDBOX (cutbox-rows.mjs): the forced cells as the released guide's own fill.sh prints them over the translation 3ba5b863dbcd3599… (all of the seat's roots in one cut). By AI agents, Wed Nov 11 2026. No macro, syntax, notation, axiom, sorry.
-/
import Derived.Test.YtoanmdnkgjdinaaGreatChecked
import GoSem.Claim
import GoSem.ClaimJoined
import GoSem.ClaimMapViews
import Derived.JoinedTies
import Derived.KernelRfl
namespace Go.Proofs.YtoanmdnkgjdinaaGreat
/- THE CELL 'sum', in the pinned program and in every row, IS THE sha256 OF THE DUMP (.gsa) THAT YtoanmdnkgjdinaaGreatProg.lean LOADS. Nothing in Lean hashes anything: it is a label: what it is worth is what the hold of that sum in a sandbox is worth. -/
noncomputable def Tryz.pinned : Pinned := { name := "ytoanmdnkgjdinaagreat", sum := "3ba5b863dbcd359990078f72a567563a03fbd76b638bd0bf3cdf951d169f7423", checked := Tryz.checked }
namespace Rows
def none {H : Type} : Left H := { results := [], args := [] }

/-- 'laws.FnExactArrivals': WHATEVER THE INPUT: true; the input reads as it did. -/
def fnExactArrivalsSpec : ChangeSpec := { name := "fnExactArrivals", fn := fun _ => fun
  | [d1, d2] => { results := [.lit (.bool true)], args := [d1, d2] }
  | _ => none }
def fnExactArrivalsRow : OpenClaim := { program := "ytoanmdnkgjdinaagreat", sum := "3ba5b863dbcd359990078f72a567563a03fbd76b638bd0bf3cdf951d169f7423", func := "loop.example/fpgatoolchain/laws.FnExactArrivals", spec := "fnExactArrivals", unfollowed := true, recurses := true, plainKeys := false, apart := false }
def FnExactArrivalsSaid : Prop := fnExactArrivalsRow.holds Tryz.pinned (OpenSpec.ofChange fnExactArrivalsSpec)

/-- ITS FALSE NEIGHBOUR: 'it returns false'. Refute it at one input. -/
def fnExactArrivalsWrong : ChangeSpec := { name := "fnExactArrivals", fn := fun _ => fun
  | [d1, d2] => { results := [.lit (.bool false)], args := [d1, d2] }
  | _ => none }
def FnExactArrivalsWrongFalsely : Prop := fnExactArrivalsRow.holds Tryz.pinned (OpenSpec.ofChange fnExactArrivalsWrong)

/-- 'laws.FnExactRoute': WHATEVER THE INPUT: true; the input reads as it did. -/
def fnExactRouteSpec : ChangeSpec := { name := "fnExactRoute", fn := fun _ => fun
  | [d1, d2] => { results := [.lit (.bool true)], args := [d1, d2] }
  | _ => none }
def fnExactRouteRow : OpenClaim := { program := "ytoanmdnkgjdinaagreat", sum := "3ba5b863dbcd359990078f72a567563a03fbd76b638bd0bf3cdf951d169f7423", func := "loop.example/fpgatoolchain/laws.FnExactRoute", spec := "fnExactRoute", unfollowed := true, recurses := true, plainKeys := false, apart := false }
def FnExactRouteSaid : Prop := fnExactRouteRow.holds Tryz.pinned (OpenSpec.ofChange fnExactRouteSpec)

/-- ITS FALSE NEIGHBOUR: 'it returns false'. Refute it at one input. -/
def fnExactRouteWrong : ChangeSpec := { name := "fnExactRoute", fn := fun _ => fun
  | [d1, d2] => { results := [.lit (.bool false)], args := [d1, d2] }
  | _ => none }
def FnExactRouteWrongFalsely : Prop := fnExactRouteRow.holds Tryz.pinned (OpenSpec.ofChange fnExactRouteWrong)

/-- 'laws.FnArrivals': WHATEVER THE INPUT: true; the input reads as it did. -/
def fnArrivalsSpec : ChangeSpec := { name := "fnArrivals", fn := fun _ => fun
  | [d] => { results := [.lit (.bool true)], args := [d] }
  | _ => none }
def fnArrivalsRow : OpenClaim := { program := "ytoanmdnkgjdinaagreat", sum := "3ba5b863dbcd359990078f72a567563a03fbd76b638bd0bf3cdf951d169f7423", func := "loop.example/fpgatoolchain/laws.FnArrivals", spec := "fnArrivals", unfollowed := true, recurses := true, plainKeys := false, apart := false }
def FnArrivalsSaid : Prop := fnArrivalsRow.holds Tryz.pinned (OpenSpec.ofChange fnArrivalsSpec)

/-- ITS FALSE NEIGHBOUR: 'it returns false'. Refute it at one input. -/
def fnArrivalsWrong : ChangeSpec := { name := "fnArrivals", fn := fun _ => fun
  | [d] => { results := [.lit (.bool false)], args := [d] }
  | _ => none }
def FnArrivalsWrongFalsely : Prop := fnArrivalsRow.holds Tryz.pinned (OpenSpec.ofChange fnArrivalsWrong)

/-- 'laws.FnExactRouteAround': WHATEVER THE INPUT: true; the input reads as it did. -/
def fnExactRouteAroundSpec : ChangeSpec := { name := "fnExactRouteAround", fn := fun _ => fun
  | [d1, d2, d3] => { results := [.lit (.bool true)], args := [d1, d2, d3] }
  | _ => none }
def fnExactRouteAroundRow : OpenClaim := { program := "ytoanmdnkgjdinaagreat", sum := "3ba5b863dbcd359990078f72a567563a03fbd76b638bd0bf3cdf951d169f7423", func := "loop.example/fpgatoolchain/laws.FnExactRouteAround", spec := "fnExactRouteAround", unfollowed := true, recurses := true, plainKeys := false, apart := false }
def FnExactRouteAroundSaid : Prop := fnExactRouteAroundRow.holds Tryz.pinned (OpenSpec.ofChange fnExactRouteAroundSpec)

/-- ITS FALSE NEIGHBOUR: 'it returns false'. Refute it at one input. -/
def fnExactRouteAroundWrong : ChangeSpec := { name := "fnExactRouteAround", fn := fun _ => fun
  | [d1, d2, d3] => { results := [.lit (.bool false)], args := [d1, d2, d3] }
  | _ => none }
def FnExactRouteAroundWrongFalsely : Prop := fnExactRouteAroundRow.holds Tryz.pinned (OpenSpec.ofChange fnExactRouteAroundWrong)

/- THE SECOND FORM. 'bulk': how many values and letters a reading holds, each counted each time it is reached (what is shared counts as often as it is met; a slice's spare places count too). A statement '..UptoSaid' is the law's where the arguments, and the package variables that the reading takes, are together of bulk at most 1048576: NARROWER than '..Said'. Prove '..Said' where nothing that the law and all that it calls make is longer than what came in: it says more and counts as full. Else prove '..UptoSaid'. A law counts once. -/
mutual
def uptoBulk {H : Type} : DataW H → Nat
  | .lit (.string bytes) => bytes.length + 1
  | .lit _ => 1
  | .nil => 1
  | .ptr d => uptoBulk d + 1
  | .slice elems spare => uptoBulkAll elems + uptoBulkAll spare + 1
  | .agg parts => uptoBulkAll parts + 1
  | .iface _ d => uptoBulk d + 1
  | .map entries => uptoBulkEntries entries + 1
  | .held _ => 1
def uptoBulkAll {H : Type} : List (DataW H) → Nat
  | [] => 0
  | d :: r => uptoBulk d + uptoBulkAll r
def uptoBulkEntries {H : Type} : List (Lit × DataW H) → Nat
  | [] => 0
  | x :: r => uptoBulkEntry x + uptoBulkEntries r
def uptoBulkEntry {H : Type} : Lit × DataW H → Nat
  | (.string bytes, d) => bytes.length + uptoBulk d + 1
  | (_, d) => uptoBulk d + 1
 end
def uptoSmall : (H : Type) → List (DataW H) → Bool := fun _ ds => decide (uptoBulkAll ds ≤ 1048576)
def OpenSpec.upto (s : _root_.Go.ChangeSpec) : _root_.Go.OpenSpec := { _root_.Go.OpenSpec.ofChange s with cond := some uptoSmall }

/-- 'laws.FnExactArrivals', WHERE WHAT IT READS IS OF BULK AT MOST 1048576: true; the input reads as it did. -/
def fnExactArrivalsUptoRow : OpenClaim := { program := "ytoanmdnkgjdinaagreat", sum := "3ba5b863dbcd359990078f72a567563a03fbd76b638bd0bf3cdf951d169f7423", func := "loop.example/fpgatoolchain/laws.FnExactArrivals", spec := "fnExactArrivals", unfollowed := true, recurses := true, plainKeys := false, apart := false, narrowed := true }
def FnExactArrivalsUptoSaid : Prop := fnExactArrivalsUptoRow.holds Tryz.pinned (OpenSpec.upto fnExactArrivalsSpec)

/-- 'laws.FnExactRoute', WHERE WHAT IT READS IS OF BULK AT MOST 1048576: true; the input reads as it did. -/
def fnExactRouteUptoRow : OpenClaim := { program := "ytoanmdnkgjdinaagreat", sum := "3ba5b863dbcd359990078f72a567563a03fbd76b638bd0bf3cdf951d169f7423", func := "loop.example/fpgatoolchain/laws.FnExactRoute", spec := "fnExactRoute", unfollowed := true, recurses := true, plainKeys := false, apart := false, narrowed := true }
def FnExactRouteUptoSaid : Prop := fnExactRouteUptoRow.holds Tryz.pinned (OpenSpec.upto fnExactRouteSpec)

/-- 'laws.FnArrivals', WHERE WHAT IT READS IS OF BULK AT MOST 1048576: true; the input reads as it did. -/
def fnArrivalsUptoRow : OpenClaim := { program := "ytoanmdnkgjdinaagreat", sum := "3ba5b863dbcd359990078f72a567563a03fbd76b638bd0bf3cdf951d169f7423", func := "loop.example/fpgatoolchain/laws.FnArrivals", spec := "fnArrivals", unfollowed := true, recurses := true, plainKeys := false, apart := false, narrowed := true }
def FnArrivalsUptoSaid : Prop := fnArrivalsUptoRow.holds Tryz.pinned (OpenSpec.upto fnArrivalsSpec)

/-- 'laws.FnExactRouteAround', WHERE WHAT IT READS IS OF BULK AT MOST 1048576: true; the input reads as it did. -/
def fnExactRouteAroundUptoRow : OpenClaim := { program := "ytoanmdnkgjdinaagreat", sum := "3ba5b863dbcd359990078f72a567563a03fbd76b638bd0bf3cdf951d169f7423", func := "loop.example/fpgatoolchain/laws.FnExactRouteAround", spec := "fnExactRouteAround", unfollowed := true, recurses := true, plainKeys := false, apart := false, narrowed := true }
def FnExactRouteAroundUptoSaid : Prop := fnExactRouteAroundUptoRow.holds Tryz.pinned (OpenSpec.upto fnExactRouteAroundSpec)

end Rows
end Go.Proofs.YtoanmdnkgjdinaaGreat
