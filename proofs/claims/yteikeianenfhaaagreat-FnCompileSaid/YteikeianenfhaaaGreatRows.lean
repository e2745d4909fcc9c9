/-
  No cell of these rows narrows 'for every input' (looked for: loops, veiled, ifaces, maps, wideKeys, modest, calm, conditions, laid).
  DERIVED. THE GIVEN ROWS OF THIS SEAT. 9 by the template 'for every input the law returns true; each argument reads behind the call as it read before'; 0 by the template 'total and deterministic' (their statements: YteikeianenfhaaaGreatTotals.lean).
  GIVEN WITH THE SEED: the statements are not yours to turn. If you find one false, say at which input.
  Laid BY PROGRAM, IN A SANDBOX (cutbox-rows.mjs): the forced cells as the released guide's own fill.sh prints them over the translation bcb791fbc2238a83… (all of the seat's roots in one cut). By AI agents, Wed Nov 11 2026. No macro, syntax, notation, axiom, sorry.
-/
import Derived.Test.YteikeianenfhaaaGreatChecked
import GoSem.Claim
import GoSem.ClaimJoined
import GoSem.ClaimMapViews
import Derived.JoinedTies
import Derived.KernelRfl
namespace Go.Proofs.YteikeianenfhaaaGreat
/- THE CELL 'sum', in the pinned program and in every row, IS THE sha256 OF THE DUMP (.gsa) THAT YteikeianenfhaaaGreatProg.lean LOADS. Nothing in Lean hashes anything: it is a label: what it is worth is what the hold of that sum in a sandbox is worth. -/
noncomputable def Tryz.pinned : Pinned := { name := "yteikeianenfhaaagreat", sum := "bcb791fbc2238a83dc9b428cb8db9fe23bec0c205c731c91ce6177a8a6bfd3e7", checked := Tryz.checked }
namespace Rows
def none {H : Type} : Left H := { results := [], args := [] }

/-- 'laws.FnConfigureAround': WHATEVER THE INPUT: true; the input reads as it did. -/
def fnConfigureAroundSpec : ChangeSpec := { name := "fnConfigureAround", fn := fun _ => fun
  | [d1, d2] => { results := [.lit (.bool true)], args := [d1, d2] }
  | _ => none }
def fnConfigureAroundRow : OpenClaim := { program := "yteikeianenfhaaagreat", sum := "bcb791fbc2238a83dc9b428cb8db9fe23bec0c205c731c91ce6177a8a6bfd3e7", func := "loop.example/fpgatoolchain/laws.FnConfigureAround", spec := "fnConfigureAround", unfollowed := true, recurses := true, plainKeys := false, apart := false }
def FnConfigureAroundSaid : Prop := fnConfigureAroundRow.holds Tryz.pinned (OpenSpec.ofChange fnConfigureAroundSpec)

/-- ITS FALSE NEIGHBOUR: 'it returns false'. Refute it at one input. -/
def fnConfigureAroundWrong : ChangeSpec := { name := "fnConfigureAround", fn := fun _ => fun
  | [d1, d2] => { results := [.lit (.bool false)], args := [d1, d2] }
  | _ => none }
def FnConfigureAroundWrongFalsely : Prop := fnConfigureAroundRow.holds Tryz.pinned (OpenSpec.ofChange fnConfigureAroundWrong)

/-- 'laws.FnExactCompile': WHATEVER THE INPUT: true; the input reads as it did. -/
def fnExactCompileSpec : ChangeSpec := { name := "fnExactCompile", fn := fun _ => fun
  | [d] => { results := [.lit (.bool true)], args := [d] }
  | _ => none }
def fnExactCompileRow : OpenClaim := { program := "yteikeianenfhaaagreat", sum := "bcb791fbc2238a83dc9b428cb8db9fe23bec0c205c731c91ce6177a8a6bfd3e7", func := "loop.example/fpgatoolchain/laws.FnExactCompile", spec := "fnExactCompile", unfollowed := true, recurses := true, plainKeys := false, apart := false }
def FnExactCompileSaid : Prop := fnExactCompileRow.holds Tryz.pinned (OpenSpec.ofChange fnExactCompileSpec)

/-- ITS FALSE NEIGHBOUR: 'it returns false'. Refute it at one input. -/
def fnExactCompileWrong : ChangeSpec := { name := "fnExactCompile", fn := fun _ => fun
  | [d] => { results := [.lit (.bool false)], args := [d] }
  | _ => none }
def FnExactCompileWrongFalsely : Prop := fnExactCompileRow.holds Tryz.pinned (OpenSpec.ofChange fnExactCompileWrong)

/-- 'laws.FnCompile': WHATEVER THE INPUT: true; the input reads as it did. -/
def fnCompileSpec : ChangeSpec := { name := "fnCompile", fn := fun _ => fun
  | [d] => { results := [.lit (.bool true)], args := [d] }
  | _ => none }
def fnCompileRow : OpenClaim := { program := "yteikeianenfhaaagreat", sum := "bcb791fbc2238a83dc9b428cb8db9fe23bec0c205c731c91ce6177a8a6bfd3e7", func := "loop.example/fpgatoolchain/laws.FnCompile", spec := "fnCompile", unfollowed := true, recurses := true, plainKeys := false, apart := false }
def FnCompileSaid : Prop := fnCompileRow.holds Tryz.pinned (OpenSpec.ofChange fnCompileSpec)

/-- ITS FALSE NEIGHBOUR: 'it returns false'. Refute it at one input. -/
def fnCompileWrong : ChangeSpec := { name := "fnCompile", fn := fun _ => fun
  | [d] => { results := [.lit (.bool false)], args := [d] }
  | _ => none }
def FnCompileWrongFalsely : Prop := fnCompileRow.holds Tryz.pinned (OpenSpec.ofChange fnCompileWrong)

/-- 'laws.FnArrivals': WHATEVER THE INPUT: true; the input reads as it did. -/
def fnArrivalsSpec : ChangeSpec := { name := "fnArrivals", fn := fun _ => fun
  | [d] => { results := [.lit (.bool true)], args := [d] }
  | _ => none }
def fnArrivalsRow : OpenClaim := { program := "yteikeianenfhaaagreat", sum := "bcb791fbc2238a83dc9b428cb8db9fe23bec0c205c731c91ce6177a8a6bfd3e7", func := "loop.example/fpgatoolchain/laws.FnArrivals", spec := "fnArrivals", unfollowed := true, recurses := true, plainKeys := false, apart := false }
def FnArrivalsSaid : Prop := fnArrivalsRow.holds Tryz.pinned (OpenSpec.ofChange fnArrivalsSpec)

/-- ITS FALSE NEIGHBOUR: 'it returns false'. Refute it at one input. -/
def fnArrivalsWrong : ChangeSpec := { name := "fnArrivals", fn := fun _ => fun
  | [d] => { results := [.lit (.bool false)], args := [d] }
  | _ => none }
def FnArrivalsWrongFalsely : Prop := fnArrivalsRow.holds Tryz.pinned (OpenSpec.ofChange fnArrivalsWrong)

/-- 'laws.FnGenerated': WHATEVER THE INPUT: true; the input reads as it did. -/
def fnGeneratedSpec : ChangeSpec := { name := "fnGenerated", fn := fun _ => fun
  | [d] => { results := [.lit (.bool true)], args := [d] }
  | _ => none }
def fnGeneratedRow : OpenClaim := { program := "yteikeianenfhaaagreat", sum := "bcb791fbc2238a83dc9b428cb8db9fe23bec0c205c731c91ce6177a8a6bfd3e7", func := "loop.example/fpgatoolchain/laws.FnGenerated", spec := "fnGenerated", unfollowed := true, recurses := true, plainKeys := false, apart := false }
def FnGeneratedSaid : Prop := fnGeneratedRow.holds Tryz.pinned (OpenSpec.ofChange fnGeneratedSpec)

/-- ITS FALSE NEIGHBOUR: 'it returns false'. Refute it at one input. -/
def fnGeneratedWrong : ChangeSpec := { name := "fnGenerated", fn := fun _ => fun
  | [d] => { results := [.lit (.bool false)], args := [d] }
  | _ => none }
def FnGeneratedWrongFalsely : Prop := fnGeneratedRow.holds Tryz.pinned (OpenSpec.ofChange fnGeneratedWrong)

/-- 'laws.FnExactConfigure': WHATEVER THE INPUT: true; the input reads as it did. -/
def fnExactConfigureSpec : ChangeSpec := { name := "fnExactConfigure", fn := fun _ => fun
  | [d] => { results := [.lit (.bool true)], args := [d] }
  | _ => none }
def fnExactConfigureRow : OpenClaim := { program := "yteikeianenfhaaagreat", sum := "bcb791fbc2238a83dc9b428cb8db9fe23bec0c205c731c91ce6177a8a6bfd3e7", func := "loop.example/fpgatoolchain/laws.FnExactConfigure", spec := "fnExactConfigure", unfollowed := true, recurses := true, plainKeys := false, apart := false }
def FnExactConfigureSaid : Prop := fnExactConfigureRow.holds Tryz.pinned (OpenSpec.ofChange fnExactConfigureSpec)

/-- ITS FALSE NEIGHBOUR: 'it returns false'. Refute it at one input. -/
def fnExactConfigureWrong : ChangeSpec := { name := "fnExactConfigure", fn := fun _ => fun
  | [d] => { results := [.lit (.bool false)], args := [d] }
  | _ => none }
def FnExactConfigureWrongFalsely : Prop := fnExactConfigureRow.holds Tryz.pinned (OpenSpec.ofChange fnExactConfigureWrong)

/-- 'laws.FnAcyclic': WHATEVER THE INPUT: true; the input reads as it did. -/
def fnAcyclicSpec : ChangeSpec := { name := "fnAcyclic", fn := fun _ => fun
  | [d] => { results := [.lit (.bool true)], args := [d] }
  | _ => none }
def fnAcyclicRow : OpenClaim := { program := "yteikeianenfhaaagreat", sum := "bcb791fbc2238a83dc9b428cb8db9fe23bec0c205c731c91ce6177a8a6bfd3e7", func := "loop.example/fpgatoolchain/laws.FnAcyclic", spec := "fnAcyclic", unfollowed := true, recurses := true, plainKeys := false, apart := false }
def FnAcyclicSaid : Prop := fnAcyclicRow.holds Tryz.pinned (OpenSpec.ofChange fnAcyclicSpec)

/-- ITS FALSE NEIGHBOUR: 'it returns false'. Refute it at one input. -/
def fnAcyclicWrong : ChangeSpec := { name := "fnAcyclic", fn := fun _ => fun
  | [d] => { results := [.lit (.bool false)], args := [d] }
  | _ => none }
def FnAcyclicWrongFalsely : Prop := fnAcyclicRow.holds Tryz.pinned (OpenSpec.ofChange fnAcyclicWrong)

/-- 'laws.FnExactConfigureAround': WHATEVER THE INPUT: true; the input reads as it did. -/
def fnExactConfigureAroundSpec : ChangeSpec := { name := "fnExactConfigureAround", fn := fun _ => fun
  | [d1, d2] => { results := [.lit (.bool true)], args := [d1, d2] }
  | _ => none }
def fnExactConfigureAroundRow : OpenClaim := { program := "yteikeianenfhaaagreat", sum := "bcb791fbc2238a83dc9b428cb8db9fe23bec0c205c731c91ce6177a8a6bfd3e7", func := "loop.example/fpgatoolchain/laws.FnExactConfigureAround", spec := "fnExactConfigureAround", unfollowed := true, recurses := true, plainKeys := false, apart := false }
def FnExactConfigureAroundSaid : Prop := fnExactConfigureAroundRow.holds Tryz.pinned (OpenSpec.ofChange fnExactConfigureAroundSpec)

/-- ITS FALSE NEIGHBOUR: 'it returns false'. Refute it at one input. -/
def fnExactConfigureAroundWrong : ChangeSpec := { name := "fnExactConfigureAround", fn := fun _ => fun
  | [d1, d2] => { results := [.lit (.bool false)], args := [d1, d2] }
  | _ => none }
def FnExactConfigureAroundWrongFalsely : Prop := fnExactConfigureAroundRow.holds Tryz.pinned (OpenSpec.ofChange fnExactConfigureAroundWrong)

/-- 'laws.FnConfigure': WHATEVER THE INPUT: true; the input reads as it did. -/
def fnConfigureSpec : ChangeSpec := { name := "fnConfigure", fn := fun _ => fun
  | [d] => { results := [.lit (.bool true)], args := [d] }
  | _ => none }
def fnConfigureRow : OpenClaim := { program := "yteikeianenfhaaagreat", sum := "bcb791fbc2238a83dc9b428cb8db9fe23bec0c205c731c91ce6177a8a6bfd3e7", func := "loop.example/fpgatoolchain/laws.FnConfigure", spec := "fnConfigure", unfollowed := true, recurses := true, plainKeys := false, apart := false }
def FnConfigureSaid : Prop := fnConfigureRow.holds Tryz.pinned (OpenSpec.ofChange fnConfigureSpec)

/-- ITS FALSE NEIGHBOUR: 'it returns false'. Refute it at one input. -/
def fnConfigureWrong : ChangeSpec := { name := "fnConfigure", fn := fun _ => fun
  | [d] => { results := [.lit (.bool false)], args := [d] }
  | _ => none }
def FnConfigureWrongFalsely : Prop := fnConfigureRow.holds Tryz.pinned (OpenSpec.ofChange fnConfigureWrong)

/- THE SECOND FORM. 'bulk': how many values and letters a reading holds, each counted each time it is reached (what is shared counts as often as it is met; a slice's spare places count too). A statement '..UptoSaid' is the law's where the arguments, and the package variables that the reading takes, are together of bulk at most 1048576: NARROWER than '..Said'. Prove '..Said' where nothing that the law and all that it calls make is longer than what came in: it says more and counts as full. Else prove '..UptoSaid'. A law counts once. -/
mutual
def uptoBulk {H : Type} : DataW H → Nat
  | .lit (.string bytes) => bytes.length + 1
  | .lit _ => 1
  | .nil => 1
  | .ptr d => uptoBulk d + 1
  | .slice elems spare => uptoBulkAll elems + uptoBulkAll spare + 1
  | .agg parts => uptoBulkAll parts + 1
  | .iface _ d => uptoBulk d + 1
  | .map entries => uptoBulkEntries entries + 1
  | .held _ => 1
def uptoBulkAll {H : Type} : List (DataW H) → Nat
  | [] => 0
  | d :: r => uptoBulk d + uptoBulkAll r
def uptoBulkEntries {H : Type} : List (Lit × DataW H) → Nat
  | [] => 0
  | x :: r => uptoBulkEntry x + uptoBulkEntries r
def uptoBulkEntry {H : Type} : Lit × DataW H → Nat
  | (.string bytes, d) => bytes.length + uptoBulk d + 1
  | (_, d) => uptoBulk d + 1
 end
def uptoSmall : (H : Type) → List (DataW H) → Bool := fun _ ds => decide (uptoBulkAll ds ≤ 1048576)
def OpenSpec.upto (s : _root_.Go.ChangeSpec) : _root_.Go.OpenSpec := { _root_.Go.OpenSpec.ofChange s with cond := some uptoSmall }

/-- 'laws.FnConfigureAround', WHERE WHAT IT READS IS OF BULK AT MOST 1048576: true; the input reads as it did. -/
def fnConfigureAroundUptoRow : OpenClaim := { program := "yteikeianenfhaaagreat", sum := "bcb791fbc2238a83dc9b428cb8db9fe23bec0c205c731c91ce6177a8a6bfd3e7", func := "loop.example/fpgatoolchain/laws.FnConfigureAround", spec := "fnConfigureAround", unfollowed := true, recurses := true, plainKeys := false, apart := false, narrowed := true }
def FnConfigureAroundUptoSaid : Prop := fnConfigureAroundUptoRow.holds Tryz.pinned (OpenSpec.upto fnConfigureAroundSpec)

/-- 'laws.FnExactCompile', WHERE WHAT IT READS IS OF BULK AT MOST 1048576: true; the input reads as it did. -/
def fnExactCompileUptoRow : OpenClaim := { program := "yteikeianenfhaaagreat", sum := "bcb791fbc2238a83dc9b428cb8db9fe23bec0c205c731c91ce6177a8a6bfd3e7", func := "loop.example/fpgatoolchain/laws.FnExactCompile", spec := "fnExactCompile", unfollowed := true, recurses := true, plainKeys := false, apart := false, narrowed := true }
def FnExactCompileUptoSaid : Prop := fnExactCompileUptoRow.holds Tryz.pinned (OpenSpec.upto fnExactCompileSpec)

/-- 'laws.FnCompile', WHERE WHAT IT READS IS OF BULK AT MOST 1048576: true; the input reads as it did. -/
def fnCompileUptoRow : OpenClaim := { program := "yteikeianenfhaaagreat", sum := "bcb791fbc2238a83dc9b428cb8db9fe23bec0c205c731c91ce6177a8a6bfd3e7", func := "loop.example/fpgatoolchain/laws.FnCompile", spec := "fnCompile", unfollowed := true, recurses := true, plainKeys := false, apart := false, narrowed := true }
def FnCompileUptoSaid : Prop := fnCompileUptoRow.holds Tryz.pinned (OpenSpec.upto fnCompileSpec)

/-- 'laws.FnArrivals', WHERE WHAT IT READS IS OF BULK AT MOST 1048576: true; the input reads as it did. -/
def fnArrivalsUptoRow : OpenClaim := { program := "yteikeianenfhaaagreat", sum := "bcb791fbc2238a83dc9b428cb8db9fe23bec0c205c731c91ce6177a8a6bfd3e7", func := "loop.example/fpgatoolchain/laws.FnArrivals", spec := "fnArrivals", unfollowed := true, recurses := true, plainKeys := false, apart := false, narrowed := true }
def FnArrivalsUptoSaid : Prop := fnArrivalsUptoRow.holds Tryz.pinned (OpenSpec.upto fnArrivalsSpec)

/-- 'laws.FnGenerated', WHERE WHAT IT READS IS OF BULK AT MOST 1048576: true; the input reads as it did. -/
def fnGeneratedUptoRow : OpenClaim := { program := "yteikeianenfhaaagreat", sum := "bcb791fbc2238a83dc9b428cb8db9fe23bec0c205c731c91ce6177a8a6bfd3e7", func := "loop.example/fpgatoolchain/laws.FnGenerated", spec := "fnGenerated", unfollowed := true, recurses := true, plainKeys := false, apart := false, narrowed := true }
def FnGeneratedUptoSaid : Prop := fnGeneratedUptoRow.holds Tryz.pinned (OpenSpec.upto fnGeneratedSpec)

/-- 'laws.FnExactConfigure', WHERE WHAT IT READS IS OF BULK AT MOST 1048576: true; the input reads as it did. -/
def fnExactConfigureUptoRow : OpenClaim := { program := "yteikeianenfhaaagreat", sum := "bcb791fbc2238a83dc9b428cb8db9fe23bec0c205c731c91ce6177a8a6bfd3e7", func := "loop.example/fpgatoolchain/laws.FnExactConfigure", spec := "fnExactConfigure", unfollowed := true, recurses := true, plainKeys := false, apart := false, narrowed := true }
def FnExactConfigureUptoSaid : Prop := fnExactConfigureUptoRow.holds Tryz.pinned (OpenSpec.upto fnExactConfigureSpec)

/-- 'laws.FnAcyclic', WHERE WHAT IT READS IS OF BULK AT MOST 1048576: true; the input reads as it did. -/
def fnAcyclicUptoRow : OpenClaim := { program := "yteikeianenfhaaagreat", sum := "bcb791fbc2238a83dc9b428cb8db9fe23bec0c205c731c91ce6177a8a6bfd3e7", func := "loop.example/fpgatoolchain/laws.FnAcyclic", spec := "fnAcyclic", unfollowed := true, recurses := true, plainKeys := false, apart := false, narrowed := true }
def FnAcyclicUptoSaid : Prop := fnAcyclicUptoRow.holds Tryz.pinned (OpenSpec.upto fnAcyclicSpec)

/-- 'laws.FnExactConfigureAround', WHERE WHAT IT READS IS OF BULK AT MOST 1048576: true; the input reads as it did. -/
def fnExactConfigureAroundUptoRow : OpenClaim := { program := "yteikeianenfhaaagreat", sum := "bcb791fbc2238a83dc9b428cb8db9fe23bec0c205c731c91ce6177a8a6bfd3e7", func := "loop.example/fpgatoolchain/laws.FnExactConfigureAround", spec := "fnExactConfigureAround", unfollowed := true, recurses := true, plainKeys := false, apart := false, narrowed := true }
def FnExactConfigureAroundUptoSaid : Prop := fnExactConfigureAroundUptoRow.holds Tryz.pinned (OpenSpec.upto fnExactConfigureAroundSpec)

/-- 'laws.FnConfigure', WHERE WHAT IT READS IS OF BULK AT MOST 1048576: true; the input reads as it did. -/
def fnConfigureUptoRow : OpenClaim := { program := "yteikeianenfhaaagreat", sum := "bcb791fbc2238a83dc9b428cb8db9fe23bec0c205c731c91ce6177a8a6bfd3e7", func := "loop.example/fpgatoolchain/laws.FnConfigure", spec := "fnConfigure", unfollowed := true, recurses := true, plainKeys := false, apart := false, narrowed := true }
def FnConfigureUptoSaid : Prop := fnConfigureUptoRow.holds Tryz.pinned (OpenSpec.upto fnConfigureSpec)

end Rows
end Go.Proofs.YteikeianenfhaaaGreat
