/- Contracts: the reference's optimization of circuits, as a whole. Conditions: none; lemmas. -/
import Derived.Test.YtaegedoalbnafaaC34
set_option maxRecDepth 20000
set_option linter.unusedVariables false
set_option linter.unusedSimpArgs false
namespace Go.Proofs
open Go Go.VL

structure BdS where
  gates : List (Int × Int)
  m : List Int
def bdStep (c : Circ) (u : List Bool) (share : Bool) (i : Nat) (s : BdS) : BdS :=
  if u.getD i false then
    if share then ⟨(andR ⟨c.inputs, c.next, s.gates, []⟩ (lmap s.m (c.gates.getD i (0, 0)).1) (lmap s.m (c.gates.getD i (0, 0)).2)).1.gates, s.m ++ [(andR ⟨c.inputs, c.next, s.gates, []⟩ (lmap s.m (c.gates.getD i (0, 0)).1) (lmap s.m (c.gates.getD i (0, 0)).2)).2]⟩
    else ⟨s.gates ++ [(lmap s.m (c.gates.getD i (0, 0)).1, lmap s.m (c.gates.getD i (0, 0)).2)], s.m ++ [2 * ((cFst c : Int) + (s.gates.length : Int))]⟩
  else ⟨s.gates, s.m ++ [0]⟩
def bdSt (c : Circ) (u : List Bool) (share : Bool) : Nat → BdS
  | 0 => ⟨[], (List.range (cFst c)).map fun (v : Nat) => 2 * (v : Int)⟩
  | i + 1 => bdStep c u share i (bdSt c u share i)
def bdEnd (c : Circ) (share : Bool) : BdS := bdSt c (usdN c c.gates.length) share c.gates.length
def built (c : Circ) (share : Bool) : Circ := ⟨c.inputs, c.next.map (lmap (bdEnd c share).m), (bdEnd c share).gates, c.outs.map (lmap (bdEnd c share).m)⟩
structure BdOk (c : Circ) (i : Nat) (s : BdS) : Prop where
  ml : s.m.length = cFst c + i
  mb : ∀ x ∈ s.m, 0 ≤ x ∧ x < 2 * ((cFst c : Int) + (s.gates.length : Int))
  gl : s.gates.length ≤ i
end Go.Proofs
