/- Contracts: the reference's optimization of circuits. Conditions: none; lemmas. -/
import Derived.Test.YtaegedoalbnafaaC32
set_option maxRecDepth 20000
set_option linter.unusedVariables false
set_option linter.unusedSimpArgs false
namespace Go.Proofs
open Go Go.VL

def lmap (m : List Int) (l : Int) : Int := if l % 2 = 1 then flip (m.getD (l / 2).toNat 0) else m.getD (l / 2).toNat 0
def mrk (first : Int) (u : List Bool) (r : Int) : List Bool := if first ≤ r / 2 then u.set (r / 2 - first).toNat true else u
def mrkN (first : Int) (l : List Int) (u : List Bool) : Nat → List Bool
  | 0 => u
  | i + 1 => mrk first (mrkN first l u i) (l.getD i 0)
def usdI (c : Circ) (u : List Bool) (i : Nat) : Nat → List Bool
  | 0 => u
  | 1 => if u.getD i false then mrk c.first u (c.gates.getD i (0, 0)).1 else u
  | _ => if u.getD i false then mrk c.first (mrk c.first u (c.gates.getD i (0, 0)).1) (c.gates.getD i (0, 0)).2 else u
def usdN (c : Circ) : Nat → List Bool
  | 0 => mrkN c.first (c.outs ++ c.next) (List.replicate c.gates.length false) (c.outs ++ c.next).length
  | k + 1 => usdI c (usdN c k) (c.gates.length - 1 - k) 2
end Go.Proofs
