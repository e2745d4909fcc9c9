/- Contracts: the builder of circuits. Conditions: none; lemmas. -/
import Derived.Test.YtaegedoalbnafaaC21
import Derived.Test.YtaegedoalbnafaaVM8
set_option maxRecDepth 20000
set_option linter.unusedVariables false
set_option linter.unusedSimpArgs false
namespace Go.Proofs
open Go Go.VL

/-! ### Gates without repetitions -/
/-- The last bit turned. -/
def flip (x : Int) : Int := if x % 2 = 0 then x + 1 else x - 1
theorem xor1_nat : ∀ m : Nat, m ^^^ 1 = if m % 2 = 0 then m + 1 else m - 1 := by
  intro m
  have h := Nat.div_add_mod m 2
  have hm : m % 2 < 2 := Nat.mod_lt _ (by omega)
  apply Nat.eq_of_testBit_eq
  intro i
  rw [Nat.testBit_xor]
  cases i with
  | zero =>
    simp only [Nat.testBit_zero]
    rcases Nat.mod_two_eq_zero_or_one m with h2 | h2
    · rw [if_pos h2, show (m + 1) % 2 = 1 by omega, h2]; rfl
    · rw [if_neg (by omega), show (m - 1) % 2 = 0 by omega, h2]; rfl
  | succ i =>
    have e1 : Nat.testBit 1 (i + 1) = false := by simp [Nat.testBit_succ]
    rw [e1, Bool.xor_false, Nat.testBit_succ, Nat.testBit_succ]
    congr 1
    split <;> omega
def idx2 (l : List (Int × Int)) (p : Int × Int) : Nat := l.findIdx (fun q => decide (q = p))
structure Bld where
  first : Nat
  gates : List (Int × Int)
  levels : List Int
def lo2 (x y : Int) : Int := if x > y then y else x
def hi2 (x y : Int) : Int := if x > y then x else y
def andG (first : Nat) (gates : List (Int × Int)) (x y : Int) : List (Int × Int) × Int :=
  if lo2 x y = 0 ∨ lo2 x y = flip (hi2 x y) then (gates, 0)
  else if lo2 x y = 1 ∨ lo2 x y = hi2 x y then (gates, hi2 x y)
  else if (lo2 x y, hi2 x y) ∈ gates then (gates, 2 * ((first : Int) + (idx2 gates (lo2 x y, hi2 x y) : Nat)))
  else (gates ++ [(lo2 x y, hi2 x y)], 2 * ((first : Int) + (gates.length : Nat)))
def Bld.and (b : Bld) (x y : Int) : Bld × Int :=
  (⟨b.first, (andG b.first b.gates x y).1, if (andG b.first b.gates x y).1.length = b.gates.length then b.levels else b.levels ++ [1 + max (b.levels.getD (lo2 x y / 2).toNat 0) (b.levels.getD (hi2 x y / 2).toNat 0)]⟩, (andG b.first b.gates x y).2)
structure Bld.Ok (b : Bld) : Prop where
  fst : 1 ≤ b.first
  len : b.levels.length = b.first + b.gates.length
  lev : ∀ l ∈ b.levels, 0 ≤ l ∧ l < b.levels.length
  lim : b.first + b.gates.length ≤ 1000000
end Go.Proofs
