/- Contracts: the exact laws of simulation. Conditions: none; lemmas. -/
import Derived.Test.YtaegedoalbnafaaC11
set_option maxRecDepth 20000
set_option linter.unusedVariables false
set_option linter.unusedSimpArgs false
namespace Go.Proofs
open Go Go.VL

theorem Try.shp_ints {f : Nat} (y : D) (h : shp Try.tyT (f + 2) 23 y) : ∃ l : List Int, y = dIs l :=
  shp_slice Try.ty23 Try.ty3 (fun y h => shp_int Try.ty3 h) h
theorem Try.shp_Gate {f : Nat} (y : D) (h : shp Try.tyT (f + 2) 140 y) : ∃ a : Int × Int, y = dP a := by
  obtain ⟨ys, rfl, k0⟩ := shp_struct Try.ty140 h
  obtain ⟨y1, r1, rfl, h1, k1⟩ := shpF_c k0
  obtain ⟨y2, r2, rfl, h2, k2⟩ := shpF_c k1
  obtain rfl := shpF_n k2
  obtain ⟨n, rfl⟩ := shp_int Try.ty3 h1
  obtain ⟨m, rfl⟩ := shp_int Try.ty3 h2
  exact ⟨(n, m), rfl⟩
theorem Try.shp_Gates {f : Nat} (y : D) (h : shp Try.tyT (f + 3) 49 y) : ∃ l : List (Int × Int), y = dPs l :=
  shp_slice Try.ty49 Try.ty140 Try.shp_Gate h
theorem Try.shp_Circuit {f : Nat} (y : D) (h : shp Try.tyT (f + 4) 51 y) : ∃ c : Circ, y = dC c := by
  obtain ⟨ys, rfl, k0⟩ := shp_struct Try.ty51 h
  obtain ⟨y1, r1, rfl, h1, k1⟩ := shpF_c k0
  obtain ⟨y2, r2, rfl, h2, k2⟩ := shpF_c k1
  obtain ⟨y3, r3, rfl, h3, k3⟩ := shpF_c k2
  obtain ⟨y4, r4, rfl, h4, k4⟩ := shpF_c k3
  obtain rfl := shpF_n k4
  obtain ⟨n, rfl⟩ := shp_int Try.ty3 h1
  obtain ⟨a, rfl⟩ := Try.shp_ints _ h2
  obtain ⟨b, rfl⟩ := Try.shp_Gates _ h3
  obtain ⟨d, rfl⟩ := Try.shp_ints _ h4
  exact ⟨⟨n, a, b, d⟩, rfl⟩
theorem Try.shp_bools {f : Nat} (y : D) (h : shp Try.tyT (f + 2) 33 y) : ∃ l : List Bool, y = dBs l :=
  shp_slice Try.ty33 Try.ty4 (fun y h => shp_bool Try.ty4 h) h
theorem Try.shp_boolss {f : Nat} (y : D) (h : shp Try.tyT (f + 3) 32 y) : ∃ l : List (List Bool), y = dBss l :=
  shp_slice Try.ty32 Try.ty33 Try.shp_bools h
end Go.Proofs
