/- The table of the types of a translation, and that it is right. Made by a program. Conditions: none. -/
import Derived.Test.YtabdiinahgeghaaProg
import Derived.Test.YtabdiinahgeghaaVM8
import Derived.KernelRfl
set_option linter.unusedVariables false
namespace Go.Proofs
open Go.VL

def lookT (t : Nat) : List (Nat × TI) → Option TI
  | [] => none
  | (s, x) :: r => cond (Nat.beq s t) (some x) (lookT t r)
def AllT (P : Nat → TI → Prop) : List (Nat × TI) → Prop
  | [] => True
  | (s, x) :: r => P s x ∧ AllT P r
theorem lookT_ok {P : Nat → TI → Prop} {t : Nat} {ti : TI} : ∀ {l : List (Nat × TI)}, AllT P l → lookT t l = some ti → P t ti
  | [], _, h => by simp [lookT] at h
  | (s, x) :: r, ha, h => by
    simp only [lookT] at h
    cases e : Nat.beq s t with
    | true =>
      rw [e] at h
      cases h
      rw [Nat.eq_of_beq_eq_true e] at ha
      exact ha.1
    | false =>
      rw [e] at h
      exact lookT_ok ha.2 h

def Try.tyL : List (Nat × TI) := [
  (1, ⟨.func, 1, 8, .raw .nilFunc⟩),
  (2, ⟨.int .i64, 1, 8, .int .i64 0⟩),
  (3, ⟨.int .i64, 1, 8, .int .i64 0⟩),
  (4, ⟨.bool, 1, 1, .bool false⟩),
  (5, ⟨.int .u8, 1, 1, .int .u8 0⟩),
  (6, ⟨.int .u8, 1, 1, .int .u8 0⟩),
  (7, ⟨.struct [(0, 2), (1, 3), (2, 4), (3, 6)], 4, 24, .agg [.int .i64 0, .int .i64 0, .bool false, .int .u8 0]⟩),
  (8, ⟨.struct [(0, 2), (1, 3), (2, 4), (3, 6)], 4, 24, .agg [.int .i64 0, .int .i64 0, .bool false, .int .u8 0]⟩),
  (12, ⟨.int .u64, 1, 8, .int .u64 0⟩),
  (15, ⟨.ptr 150, 1, 8, .raw (.pointer none)⟩),
  (16, ⟨.ptr 153, 1, 8, .raw (.pointer none)⟩),
  (17, ⟨.ptr 163, 1, 8, .raw (.pointer none)⟩),
  (18, ⟨.struct [(0, 17)], 1, 8, .agg [.raw (.pointer none)]⟩),
  (19, ⟨.struct [(0, 17)], 1, 8, .agg [.raw (.pointer none)]⟩),
  (21, ⟨.int .i32, 1, 4, .int .i32 0⟩),
  (22, ⟨.slice 3, 1, 24, .nil⟩),
  (23, ⟨.slice 137, 1, 24, .nil⟩),
  (24, ⟨.struct [(0, 3), (1, 22), (2, 23), (3, 22)], 4, 80, .agg [.int .i64 0, .nil, .nil, .nil]⟩),
  (25, ⟨.struct [(0, 3), (1, 22), (2, 23), (3, 22)], 4, 80, .agg [.int .i64 0, .nil, .nil, .nil]⟩),
  (26, ⟨.slice 81, 1, 24, .nil⟩),
  (27, ⟨.func, 1, 8, .raw .nilFunc⟩),
  (28, ⟨.func, 1, 8, .raw .nilFunc⟩),
  (29, ⟨.func, 1, 8, .raw .nilFunc⟩),
  (30, ⟨.slice 134, 1, 24, .nil⟩),
  (31, ⟨.struct [(0, 3), (1, 22), (2, 30), (3, 22)], 4, 80, .agg [.int .i64 0, .nil, .nil, .nil]⟩),
  (32, ⟨.struct [(0, 3), (1, 22), (2, 30), (3, 22)], 4, 80, .agg [.int .i64 0, .nil, .nil, .nil]⟩),
  (33, ⟨.func, 1, 8, .raw .nilFunc⟩),
  (34, ⟨.func, 1, 8, .raw .nilFunc⟩),
  (35, ⟨.func, 1, 8, .raw .nilFunc⟩),
  (36, ⟨.func, 1, 8, .raw .nilFunc⟩),
  (37, ⟨.func, 1, 8, .raw .nilFunc⟩),
  (38, ⟨.func, 1, 8, .raw .nilFunc⟩),
  (39, ⟨.func, 1, 8, .raw .nilFunc⟩),
  (40, ⟨.func, 1, 8, .raw .nilFunc⟩),
  (41, ⟨.slice 117, 1, 24, .nil⟩),
  (42, ⟨.slice 125, 1, 24, .nil⟩),
  (43, ⟨.struct [(0, 41), (1, 42)], 2, 48, .agg [.nil, .nil]⟩),
  (44, ⟨.struct [(0, 41), (1, 42)], 2, 48, .agg [.nil, .nil]⟩),
  (45, ⟨.func, 1, 8, .raw .nilFunc⟩),
  (46, ⟨.slice 104, 1, 24, .nil⟩),
  (47, ⟨.func, 1, 8, .raw .nilFunc⟩),
  (48, ⟨.slice 101, 1, 24, .nil⟩),
  (49, ⟨.slice 123, 1, 24, .nil⟩),
  (50, ⟨.struct [(0, 48), (1, 49)], 2, 48, .agg [.nil, .nil]⟩),
  (51, ⟨.struct [(0, 48), (1, 49)], 2, 48, .agg [.nil, .nil]⟩),
  (52, ⟨.func, 1, 8, .raw .nilFunc⟩),
  (53, ⟨.func, 1, 8, .raw .nilFunc⟩),
  (54, ⟨.func, 1, 8, .raw .nilFunc⟩),
  (55, ⟨.func, 1, 8, .raw .nilFunc⟩),
  (56, ⟨.func, 1, 8, .raw .nilFunc⟩),
  (57, ⟨.func, 1, 8, .raw .nilFunc⟩),
  (58, ⟨.slice 114, 1, 24, .nil⟩),
  (59, ⟨.func, 1, 8, .raw .nilFunc⟩),
  (60, ⟨.func, 1, 8, .raw .nilFunc⟩),
  (61, ⟨.slice 112, 1, 24, .nil⟩),
  (62, ⟨.func, 1, 8, .raw .nilFunc⟩),
  (63, ⟨.func, 1, 8, .raw .nilFunc⟩),
  (64, ⟨.func, 1, 8, .raw .nilFunc⟩),
  (65, ⟨.func, 1, 8, .raw .nilFunc⟩),
  (66, ⟨.slice 119, 1, 24, .nil⟩),
  (67, ⟨.func, 1, 8, .raw .nilFunc⟩),
  (68, ⟨.func, 1, 8, .raw .nilFunc⟩),
  (69, ⟨.func, 1, 8, .raw .nilFunc⟩),
  (70, ⟨.func, 1, 8, .raw .nilFunc⟩),
  (71, ⟨.func, 1, 8, .raw .nilFunc⟩),
  (72, ⟨.func, 1, 8, .raw .nilFunc⟩),
  (73, ⟨.func, 1, 8, .raw .nilFunc⟩),
  (74, ⟨.func, 1, 8, .raw .nilFunc⟩),
  (75, ⟨.slice 51, 1, 24, .nil⟩),
  (76, ⟨.func, 1, 8, .raw .nilFunc⟩),
  (77, ⟨.func, 1, 8, .raw .nilFunc⟩),
  (78, ⟨.func, 1, 8, .raw .nilFunc⟩),
  (79, ⟨.func, 1, 8, .raw .nilFunc⟩),
  (80, ⟨.func, 1, 8, .raw .nilFunc⟩),
  (81, ⟨.slice 4, 1, 24, .nil⟩),
  (82, ⟨.func, 1, 8, .raw .nilFunc⟩),
  (83, ⟨.func, 1, 8, .raw .nilFunc⟩),
  (84, ⟨.func, 1, 8, .raw .nilFunc⟩),
  (85, ⟨.func, 1, 8, .raw .nilFunc⟩),
  (86, ⟨.func, 1, 8, .raw .nilFunc⟩),
  (87, ⟨.func, 1, 8, .raw .nilFunc⟩),
  (88, ⟨.func, 1, 8, .raw .nilFunc⟩),
  (89, ⟨.func, 1, 8, .raw .nilFunc⟩),
  (90, ⟨.func, 1, 8, .raw .nilFunc⟩),
  (91, ⟨.ptr 32, 1, 8, .raw (.pointer none)⟩),
  (92, ⟨.func, 1, 8, .raw .nilFunc⟩),
  (93, ⟨.func, 1, 8, .raw .nilFunc⟩),
  (94, ⟨.func, 1, 8, .raw .nilFunc⟩),
  (95, ⟨.func, 1, 8, .raw .nilFunc⟩),
  (96, ⟨.func, 1, 8, .raw .nilFunc⟩),
  (97, ⟨.func, 1, 8, .raw .nilFunc⟩),
  (98, ⟨.func, 1, 8, .raw .nilFunc⟩),
  (99, ⟨.func, 1, 8, .raw .nilFunc⟩),
  (100, ⟨.struct [(0, 3), (1, 22), (2, 4), (3, 22)], 4, 64, .agg [.int .i64 0, .nil, .bool false, .nil]⟩),
  (101, ⟨.struct [(0, 3), (1, 22), (2, 4), (3, 22)], 4, 64, .agg [.int .i64 0, .nil, .bool false, .nil]⟩),
  (102, ⟨.func, 1, 8, .raw .nilFunc⟩),
  (103, ⟨.struct [(0, 3), (1, 101)], 5, 72, .agg [.int .i64 0, .int .i64 0, .nil, .bool false, .nil]⟩),
  (104, ⟨.struct [(0, 3), (1, 101)], 5, 72, .agg [.int .i64 0, .int .i64 0, .nil, .bool false, .nil]⟩),
  (105, ⟨.func, 1, 8, .raw .nilFunc⟩),
  (106, ⟨.func, 1, 8, .raw .nilFunc⟩),
  (107, ⟨.func, 1, 8, .raw .nilFunc⟩),
  (108, ⟨.func, 1, 8, .raw .nilFunc⟩),
  (109, ⟨.func, 1, 8, .raw .nilFunc⟩),
  (110, ⟨.func, 1, 8, .raw .nilFunc⟩),
  (111, ⟨.struct [(0, 3), (1, 3)], 2, 16, .agg [.int .i64 0, .int .i64 0]⟩),
  (112, ⟨.struct [(0, 3), (1, 3)], 2, 16, .agg [.int .i64 0, .int .i64 0]⟩),
  (113, ⟨.func, 1, 8, .raw .nilFunc⟩),
  (114, ⟨.struct [(0, 3), (1, 3)], 2, 16, .agg [.int .i64 0, .int .i64 0]⟩),
  (115, ⟨.func, 1, 8, .raw .nilFunc⟩),
  (116, ⟨.func, 1, 8, .raw .nilFunc⟩),
  (117, ⟨.struct [(0, 3), (1, 22), (2, 4), (3, 22)], 4, 64, .agg [.int .i64 0, .nil, .bool false, .nil]⟩),
  (118, ⟨.struct [(0, 3), (1, 117)], 5, 72, .agg [.int .i64 0, .int .i64 0, .nil, .bool false, .nil]⟩),
  (119, ⟨.struct [(0, 3), (1, 117)], 5, 72, .agg [.int .i64 0, .int .i64 0, .nil, .bool false, .nil]⟩),
  (120, ⟨.func, 1, 8, .raw .nilFunc⟩),
  (121, ⟨.func, 1, 8, .raw .nilFunc⟩),
  (122, ⟨.struct [(0, 3), (1, 4)], 2, 16, .agg [.int .i64 0, .bool false]⟩),
  (123, ⟨.struct [(0, 3), (1, 4)], 2, 16, .agg [.int .i64 0, .bool false]⟩),
  (124, ⟨.func, 1, 8, .raw .nilFunc⟩),
  (125, ⟨.struct [(0, 3), (1, 4)], 2, 16, .agg [.int .i64 0, .bool false]⟩),
  (126, ⟨.func, 1, 8, .raw .nilFunc⟩),
  (127, ⟨.func, 1, 8, .raw .nilFunc⟩),
  (128, ⟨.func, 1, 8, .raw .nilFunc⟩),
  (129, ⟨.func, 1, 8, .raw .nilFunc⟩),
  (130, ⟨.func, 1, 8, .raw .nilFunc⟩),
  (131, ⟨.func, 1, 8, .raw .nilFunc⟩),
  (132, ⟨.func, 1, 8, .raw .nilFunc⟩),
  (133, ⟨.struct [(0, 3), (1, 3)], 2, 16, .agg [.int .i64 0, .int .i64 0]⟩),
  (134, ⟨.struct [(0, 3), (1, 3)], 2, 16, .agg [.int .i64 0, .int .i64 0]⟩),
  (135, ⟨.func, 1, 8, .raw .nilFunc⟩),
  (136, ⟨.func, 1, 8, .raw .nilFunc⟩),
  (137, ⟨.struct [(0, 3), (1, 3)], 2, 16, .agg [.int .i64 0, .int .i64 0]⟩),
  (138, ⟨.func, 1, 8, .raw .nilFunc⟩),
  (139, ⟨.func, 1, 8, .raw .nilFunc⟩),
  (140, ⟨.func, 1, 8, .raw .nilFunc⟩),
  (141, ⟨.func, 1, 8, .raw .nilFunc⟩),
  (142, ⟨.func, 1, 8, .raw .nilFunc⟩),
  (143, ⟨.func, 1, 8, .raw .nilFunc⟩),
  (144, ⟨.func, 1, 8, .raw .nilFunc⟩),
  (145, ⟨.func, 1, 8, .raw .nilFunc⟩),
  (146, ⟨.array 4 3, 4, 32, .agg [.int .i64 0, .int .i64 0, .int .i64 0, .int .i64 0]⟩),
  (147, ⟨.func, 1, 8, .raw .nilFunc⟩),
  (148, ⟨.func, 1, 8, .raw .nilFunc⟩),
  (154, ⟨.func, 1, 8, .raw .nilFunc⟩),
  (155, ⟨.int .u32, 1, 4, .int .u32 0⟩),
  (156, ⟨.int .u8, 1, 1, .int .u8 0⟩),
  (157, ⟨.int .u8, 1, 1, .int .u8 0⟩),
  (158, ⟨.func, 1, 8, .raw .nilFunc⟩),
  (159, ⟨.ptr 5, 1, 8, .raw (.pointer none)⟩),
  (160, ⟨.int .i32, 1, 4, .int .i32 0⟩),
  (161, ⟨.int .i32, 1, 4, .int .i32 0⟩),
  (162, ⟨.struct [(0, 12), (1, 12), (2, 155), (3, 156), (4, 5), (5, 5), (6, 157), (7, 158), (8, 159), (9, 160), (10, 161)], 11, 48, .agg [.int .u64 0, .int .u64 0, .int .u32 0, .int .u8 0, .int .u8 0, .int .u8 0, .int .u8 0, .raw .nilFunc, .raw (.pointer none), .int .i32 0, .int .i32 0]⟩),
  (163, ⟨.struct [(0, 12), (1, 12), (2, 155), (3, 156), (4, 5), (5, 5), (6, 157), (7, 158), (8, 159), (9, 160), (10, 161)], 11, 48, .agg [.int .u64 0, .int .u64 0, .int .u32 0, .int .u8 0, .int .u8 0, .int .u8 0, .int .u8 0, .raw .nilFunc, .raw (.pointer none), .int .i32 0, .int .i32 0]⟩)]
def Try.tyT : Nat → Option TI := fun t => lookT t Try.tyL

theorem Try.tok1 : TIOK Try.prog 1 ⟨.func, 1, 8, .raw .nilFunc⟩ := tiok_of (by kernel_rfl) (by kernel_rfl) (by kernel_rfl) (by kernel_rfl) (by kernel_rfl) (by kernel_rfl)
theorem Try.tok2 : TIOK Try.prog 2 ⟨.int .i64, 1, 8, .int .i64 0⟩ := tiok_of (by kernel_rfl) (by kernel_rfl) (by kernel_rfl) (by kernel_rfl) (by kernel_rfl) (by kernel_rfl)
theorem Try.tok3 : TIOK Try.prog 3 ⟨.int .i64, 1, 8, .int .i64 0⟩ := tiok_of (by kernel_rfl) (by kernel_rfl) (by kernel_rfl) (by kernel_rfl) (by kernel_rfl) (by kernel_rfl)
theorem Try.tok4 : TIOK Try.prog 4 ⟨.bool, 1, 1, .bool false⟩ := tiok_of (by kernel_rfl) (by kernel_rfl) (by kernel_rfl) (by kernel_rfl) (by kernel_rfl) (by kernel_rfl)
theorem Try.tok5 : TIOK Try.prog 5 ⟨.int .u8, 1, 1, .int .u8 0⟩ := tiok_of (by kernel_rfl) (by kernel_rfl) (by kernel_rfl) (by kernel_rfl) (by kernel_rfl) (by kernel_rfl)
theorem Try.tok6 : TIOK Try.prog 6 ⟨.int .u8, 1, 1, .int .u8 0⟩ := tiok_of (by kernel_rfl) (by kernel_rfl) (by kernel_rfl) (by kernel_rfl) (by kernel_rfl) (by kernel_rfl)
theorem Try.tok7 : TIOK Try.prog 7 ⟨.struct [(0, 2), (1, 3), (2, 4), (3, 6)], 4, 24, .agg [.int .i64 0, .int .i64 0, .bool false, .int .u8 0]⟩ := tiok_of (by kernel_rfl) (by kernel_rfl) (by kernel_rfl) (by kernel_rfl) (by kernel_rfl) (by kernel_rfl)
theorem Try.tok8 : TIOK Try.prog 8 ⟨.struct [(0, 2), (1, 3), (2, 4), (3, 6)], 4, 24, .agg [.int .i64 0, .int .i64 0, .bool false, .int .u8 0]⟩ := tiok_of (by kernel_rfl) (by kernel_rfl) (by kernel_rfl) (by kernel_rfl) (by kernel_rfl) (by kernel_rfl)
theorem Try.tok12 : TIOK Try.prog 12 ⟨.int .u64, 1, 8, .int .u64 0⟩ := tiok_of (by kernel_rfl) (by kernel_rfl) (by kernel_rfl) (by kernel_rfl) (by kernel_rfl) (by kernel_rfl)
theorem Try.tok15 : TIOK Try.prog 15 ⟨.ptr 150, 1, 8, .raw (.pointer none)⟩ := tiok_of (by kernel_rfl) (by kernel_rfl) (by kernel_rfl) (by kernel_rfl) (by kernel_rfl) (by kernel_rfl)
theorem Try.tok16 : TIOK Try.prog 16 ⟨.ptr 153, 1, 8, .raw (.pointer none)⟩ := tiok_of (by kernel_rfl) (by kernel_rfl) (by kernel_rfl) (by kernel_rfl) (by kernel_rfl) (by kernel_rfl)
theorem Try.tok17 : TIOK Try.prog 17 ⟨.ptr 163, 1, 8, .raw (.pointer none)⟩ := tiok_of (by kernel_rfl) (by kernel_rfl) (by kernel_rfl) (by kernel_rfl) (by kernel_rfl) (by kernel_rfl)
theorem Try.tok18 : TIOK Try.prog 18 ⟨.struct [(0, 17)], 1, 8, .agg [.raw (.pointer none)]⟩ := tiok_of (by kernel_rfl) (by kernel_rfl) (by kernel_rfl) (by kernel_rfl) (by kernel_rfl) (by kernel_rfl)
theorem Try.tok19 : TIOK Try.prog 19 ⟨.struct [(0, 17)], 1, 8, .agg [.raw (.pointer none)]⟩ := tiok_of (by kernel_rfl) (by kernel_rfl) (by kernel_rfl) (by kernel_rfl) (by kernel_rfl) (by kernel_rfl)
theorem Try.tok21 : TIOK Try.prog 21 ⟨.int .i32, 1, 4, .int .i32 0⟩ := tiok_of (by kernel_rfl) (by kernel_rfl) (by kernel_rfl) (by kernel_rfl) (by kernel_rfl) (by kernel_rfl)
theorem Try.tok22 : TIOK Try.prog 22 ⟨.slice 3, 1, 24, .nil⟩ := tiok_of (by kernel_rfl) (by kernel_rfl) (by kernel_rfl) (by kernel_rfl) (by kernel_rfl) (by kernel_rfl)
theorem Try.tok23 : TIOK Try.prog 23 ⟨.slice 137, 1, 24, .nil⟩ := tiok_of (by kernel_rfl) (by kernel_rfl) (by kernel_rfl) (by kernel_rfl) (by kernel_rfl) (by kernel_rfl)
theorem Try.tok24 : TIOK Try.prog 24 ⟨.struct [(0, 3), (1, 22), (2, 23), (3, 22)], 4, 80, .agg [.int .i64 0, .nil, .nil, .nil]⟩ := tiok_of (by kernel_rfl) (by kernel_rfl) (by kernel_rfl) (by kernel_rfl) (by kernel_rfl) (by kernel_rfl)
theorem Try.tok25 : TIOK Try.prog 25 ⟨.struct [(0, 3), (1, 22), (2, 23), (3, 22)], 4, 80, .agg [.int .i64 0, .nil, .nil, .nil]⟩ := tiok_of (by kernel_rfl) (by kernel_rfl) (by kernel_rfl) (by kernel_rfl) (by kernel_rfl) (by kernel_rfl)
theorem Try.tok26 : TIOK Try.prog 26 ⟨.slice 81, 1, 24, .nil⟩ := tiok_of (by kernel_rfl) (by kernel_rfl) (by kernel_rfl) (by kernel_rfl) (by kernel_rfl) (by kernel_rfl)
theorem Try.tok27 : TIOK Try.prog 27 ⟨.func, 1, 8, .raw .nilFunc⟩ := tiok_of (by kernel_rfl) (by kernel_rfl) (by kernel_rfl) (by kernel_rfl) (by kernel_rfl) (by kernel_rfl)
theorem Try.tok28 : TIOK Try.prog 28 ⟨.func, 1, 8, .raw .nilFunc⟩ := tiok_of (by kernel_rfl) (by kernel_rfl) (by kernel_rfl) (by kernel_rfl) (by kernel_rfl) (by kernel_rfl)
theorem Try.tok29 : TIOK Try.prog 29 ⟨.func, 1, 8, .raw .nilFunc⟩ := tiok_of (by kernel_rfl) (by kernel_rfl) (by kernel_rfl) (by kernel_rfl) (by kernel_rfl) (by kernel_rfl)
theorem Try.tok30 : TIOK Try.prog 30 ⟨.slice 134, 1, 24, .nil⟩ := tiok_of (by kernel_rfl) (by kernel_rfl) (by kernel_rfl) (by kernel_rfl) (by kernel_rfl) (by kernel_rfl)
theorem Try.tok31 : TIOK Try.prog 31 ⟨.struct [(0, 3), (1, 22), (2, 30), (3, 22)], 4, 80, .agg [.int .i64 0, .nil, .nil, .nil]⟩ := tiok_of (by kernel_rfl) (by kernel_rfl) (by kernel_rfl) (by kernel_rfl) (by kernel_rfl) (by kernel_rfl)
theorem Try.tok32 : TIOK Try.prog 32 ⟨.struct [(0, 3), (1, 22), (2, 30), (3, 22)], 4, 80, .agg [.int .i64 0, .nil, .nil, .nil]⟩ := tiok_of (by kernel_rfl) (by kernel_rfl) (by kernel_rfl) (by kernel_rfl) (by kernel_rfl) (by kernel_rfl)
theorem Try.tok33 : TIOK Try.prog 33 ⟨.func, 1, 8, .raw .nilFunc⟩ := tiok_of (by kernel_rfl) (by kernel_rfl) (by kernel_rfl) (by kernel_rfl) (by kernel_rfl) (by kernel_rfl)
theorem Try.tok34 : TIOK Try.prog 34 ⟨.func, 1, 8, .raw .nilFunc⟩ := tiok_of (by kernel_rfl) (by kernel_rfl) (by kernel_rfl) (by kernel_rfl) (by kernel_rfl) (by kernel_rfl)
theorem Try.tok35 : TIOK Try.prog 35 ⟨.func, 1, 8, .raw .nilFunc⟩ := tiok_of (by kernel_rfl) (by kernel_rfl) (by kernel_rfl) (by kernel_rfl) (by kernel_rfl) (by kernel_rfl)
theorem Try.tok36 : TIOK Try.prog 36 ⟨.func, 1, 8, .raw .nilFunc⟩ := tiok_of (by kernel_rfl) (by kernel_rfl) (by kernel_rfl) (by kernel_rfl) (by kernel_rfl) (by kernel_rfl)
theorem Try.tok37 : TIOK Try.prog 37 ⟨.func, 1, 8, .raw .nilFunc⟩ := tiok_of (by kernel_rfl) (by kernel_rfl) (by kernel_rfl) (by kernel_rfl) (by kernel_rfl) (by kernel_rfl)
theorem Try.tok38 : TIOK Try.prog 38 ⟨.func, 1, 8, .raw .nilFunc⟩ := tiok_of (by kernel_rfl) (by kernel_rfl) (by kernel_rfl) (by kernel_rfl) (by kernel_rfl) (by kernel_rfl)
theorem Try.tok39 : TIOK Try.prog 39 ⟨.func, 1, 8, .raw .nilFunc⟩ := tiok_of (by kernel_rfl) (by kernel_rfl) (by kernel_rfl) (by kernel_rfl) (by kernel_rfl) (by kernel_rfl)
theorem Try.tok40 : TIOK Try.prog 40 ⟨.func, 1, 8, .raw .nilFunc⟩ := tiok_of (by kernel_rfl) (by kernel_rfl) (by kernel_rfl) (by kernel_rfl) (by kernel_rfl) (by kernel_rfl)
theorem Try.tok41 : TIOK Try.prog 41 ⟨.slice 117, 1, 24, .nil⟩ := tiok_of (by kernel_rfl) (by kernel_rfl) (by kernel_rfl) (by kernel_rfl) (by kernel_rfl) (by kernel_rfl)
theorem Try.tok42 : TIOK Try.prog 42 ⟨.slice 125, 1, 24, .nil⟩ := tiok_of (by kernel_rfl) (by kernel_rfl) (by kernel_rfl) (by kernel_rfl) (by kernel_rfl) (by kernel_rfl)
theorem Try.tok43 : TIOK Try.prog 43 ⟨.struct [(0, 41), (1, 42)], 2, 48, .agg [.nil, .nil]⟩ := tiok_of (by kernel_rfl) (by kernel_rfl) (by kernel_rfl) (by kernel_rfl) (by kernel_rfl) (by kernel_rfl)
theorem Try.tok44 : TIOK Try.prog 44 ⟨.struct [(0, 41), (1, 42)], 2, 48, .agg [.nil, .nil]⟩ := tiok_of (by kernel_rfl) (by kernel_rfl) (by kernel_rfl) (by kernel_rfl) (by kernel_rfl) (by kernel_rfl)
theorem Try.tok45 : TIOK Try.prog 45 ⟨.func, 1, 8, .raw .nilFunc⟩ := tiok_of (by kernel_rfl) (by kernel_rfl) (by kernel_rfl) (by kernel_rfl) (by kernel_rfl) (by kernel_rfl)
theorem Try.tok46 : TIOK Try.prog 46 ⟨.slice 104, 1, 24, .nil⟩ := tiok_of (by kernel_rfl) (by kernel_rfl) (by kernel_rfl) (by kernel_rfl) (by kernel_rfl) (by kernel_rfl)
theorem Try.tok47 : TIOK Try.prog 47 ⟨.func, 1, 8, .raw .nilFunc⟩ := tiok_of (by kernel_rfl) (by kernel_rfl) (by kernel_rfl) (by kernel_rfl) (by kernel_rfl) (by kernel_rfl)
theorem Try.tok48 : TIOK Try.prog 48 ⟨.slice 101, 1, 24, .nil⟩ := tiok_of (by kernel_rfl) (by kernel_rfl) (by kernel_rfl) (by kernel_rfl) (by kernel_rfl) (by kernel_rfl)
theorem Try.tok49 : TIOK Try.prog 49 ⟨.slice 123, 1, 24, .nil⟩ := tiok_of (by kernel_rfl) (by kernel_rfl) (by kernel_rfl) (by kernel_rfl) (by kernel_rfl) (by kernel_rfl)
theorem Try.tok50 : TIOK Try.prog 50 ⟨.struct [(0, 48), (1, 49)], 2, 48, .agg [.nil, .nil]⟩ := tiok_of (by kernel_rfl) (by kernel_rfl) (by kernel_rfl) (by kernel_rfl) (by kernel_rfl) (by kernel_rfl)
theorem Try.tok51 : TIOK Try.prog 51 ⟨.struct [(0, 48), (1, 49)], 2, 48, .agg [.nil, .nil]⟩ := tiok_of (by kernel_rfl) (by kernel_rfl) (by kernel_rfl) (by kernel_rfl) (by kernel_rfl) (by kernel_rfl)
theorem Try.tok52 : TIOK Try.prog 52 ⟨.func, 1, 8, .raw .nilFunc⟩ := tiok_of (by kernel_rfl) (by kernel_rfl) (by kernel_rfl) (by kernel_rfl) (by kernel_rfl) (by kernel_rfl)
theorem Try.tok53 : TIOK Try.prog 53 ⟨.func, 1, 8, .raw .nilFunc⟩ := tiok_of (by kernel_rfl) (by kernel_rfl) (by kernel_rfl) (by kernel_rfl) (by kernel_rfl) (by kernel_rfl)
theorem Try.tok54 : TIOK Try.prog 54 ⟨.func, 1, 8, .raw .nilFunc⟩ := tiok_of (by kernel_rfl) (by kernel_rfl) (by kernel_rfl) (by kernel_rfl) (by kernel_rfl) (by kernel_rfl)
theorem Try.tok55 : TIOK Try.prog 55 ⟨.func, 1, 8, .raw .nilFunc⟩ := tiok_of (by kernel_rfl) (by kernel_rfl) (by kernel_rfl) (by kernel_rfl) (by kernel_rfl) (by kernel_rfl)
theorem Try.tok56 : TIOK Try.prog 56 ⟨.func, 1, 8, .raw .nilFunc⟩ := tiok_of (by kernel_rfl) (by kernel_rfl) (by kernel_rfl) (by kernel_rfl) (by kernel_rfl) (by kernel_rfl)
theorem Try.tok57 : TIOK Try.prog 57 ⟨.func, 1, 8, .raw .nilFunc⟩ := tiok_of (by kernel_rfl) (by kernel_rfl) (by kernel_rfl) (by kernel_rfl) (by kernel_rfl) (by kernel_rfl)
theorem Try.tok58 : TIOK Try.prog 58 ⟨.slice 114, 1, 24, .nil⟩ := tiok_of (by kernel_rfl) (by kernel_rfl) (by kernel_rfl) (by kernel_rfl) (by kernel_rfl) (by kernel_rfl)
theorem Try.tok59 : TIOK Try.prog 59 ⟨.func, 1, 8, .raw .nilFunc⟩ := tiok_of (by kernel_rfl) (by kernel_rfl) (by kernel_rfl) (by kernel_rfl) (by kernel_rfl) (by kernel_rfl)
theorem Try.tok60 : TIOK Try.prog 60 ⟨.func, 1, 8, .raw .nilFunc⟩ := tiok_of (by kernel_rfl) (by kernel_rfl) (by kernel_rfl) (by kernel_rfl) (by kernel_rfl) (by kernel_rfl)
theorem Try.tok61 : TIOK Try.prog 61 ⟨.slice 112, 1, 24, .nil⟩ := tiok_of (by kernel_rfl) (by kernel_rfl) (by kernel_rfl) (by kernel_rfl) (by kernel_rfl) (by kernel_rfl)
theorem Try.tok62 : TIOK Try.prog 62 ⟨.func, 1, 8, .raw .nilFunc⟩ := tiok_of (by kernel_rfl) (by kernel_rfl) (by kernel_rfl) (by kernel_rfl) (by kernel_rfl) (by kernel_rfl)
theorem Try.tok63 : TIOK Try.prog 63 ⟨.func, 1, 8, .raw .nilFunc⟩ := tiok_of (by kernel_rfl) (by kernel_rfl) (by kernel_rfl) (by kernel_rfl) (by kernel_rfl) (by kernel_rfl)
theorem Try.tok64 : TIOK Try.prog 64 ⟨.func, 1, 8, .raw .nilFunc⟩ := tiok_of (by kernel_rfl) (by kernel_rfl) (by kernel_rfl) (by kernel_rfl) (by kernel_rfl) (by kernel_rfl)
theorem Try.tok65 : TIOK Try.prog 65 ⟨.func, 1, 8, .raw .nilFunc⟩ := tiok_of (by kernel_rfl) (by kernel_rfl) (by kernel_rfl) (by kernel_rfl) (by kernel_rfl) (by kernel_rfl)
theorem Try.tok66 : TIOK Try.prog 66 ⟨.slice 119, 1, 24, .nil⟩ := tiok_of (by kernel_rfl) (by kernel_rfl) (by kernel_rfl) (by kernel_rfl) (by kernel_rfl) (by kernel_rfl)
theorem Try.tok67 : TIOK Try.prog 67 ⟨.func, 1, 8, .raw .nilFunc⟩ := tiok_of (by kernel_rfl) (by kernel_rfl) (by kernel_rfl) (by kernel_rfl) (by kernel_rfl) (by kernel_rfl)
theorem Try.tok68 : TIOK Try.prog 68 ⟨.func, 1, 8, .raw .nilFunc⟩ := tiok_of (by kernel_rfl) (by kernel_rfl) (by kernel_rfl) (by kernel_rfl) (by kernel_rfl) (by kernel_rfl)
theorem Try.tok69 : TIOK Try.prog 69 ⟨.func, 1, 8, .raw .nilFunc⟩ := tiok_of (by kernel_rfl) (by kernel_rfl) (by kernel_rfl) (by kernel_rfl) (by kernel_rfl) (by kernel_rfl)
theorem Try.tok70 : TIOK Try.prog 70 ⟨.func, 1, 8, .raw .nilFunc⟩ := tiok_of (by kernel_rfl) (by kernel_rfl) (by kernel_rfl) (by kernel_rfl) (by kernel_rfl) (by kernel_rfl)
theorem Try.tok71 : TIOK Try.prog 71 ⟨.func, 1, 8, .raw .nilFunc⟩ := tiok_of (by kernel_rfl) (by kernel_rfl) (by kernel_rfl) (by kernel_rfl) (by kernel_rfl) (by kernel_rfl)
theorem Try.tok72 : TIOK Try.prog 72 ⟨.func, 1, 8, .raw .nilFunc⟩ := tiok_of (by kernel_rfl) (by kernel_rfl) (by kernel_rfl) (by kernel_rfl) (by kernel_rfl) (by kernel_rfl)
theorem Try.tok73 : TIOK Try.prog 73 ⟨.func, 1, 8, .raw .nilFunc⟩ := tiok_of (by kernel_rfl) (by kernel_rfl) (by kernel_rfl) (by kernel_rfl) (by kernel_rfl) (by kernel_rfl)
theorem Try.tok74 : TIOK Try.prog 74 ⟨.func, 1, 8, .raw .nilFunc⟩ := tiok_of (by kernel_rfl) (by kernel_rfl) (by kernel_rfl) (by kernel_rfl) (by kernel_rfl) (by kernel_rfl)
theorem Try.tok75 : TIOK Try.prog 75 ⟨.slice 51, 1, 24, .nil⟩ := tiok_of (by kernel_rfl) (by kernel_rfl) (by kernel_rfl) (by kernel_rfl) (by kernel_rfl) (by kernel_rfl)
theorem Try.tok76 : TIOK Try.prog 76 ⟨.func, 1, 8, .raw .nilFunc⟩ := tiok_of (by kernel_rfl) (by kernel_rfl) (by kernel_rfl) (by kernel_rfl) (by kernel_rfl) (by kernel_rfl)
theorem Try.tok77 : TIOK Try.prog 77 ⟨.func, 1, 8, .raw .nilFunc⟩ := tiok_of (by kernel_rfl) (by kernel_rfl) (by kernel_rfl) (by kernel_rfl) (by kernel_rfl) (by kernel_rfl)
theorem Try.tok78 : TIOK Try.prog 78 ⟨.func, 1, 8, .raw .nilFunc⟩ := tiok_of (by kernel_rfl) (by kernel_rfl) (by kernel_rfl) (by kernel_rfl) (by kernel_rfl) (by kernel_rfl)
theorem Try.tok79 : TIOK Try.prog 79 ⟨.func, 1, 8, .raw .nilFunc⟩ := tiok_of (by kernel_rfl) (by kernel_rfl) (by kernel_rfl) (by kernel_rfl) (by kernel_rfl) (by kernel_rfl)
theorem Try.tok80 : TIOK Try.prog 80 ⟨.func, 1, 8, .raw .nilFunc⟩ := tiok_of (by kernel_rfl) (by kernel_rfl) (by kernel_rfl) (by kernel_rfl) (by kernel_rfl) (by kernel_rfl)
theorem Try.tok81 : TIOK Try.prog 81 ⟨.slice 4, 1, 24, .nil⟩ := tiok_of (by kernel_rfl) (by kernel_rfl) (by kernel_rfl) (by kernel_rfl) (by kernel_rfl) (by kernel_rfl)
theorem Try.tok82 : TIOK Try.prog 82 ⟨.func, 1, 8, .raw .nilFunc⟩ := tiok_of (by kernel_rfl) (by kernel_rfl) (by kernel_rfl) (by kernel_rfl) (by kernel_rfl) (by kernel_rfl)
theorem Try.tok83 : TIOK Try.prog 83 ⟨.func, 1, 8, .raw .nilFunc⟩ := tiok_of (by kernel_rfl) (by kernel_rfl) (by kernel_rfl) (by kernel_rfl) (by kernel_rfl) (by kernel_rfl)
theorem Try.tok84 : TIOK Try.prog 84 ⟨.func, 1, 8, .raw .nilFunc⟩ := tiok_of (by kernel_rfl) (by kernel_rfl) (by kernel_rfl) (by kernel_rfl) (by kernel_rfl) (by kernel_rfl)
theorem Try.tok85 : TIOK Try.prog 85 ⟨.func, 1, 8, .raw .nilFunc⟩ := tiok_of (by kernel_rfl) (by kernel_rfl) (by kernel_rfl) (by kernel_rfl) (by kernel_rfl) (by kernel_rfl)
theorem Try.tok86 : TIOK Try.prog 86 ⟨.func, 1, 8, .raw .nilFunc⟩ := tiok_of (by kernel_rfl) (by kernel_rfl) (by kernel_rfl) (by kernel_rfl) (by kernel_rfl) (by kernel_rfl)
theorem Try.tok87 : TIOK Try.prog 87 ⟨.func, 1, 8, .raw .nilFunc⟩ := tiok_of (by kernel_rfl) (by kernel_rfl) (by kernel_rfl) (by kernel_rfl) (by kernel_rfl) (by kernel_rfl)
theorem Try.tok88 : TIOK Try.prog 88 ⟨.func, 1, 8, .raw .nilFunc⟩ := tiok_of (by kernel_rfl) (by kernel_rfl) (by kernel_rfl) (by kernel_rfl) (by kernel_rfl) (by kernel_rfl)
theorem Try.tok89 : TIOK Try.prog 89 ⟨.func, 1, 8, .raw .nilFunc⟩ := tiok_of (by kernel_rfl) (by kernel_rfl) (by kernel_rfl) (by kernel_rfl) (by kernel_rfl) (by kernel_rfl)
theorem Try.tok90 : TIOK Try.prog 90 ⟨.func, 1, 8, .raw .nilFunc⟩ := tiok_of (by kernel_rfl) (by kernel_rfl) (by kernel_rfl) (by kernel_rfl) (by kernel_rfl) (by kernel_rfl)
theorem Try.tok91 : TIOK Try.prog 91 ⟨.ptr 32, 1, 8, .raw (.pointer none)⟩ := tiok_of (by kernel_rfl) (by kernel_rfl) (by kernel_rfl) (by kernel_rfl) (by kernel_rfl) (by kernel_rfl)
theorem Try.tok92 : TIOK Try.prog 92 ⟨.func, 1, 8, .raw .nilFunc⟩ := tiok_of (by kernel_rfl) (by kernel_rfl) (by kernel_rfl) (by kernel_rfl) (by kernel_rfl) (by kernel_rfl)
theorem Try.tok93 : TIOK Try.prog 93 ⟨.func, 1, 8, .raw .nilFunc⟩ := tiok_of (by kernel_rfl) (by kernel_rfl) (by kernel_rfl) (by kernel_rfl) (by kernel_rfl) (by kernel_rfl)
theorem Try.tok94 : TIOK Try.prog 94 ⟨.func, 1, 8, .raw .nilFunc⟩ := tiok_of (by kernel_rfl) (by kernel_rfl) (by kernel_rfl) (by kernel_rfl) (by kernel_rfl) (by kernel_rfl)
theorem Try.tok95 : TIOK Try.prog 95 ⟨.func, 1, 8, .raw .nilFunc⟩ := tiok_of (by kernel_rfl) (by kernel_rfl) (by kernel_rfl) (by kernel_rfl) (by kernel_rfl) (by kernel_rfl)
theorem Try.tok96 : TIOK Try.prog 96 ⟨.func, 1, 8, .raw .nilFunc⟩ := tiok_of (by kernel_rfl) (by kernel_rfl) (by kernel_rfl) (by kernel_rfl) (by kernel_rfl) (by kernel_rfl)
theorem Try.tok97 : TIOK Try.prog 97 ⟨.func, 1, 8, .raw .nilFunc⟩ := tiok_of (by kernel_rfl) (by kernel_rfl) (by kernel_rfl) (by kernel_rfl) (by kernel_rfl) (by kernel_rfl)
theorem Try.tok98 : TIOK Try.prog 98 ⟨.func, 1, 8, .raw .nilFunc⟩ := tiok_of (by kernel_rfl) (by kernel_rfl) (by kernel_rfl) (by kernel_rfl) (by kernel_rfl) (by kernel_rfl)
theorem Try.tok99 : TIOK Try.prog 99 ⟨.func, 1, 8, .raw .nilFunc⟩ := tiok_of (by kernel_rfl) (by kernel_rfl) (by kernel_rfl) (by kernel_rfl) (by kernel_rfl) (by kernel_rfl)
theorem Try.tok100 : TIOK Try.prog 100 ⟨.struct [(0, 3), (1, 22), (2, 4), (3, 22)], 4, 64, .agg [.int .i64 0, .nil, .bool false, .nil]⟩ := tiok_of (by kernel_rfl) (by kernel_rfl) (by kernel_rfl) (by kernel_rfl) (by kernel_rfl) (by kernel_rfl)
theorem Try.tok101 : TIOK Try.prog 101 ⟨.struct [(0, 3), (1, 22), (2, 4), (3, 22)], 4, 64, .agg [.int .i64 0, .nil, .bool false, .nil]⟩ := tiok_of (by kernel_rfl) (by kernel_rfl) (by kernel_rfl) (by kernel_rfl) (by kernel_rfl) (by kernel_rfl)
theorem Try.tok102 : TIOK Try.prog 102 ⟨.func, 1, 8, .raw .nilFunc⟩ := tiok_of (by kernel_rfl) (by kernel_rfl) (by kernel_rfl) (by kernel_rfl) (by kernel_rfl) (by kernel_rfl)
theorem Try.tok103 : TIOK Try.prog 103 ⟨.struct [(0, 3), (1, 101)], 5, 72, .agg [.int .i64 0, .int .i64 0, .nil, .bool false, .nil]⟩ := tiok_of (by kernel_rfl) (by kernel_rfl) (by kernel_rfl) (by kernel_rfl) (by kernel_rfl) (by kernel_rfl)
theorem Try.tok104 : TIOK Try.prog 104 ⟨.struct [(0, 3), (1, 101)], 5, 72, .agg [.int .i64 0, .int .i64 0, .nil, .bool false, .nil]⟩ := tiok_of (by kernel_rfl) (by kernel_rfl) (by kernel_rfl) (by kernel_rfl) (by kernel_rfl) (by kernel_rfl)
theorem Try.tok105 : TIOK Try.prog 105 ⟨.func, 1, 8, .raw .nilFunc⟩ := tiok_of (by kernel_rfl) (by kernel_rfl) (by kernel_rfl) (by kernel_rfl) (by kernel_rfl) (by kernel_rfl)
theorem Try.tok106 : TIOK Try.prog 106 ⟨.func, 1, 8, .raw .nilFunc⟩ := tiok_of (by kernel_rfl) (by kernel_rfl) (by kernel_rfl) (by kernel_rfl) (by kernel_rfl) (by kernel_rfl)
theorem Try.tok107 : TIOK Try.prog 107 ⟨.func, 1, 8, .raw .nilFunc⟩ := tiok_of (by kernel_rfl) (by kernel_rfl) (by kernel_rfl) (by kernel_rfl) (by kernel_rfl) (by kernel_rfl)
theorem Try.tok108 : TIOK Try.prog 108 ⟨.func, 1, 8, .raw .nilFunc⟩ := tiok_of (by kernel_rfl) (by kernel_rfl) (by kernel_rfl) (by kernel_rfl) (by kernel_rfl) (by kernel_rfl)
theorem Try.tok109 : TIOK Try.prog 109 ⟨.func, 1, 8, .raw .nilFunc⟩ := tiok_of (by kernel_rfl) (by kernel_rfl) (by kernel_rfl) (by kernel_rfl) (by kernel_rfl) (by kernel_rfl)
theorem Try.tok110 : TIOK Try.prog 110 ⟨.func, 1, 8, .raw .nilFunc⟩ := tiok_of (by kernel_rfl) (by kernel_rfl) (by kernel_rfl) (by kernel_rfl) (by kernel_rfl) (by kernel_rfl)
theorem Try.tok111 : TIOK Try.prog 111 ⟨.struct [(0, 3), (1, 3)], 2, 16, .agg [.int .i64 0, .int .i64 0]⟩ := tiok_of (by kernel_rfl) (by kernel_rfl) (by kernel_rfl) (by kernel_rfl) (by kernel_rfl) (by kernel_rfl)
theorem Try.tok112 : TIOK Try.prog 112 ⟨.struct [(0, 3), (1, 3)], 2, 16, .agg [.int .i64 0, .int .i64 0]⟩ := tiok_of (by kernel_rfl) (by kernel_rfl) (by kernel_rfl) (by kernel_rfl) (by kernel_rfl) (by kernel_rfl)
theorem Try.tok113 : TIOK Try.prog 113 ⟨.func, 1, 8, .raw .nilFunc⟩ := tiok_of (by kernel_rfl) (by kernel_rfl) (by kernel_rfl) (by kernel_rfl) (by kernel_rfl) (by kernel_rfl)
theorem Try.tok114 : TIOK Try.prog 114 ⟨.struct [(0, 3), (1, 3)], 2, 16, .agg [.int .i64 0, .int .i64 0]⟩ := tiok_of (by kernel_rfl) (by kernel_rfl) (by kernel_rfl) (by kernel_rfl) (by kernel_rfl) (by kernel_rfl)
theorem Try.tok115 : TIOK Try.prog 115 ⟨.func, 1, 8, .raw .nilFunc⟩ := tiok_of (by kernel_rfl) (by kernel_rfl) (by kernel_rfl) (by kernel_rfl) (by kernel_rfl) (by kernel_rfl)
theorem Try.tok116 : TIOK Try.prog 116 ⟨.func, 1, 8, .raw .nilFunc⟩ := tiok_of (by kernel_rfl) (by kernel_rfl) (by kernel_rfl) (by kernel_rfl) (by kernel_rfl) (by kernel_rfl)
theorem Try.tok117 : TIOK Try.prog 117 ⟨.struct [(0, 3), (1, 22), (2, 4), (3, 22)], 4, 64, .agg [.int .i64 0, .nil, .bool false, .nil]⟩ := tiok_of (by kernel_rfl) (by kernel_rfl) (by kernel_rfl) (by kernel_rfl) (by kernel_rfl) (by kernel_rfl)
theorem Try.tok118 : TIOK Try.prog 118 ⟨.struct [(0, 3), (1, 117)], 5, 72, .agg [.int .i64 0, .int .i64 0, .nil, .bool false, .nil]⟩ := tiok_of (by kernel_rfl) (by kernel_rfl) (by kernel_rfl) (by kernel_rfl) (by kernel_rfl) (by kernel_rfl)
theorem Try.tok119 : TIOK Try.prog 119 ⟨.struct [(0, 3), (1, 117)], 5, 72, .agg [.int .i64 0, .int .i64 0, .nil, .bool false, .nil]⟩ := tiok_of (by kernel_rfl) (by kernel_rfl) (by kernel_rfl) (by kernel_rfl) (by kernel_rfl) (by kernel_rfl)
theorem Try.tok120 : TIOK Try.prog 120 ⟨.func, 1, 8, .raw .nilFunc⟩ := tiok_of (by kernel_rfl) (by kernel_rfl) (by kernel_rfl) (by kernel_rfl) (by kernel_rfl) (by kernel_rfl)
theorem Try.tok121 : TIOK Try.prog 121 ⟨.func, 1, 8, .raw .nilFunc⟩ := tiok_of (by kernel_rfl) (by kernel_rfl) (by kernel_rfl) (by kernel_rfl) (by kernel_rfl) (by kernel_rfl)
theorem Try.tok122 : TIOK Try.prog 122 ⟨.struct [(0, 3), (1, 4)], 2, 16, .agg [.int .i64 0, .bool false]⟩ := tiok_of (by kernel_rfl) (by kernel_rfl) (by kernel_rfl) (by kernel_rfl) (by kernel_rfl) (by kernel_rfl)
theorem Try.tok123 : TIOK Try.prog 123 ⟨.struct [(0, 3), (1, 4)], 2, 16, .agg [.int .i64 0, .bool false]⟩ := tiok_of (by kernel_rfl) (by kernel_rfl) (by kernel_rfl) (by kernel_rfl) (by kernel_rfl) (by kernel_rfl)
theorem Try.tok124 : TIOK Try.prog 124 ⟨.func, 1, 8, .raw .nilFunc⟩ := tiok_of (by kernel_rfl) (by kernel_rfl) (by kernel_rfl) (by kernel_rfl) (by kernel_rfl) (by kernel_rfl)
theorem Try.tok125 : TIOK Try.prog 125 ⟨.struct [(0, 3), (1, 4)], 2, 16, .agg [.int .i64 0, .bool false]⟩ := tiok_of (by kernel_rfl) (by kernel_rfl) (by kernel_rfl) (by kernel_rfl) (by kernel_rfl) (by kernel_rfl)
theorem Try.tok126 : TIOK Try.prog 126 ⟨.func, 1, 8, .raw .nilFunc⟩ := tiok_of (by kernel_rfl) (by kernel_rfl) (by kernel_rfl) (by kernel_rfl) (by kernel_rfl) (by kernel_rfl)
theorem Try.tok127 : TIOK Try.prog 127 ⟨.func, 1, 8, .raw .nilFunc⟩ := tiok_of (by kernel_rfl) (by kernel_rfl) (by kernel_rfl) (by kernel_rfl) (by kernel_rfl) (by kernel_rfl)
theorem Try.tok128 : TIOK Try.prog 128 ⟨.func, 1, 8, .raw .nilFunc⟩ := tiok_of (by kernel_rfl) (by kernel_rfl) (by kernel_rfl) (by kernel_rfl) (by kernel_rfl) (by kernel_rfl)
theorem Try.tok129 : TIOK Try.prog 129 ⟨.func, 1, 8, .raw .nilFunc⟩ := tiok_of (by kernel_rfl) (by kernel_rfl) (by kernel_rfl) (by kernel_rfl) (by kernel_rfl) (by kernel_rfl)
theorem Try.tok130 : TIOK Try.prog 130 ⟨.func, 1, 8, .raw .nilFunc⟩ := tiok_of (by kernel_rfl) (by kernel_rfl) (by kernel_rfl) (by kernel_rfl) (by kernel_rfl) (by kernel_rfl)
theorem Try.tok131 : TIOK Try.prog 131 ⟨.func, 1, 8, .raw .nilFunc⟩ := tiok_of (by kernel_rfl) (by kernel_rfl) (by kernel_rfl) (by kernel_rfl) (by kernel_rfl) (by kernel_rfl)
theorem Try.tok132 : TIOK Try.prog 132 ⟨.func, 1, 8, .raw .nilFunc⟩ := tiok_of (by kernel_rfl) (by kernel_rfl) (by kernel_rfl) (by kernel_rfl) (by kernel_rfl) (by kernel_rfl)
theorem Try.tok133 : TIOK Try.prog 133 ⟨.struct [(0, 3), (1, 3)], 2, 16, .agg [.int .i64 0, .int .i64 0]⟩ := tiok_of (by kernel_rfl) (by kernel_rfl) (by kernel_rfl) (by kernel_rfl) (by kernel_rfl) (by kernel_rfl)
theorem Try.tok134 : TIOK Try.prog 134 ⟨.struct [(0, 3), (1, 3)], 2, 16, .agg [.int .i64 0, .int .i64 0]⟩ := tiok_of (by kernel_rfl) (by kernel_rfl) (by kernel_rfl) (by kernel_rfl) (by kernel_rfl) (by kernel_rfl)
theorem Try.tok135 : TIOK Try.prog 135 ⟨.func, 1, 8, .raw .nilFunc⟩ := tiok_of (by kernel_rfl) (by kernel_rfl) (by kernel_rfl) (by kernel_rfl) (by kernel_rfl) (by kernel_rfl)
theorem Try.tok136 : TIOK Try.prog 136 ⟨.func, 1, 8, .raw .nilFunc⟩ := tiok_of (by kernel_rfl) (by kernel_rfl) (by kernel_rfl) (by kernel_rfl) (by kernel_rfl) (by kernel_rfl)
theorem Try.tok137 : TIOK Try.prog 137 ⟨.struct [(0, 3), (1, 3)], 2, 16, .agg [.int .i64 0, .int .i64 0]⟩ := tiok_of (by kernel_rfl) (by kernel_rfl) (by kernel_rfl) (by kernel_rfl) (by kernel_rfl) (by kernel_rfl)
theorem Try.tok138 : TIOK Try.prog 138 ⟨.func, 1, 8, .raw .nilFunc⟩ := tiok_of (by kernel_rfl) (by kernel_rfl) (by kernel_rfl) (by kernel_rfl) (by kernel_rfl) (by kernel_rfl)
theorem Try.tok139 : TIOK Try.prog 139 ⟨.func, 1, 8, .raw .nilFunc⟩ := tiok_of (by kernel_rfl) (by kernel_rfl) (by kernel_rfl) (by kernel_rfl) (by kernel_rfl) (by kernel_rfl)
theorem Try.tok140 : TIOK Try.prog 140 ⟨.func, 1, 8, .raw .nilFunc⟩ := tiok_of (by kernel_rfl) (by kernel_rfl) (by kernel_rfl) (by kernel_rfl) (by kernel_rfl) (by kernel_rfl)
theorem Try.tok141 : TIOK Try.prog 141 ⟨.func, 1, 8, .raw .nilFunc⟩ := tiok_of (by kernel_rfl) (by kernel_rfl) (by kernel_rfl) (by kernel_rfl) (by kernel_rfl) (by kernel_rfl)
theorem Try.tok142 : TIOK Try.prog 142 ⟨.func, 1, 8, .raw .nilFunc⟩ := tiok_of (by kernel_rfl) (by kernel_rfl) (by kernel_rfl) (by kernel_rfl) (by kernel_rfl) (by kernel_rfl)
theorem Try.tok143 : TIOK Try.prog 143 ⟨.func, 1, 8, .raw .nilFunc⟩ := tiok_of (by kernel_rfl) (by kernel_rfl) (by kernel_rfl) (by kernel_rfl) (by kernel_rfl) (by kernel_rfl)
theorem Try.tok144 : TIOK Try.prog 144 ⟨.func, 1, 8, .raw .nilFunc⟩ := tiok_of (by kernel_rfl) (by kernel_rfl) (by kernel_rfl) (by kernel_rfl) (by kernel_rfl) (by kernel_rfl)
theorem Try.tok145 : TIOK Try.prog 145 ⟨.func, 1, 8, .raw .nilFunc⟩ := tiok_of (by kernel_rfl) (by kernel_rfl) (by kernel_rfl) (by kernel_rfl) (by kernel_rfl) (by kernel_rfl)
theorem Try.tok146 : TIOK Try.prog 146 ⟨.array 4 3, 4, 32, .agg [.int .i64 0, .int .i64 0, .int .i64 0, .int .i64 0]⟩ := tiok_of (by kernel_rfl) (by kernel_rfl) (by kernel_rfl) (by kernel_rfl) (by kernel_rfl) (by kernel_rfl)
theorem Try.tok147 : TIOK Try.prog 147 ⟨.func, 1, 8, .raw .nilFunc⟩ := tiok_of (by kernel_rfl) (by kernel_rfl) (by kernel_rfl) (by kernel_rfl) (by kernel_rfl) (by kernel_rfl)
theorem Try.tok148 : TIOK Try.prog 148 ⟨.func, 1, 8, .raw .nilFunc⟩ := tiok_of (by kernel_rfl) (by kernel_rfl) (by kernel_rfl) (by kernel_rfl) (by kernel_rfl) (by kernel_rfl)
theorem Try.tok154 : TIOK Try.prog 154 ⟨.func, 1, 8, .raw .nilFunc⟩ := tiok_of (by kernel_rfl) (by kernel_rfl) (by kernel_rfl) (by kernel_rfl) (by kernel_rfl) (by kernel_rfl)
theorem Try.tok155 : TIOK Try.prog 155 ⟨.int .u32, 1, 4, .int .u32 0⟩ := tiok_of (by kernel_rfl) (by kernel_rfl) (by kernel_rfl) (by kernel_rfl) (by kernel_rfl) (by kernel_rfl)
theorem Try.tok156 : TIOK Try.prog 156 ⟨.int .u8, 1, 1, .int .u8 0⟩ := tiok_of (by kernel_rfl) (by kernel_rfl) (by kernel_rfl) (by kernel_rfl) (by kernel_rfl) (by kernel_rfl)
theorem Try.tok157 : TIOK Try.prog 157 ⟨.int .u8, 1, 1, .int .u8 0⟩ := tiok_of (by kernel_rfl) (by kernel_rfl) (by kernel_rfl) (by kernel_rfl) (by kernel_rfl) (by kernel_rfl)
theorem Try.tok158 : TIOK Try.prog 158 ⟨.func, 1, 8, .raw .nilFunc⟩ := tiok_of (by kernel_rfl) (by kernel_rfl) (by kernel_rfl) (by kernel_rfl) (by kernel_rfl) (by kernel_rfl)
theorem Try.tok159 : TIOK Try.prog 159 ⟨.ptr 5, 1, 8, .raw (.pointer none)⟩ := tiok_of (by kernel_rfl) (by kernel_rfl) (by kernel_rfl) (by kernel_rfl) (by kernel_rfl) (by kernel_rfl)
theorem Try.tok160 : TIOK Try.prog 160 ⟨.int .i32, 1, 4, .int .i32 0⟩ := tiok_of (by kernel_rfl) (by kernel_rfl) (by kernel_rfl) (by kernel_rfl) (by kernel_rfl) (by kernel_rfl)
theorem Try.tok161 : TIOK Try.prog 161 ⟨.int .i32, 1, 4, .int .i32 0⟩ := tiok_of (by kernel_rfl) (by kernel_rfl) (by kernel_rfl) (by kernel_rfl) (by kernel_rfl) (by kernel_rfl)
theorem Try.tok162 : TIOK Try.prog 162 ⟨.struct [(0, 12), (1, 12), (2, 155), (3, 156), (4, 5), (5, 5), (6, 157), (7, 158), (8, 159), (9, 160), (10, 161)], 11, 48, .agg [.int .u64 0, .int .u64 0, .int .u32 0, .int .u8 0, .int .u8 0, .int .u8 0, .int .u8 0, .raw .nilFunc, .raw (.pointer none), .int .i32 0, .int .i32 0]⟩ := tiok_of (by kernel_rfl) (by kernel_rfl) (by kernel_rfl) (by kernel_rfl) (by kernel_rfl) (by kernel_rfl)
theorem Try.tok163 : TIOK Try.prog 163 ⟨.struct [(0, 12), (1, 12), (2, 155), (3, 156), (4, 5), (5, 5), (6, 157), (7, 158), (8, 159), (9, 160), (10, 161)], 11, 48, .agg [.int .u64 0, .int .u64 0, .int .u32 0, .int .u8 0, .int .u8 0, .int .u8 0, .int .u8 0, .raw .nilFunc, .raw (.pointer none), .int .i32 0, .int .i32 0]⟩ := tiok_of (by kernel_rfl) (by kernel_rfl) (by kernel_rfl) (by kernel_rfl) (by kernel_rfl) (by kernel_rfl)
theorem Try.tok : TOK Try.prog Try.tyT := fun t ti h => lookT_ok (P := TIOK Try.prog) (l := Try.tyL) ⟨Try.tok1, Try.tok2, Try.tok3, Try.tok4, Try.tok5, Try.tok6, Try.tok7, Try.tok8, Try.tok12, Try.tok15, Try.tok16, Try.tok17, Try.tok18, Try.tok19, Try.tok21, Try.tok22, Try.tok23, Try.tok24, Try.tok25, Try.tok26, Try.tok27, Try.tok28, Try.tok29, Try.tok30, Try.tok31, Try.tok32, Try.tok33, Try.tok34, Try.tok35, Try.tok36, Try.tok37, Try.tok38, Try.tok39, Try.tok40, Try.tok41, Try.tok42, Try.tok43, Try.tok44, Try.tok45, Try.tok46, Try.tok47, Try.tok48, Try.tok49, Try.tok50, Try.tok51, Try.tok52, Try.tok53, Try.tok54, Try.tok55, Try.tok56, Try.tok57, Try.tok58, Try.tok59, Try.tok60, Try.tok61, Try.tok62, Try.tok63, Try.tok64, Try.tok65, Try.tok66, Try.tok67, Try.tok68, Try.tok69, Try.tok70, Try.tok71, Try.tok72, Try.tok73, Try.tok74, Try.tok75, Try.tok76, Try.tok77, Try.tok78, Try.tok79, Try.tok80, Try.tok81, Try.tok82, Try.tok83, Try.tok84, Try.tok85, Try.tok86, Try.tok87, Try.tok88, Try.tok89, Try.tok90, Try.tok91, Try.tok92, Try.tok93, Try.tok94, Try.tok95, Try.tok96, Try.tok97, Try.tok98, Try.tok99, Try.tok100, Try.tok101, Try.tok102, Try.tok103, Try.tok104, Try.tok105, Try.tok106, Try.tok107, Try.tok108, Try.tok109, Try.tok110, Try.tok111, Try.tok112, Try.tok113, Try.tok114, Try.tok115, Try.tok116, Try.tok117, Try.tok118, Try.tok119, Try.tok120, Try.tok121, Try.tok122, Try.tok123, Try.tok124, Try.tok125, Try.tok126, Try.tok127, Try.tok128, Try.tok129, Try.tok130, Try.tok131, Try.tok132, Try.tok133, Try.tok134, Try.tok135, Try.tok136, Try.tok137, Try.tok138, Try.tok139, Try.tok140, Try.tok141, Try.tok142, Try.tok143, Try.tok144, Try.tok145, Try.tok146, Try.tok147, Try.tok148, Try.tok154, Try.tok155, Try.tok156, Try.tok157, Try.tok158, Try.tok159, Try.tok160, Try.tok161, Try.tok162, Try.tok163, trivial⟩ h

@[go_sem] theorem Try.ty1 : Try.tyT 1 = some ⟨.func, 1, 8, .raw .nilFunc⟩ := by kernel_rfl
@[go_sem] theorem Try.ty2 : Try.tyT 2 = some ⟨.int .i64, 1, 8, .int .i64 0⟩ := by kernel_rfl
@[go_sem] theorem Try.ty3 : Try.tyT 3 = some ⟨.int .i64, 1, 8, .int .i64 0⟩ := by kernel_rfl
@[go_sem] theorem Try.ty4 : Try.tyT 4 = some ⟨.bool, 1, 1, .bool false⟩ := by kernel_rfl
@[go_sem] theorem Try.ty5 : Try.tyT 5 = some ⟨.int .u8, 1, 1, .int .u8 0⟩ := by kernel_rfl
@[go_sem] theorem Try.ty6 : Try.tyT 6 = some ⟨.int .u8, 1, 1, .int .u8 0⟩ := by kernel_rfl
@[go_sem] theorem Try.ty7 : Try.tyT 7 = some ⟨.struct [(0, 2), (1, 3), (2, 4), (3, 6)], 4, 24, .agg [.int .i64 0, .int .i64 0, .bool false, .int .u8 0]⟩ := by kernel_rfl
@[go_sem] theorem Try.ty8 : Try.tyT 8 = some ⟨.struct [(0, 2), (1, 3), (2, 4), (3, 6)], 4, 24, .agg [.int .i64 0, .int .i64 0, .bool false, .int .u8 0]⟩ := by kernel_rfl
@[go_sem] theorem Try.ty12 : Try.tyT 12 = some ⟨.int .u64, 1, 8, .int .u64 0⟩ := by kernel_rfl
@[go_sem] theorem Try.ty15 : Try.tyT 15 = some ⟨.ptr 150, 1, 8, .raw (.pointer none)⟩ := by kernel_rfl
@[go_sem] theorem Try.ty16 : Try.tyT 16 = some ⟨.ptr 153, 1, 8, .raw (.pointer none)⟩ := by kernel_rfl
@[go_sem] theorem Try.ty17 : Try.tyT 17 = some ⟨.ptr 163, 1, 8, .raw (.pointer none)⟩ := by kernel_rfl
@[go_sem] theorem Try.ty18 : Try.tyT 18 = some ⟨.struct [(0, 17)], 1, 8, .agg [.raw (.pointer none)]⟩ := by kernel_rfl
@[go_sem] theorem Try.ty19 : Try.tyT 19 = some ⟨.struct [(0, 17)], 1, 8, .agg [.raw (.pointer none)]⟩ := by kernel_rfl
@[go_sem] theorem Try.ty21 : Try.tyT 21 = some ⟨.int .i32, 1, 4, .int .i32 0⟩ := by kernel_rfl
@[go_sem] theorem Try.ty22 : Try.tyT 22 = some ⟨.slice 3, 1, 24, .nil⟩ := by kernel_rfl
@[go_sem] theorem Try.ty23 : Try.tyT 23 = some ⟨.slice 137, 1, 24, .nil⟩ := by kernel_rfl
@[go_sem] theorem Try.ty24 : Try.tyT 24 = some ⟨.struct [(0, 3), (1, 22), (2, 23), (3, 22)], 4, 80, .agg [.int .i64 0, .nil, .nil, .nil]⟩ := by kernel_rfl
@[go_sem] theorem Try.ty25 : Try.tyT 25 = some ⟨.struct [(0, 3), (1, 22), (2, 23), (3, 22)], 4, 80, .agg [.int .i64 0, .nil, .nil, .nil]⟩ := by kernel_rfl
@[go_sem] theorem Try.ty26 : Try.tyT 26 = some ⟨.slice 81, 1, 24, .nil⟩ := by kernel_rfl
@[go_sem] theorem Try.ty27 : Try.tyT 27 = some ⟨.func, 1, 8, .raw .nilFunc⟩ := by kernel_rfl
@[go_sem] theorem Try.ty28 : Try.tyT 28 = some ⟨.func, 1, 8, .raw .nilFunc⟩ := by kernel_rfl
@[go_sem] theorem Try.ty29 : Try.tyT 29 = some ⟨.func, 1, 8, .raw .nilFunc⟩ := by kernel_rfl
@[go_sem] theorem Try.ty30 : Try.tyT 30 = some ⟨.slice 134, 1, 24, .nil⟩ := by kernel_rfl
@[go_sem] theorem Try.ty31 : Try.tyT 31 = some ⟨.struct [(0, 3), (1, 22), (2, 30), (3, 22)], 4, 80, .agg [.int .i64 0, .nil, .nil, .nil]⟩ := by kernel_rfl
@[go_sem] theorem Try.ty32 : Try.tyT 32 = some ⟨.struct [(0, 3), (1, 22), (2, 30), (3, 22)], 4, 80, .agg [.int .i64 0, .nil, .nil, .nil]⟩ := by kernel_rfl
@[go_sem] theorem Try.ty33 : Try.tyT 33 = some ⟨.func, 1, 8, .raw .nilFunc⟩ := by kernel_rfl
@[go_sem] theorem Try.ty34 : Try.tyT 34 = some ⟨.func, 1, 8, .raw .nilFunc⟩ := by kernel_rfl
@[go_sem] theorem Try.ty35 : Try.tyT 35 = some ⟨.func, 1, 8, .raw .nilFunc⟩ := by kernel_rfl
@[go_sem] theorem Try.ty36 : Try.tyT 36 = some ⟨.func, 1, 8, .raw .nilFunc⟩ := by kernel_rfl
@[go_sem] theorem Try.ty37 : Try.tyT 37 = some ⟨.func, 1, 8, .raw .nilFunc⟩ := by kernel_rfl
@[go_sem] theorem Try.ty38 : Try.tyT 38 = some ⟨.func, 1, 8, .raw .nilFunc⟩ := by kernel_rfl
@[go_sem] theorem Try.ty39 : Try.tyT 39 = some ⟨.func, 1, 8, .raw .nilFunc⟩ := by kernel_rfl
@[go_sem] theorem Try.ty40 : Try.tyT 40 = some ⟨.func, 1, 8, .raw .nilFunc⟩ := by kernel_rfl
@[go_sem] theorem Try.ty41 : Try.tyT 41 = some ⟨.slice 117, 1, 24, .nil⟩ := by kernel_rfl
@[go_sem] theorem Try.ty42 : Try.tyT 42 = some ⟨.slice 125, 1, 24, .nil⟩ := by kernel_rfl
@[go_sem] theorem Try.ty43 : Try.tyT 43 = some ⟨.struct [(0, 41), (1, 42)], 2, 48, .agg [.nil, .nil]⟩ := by kernel_rfl
@[go_sem] theorem Try.ty44 : Try.tyT 44 = some ⟨.struct [(0, 41), (1, 42)], 2, 48, .agg [.nil, .nil]⟩ := by kernel_rfl
@[go_sem] theorem Try.ty45 : Try.tyT 45 = some ⟨.func, 1, 8, .raw .nilFunc⟩ := by kernel_rfl
@[go_sem] theorem Try.ty46 : Try.tyT 46 = some ⟨.slice 104, 1, 24, .nil⟩ := by kernel_rfl
@[go_sem] theorem Try.ty47 : Try.tyT 47 = some ⟨.func, 1, 8, .raw .nilFunc⟩ := by kernel_rfl
@[go_sem] theorem Try.ty48 : Try.tyT 48 = some ⟨.slice 101, 1, 24, .nil⟩ := by kernel_rfl
@[go_sem] theorem Try.ty49 : Try.tyT 49 = some ⟨.slice 123, 1, 24, .nil⟩ := by kernel_rfl
@[go_sem] theorem Try.ty50 : Try.tyT 50 = some ⟨.struct [(0, 48), (1, 49)], 2, 48, .agg [.nil, .nil]⟩ := by kernel_rfl
@[go_sem] theorem Try.ty51 : Try.tyT 51 = some ⟨.struct [(0, 48), (1, 49)], 2, 48, .agg [.nil, .nil]⟩ := by kernel_rfl
@[go_sem] theorem Try.ty52 : Try.tyT 52 = some ⟨.func, 1, 8, .raw .nilFunc⟩ := by kernel_rfl
@[go_sem] theorem Try.ty53 : Try.tyT 53 = some ⟨.func, 1, 8, .raw .nilFunc⟩ := by kernel_rfl
@[go_sem] theorem Try.ty54 : Try.tyT 54 = some ⟨.func, 1, 8, .raw .nilFunc⟩ := by kernel_rfl
@[go_sem] theorem Try.ty55 : Try.tyT 55 = some ⟨.func, 1, 8, .raw .nilFunc⟩ := by kernel_rfl
@[go_sem] theorem Try.ty56 : Try.tyT 56 = some ⟨.func, 1, 8, .raw .nilFunc⟩ := by kernel_rfl
@[go_sem] theorem Try.ty57 : Try.tyT 57 = some ⟨.func, 1, 8, .raw .nilFunc⟩ := by kernel_rfl
@[go_sem] theorem Try.ty58 : Try.tyT 58 = some ⟨.slice 114, 1, 24, .nil⟩ := by kernel_rfl
@[go_sem] theorem Try.ty59 : Try.tyT 59 = some ⟨.func, 1, 8, .raw .nilFunc⟩ := by kernel_rfl
@[go_sem] theorem Try.ty60 : Try.tyT 60 = some ⟨.func, 1, 8, .raw .nilFunc⟩ := by kernel_rfl
@[go_sem] theorem Try.ty61 : Try.tyT 61 = some ⟨.slice 112, 1, 24, .nil⟩ := by kernel_rfl
@[go_sem] theorem Try.ty62 : Try.tyT 62 = some ⟨.func, 1, 8, .raw .nilFunc⟩ := by kernel_rfl
@[go_sem] theorem Try.ty63 : Try.tyT 63 = some ⟨.func, 1, 8, .raw .nilFunc⟩ := by kernel_rfl
@[go_sem] theorem Try.ty64 : Try.tyT 64 = some ⟨.func, 1, 8, .raw .nilFunc⟩ := by kernel_rfl
@[go_sem] theorem Try.ty65 : Try.tyT 65 = some ⟨.func, 1, 8, .raw .nilFunc⟩ := by kernel_rfl
@[go_sem] theorem Try.ty66 : Try.tyT 66 = some ⟨.slice 119, 1, 24, .nil⟩ := by kernel_rfl
@[go_sem] theorem Try.ty67 : Try.tyT 67 = some ⟨.func, 1, 8, .raw .nilFunc⟩ := by kernel_rfl
@[go_sem] theorem Try.ty68 : Try.tyT 68 = some ⟨.func, 1, 8, .raw .nilFunc⟩ := by kernel_rfl
@[go_sem] theorem Try.ty69 : Try.tyT 69 = some ⟨.func, 1, 8, .raw .nilFunc⟩ := by kernel_rfl
@[go_sem] theorem Try.ty70 : Try.tyT 70 = some ⟨.func, 1, 8, .raw .nilFunc⟩ := by kernel_rfl
@[go_sem] theorem Try.ty71 : Try.tyT 71 = some ⟨.func, 1, 8, .raw .nilFunc⟩ := by kernel_rfl
@[go_sem] theorem Try.ty72 : Try.tyT 72 = some ⟨.func, 1, 8, .raw .nilFunc⟩ := by kernel_rfl
@[go_sem] theorem Try.ty73 : Try.tyT 73 = some ⟨.func, 1, 8, .raw .nilFunc⟩ := by kernel_rfl
@[go_sem] theorem Try.ty74 : Try.tyT 74 = some ⟨.func, 1, 8, .raw .nilFunc⟩ := by kernel_rfl
@[go_sem] theorem Try.ty75 : Try.tyT 75 = some ⟨.slice 51, 1, 24, .nil⟩ := by kernel_rfl
@[go_sem] theorem Try.ty76 : Try.tyT 76 = some ⟨.func, 1, 8, .raw .nilFunc⟩ := by kernel_rfl
@[go_sem] theorem Try.ty77 : Try.tyT 77 = some ⟨.func, 1, 8, .raw .nilFunc⟩ := by kernel_rfl
@[go_sem] theorem Try.ty78 : Try.tyT 78 = some ⟨.func, 1, 8, .raw .nilFunc⟩ := by kernel_rfl
@[go_sem] theorem Try.ty79 : Try.tyT 79 = some ⟨.func, 1, 8, .raw .nilFunc⟩ := by kernel_rfl
@[go_sem] theorem Try.ty80 : Try.tyT 80 = some ⟨.func, 1, 8, .raw .nilFunc⟩ := by kernel_rfl
@[go_sem] theorem Try.ty81 : Try.tyT 81 = some ⟨.slice 4, 1, 24, .nil⟩ := by kernel_rfl
@[go_sem] theorem Try.ty82 : Try.tyT 82 = some ⟨.func, 1, 8, .raw .nilFunc⟩ := by kernel_rfl
@[go_sem] theorem Try.ty83 : Try.tyT 83 = some ⟨.func, 1, 8, .raw .nilFunc⟩ := by kernel_rfl
@[go_sem] theorem Try.ty84 : Try.tyT 84 = some ⟨.func, 1, 8, .raw .nilFunc⟩ := by kernel_rfl
@[go_sem] theorem Try.ty85 : Try.tyT 85 = some ⟨.func, 1, 8, .raw .nilFunc⟩ := by kernel_rfl
@[go_sem] theorem Try.ty86 : Try.tyT 86 = some ⟨.func, 1, 8, .raw .nilFunc⟩ := by kernel_rfl
@[go_sem] theorem Try.ty87 : Try.tyT 87 = some ⟨.func, 1, 8, .raw .nilFunc⟩ := by kernel_rfl
@[go_sem] theorem Try.ty88 : Try.tyT 88 = some ⟨.func, 1, 8, .raw .nilFunc⟩ := by kernel_rfl
@[go_sem] theorem Try.ty89 : Try.tyT 89 = some ⟨.func, 1, 8, .raw .nilFunc⟩ := by kernel_rfl
@[go_sem] theorem Try.ty90 : Try.tyT 90 = some ⟨.func, 1, 8, .raw .nilFunc⟩ := by kernel_rfl
@[go_sem] theorem Try.ty91 : Try.tyT 91 = some ⟨.ptr 32, 1, 8, .raw (.pointer none)⟩ := by kernel_rfl
@[go_sem] theorem Try.ty92 : Try.tyT 92 = some ⟨.func, 1, 8, .raw .nilFunc⟩ := by kernel_rfl
@[go_sem] theorem Try.ty93 : Try.tyT 93 = some ⟨.func, 1, 8, .raw .nilFunc⟩ := by kernel_rfl
@[go_sem] theorem Try.ty94 : Try.tyT 94 = some ⟨.func, 1, 8, .raw .nilFunc⟩ := by kernel_rfl
@[go_sem] theorem Try.ty95 : Try.tyT 95 = some ⟨.func, 1, 8, .raw .nilFunc⟩ := by kernel_rfl
@[go_sem] theorem Try.ty96 : Try.tyT 96 = some ⟨.func, 1, 8, .raw .nilFunc⟩ := by kernel_rfl
@[go_sem] theorem Try.ty97 : Try.tyT 97 = some ⟨.func, 1, 8, .raw .nilFunc⟩ := by kernel_rfl
@[go_sem] theorem Try.ty98 : Try.tyT 98 = some ⟨.func, 1, 8, .raw .nilFunc⟩ := by kernel_rfl
@[go_sem] theorem Try.ty99 : Try.tyT 99 = some ⟨.func, 1, 8, .raw .nilFunc⟩ := by kernel_rfl
@[go_sem] theorem Try.ty100 : Try.tyT 100 = some ⟨.struct [(0, 3), (1, 22), (2, 4), (3, 22)], 4, 64, .agg [.int .i64 0, .nil, .bool false, .nil]⟩ := by kernel_rfl
@[go_sem] theorem Try.ty101 : Try.tyT 101 = some ⟨.struct [(0, 3), (1, 22), (2, 4), (3, 22)], 4, 64, .agg [.int .i64 0, .nil, .bool false, .nil]⟩ := by kernel_rfl
@[go_sem] theorem Try.ty102 : Try.tyT 102 = some ⟨.func, 1, 8, .raw .nilFunc⟩ := by kernel_rfl
@[go_sem] theorem Try.ty103 : Try.tyT 103 = some ⟨.struct [(0, 3), (1, 101)], 5, 72, .agg [.int .i64 0, .int .i64 0, .nil, .bool false, .nil]⟩ := by kernel_rfl
@[go_sem] theorem Try.ty104 : Try.tyT 104 = some ⟨.struct [(0, 3), (1, 101)], 5, 72, .agg [.int .i64 0, .int .i64 0, .nil, .bool false, .nil]⟩ := by kernel_rfl
@[go_sem] theorem Try.ty105 : Try.tyT 105 = some ⟨.func, 1, 8, .raw .nilFunc⟩ := by kernel_rfl
@[go_sem] theorem Try.ty106 : Try.tyT 106 = some ⟨.func, 1, 8, .raw .nilFunc⟩ := by kernel_rfl
@[go_sem] theorem Try.ty107 : Try.tyT 107 = some ⟨.func, 1, 8, .raw .nilFunc⟩ := by kernel_rfl
@[go_sem] theorem Try.ty108 : Try.tyT 108 = some ⟨.func, 1, 8, .raw .nilFunc⟩ := by kernel_rfl
@[go_sem] theorem Try.ty109 : Try.tyT 109 = some ⟨.func, 1, 8, .raw .nilFunc⟩ := by kernel_rfl
@[go_sem] theorem Try.ty110 : Try.tyT 110 = some ⟨.func, 1, 8, .raw .nilFunc⟩ := by kernel_rfl
@[go_sem] theorem Try.ty111 : Try.tyT 111 = some ⟨.struct [(0, 3), (1, 3)], 2, 16, .agg [.int .i64 0, .int .i64 0]⟩ := by kernel_rfl
@[go_sem] theorem Try.ty112 : Try.tyT 112 = some ⟨.struct [(0, 3), (1, 3)], 2, 16, .agg [.int .i64 0, .int .i64 0]⟩ := by kernel_rfl
@[go_sem] theorem Try.ty113 : Try.tyT 113 = some ⟨.func, 1, 8, .raw .nilFunc⟩ := by kernel_rfl
@[go_sem] theorem Try.ty114 : Try.tyT 114 = some ⟨.struct [(0, 3), (1, 3)], 2, 16, .agg [.int .i64 0, .int .i64 0]⟩ := by kernel_rfl
@[go_sem] theorem Try.ty115 : Try.tyT 115 = some ⟨.func, 1, 8, .raw .nilFunc⟩ := by kernel_rfl
@[go_sem] theorem Try.ty116 : Try.tyT 116 = some ⟨.func, 1, 8, .raw .nilFunc⟩ := by kernel_rfl
@[go_sem] theorem Try.ty117 : Try.tyT 117 = some ⟨.struct [(0, 3), (1, 22), (2, 4), (3, 22)], 4, 64, .agg [.int .i64 0, .nil, .bool false, .nil]⟩ := by kernel_rfl
@[go_sem] theorem Try.ty118 : Try.tyT 118 = some ⟨.struct [(0, 3), (1, 117)], 5, 72, .agg [.int .i64 0, .int .i64 0, .nil, .bool false, .nil]⟩ := by kernel_rfl
@[go_sem] theorem Try.ty119 : Try.tyT 119 = some ⟨.struct [(0, 3), (1, 117)], 5, 72, .agg [.int .i64 0, .int .i64 0, .nil, .bool false, .nil]⟩ := by kernel_rfl
@[go_sem] theorem Try.ty120 : Try.tyT 120 = some ⟨.func, 1, 8, .raw .nilFunc⟩ := by kernel_rfl
@[go_sem] theorem Try.ty121 : Try.tyT 121 = some ⟨.func, 1, 8, .raw .nilFunc⟩ := by kernel_rfl
@[go_sem] theorem Try.ty122 : Try.tyT 122 = some ⟨.struct [(0, 3), (1, 4)], 2, 16, .agg [.int .i64 0, .bool false]⟩ := by kernel_rfl
@[go_sem] theorem Try.ty123 : Try.tyT 123 = some ⟨.struct [(0, 3), (1, 4)], 2, 16, .agg [.int .i64 0, .bool false]⟩ := by kernel_rfl
@[go_sem] theorem Try.ty124 : Try.tyT 124 = some ⟨.func, 1, 8, .raw .nilFunc⟩ := by kernel_rfl
@[go_sem] theorem Try.ty125 : Try.tyT 125 = some ⟨.struct [(0, 3), (1, 4)], 2, 16, .agg [.int .i64 0, .bool false]⟩ := by kernel_rfl
@[go_sem] theorem Try.ty126 : Try.tyT 126 = some ⟨.func, 1, 8, .raw .nilFunc⟩ := by kernel_rfl
@[go_sem] theorem Try.ty127 : Try.tyT 127 = some ⟨.func, 1, 8, .raw .nilFunc⟩ := by kernel_rfl
@[go_sem] theorem Try.ty128 : Try.tyT 128 = some ⟨.func, 1, 8, .raw .nilFunc⟩ := by kernel_rfl
@[go_sem] theorem Try.ty129 : Try.tyT 129 = some ⟨.func, 1, 8, .raw .nilFunc⟩ := by kernel_rfl
@[go_sem] theorem Try.ty130 : Try.tyT 130 = some ⟨.func, 1, 8, .raw .nilFunc⟩ := by kernel_rfl
@[go_sem] theorem Try.ty131 : Try.tyT 131 = some ⟨.func, 1, 8, .raw .nilFunc⟩ := by kernel_rfl
@[go_sem] theorem Try.ty132 : Try.tyT 132 = some ⟨.func, 1, 8, .raw .nilFunc⟩ := by kernel_rfl
@[go_sem] theorem Try.ty133 : Try.tyT 133 = some ⟨.struct [(0, 3), (1, 3)], 2, 16, .agg [.int .i64 0, .int .i64 0]⟩ := by kernel_rfl
@[go_sem] theorem Try.ty134 : Try.tyT 134 = some ⟨.struct [(0, 3), (1, 3)], 2, 16, .agg [.int .i64 0, .int .i64 0]⟩ := by kernel_rfl
@[go_sem] theorem Try.ty135 : Try.tyT 135 = some ⟨.func, 1, 8, .raw .nilFunc⟩ := by kernel_rfl
@[go_sem] theorem Try.ty136 : Try.tyT 136 = some ⟨.func, 1, 8, .raw .nilFunc⟩ := by kernel_rfl
@[go_sem] theorem Try.ty137 : Try.tyT 137 = some ⟨.struct [(0, 3), (1, 3)], 2, 16, .agg [.int .i64 0, .int .i64 0]⟩ := by kernel_rfl
@[go_sem] theorem Try.ty138 : Try.tyT 138 = some ⟨.func, 1, 8, .raw .nilFunc⟩ := by kernel_rfl
@[go_sem] theorem Try.ty139 : Try.tyT 139 = some ⟨.func, 1, 8, .raw .nilFunc⟩ := by kernel_rfl
@[go_sem] theorem Try.ty140 : Try.tyT 140 = some ⟨.func, 1, 8, .raw .nilFunc⟩ := by kernel_rfl
@[go_sem] theorem Try.ty141 : Try.tyT 141 = some ⟨.func, 1, 8, .raw .nilFunc⟩ := by kernel_rfl
@[go_sem] theorem Try.ty142 : Try.tyT 142 = some ⟨.func, 1, 8, .raw .nilFunc⟩ := by kernel_rfl
@[go_sem] theorem Try.ty143 : Try.tyT 143 = some ⟨.func, 1, 8, .raw .nilFunc⟩ := by kernel_rfl
@[go_sem] theorem Try.ty144 : Try.tyT 144 = some ⟨.func, 1, 8, .raw .nilFunc⟩ := by kernel_rfl
@[go_sem] theorem Try.ty145 : Try.tyT 145 = some ⟨.func, 1, 8, .raw .nilFunc⟩ := by kernel_rfl
@[go_sem] theorem Try.ty146 : Try.tyT 146 = some ⟨.array 4 3, 4, 32, .agg [.int .i64 0, .int .i64 0, .int .i64 0, .int .i64 0]⟩ := by kernel_rfl
@[go_sem] theorem Try.ty147 : Try.tyT 147 = some ⟨.func, 1, 8, .raw .nilFunc⟩ := by kernel_rfl
@[go_sem] theorem Try.ty148 : Try.tyT 148 = some ⟨.func, 1, 8, .raw .nilFunc⟩ := by kernel_rfl
@[go_sem] theorem Try.ty154 : Try.tyT 154 = some ⟨.func, 1, 8, .raw .nilFunc⟩ := by kernel_rfl
@[go_sem] theorem Try.ty155 : Try.tyT 155 = some ⟨.int .u32, 1, 4, .int .u32 0⟩ := by kernel_rfl
@[go_sem] theorem Try.ty156 : Try.tyT 156 = some ⟨.int .u8, 1, 1, .int .u8 0⟩ := by kernel_rfl
@[go_sem] theorem Try.ty157 : Try.tyT 157 = some ⟨.int .u8, 1, 1, .int .u8 0⟩ := by kernel_rfl
@[go_sem] theorem Try.ty158 : Try.tyT 158 = some ⟨.func, 1, 8, .raw .nilFunc⟩ := by kernel_rfl
@[go_sem] theorem Try.ty159 : Try.tyT 159 = some ⟨.ptr 5, 1, 8, .raw (.pointer none)⟩ := by kernel_rfl
@[go_sem] theorem Try.ty160 : Try.tyT 160 = some ⟨.int .i32, 1, 4, .int .i32 0⟩ := by kernel_rfl
@[go_sem] theorem Try.ty161 : Try.tyT 161 = some ⟨.int .i32, 1, 4, .int .i32 0⟩ := by kernel_rfl
@[go_sem] theorem Try.ty162 : Try.tyT 162 = some ⟨.struct [(0, 12), (1, 12), (2, 155), (3, 156), (4, 5), (5, 5), (6, 157), (7, 158), (8, 159), (9, 160), (10, 161)], 11, 48, .agg [.int .u64 0, .int .u64 0, .int .u32 0, .int .u8 0, .int .u8 0, .int .u8 0, .int .u8 0, .raw .nilFunc, .raw (.pointer none), .int .i32 0, .int .i32 0]⟩ := by kernel_rfl
@[go_sem] theorem Try.ty163 : Try.tyT 163 = some ⟨.struct [(0, 12), (1, 12), (2, 155), (3, 156), (4, 5), (5, 5), (6, 157), (7, 158), (8, 159), (9, 160), (10, 161)], 11, 48, .agg [.int .u64 0, .int .u64 0, .int .u32 0, .int .u8 0, .int .u8 0, .int .u8 0, .int .u8 0, .raw .nilFunc, .raw (.pointer none), .int .i32 0, .int .i32 0]⟩ := by kernel_rfl
def Try.pf : Nat → Kind
  | 17 => .proc
  | 18 => .proc
  | 19 => .proc
  | 27 => .proc
  | 28 => .proc
  | 35 => .proc
  | 44 => .proc
  | 48 => .proc
  | 67 => .proc
  | 68 => .proc
  | 79 => .proc
  | 22 => .fz
  | 39 => .fz
  | 45 => .fz
  | _ => .own
@[go_sem] theorem Try.pf0 : Try.pf 0 = .own := rfl
@[go_sem] theorem Try.pf1 : Try.pf 1 = .own := rfl
@[go_sem] theorem Try.pf2 : Try.pf 2 = .own := rfl
@[go_sem] theorem Try.pf3 : Try.pf 3 = .own := rfl
@[go_sem] theorem Try.pf4 : Try.pf 4 = .own := rfl
@[go_sem] theorem Try.pf5 : Try.pf 5 = .own := rfl
@[go_sem] theorem Try.pf6 : Try.pf 6 = .own := rfl
@[go_sem] theorem Try.pf7 : Try.pf 7 = .own := rfl
@[go_sem] theorem Try.pf8 : Try.pf 8 = .own := rfl
@[go_sem] theorem Try.pf9 : Try.pf 9 = .own := rfl
@[go_sem] theorem Try.pf10 : Try.pf 10 = .own := rfl
@[go_sem] theorem Try.pf11 : Try.pf 11 = .own := rfl
@[go_sem] theorem Try.pf12 : Try.pf 12 = .own := rfl
@[go_sem] theorem Try.pf13 : Try.pf 13 = .own := rfl
@[go_sem] theorem Try.pf14 : Try.pf 14 = .own := rfl
@[go_sem] theorem Try.pf15 : Try.pf 15 = .own := rfl
@[go_sem] theorem Try.pf16 : Try.pf 16 = .own := rfl
@[go_sem] theorem Try.pf17 : Try.pf 17 = .proc := rfl
@[go_sem] theorem Try.pf18 : Try.pf 18 = .proc := rfl
@[go_sem] theorem Try.pf19 : Try.pf 19 = .proc := rfl
@[go_sem] theorem Try.pf20 : Try.pf 20 = .own := rfl
@[go_sem] theorem Try.pf21 : Try.pf 21 = .own := rfl
@[go_sem] theorem Try.pf22 : Try.pf 22 = .fz := rfl
@[go_sem] theorem Try.pf23 : Try.pf 23 = .own := rfl
@[go_sem] theorem Try.pf24 : Try.pf 24 = .own := rfl
@[go_sem] theorem Try.pf25 : Try.pf 25 = .own := rfl
@[go_sem] theorem Try.pf26 : Try.pf 26 = .own := rfl
@[go_sem] theorem Try.pf27 : Try.pf 27 = .proc := rfl
@[go_sem] theorem Try.pf28 : Try.pf 28 = .proc := rfl
@[go_sem] theorem Try.pf29 : Try.pf 29 = .own := rfl
@[go_sem] theorem Try.pf30 : Try.pf 30 = .own := rfl
@[go_sem] theorem Try.pf31 : Try.pf 31 = .own := rfl
@[go_sem] theorem Try.pf32 : Try.pf 32 = .own := rfl
@[go_sem] theorem Try.pf33 : Try.pf 33 = .own := rfl
@[go_sem] theorem Try.pf34 : Try.pf 34 = .own := rfl
@[go_sem] theorem Try.pf35 : Try.pf 35 = .proc := rfl
@[go_sem] theorem Try.pf36 : Try.pf 36 = .own := rfl
@[go_sem] theorem Try.pf37 : Try.pf 37 = .own := rfl
@[go_sem] theorem Try.pf38 : Try.pf 38 = .own := rfl
@[go_sem] theorem Try.pf39 : Try.pf 39 = .fz := rfl
@[go_sem] theorem Try.pf40 : Try.pf 40 = .own := rfl
@[go_sem] theorem Try.pf41 : Try.pf 41 = .own := rfl
@[go_sem] theorem Try.pf42 : Try.pf 42 = .own := rfl
@[go_sem] theorem Try.pf43 : Try.pf 43 = .own := rfl
@[go_sem] theorem Try.pf44 : Try.pf 44 = .proc := rfl
@[go_sem] theorem Try.pf45 : Try.pf 45 = .fz := rfl
@[go_sem] theorem Try.pf46 : Try.pf 46 = .own := rfl
@[go_sem] theorem Try.pf47 : Try.pf 47 = .own := rfl
@[go_sem] theorem Try.pf48 : Try.pf 48 = .proc := rfl
@[go_sem] theorem Try.pf49 : Try.pf 49 = .own := rfl
@[go_sem] theorem Try.pf50 : Try.pf 50 = .own := rfl
@[go_sem] theorem Try.pf51 : Try.pf 51 = .own := rfl
@[go_sem] theorem Try.pf52 : Try.pf 52 = .own := rfl
@[go_sem] theorem Try.pf53 : Try.pf 53 = .own := rfl
@[go_sem] theorem Try.pf54 : Try.pf 54 = .own := rfl
@[go_sem] theorem Try.pf55 : Try.pf 55 = .own := rfl
@[go_sem] theorem Try.pf56 : Try.pf 56 = .own := rfl
@[go_sem] theorem Try.pf57 : Try.pf 57 = .own := rfl
@[go_sem] theorem Try.pf58 : Try.pf 58 = .own := rfl
@[go_sem] theorem Try.pf59 : Try.pf 59 = .own := rfl
@[go_sem] theorem Try.pf60 : Try.pf 60 = .own := rfl
@[go_sem] theorem Try.pf61 : Try.pf 61 = .own := rfl
@[go_sem] theorem Try.pf62 : Try.pf 62 = .own := rfl
@[go_sem] theorem Try.pf63 : Try.pf 63 = .own := rfl
@[go_sem] theorem Try.pf64 : Try.pf 64 = .own := rfl
@[go_sem] theorem Try.pf65 : Try.pf 65 = .own := rfl
@[go_sem] theorem Try.pf66 : Try.pf 66 = .own := rfl
@[go_sem] theorem Try.pf67 : Try.pf 67 = .proc := rfl
@[go_sem] theorem Try.pf68 : Try.pf 68 = .proc := rfl
@[go_sem] theorem Try.pf69 : Try.pf 69 = .own := rfl
@[go_sem] theorem Try.pf70 : Try.pf 70 = .own := rfl
@[go_sem] theorem Try.pf71 : Try.pf 71 = .own := rfl
@[go_sem] theorem Try.pf72 : Try.pf 72 = .own := rfl
@[go_sem] theorem Try.pf73 : Try.pf 73 = .own := rfl
@[go_sem] theorem Try.pf74 : Try.pf 74 = .own := rfl
@[go_sem] theorem Try.pf75 : Try.pf 75 = .own := rfl
@[go_sem] theorem Try.pf76 : Try.pf 76 = .own := rfl
@[go_sem] theorem Try.pf77 : Try.pf 77 = .own := rfl
@[go_sem] theorem Try.pf78 : Try.pf 78 = .own := rfl
@[go_sem] theorem Try.pf79 : Try.pf 79 = .proc := rfl
@[go_sem] theorem Try.pf80 : Try.pf 80 = .own := rfl
@[go_sem] theorem Try.pf81 : Try.pf 81 = .own := rfl
@[go_sem] theorem Try.pf82 : Try.pf 82 = .own := rfl
@[go_sem] theorem Try.pf83 : Try.pf 83 = .own := rfl
@[go_sem] theorem Try.pf84 : Try.pf 84 = .own := rfl
@[go_sem] theorem Try.pf85 : Try.pf 85 = .own := rfl
@[go_sem] theorem Try.pf86 : Try.pf 86 = .own := rfl
@[go_sem] theorem Try.pf87 : Try.pf 87 = .own := rfl
@[go_sem] theorem Try.pf88 : Try.pf 88 = .own := rfl
@[go_sem] theorem Try.pf89 : Try.pf 89 = .own := rfl
@[go_sem] theorem Try.pf90 : Try.pf 90 = .own := rfl
@[go_sem] theorem Try.pf91 : Try.pf 91 = .own := rfl
@[go_sem] theorem Try.pf92 : Try.pf 92 = .own := rfl
@[go_sem] theorem Try.pf93 : Try.pf 93 = .own := rfl
@[go_sem] theorem Try.pf94 : Try.pf 94 = .own := rfl
@[go_sem] theorem Try.pf95 : Try.pf 95 = .own := rfl
@[go_sem] theorem Try.pf96 : Try.pf 96 = .own := rfl
@[go_sem] theorem Try.pf97 : Try.pf 97 = .own := rfl
@[go_sem] theorem Try.pf98 : Try.pf 98 = .own := rfl
@[go_sem] theorem Try.pf99 : Try.pf 99 = .own := rfl
@[go_sem] theorem Try.pf100 : Try.pf 100 = .own := rfl
@[go_sem] theorem Try.pf101 : Try.pf 101 = .own := rfl
@[go_sem] theorem Try.pf102 : Try.pf 102 = .own := rfl
@[go_sem] theorem Try.pf103 : Try.pf 103 = .own := rfl
@[go_sem] theorem Try.pf104 : Try.pf 104 = .own := rfl
@[go_sem] theorem Try.pf105 : Try.pf 105 = .own := rfl
@[go_sem] theorem Try.pf106 : Try.pf 106 = .own := rfl
@[go_sem] theorem Try.pf107 : Try.pf 107 = .own := rfl
@[go_sem] theorem Try.pf108 : Try.pf 108 = .own := rfl
@[go_sem] theorem Try.pf109 : Try.pf 109 = .own := rfl
@[go_sem] theorem Try.pf110 : Try.pf 110 = .own := rfl
@[go_sem] theorem Try.pf111 : Try.pf 111 = .own := rfl
@[go_sem] theorem Try.pf112 : Try.pf 112 = .own := rfl
@[go_sem] theorem Try.pf113 : Try.pf 113 = .own := rfl
@[go_sem] theorem Try.pf114 : Try.pf 114 = .own := rfl
@[go_sem] theorem Try.pf115 : Try.pf 115 = .own := rfl
@[go_sem] theorem Try.pf116 : Try.pf 116 = .own := rfl
@[go_sem] theorem Try.pf117 : Try.pf 117 = .own := rfl
@[go_sem] theorem Try.pf118 : Try.pf 118 = .own := rfl
@[go_sem] theorem Try.pf119 : Try.pf 119 = .own := rfl
@[go_sem] theorem Try.pf120 : Try.pf 120 = .own := rfl
@[go_sem] theorem Try.pf121 : Try.pf 121 = .own := rfl
@[go_sem] theorem Try.pf122 : Try.pf 122 = .own := rfl
@[go_sem] theorem Try.pf123 : Try.pf 123 = .own := rfl
@[go_sem] theorem Try.pf124 : Try.pf 124 = .own := rfl
@[go_sem] theorem Try.pf125 : Try.pf 125 = .own := rfl
@[go_sem] theorem Try.pf126 : Try.pf 126 = .own := rfl
@[go_sem] theorem Try.pf127 : Try.pf 127 = .own := rfl
@[go_sem] theorem Try.pf128 : Try.pf 128 = .own := rfl
@[go_sem] theorem Try.pf129 : Try.pf 129 = .own := rfl
@[go_sem] theorem Try.pf130 : Try.pf 130 = .own := rfl
@[go_sem] theorem Try.pf131 : Try.pf 131 = .own := rfl
@[go_sem] theorem Try.pf132 : Try.pf 132 = .own := rfl
@[go_sem] theorem Try.pf133 : Try.pf 133 = .own := rfl
@[go_sem] theorem Try.pf134 : Try.pf 134 = .own := rfl
noncomputable def Try.env (n : Nat) : Env := ⟨Try.prog, Try.tyT, Try.pf, n, false⟩
@[go_sem] theorem Try.env_deep (n : Nat) : (Try.env n).deep = false := rfl
noncomputable def Try.envd (n : Nat) : Env := ⟨Try.prog, Try.tyT, Try.pf, n, true⟩
@[go_sem] theorem Try.envd_deep (n : Nat) : (Try.envd n).deep = true := rfl
@[go_sem] theorem Try.envd_T (n : Nat) : (Try.envd n).T = Try.tyT := rfl
@[go_sem] theorem Try.envd_n (n : Nat) : (Try.envd n).n = n := rfl
@[go_sem] theorem Try.envd_pf (n f : Nat) : (Try.envd n).pf f = Try.pf f := rfl
@[go_sem] theorem Try.envd_P (n : Nat) : (Try.envd n).P = Try.prog := rfl
@[go_sem] theorem Try.env_T (n : Nat) : (Try.env n).T = Try.tyT := rfl
@[go_sem] theorem Try.env_n (n : Nat) : (Try.env n).n = n := rfl
@[go_sem] theorem Try.env_pf (n f : Nat) : (Try.env n).pf f = Try.pf f := rfl
@[go_sem] theorem Try.env_P (n : Nat) : (Try.env n).P = Try.prog := rfl
@[go_sem] theorem Try.follows : Try.prog.follows .mixedOrders = true := by kernel_rfl

end Go.Proofs
