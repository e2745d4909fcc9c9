/- The table of the types of a translation, and that it is right. Made by a program. Conditions: none. -/
import Derived.Test.YtaegedoalbnafaaProg
import Derived.Test.YtaegedoalbnafaaVM8
import Derived.KernelRfl
set_option linter.unusedVariables false
namespace Go.Proofs
open Go.VL

def Try.tyT : Nat → Option TI
  | 1 => some ⟨.func, 1, 8, .raw .nilFunc⟩
  | 2 => some ⟨.int .i64, 1, 8, .int .i64 0⟩
  | 3 => some ⟨.int .i64, 1, 8, .int .i64 0⟩
  | 4 => some ⟨.bool, 1, 1, .bool false⟩
  | 5 => some ⟨.int .u8, 1, 1, .int .u8 0⟩
  | 6 => some ⟨.int .u8, 1, 1, .int .u8 0⟩
  | 7 => some ⟨.struct [(0, 2), (1, 3), (2, 4), (3, 6)], 4, 24, .agg [.int .i64 0, .int .i64 0, .bool false, .int .u8 0]⟩
  | 8 => some ⟨.struct [(0, 2), (1, 3), (2, 4), (3, 6)], 4, 24, .agg [.int .i64 0, .int .i64 0, .bool false, .int .u8 0]⟩
  | 12 => some ⟨.int .u64, 1, 8, .int .u64 0⟩
  | 15 => some ⟨.ptr 153, 1, 8, .raw (.pointer none)⟩
  | 16 => some ⟨.ptr 156, 1, 8, .raw (.pointer none)⟩
  | 17 => some ⟨.ptr 166, 1, 8, .raw (.pointer none)⟩
  | 18 => some ⟨.struct [(0, 17)], 1, 8, .agg [.raw (.pointer none)]⟩
  | 19 => some ⟨.struct [(0, 17)], 1, 8, .agg [.raw (.pointer none)]⟩
  | 21 => some ⟨.int .i32, 1, 4, .int .i32 0⟩
  | 22 => some ⟨.slice 5, 1, 24, .nil⟩
  | 23 => some ⟨.slice 3, 1, 24, .nil⟩
  | 24 => some ⟨.slice 90, 1, 24, .nil⟩
  | 25 => some ⟨.struct [(0, 3), (1, 23), (2, 24), (3, 23)], 4, 80, .agg [.int .i64 0, .nil, .nil, .nil]⟩
  | 26 => some ⟨.struct [(0, 3), (1, 23), (2, 24), (3, 23)], 4, 80, .agg [.int .i64 0, .nil, .nil, .nil]⟩
  | 27 => some ⟨.func, 1, 8, .raw .nilFunc⟩
  | 28 => some ⟨.func, 1, 8, .raw .nilFunc⟩
  | 29 => some ⟨.func, 1, 8, .raw .nilFunc⟩
  | 30 => some ⟨.func, 1, 8, .raw .nilFunc⟩
  | 31 => some ⟨.func, 1, 8, .raw .nilFunc⟩
  | 32 => some ⟨.slice 33, 1, 24, .nil⟩
  | 33 => some ⟨.slice 4, 1, 24, .nil⟩
  | 34 => some ⟨.func, 1, 8, .raw .nilFunc⟩
  | 35 => some ⟨.func, 1, 8, .raw .nilFunc⟩
  | 36 => some ⟨.func, 1, 8, .raw .nilFunc⟩
  | 37 => some ⟨.func, 1, 8, .raw .nilFunc⟩
  | 38 => some ⟨.func, 1, 8, .raw .nilFunc⟩
  | 39 => some ⟨.func, 1, 8, .raw .nilFunc⟩
  | 40 => some ⟨.func, 1, 8, .raw .nilFunc⟩
  | 41 => some ⟨.func, 1, 8, .raw .nilFunc⟩
  | 42 => some ⟨.func, 1, 8, .raw .nilFunc⟩
  | 44 => some ⟨.func, 1, 8, .raw .nilFunc⟩
  | 45 => some ⟨.func, 1, 8, .raw .nilFunc⟩
  | 46 => some ⟨.struct [(0, 33), (1, 33)], 2, 48, .agg [.nil, .nil]⟩
  | 47 => some ⟨.struct [(0, 33), (1, 33)], 2, 48, .agg [.nil, .nil]⟩
  | 48 => some ⟨.func, 1, 8, .raw .nilFunc⟩
  | 49 => some ⟨.slice 140, 1, 24, .nil⟩
  | 50 => some ⟨.struct [(0, 3), (1, 23), (2, 49), (3, 23)], 4, 80, .agg [.int .i64 0, .nil, .nil, .nil]⟩
  | 51 => some ⟨.struct [(0, 3), (1, 23), (2, 49), (3, 23)], 4, 80, .agg [.int .i64 0, .nil, .nil, .nil]⟩
  | 52 => some ⟨.func, 1, 8, .raw .nilFunc⟩
  | 53 => some ⟨.func, 1, 8, .raw .nilFunc⟩
  | 54 => some ⟨.func, 1, 8, .raw .nilFunc⟩
  | 55 => some ⟨.func, 1, 8, .raw .nilFunc⟩
  | 56 => some ⟨.func, 1, 8, .raw .nilFunc⟩
  | 57 => some ⟨.func, 1, 8, .raw .nilFunc⟩
  | 58 => some ⟨.func, 1, 8, .raw .nilFunc⟩
  | 59 => some ⟨.func, 1, 8, .raw .nilFunc⟩
  | 60 => some ⟨.struct [(0, 3), (1, 4)], 2, 16, .agg [.int .i64 0, .bool false]⟩
  | 61 => some ⟨.struct [(0, 3), (1, 4)], 2, 16, .agg [.int .i64 0, .bool false]⟩
  | 62 => some ⟨.func, 1, 8, .raw .nilFunc⟩
  | 64 => some ⟨.func, 1, 8, .raw .nilFunc⟩
  | 65 => some ⟨.func, 1, 8, .raw .nilFunc⟩
  | 66 => some ⟨.func, 1, 8, .raw .nilFunc⟩
  | 67 => some ⟨.slice 117, 1, 24, .nil⟩
  | 68 => some ⟨.struct [(0, 67), (1, 3)], 2, 32, .agg [.nil, .int .i64 0]⟩
  | 69 => some ⟨.struct [(0, 67), (1, 3)], 2, 32, .agg [.nil, .int .i64 0]⟩
  | 70 => some ⟨.func, 1, 8, .raw .nilFunc⟩
  | 71 => some ⟨.struct [(0, 4), (1, 32)], 2, 32, .agg [.bool false, .nil]⟩
  | 72 => some ⟨.struct [(0, 4), (1, 32)], 2, 32, .agg [.bool false, .nil]⟩
  | 73 => some ⟨.func, 1, 8, .raw .nilFunc⟩
  | 74 => some ⟨.func, 1, 8, .raw .nilFunc⟩
  | 75 => some ⟨.func, 1, 8, .raw .nilFunc⟩
  | 76 => some ⟨.func, 1, 8, .raw .nilFunc⟩
  | 77 => some ⟨.func, 1, 8, .raw .nilFunc⟩
  | 78 => some ⟨.func, 1, 8, .raw .nilFunc⟩
  | 79 => some ⟨.func, 1, 8, .raw .nilFunc⟩
  | 80 => some ⟨.func, 1, 8, .raw .nilFunc⟩
  | 81 => some ⟨.func, 1, 8, .raw .nilFunc⟩
  | 82 => some ⟨.func, 1, 8, .raw .nilFunc⟩
  | 83 => some ⟨.ptr 134, 1, 8, .raw (.pointer none)⟩
  | 84 => some ⟨.func, 1, 8, .raw .nilFunc⟩
  | 85 => some ⟨.func, 1, 8, .raw .nilFunc⟩
  | 86 => some ⟨.ptr 26, 1, 8, .raw (.pointer none)⟩
  | 87 => some ⟨.func, 1, 8, .raw .nilFunc⟩
  | 88 => some ⟨.array 2 3, 2, 16, .agg [.int .i64 0, .int .i64 0]⟩
  | 89 => some ⟨.struct [(0, 3), (1, 3)], 2, 16, .agg [.int .i64 0, .int .i64 0]⟩
  | 90 => some ⟨.struct [(0, 3), (1, 3)], 2, 16, .agg [.int .i64 0, .int .i64 0]⟩
  | 91 => some ⟨.func, 1, 8, .raw .nilFunc⟩
  | 92 => some ⟨.func, 1, 8, .raw .nilFunc⟩
  | 93 => some ⟨.func, 1, 8, .raw .nilFunc⟩
  | 94 => some ⟨.ptr 99, 1, 8, .raw (.pointer none)⟩
  | 95 => some ⟨.func, 1, 8, .raw .nilFunc⟩
  | 96 => some ⟨.func, 1, 8, .raw .nilFunc⟩
  | 97 => some ⟨.map 90 3, 1, 8, .raw (.map none)⟩
  | 98 => some ⟨.struct [(0, 3), (1, 24), (2, 23), (3, 97)], 4, 64, .agg [.int .i64 0, .nil, .nil, .raw (.map none)]⟩
  | 99 => some ⟨.struct [(0, 3), (1, 24), (2, 23), (3, 97)], 4, 64, .agg [.int .i64 0, .nil, .nil, .raw (.map none)]⟩
  | 100 => some ⟨.func, 1, 8, .raw .nilFunc⟩
  | 102 => some ⟨.func, 1, 8, .raw .nilFunc⟩
  | 103 => some ⟨.map 3 4, 1, 8, .raw (.map none)⟩
  | 104 => some ⟨.func, 1, 8, .raw .nilFunc⟩
  | 105 => some ⟨.func, 1, 8, .raw .nilFunc⟩
  | 106 => some ⟨.func, 1, 8, .raw .nilFunc⟩
  | 107 => some ⟨.func, 1, 8, .raw .nilFunc⟩
  | 108 => some ⟨.func, 1, 8, .raw .nilFunc⟩
  | 109 => some ⟨.func, 1, 8, .raw .nilFunc⟩
  | 110 => some ⟨.func, 1, 8, .raw .nilFunc⟩
  | 111 => some ⟨.func, 1, 8, .raw .nilFunc⟩
  | 112 => some ⟨.func, 1, 8, .raw .nilFunc⟩
  | 113 => some ⟨.func, 1, 8, .raw .nilFunc⟩
  | 114 => some ⟨.func, 1, 8, .raw .nilFunc⟩
  | 115 => some ⟨.func, 1, 8, .raw .nilFunc⟩
  | 116 => some ⟨.struct [(0, 3), (1, 3), (2, 3)], 3, 24, .agg [.int .i64 0, .int .i64 0, .int .i64 0]⟩
  | 117 => some ⟨.struct [(0, 3), (1, 3), (2, 3)], 3, 24, .agg [.int .i64 0, .int .i64 0, .int .i64 0]⟩
  | 118 => some ⟨.func, 1, 8, .raw .nilFunc⟩
  | 119 => some ⟨.ptr 123, 1, 8, .raw (.pointer none)⟩
  | 120 => some ⟨.func, 1, 8, .raw .nilFunc⟩
  | 121 => some ⟨.map 117 3, 1, 8, .raw (.map none)⟩
  | 122 => some ⟨.struct [(0, 33), (1, 3), (2, 67), (3, 121)], 4, 64, .agg [.nil, .int .i64 0, .nil, .raw (.map none)]⟩
  | 123 => some ⟨.struct [(0, 33), (1, 3), (2, 67), (3, 121)], 4, 64, .agg [.nil, .int .i64 0, .nil, .raw (.map none)]⟩
  | 124 => some ⟨.func, 1, 8, .raw .nilFunc⟩
  | 126 => some ⟨.func, 1, 8, .raw .nilFunc⟩
  | 127 => some ⟨.func, 1, 8, .raw .nilFunc⟩
  | 128 => some ⟨.func, 1, 8, .raw .nilFunc⟩
  | 129 => some ⟨.func, 1, 8, .raw .nilFunc⟩
  | 130 => some ⟨.func, 1, 8, .raw .nilFunc⟩
  | 131 => some ⟨.func, 1, 8, .raw .nilFunc⟩
  | 132 => some ⟨.func, 1, 8, .raw .nilFunc⟩
  | 133 => some ⟨.struct [(0, 22), (1, 3)], 2, 32, .agg [.nil, .int .i64 0]⟩
  | 134 => some ⟨.struct [(0, 22), (1, 3)], 2, 32, .agg [.nil, .int .i64 0]⟩
  | 135 => some ⟨.func, 1, 8, .raw .nilFunc⟩
  | 137 => some ⟨.func, 1, 8, .raw .nilFunc⟩
  | 138 => some ⟨.func, 1, 8, .raw .nilFunc⟩
  | 139 => some ⟨.func, 1, 8, .raw .nilFunc⟩
  | 140 => some ⟨.struct [(0, 3), (1, 3)], 2, 16, .agg [.int .i64 0, .int .i64 0]⟩
  | 141 => some ⟨.func, 1, 8, .raw .nilFunc⟩
  | 142 => some ⟨.func, 1, 8, .raw .nilFunc⟩
  | 143 => some ⟨.map 117 4, 1, 8, .raw (.map none)⟩
  | 144 => some ⟨.slice 88, 1, 24, .nil⟩
  | 145 => some ⟨.slice 32, 1, 24, .nil⟩
  | 146 => some ⟨.map 88 4, 1, 8, .raw (.map none)⟩
  | 148 => some ⟨.func, 1, 8, .raw .nilFunc⟩
  | 149 => some ⟨.func, 1, 8, .raw .nilFunc⟩
  | 150 => some ⟨.func, 1, 8, .raw .nilFunc⟩
  | 151 => some ⟨.func, 1, 8, .raw .nilFunc⟩
  | 157 => some ⟨.func, 1, 8, .raw .nilFunc⟩
  | 158 => some ⟨.int .u32, 1, 4, .int .u32 0⟩
  | 159 => some ⟨.int .u8, 1, 1, .int .u8 0⟩
  | 160 => some ⟨.int .u8, 1, 1, .int .u8 0⟩
  | 161 => some ⟨.func, 1, 8, .raw .nilFunc⟩
  | 162 => some ⟨.ptr 5, 1, 8, .raw (.pointer none)⟩
  | 163 => some ⟨.int .i32, 1, 4, .int .i32 0⟩
  | 164 => some ⟨.int .i32, 1, 4, .int .i32 0⟩
  | 165 => some ⟨.struct [(0, 12), (1, 12), (2, 158), (3, 159), (4, 5), (5, 5), (6, 160), (7, 161), (8, 162), (9, 163), (10, 164)], 11, 48, .agg [.int .u64 0, .int .u64 0, .int .u32 0, .int .u8 0, .int .u8 0, .int .u8 0, .int .u8 0, .raw .nilFunc, .raw (.pointer none), .int .i32 0, .int .i32 0]⟩
  | 166 => some ⟨.struct [(0, 12), (1, 12), (2, 158), (3, 159), (4, 5), (5, 5), (6, 160), (7, 161), (8, 162), (9, 163), (10, 164)], 11, 48, .agg [.int .u64 0, .int .u64 0, .int .u32 0, .int .u8 0, .int .u8 0, .int .u8 0, .int .u8 0, .raw .nilFunc, .raw (.pointer none), .int .i32 0, .int .i32 0]⟩
  | _ => none

theorem Try.tok1 : TIOK Try.prog 1 ⟨.func, 1, 8, .raw .nilFunc⟩ := tiok_of (by kernel_rfl) (by kernel_rfl) (by kernel_rfl) (by kernel_rfl) (by kernel_rfl) (by kernel_rfl)
theorem Try.tok2 : TIOK Try.prog 2 ⟨.int .i64, 1, 8, .int .i64 0⟩ := tiok_of (by kernel_rfl) (by kernel_rfl) (by kernel_rfl) (by kernel_rfl) (by kernel_rfl) (by kernel_rfl)
theorem Try.tok3 : TIOK Try.prog 3 ⟨.int .i64, 1, 8, .int .i64 0⟩ := tiok_of (by kernel_rfl) (by kernel_rfl) (by kernel_rfl) (by kernel_rfl) (by kernel_rfl) (by kernel_rfl)
theorem Try.tok4 : TIOK Try.prog 4 ⟨.bool, 1, 1, .bool false⟩ := tiok_of (by kernel_rfl) (by kernel_rfl) (by kernel_rfl) (by kernel_rfl) (by kernel_rfl) (by kernel_rfl)
theorem Try.tok5 : TIOK Try.prog 5 ⟨.int .u8, 1, 1, .int .u8 0⟩ := tiok_of (by kernel_rfl) (by kernel_rfl) (by kernel_rfl) (by kernel_rfl) (by kernel_rfl) (by kernel_rfl)
theorem Try.tok6 : TIOK Try.prog 6 ⟨.int .u8, 1, 1, .int .u8 0⟩ := tiok_of (by kernel_rfl) (by kernel_rfl) (by kernel_rfl) (by kernel_rfl) (by kernel_rfl) (by kernel_rfl)
theorem Try.tok7 : TIOK Try.prog 7 ⟨.struct [(0, 2), (1, 3), (2, 4), (3, 6)], 4, 24, .agg [.int .i64 0, .int .i64 0, .bool false, .int .u8 0]⟩ := tiok_of (by kernel_rfl) (by kernel_rfl) (by kernel_rfl) (by kernel_rfl) (by kernel_rfl) (by kernel_rfl)
theorem Try.tok8 : TIOK Try.prog 8 ⟨.struct [(0, 2), (1, 3), (2, 4), (3, 6)], 4, 24, .agg [.int .i64 0, .int .i64 0, .bool false, .int .u8 0]⟩ := tiok_of (by kernel_rfl) (by kernel_rfl) (by kernel_rfl) (by kernel_rfl) (by kernel_rfl) (by kernel_rfl)
theorem Try.tok12 : TIOK Try.prog 12 ⟨.int .u64, 1, 8, .int .u64 0⟩ := tiok_of (by kernel_rfl) (by kernel_rfl) (by kernel_rfl) (by kernel_rfl) (by kernel_rfl) (by kernel_rfl)
theorem Try.tok15 : TIOK Try.prog 15 ⟨.ptr 153, 1, 8, .raw (.pointer none)⟩ := tiok_of (by kernel_rfl) (by kernel_rfl) (by kernel_rfl) (by kernel_rfl) (by kernel_rfl) (by kernel_rfl)
theorem Try.tok16 : TIOK Try.prog 16 ⟨.ptr 156, 1, 8, .raw (.pointer none)⟩ := tiok_of (by kernel_rfl) (by kernel_rfl) (by kernel_rfl) (by kernel_rfl) (by kernel_rfl) (by kernel_rfl)
theorem Try.tok17 : TIOK Try.prog 17 ⟨.ptr 166, 1, 8, .raw (.pointer none)⟩ := tiok_of (by kernel_rfl) (by kernel_rfl) (by kernel_rfl) (by kernel_rfl) (by kernel_rfl) (by kernel_rfl)
theorem Try.tok18 : TIOK Try.prog 18 ⟨.struct [(0, 17)], 1, 8, .agg [.raw (.pointer none)]⟩ := tiok_of (by kernel_rfl) (by kernel_rfl) (by kernel_rfl) (by kernel_rfl) (by kernel_rfl) (by kernel_rfl)
theorem Try.tok19 : TIOK Try.prog 19 ⟨.struct [(0, 17)], 1, 8, .agg [.raw (.pointer none)]⟩ := tiok_of (by kernel_rfl) (by kernel_rfl) (by kernel_rfl) (by kernel_rfl) (by kernel_rfl) (by kernel_rfl)
theorem Try.tok21 : TIOK Try.prog 21 ⟨.int .i32, 1, 4, .int .i32 0⟩ := tiok_of (by kernel_rfl) (by kernel_rfl) (by kernel_rfl) (by kernel_rfl) (by kernel_rfl) (by kernel_rfl)
theorem Try.tok22 : TIOK Try.prog 22 ⟨.slice 5, 1, 24, .nil⟩ := tiok_of (by kernel_rfl) (by kernel_rfl) (by kernel_rfl) (by kernel_rfl) (by kernel_rfl) (by kernel_rfl)
theorem Try.tok23 : TIOK Try.prog 23 ⟨.slice 3, 1, 24, .nil⟩ := tiok_of (by kernel_rfl) (by kernel_rfl) (by kernel_rfl) (by kernel_rfl) (by kernel_rfl) (by kernel_rfl)
theorem Try.tok24 : TIOK Try.prog 24 ⟨.slice 90, 1, 24, .nil⟩ := tiok_of (by kernel_rfl) (by kernel_rfl) (by kernel_rfl) (by kernel_rfl) (by kernel_rfl) (by kernel_rfl)
theorem Try.tok25 : TIOK Try.prog 25 ⟨.struct [(0, 3), (1, 23), (2, 24), (3, 23)], 4, 80, .agg [.int .i64 0, .nil, .nil, .nil]⟩ := tiok_of (by kernel_rfl) (by kernel_rfl) (by kernel_rfl) (by kernel_rfl) (by kernel_rfl) (by kernel_rfl)
theorem Try.tok26 : TIOK Try.prog 26 ⟨.struct [(0, 3), (1, 23), (2, 24), (3, 23)], 4, 80, .agg [.int .i64 0, .nil, .nil, .nil]⟩ := tiok_of (by kernel_rfl) (by kernel_rfl) (by kernel_rfl) (by kernel_rfl) (by kernel_rfl) (by kernel_rfl)
theorem Try.tok27 : TIOK Try.prog 27 ⟨.func, 1, 8, .raw .nilFunc⟩ := tiok_of (by kernel_rfl) (by kernel_rfl) (by kernel_rfl) (by kernel_rfl) (by kernel_rfl) (by kernel_rfl)
theorem Try.tok28 : TIOK Try.prog 28 ⟨.func, 1, 8, .raw .nilFunc⟩ := tiok_of (by kernel_rfl) (by kernel_rfl) (by kernel_rfl) (by kernel_rfl) (by kernel_rfl) (by kernel_rfl)
theorem Try.tok29 : TIOK Try.prog 29 ⟨.func, 1, 8, .raw .nilFunc⟩ := tiok_of (by kernel_rfl) (by kernel_rfl) (by kernel_rfl) (by kernel_rfl) (by kernel_rfl) (by kernel_rfl)
theorem Try.tok30 : TIOK Try.prog 30 ⟨.func, 1, 8, .raw .nilFunc⟩ := tiok_of (by kernel_rfl) (by kernel_rfl) (by kernel_rfl) (by kernel_rfl) (by kernel_rfl) (by kernel_rfl)
theorem Try.tok31 : TIOK Try.prog 31 ⟨.func, 1, 8, .raw .nilFunc⟩ := tiok_of (by kernel_rfl) (by kernel_rfl) (by kernel_rfl) (by kernel_rfl) (by kernel_rfl) (by kernel_rfl)
theorem Try.tok32 : TIOK Try.prog 32 ⟨.slice 33, 1, 24, .nil⟩ := tiok_of (by kernel_rfl) (by kernel_rfl) (by kernel_rfl) (by kernel_rfl) (by kernel_rfl) (by kernel_rfl)
theorem Try.tok33 : TIOK Try.prog 33 ⟨.slice 4, 1, 24, .nil⟩ := tiok_of (by kernel_rfl) (by kernel_rfl) (by kernel_rfl) (by kernel_rfl) (by kernel_rfl) (by kernel_rfl)
theorem Try.tok34 : TIOK Try.prog 34 ⟨.func, 1, 8, .raw .nilFunc⟩ := tiok_of (by kernel_rfl) (by kernel_rfl) (by kernel_rfl) (by kernel_rfl) (by kernel_rfl) (by kernel_rfl)
theorem Try.tok35 : TIOK Try.prog 35 ⟨.func, 1, 8, .raw .nilFunc⟩ := tiok_of (by kernel_rfl) (by kernel_rfl) (by kernel_rfl) (by kernel_rfl) (by kernel_rfl) (by kernel_rfl)
theorem Try.tok36 : TIOK Try.prog 36 ⟨.func, 1, 8, .raw .nilFunc⟩ := tiok_of (by kernel_rfl) (by kernel_rfl) (by kernel_rfl) (by kernel_rfl) (by kernel_rfl) (by kernel_rfl)
theorem Try.tok37 : TIOK Try.prog 37 ⟨.func, 1, 8, .raw .nilFunc⟩ := tiok_of (by kernel_rfl) (by kernel_rfl) (by kernel_rfl) (by kernel_rfl) (by kernel_rfl) (by kernel_rfl)
theorem Try.tok38 : TIOK Try.prog 38 ⟨.func, 1, 8, .raw .nilFunc⟩ := tiok_of (by kernel_rfl) (by kernel_rfl) (by kernel_rfl) (by kernel_rfl) (by kernel_rfl) (by kernel_rfl)
theorem Try.tok39 : TIOK Try.prog 39 ⟨.func, 1, 8, .raw .nilFunc⟩ := tiok_of (by kernel_rfl) (by kernel_rfl) (by kernel_rfl) (by kernel_rfl) (by kernel_rfl) (by kernel_rfl)
theorem Try.tok40 : TIOK Try.prog 40 ⟨.func, 1, 8, .raw .nilFunc⟩ := tiok_of (by kernel_rfl) (by kernel_rfl) (by kernel_rfl) (by kernel_rfl) (by kernel_rfl) (by kernel_rfl)
theorem Try.tok41 : TIOK Try.prog 41 ⟨.func, 1, 8, .raw .nilFunc⟩ := tiok_of (by kernel_rfl) (by kernel_rfl) (by kernel_rfl) (by kernel_rfl) (by kernel_rfl) (by kernel_rfl)
theorem Try.tok42 : TIOK Try.prog 42 ⟨.func, 1, 8, .raw .nilFunc⟩ := tiok_of (by kernel_rfl) (by kernel_rfl) (by kernel_rfl) (by kernel_rfl) (by kernel_rfl) (by kernel_rfl)
theorem Try.tok44 : TIOK Try.prog 44 ⟨.func, 1, 8, .raw .nilFunc⟩ := tiok_of (by kernel_rfl) (by kernel_rfl) (by kernel_rfl) (by kernel_rfl) (by kernel_rfl) (by kernel_rfl)
theorem Try.tok45 : TIOK Try.prog 45 ⟨.func, 1, 8, .raw .nilFunc⟩ := tiok_of (by kernel_rfl) (by kernel_rfl) (by kernel_rfl) (by kernel_rfl) (by kernel_rfl) (by kernel_rfl)
theorem Try.tok46 : TIOK Try.prog 46 ⟨.struct [(0, 33), (1, 33)], 2, 48, .agg [.nil, .nil]⟩ := tiok_of (by kernel_rfl) (by kernel_rfl) (by kernel_rfl) (by kernel_rfl) (by kernel_rfl) (by kernel_rfl)
theorem Try.tok47 : TIOK Try.prog 47 ⟨.struct [(0, 33), (1, 33)], 2, 48, .agg [.nil, .nil]⟩ := tiok_of (by kernel_rfl) (by kernel_rfl) (by kernel_rfl) (by kernel_rfl) (by kernel_rfl) (by kernel_rfl)
theorem Try.tok48 : TIOK Try.prog 48 ⟨.func, 1, 8, .raw .nilFunc⟩ := tiok_of (by kernel_rfl) (by kernel_rfl) (by kernel_rfl) (by kernel_rfl) (by kernel_rfl) (by kernel_rfl)
theorem Try.tok49 : TIOK Try.prog 49 ⟨.slice 140, 1, 24, .nil⟩ := tiok_of (by kernel_rfl) (by kernel_rfl) (by kernel_rfl) (by kernel_rfl) (by kernel_rfl) (by kernel_rfl)
theorem Try.tok50 : TIOK Try.prog 50 ⟨.struct [(0, 3), (1, 23), (2, 49), (3, 23)], 4, 80, .agg [.int .i64 0, .nil, .nil, .nil]⟩ := tiok_of (by kernel_rfl) (by kernel_rfl) (by kernel_rfl) (by kernel_rfl) (by kernel_rfl) (by kernel_rfl)
theorem Try.tok51 : TIOK Try.prog 51 ⟨.struct [(0, 3), (1, 23), (2, 49), (3, 23)], 4, 80, .agg [.int .i64 0, .nil, .nil, .nil]⟩ := tiok_of (by kernel_rfl) (by kernel_rfl) (by kernel_rfl) (by kernel_rfl) (by kernel_rfl) (by kernel_rfl)
theorem Try.tok52 : TIOK Try.prog 52 ⟨.func, 1, 8, .raw .nilFunc⟩ := tiok_of (by kernel_rfl) (by kernel_rfl) (by kernel_rfl) (by kernel_rfl) (by kernel_rfl) (by kernel_rfl)
theorem Try.tok53 : TIOK Try.prog 53 ⟨.func, 1, 8, .raw .nilFunc⟩ := tiok_of (by kernel_rfl) (by kernel_rfl) (by kernel_rfl) (by kernel_rfl) (by kernel_rfl) (by kernel_rfl)
theorem Try.tok54 : TIOK Try.prog 54 ⟨.func, 1, 8, .raw .nilFunc⟩ := tiok_of (by kernel_rfl) (by kernel_rfl) (by kernel_rfl) (by kernel_rfl) (by kernel_rfl) (by kernel_rfl)
theorem Try.tok55 : TIOK Try.prog 55 ⟨.func, 1, 8, .raw .nilFunc⟩ := tiok_of (by kernel_rfl) (by kernel_rfl) (by kernel_rfl) (by kernel_rfl) (by kernel_rfl) (by kernel_rfl)
theorem Try.tok56 : TIOK Try.prog 56 ⟨.func, 1, 8, .raw .nilFunc⟩ := tiok_of (by kernel_rfl) (by kernel_rfl) (by kernel_rfl) (by kernel_rfl) (by kernel_rfl) (by kernel_rfl)
theorem Try.tok57 : TIOK Try.prog 57 ⟨.func, 1, 8, .raw .nilFunc⟩ := tiok_of (by kernel_rfl) (by kernel_rfl) (by kernel_rfl) (by kernel_rfl) (by kernel_rfl) (by kernel_rfl)
theorem Try.tok58 : TIOK Try.prog 58 ⟨.func, 1, 8, .raw .nilFunc⟩ := tiok_of (by kernel_rfl) (by kernel_rfl) (by kernel_rfl) (by kernel_rfl) (by kernel_rfl) (by kernel_rfl)
theorem Try.tok59 : TIOK Try.prog 59 ⟨.func, 1, 8, .raw .nilFunc⟩ := tiok_of (by kernel_rfl) (by kernel_rfl) (by kernel_rfl) (by kernel_rfl) (by kernel_rfl) (by kernel_rfl)
theorem Try.tok60 : TIOK Try.prog 60 ⟨.struct [(0, 3), (1, 4)], 2, 16, .agg [.int .i64 0, .bool false]⟩ := tiok_of (by kernel_rfl) (by kernel_rfl) (by kernel_rfl) (by kernel_rfl) (by kernel_rfl) (by kernel_rfl)
theorem Try.tok61 : TIOK Try.prog 61 ⟨.struct [(0, 3), (1, 4)], 2, 16, .agg [.int .i64 0, .bool false]⟩ := tiok_of (by kernel_rfl) (by kernel_rfl) (by kernel_rfl) (by kernel_rfl) (by kernel_rfl) (by kernel_rfl)
theorem Try.tok62 : TIOK Try.prog 62 ⟨.func, 1, 8, .raw .nilFunc⟩ := tiok_of (by kernel_rfl) (by kernel_rfl) (by kernel_rfl) (by kernel_rfl) (by kernel_rfl) (by kernel_rfl)
theorem Try.tok64 : TIOK Try.prog 64 ⟨.func, 1, 8, .raw .nilFunc⟩ := tiok_of (by kernel_rfl) (by kernel_rfl) (by kernel_rfl) (by kernel_rfl) (by kernel_rfl) (by kernel_rfl)
theorem Try.tok65 : TIOK Try.prog 65 ⟨.func, 1, 8, .raw .nilFunc⟩ := tiok_of (by kernel_rfl) (by kernel_rfl) (by kernel_rfl) (by kernel_rfl) (by kernel_rfl) (by kernel_rfl)
theorem Try.tok66 : TIOK Try.prog 66 ⟨.func, 1, 8, .raw .nilFunc⟩ := tiok_of (by kernel_rfl) (by kernel_rfl) (by kernel_rfl) (by kernel_rfl) (by kernel_rfl) (by kernel_rfl)
theorem Try.tok67 : TIOK Try.prog 67 ⟨.slice 117, 1, 24, .nil⟩ := tiok_of (by kernel_rfl) (by kernel_rfl) (by kernel_rfl) (by kernel_rfl) (by kernel_rfl) (by kernel_rfl)
theorem Try.tok68 : TIOK Try.prog 68 ⟨.struct [(0, 67), (1, 3)], 2, 32, .agg [.nil, .int .i64 0]⟩ := tiok_of (by kernel_rfl) (by kernel_rfl) (by kernel_rfl) (by kernel_rfl) (by kernel_rfl) (by kernel_rfl)
theorem Try.tok69 : TIOK Try.prog 69 ⟨.struct [(0, 67), (1, 3)], 2, 32, .agg [.nil, .int .i64 0]⟩ := tiok_of (by kernel_rfl) (by kernel_rfl) (by kernel_rfl) (by kernel_rfl) (by kernel_rfl) (by kernel_rfl)
theorem Try.tok70 : TIOK Try.prog 70 ⟨.func, 1, 8, .raw .nilFunc⟩ := tiok_of (by kernel_rfl) (by kernel_rfl) (by kernel_rfl) (by kernel_rfl) (by kernel_rfl) (by kernel_rfl)
theorem Try.tok71 : TIOK Try.prog 71 ⟨.struct [(0, 4), (1, 32)], 2, 32, .agg [.bool false, .nil]⟩ := tiok_of (by kernel_rfl) (by kernel_rfl) (by kernel_rfl) (by kernel_rfl) (by kernel_rfl) (by kernel_rfl)
theorem Try.tok72 : TIOK Try.prog 72 ⟨.struct [(0, 4), (1, 32)], 2, 32, .agg [.bool false, .nil]⟩ := tiok_of (by kernel_rfl) (by kernel_rfl) (by kernel_rfl) (by kernel_rfl) (by kernel_rfl) (by kernel_rfl)
theorem Try.tok73 : TIOK Try.prog 73 ⟨.func, 1, 8, .raw .nilFunc⟩ := tiok_of (by kernel_rfl) (by kernel_rfl) (by kernel_rfl) (by kernel_rfl) (by kernel_rfl) (by kernel_rfl)
theorem Try.tok74 : TIOK Try.prog 74 ⟨.func, 1, 8, .raw .nilFunc⟩ := tiok_of (by kernel_rfl) (by kernel_rfl) (by kernel_rfl) (by kernel_rfl) (by kernel_rfl) (by kernel_rfl)
theorem Try.tok75 : TIOK Try.prog 75 ⟨.func, 1, 8, .raw .nilFunc⟩ := tiok_of (by kernel_rfl) (by kernel_rfl) (by kernel_rfl) (by kernel_rfl) (by kernel_rfl) (by kernel_rfl)
theorem Try.tok76 : TIOK Try.prog 76 ⟨.func, 1, 8, .raw .nilFunc⟩ := tiok_of (by kernel_rfl) (by kernel_rfl) (by kernel_rfl) (by kernel_rfl) (by kernel_rfl) (by kernel_rfl)
theorem Try.tok77 : TIOK Try.prog 77 ⟨.func, 1, 8, .raw .nilFunc⟩ := tiok_of (by kernel_rfl) (by kernel_rfl) (by kernel_rfl) (by kernel_rfl) (by kernel_rfl) (by kernel_rfl)
theorem Try.tok78 : TIOK Try.prog 78 ⟨.func, 1, 8, .raw .nilFunc⟩ := tiok_of (by kernel_rfl) (by kernel_rfl) (by kernel_rfl) (by kernel_rfl) (by kernel_rfl) (by kernel_rfl)
theorem Try.tok79 : TIOK Try.prog 79 ⟨.func, 1, 8, .raw .nilFunc⟩ := tiok_of (by kernel_rfl) (by kernel_rfl) (by kernel_rfl) (by kernel_rfl) (by kernel_rfl) (by kernel_rfl)
theorem Try.tok80 : TIOK Try.prog 80 ⟨.func, 1, 8, .raw .nilFunc⟩ := tiok_of (by kernel_rfl) (by kernel_rfl) (by kernel_rfl) (by kernel_rfl) (by kernel_rfl) (by kernel_rfl)
theorem Try.tok81 : TIOK Try.prog 81 ⟨.func, 1, 8, .raw .nilFunc⟩ := tiok_of (by kernel_rfl) (by kernel_rfl) (by kernel_rfl) (by kernel_rfl) (by kernel_rfl) (by kernel_rfl)
theorem Try.tok82 : TIOK Try.prog 82 ⟨.func, 1, 8, .raw .nilFunc⟩ := tiok_of (by kernel_rfl) (by kernel_rfl) (by kernel_rfl) (by kernel_rfl) (by kernel_rfl) (by kernel_rfl)
theorem Try.tok83 : TIOK Try.prog 83 ⟨.ptr 134, 1, 8, .raw (.pointer none)⟩ := tiok_of (by kernel_rfl) (by kernel_rfl) (by kernel_rfl) (by kernel_rfl) (by kernel_rfl) (by kernel_rfl)
theorem Try.tok84 : TIOK Try.prog 84 ⟨.func, 1, 8, .raw .nilFunc⟩ := tiok_of (by kernel_rfl) (by kernel_rfl) (by kernel_rfl) (by kernel_rfl) (by kernel_rfl) (by kernel_rfl)
theorem Try.tok85 : TIOK Try.prog 85 ⟨.func, 1, 8, .raw .nilFunc⟩ := tiok_of (by kernel_rfl) (by kernel_rfl) (by kernel_rfl) (by kernel_rfl) (by kernel_rfl) (by kernel_rfl)
theorem Try.tok86 : TIOK Try.prog 86 ⟨.ptr 26, 1, 8, .raw (.pointer none)⟩ := tiok_of (by kernel_rfl) (by kernel_rfl) (by kernel_rfl) (by kernel_rfl) (by kernel_rfl) (by kernel_rfl)
theorem Try.tok87 : TIOK Try.prog 87 ⟨.func, 1, 8, .raw .nilFunc⟩ := tiok_of (by kernel_rfl) (by kernel_rfl) (by kernel_rfl) (by kernel_rfl) (by kernel_rfl) (by kernel_rfl)
theorem Try.tok88 : TIOK Try.prog 88 ⟨.array 2 3, 2, 16, .agg [.int .i64 0, .int .i64 0]⟩ := tiok_of (by kernel_rfl) (by kernel_rfl) (by kernel_rfl) (by kernel_rfl) (by kernel_rfl) (by kernel_rfl)
theorem Try.tok89 : TIOK Try.prog 89 ⟨.struct [(0, 3), (1, 3)], 2, 16, .agg [.int .i64 0, .int .i64 0]⟩ := tiok_of (by kernel_rfl) (by kernel_rfl) (by kernel_rfl) (by kernel_rfl) (by kernel_rfl) (by kernel_rfl)
theorem Try.tok90 : TIOK Try.prog 90 ⟨.struct [(0, 3), (1, 3)], 2, 16, .agg [.int .i64 0, .int .i64 0]⟩ := tiok_of (by kernel_rfl) (by kernel_rfl) (by kernel_rfl) (by kernel_rfl) (by kernel_rfl) (by kernel_rfl)
theorem Try.tok91 : TIOK Try.prog 91 ⟨.func, 1, 8, .raw .nilFunc⟩ := tiok_of (by kernel_rfl) (by kernel_rfl) (by kernel_rfl) (by kernel_rfl) (by kernel_rfl) (by kernel_rfl)
theorem Try.tok92 : TIOK Try.prog 92 ⟨.func, 1, 8, .raw .nilFunc⟩ := tiok_of (by kernel_rfl) (by kernel_rfl) (by kernel_rfl) (by kernel_rfl) (by kernel_rfl) (by kernel_rfl)
theorem Try.tok93 : TIOK Try.prog 93 ⟨.func, 1, 8, .raw .nilFunc⟩ := tiok_of (by kernel_rfl) (by kernel_rfl) (by kernel_rfl) (by kernel_rfl) (by kernel_rfl) (by kernel_rfl)
theorem Try.tok94 : TIOK Try.prog 94 ⟨.ptr 99, 1, 8, .raw (.pointer none)⟩ := tiok_of (by kernel_rfl) (by kernel_rfl) (by kernel_rfl) (by kernel_rfl) (by kernel_rfl) (by kernel_rfl)
theorem Try.tok95 : TIOK Try.prog 95 ⟨.func, 1, 8, .raw .nilFunc⟩ := tiok_of (by kernel_rfl) (by kernel_rfl) (by kernel_rfl) (by kernel_rfl) (by kernel_rfl) (by kernel_rfl)
theorem Try.tok96 : TIOK Try.prog 96 ⟨.func, 1, 8, .raw .nilFunc⟩ := tiok_of (by kernel_rfl) (by kernel_rfl) (by kernel_rfl) (by kernel_rfl) (by kernel_rfl) (by kernel_rfl)
theorem Try.tok97 : TIOK Try.prog 97 ⟨.map 90 3, 1, 8, .raw (.map none)⟩ := tiok_of (by kernel_rfl) (by kernel_rfl) (by kernel_rfl) (by kernel_rfl) (by kernel_rfl) (by kernel_rfl)
theorem Try.tok98 : TIOK Try.prog 98 ⟨.struct [(0, 3), (1, 24), (2, 23), (3, 97)], 4, 64, .agg [.int .i64 0, .nil, .nil, .raw (.map none)]⟩ := tiok_of (by kernel_rfl) (by kernel_rfl) (by kernel_rfl) (by kernel_rfl) (by kernel_rfl) (by kernel_rfl)
theorem Try.tok99 : TIOK Try.prog 99 ⟨.struct [(0, 3), (1, 24), (2, 23), (3, 97)], 4, 64, .agg [.int .i64 0, .nil, .nil, .raw (.map none)]⟩ := tiok_of (by kernel_rfl) (by kernel_rfl) (by kernel_rfl) (by kernel_rfl) (by kernel_rfl) (by kernel_rfl)
theorem Try.tok100 : TIOK Try.prog 100 ⟨.func, 1, 8, .raw .nilFunc⟩ := tiok_of (by kernel_rfl) (by kernel_rfl) (by kernel_rfl) (by kernel_rfl) (by kernel_rfl) (by kernel_rfl)
theorem Try.tok102 : TIOK Try.prog 102 ⟨.func, 1, 8, .raw .nilFunc⟩ := tiok_of (by kernel_rfl) (by kernel_rfl) (by kernel_rfl) (by kernel_rfl) (by kernel_rfl) (by kernel_rfl)
theorem Try.tok103 : TIOK Try.prog 103 ⟨.map 3 4, 1, 8, .raw (.map none)⟩ := tiok_of (by kernel_rfl) (by kernel_rfl) (by kernel_rfl) (by kernel_rfl) (by kernel_rfl) (by kernel_rfl)
theorem Try.tok104 : TIOK Try.prog 104 ⟨.func, 1, 8, .raw .nilFunc⟩ := tiok_of (by kernel_rfl) (by kernel_rfl) (by kernel_rfl) (by kernel_rfl) (by kernel_rfl) (by kernel_rfl)
theorem Try.tok105 : TIOK Try.prog 105 ⟨.func, 1, 8, .raw .nilFunc⟩ := tiok_of (by kernel_rfl) (by kernel_rfl) (by kernel_rfl) (by kernel_rfl) (by kernel_rfl) (by kernel_rfl)
theorem Try.tok106 : TIOK Try.prog 106 ⟨.func, 1, 8, .raw .nilFunc⟩ := tiok_of (by kernel_rfl) (by kernel_rfl) (by kernel_rfl) (by kernel_rfl) (by kernel_rfl) (by kernel_rfl)
theorem Try.tok107 : TIOK Try.prog 107 ⟨.func, 1, 8, .raw .nilFunc⟩ := tiok_of (by kernel_rfl) (by kernel_rfl) (by kernel_rfl) (by kernel_rfl) (by kernel_rfl) (by kernel_rfl)
theorem Try.tok108 : TIOK Try.prog 108 ⟨.func, 1, 8, .raw .nilFunc⟩ := tiok_of (by kernel_rfl) (by kernel_rfl) (by kernel_rfl) (by kernel_rfl) (by kernel_rfl) (by kernel_rfl)
theorem Try.tok109 : TIOK Try.prog 109 ⟨.func, 1, 8, .raw .nilFunc⟩ := tiok_of (by kernel_rfl) (by kernel_rfl) (by kernel_rfl) (by kernel_rfl) (by kernel_rfl) (by kernel_rfl)
theorem Try.tok110 : TIOK Try.prog 110 ⟨.func, 1, 8, .raw .nilFunc⟩ := tiok_of (by kernel_rfl) (by kernel_rfl) (by kernel_rfl) (by kernel_rfl) (by kernel_rfl) (by kernel_rfl)
theorem Try.tok111 : TIOK Try.prog 111 ⟨.func, 1, 8, .raw .nilFunc⟩ := tiok_of (by kernel_rfl) (by kernel_rfl) (by kernel_rfl) (by kernel_rfl) (by kernel_rfl) (by kernel_rfl)
theorem Try.tok112 : TIOK Try.prog 112 ⟨.func, 1, 8, .raw .nilFunc⟩ := tiok_of (by kernel_rfl) (by kernel_rfl) (by kernel_rfl) (by kernel_rfl) (by kernel_rfl) (by kernel_rfl)
theorem Try.tok113 : TIOK Try.prog 113 ⟨.func, 1, 8, .raw .nilFunc⟩ := tiok_of (by kernel_rfl) (by kernel_rfl) (by kernel_rfl) (by kernel_rfl) (by kernel_rfl) (by kernel_rfl)
theorem Try.tok114 : TIOK Try.prog 114 ⟨.func, 1, 8, .raw .nilFunc⟩ := tiok_of (by kernel_rfl) (by kernel_rfl) (by kernel_rfl) (by kernel_rfl) (by kernel_rfl) (by kernel_rfl)
theorem Try.tok115 : TIOK Try.prog 115 ⟨.func, 1, 8, .raw .nilFunc⟩ := tiok_of (by kernel_rfl) (by kernel_rfl) (by kernel_rfl) (by kernel_rfl) (by kernel_rfl) (by kernel_rfl)
theorem Try.tok116 : TIOK Try.prog 116 ⟨.struct [(0, 3), (1, 3), (2, 3)], 3, 24, .agg [.int .i64 0, .int .i64 0, .int .i64 0]⟩ := tiok_of (by kernel_rfl) (by kernel_rfl) (by kernel_rfl) (by kernel_rfl) (by kernel_rfl) (by kernel_rfl)
theorem Try.tok117 : TIOK Try.prog 117 ⟨.struct [(0, 3), (1, 3), (2, 3)], 3, 24, .agg [.int .i64 0, .int .i64 0, .int .i64 0]⟩ := tiok_of (by kernel_rfl) (by kernel_rfl) (by kernel_rfl) (by kernel_rfl) (by kernel_rfl) (by kernel_rfl)
theorem Try.tok118 : TIOK Try.prog 118 ⟨.func, 1, 8, .raw .nilFunc⟩ := tiok_of (by kernel_rfl) (by kernel_rfl) (by kernel_rfl) (by kernel_rfl) (by kernel_rfl) (by kernel_rfl)
theorem Try.tok119 : TIOK Try.prog 119 ⟨.ptr 123, 1, 8, .raw (.pointer none)⟩ := tiok_of (by kernel_rfl) (by kernel_rfl) (by kernel_rfl) (by kernel_rfl) (by kernel_rfl) (by kernel_rfl)
theorem Try.tok120 : TIOK Try.prog 120 ⟨.func, 1, 8, .raw .nilFunc⟩ := tiok_of (by kernel_rfl) (by kernel_rfl) (by kernel_rfl) (by kernel_rfl) (by kernel_rfl) (by kernel_rfl)
theorem Try.tok121 : TIOK Try.prog 121 ⟨.map 117 3, 1, 8, .raw (.map none)⟩ := tiok_of (by kernel_rfl) (by kernel_rfl) (by kernel_rfl) (by kernel_rfl) (by kernel_rfl) (by kernel_rfl)
theorem Try.tok122 : TIOK Try.prog 122 ⟨.struct [(0, 33), (1, 3), (2, 67), (3, 121)], 4, 64, .agg [.nil, .int .i64 0, .nil, .raw (.map none)]⟩ := tiok_of (by kernel_rfl) (by kernel_rfl) (by kernel_rfl) (by kernel_rfl) (by kernel_rfl) (by kernel_rfl)
theorem Try.tok123 : TIOK Try.prog 123 ⟨.struct [(0, 33), (1, 3), (2, 67), (3, 121)], 4, 64, .agg [.nil, .int .i64 0, .nil, .raw (.map none)]⟩ := tiok_of (by kernel_rfl) (by kernel_rfl) (by kernel_rfl) (by kernel_rfl) (by kernel_rfl) (by kernel_rfl)
theorem Try.tok124 : TIOK Try.prog 124 ⟨.func, 1, 8, .raw .nilFunc⟩ := tiok_of (by kernel_rfl) (by kernel_rfl) (by kernel_rfl) (by kernel_rfl) (by kernel_rfl) (by kernel_rfl)
theorem Try.tok126 : TIOK Try.prog 126 ⟨.func, 1, 8, .raw .nilFunc⟩ := tiok_of (by kernel_rfl) (by kernel_rfl) (by kernel_rfl) (by kernel_rfl) (by kernel_rfl) (by kernel_rfl)
theorem Try.tok127 : TIOK Try.prog 127 ⟨.func, 1, 8, .raw .nilFunc⟩ := tiok_of (by kernel_rfl) (by kernel_rfl) (by kernel_rfl) (by kernel_rfl) (by kernel_rfl) (by kernel_rfl)
theorem Try.tok128 : TIOK Try.prog 128 ⟨.func, 1, 8, .raw .nilFunc⟩ := tiok_of (by kernel_rfl) (by kernel_rfl) (by kernel_rfl) (by kernel_rfl) (by kernel_rfl) (by kernel_rfl)
theorem Try.tok129 : TIOK Try.prog 129 ⟨.func, 1, 8, .raw .nilFunc⟩ := tiok_of (by kernel_rfl) (by kernel_rfl) (by kernel_rfl) (by kernel_rfl) (by kernel_rfl) (by kernel_rfl)
theorem Try.tok130 : TIOK Try.prog 130 ⟨.func, 1, 8, .raw .nilFunc⟩ := tiok_of (by kernel_rfl) (by kernel_rfl) (by kernel_rfl) (by kernel_rfl) (by kernel_rfl) (by kernel_rfl)
theorem Try.tok131 : TIOK Try.prog 131 ⟨.func, 1, 8, .raw .nilFunc⟩ := tiok_of (by kernel_rfl) (by kernel_rfl) (by kernel_rfl) (by kernel_rfl) (by kernel_rfl) (by kernel_rfl)
theorem Try.tok132 : TIOK Try.prog 132 ⟨.func, 1, 8, .raw .nilFunc⟩ := tiok_of (by kernel_rfl) (by kernel_rfl) (by kernel_rfl) (by kernel_rfl) (by kernel_rfl) (by kernel_rfl)
theorem Try.tok133 : TIOK Try.prog 133 ⟨.struct [(0, 22), (1, 3)], 2, 32, .agg [.nil, .int .i64 0]⟩ := tiok_of (by kernel_rfl) (by kernel_rfl) (by kernel_rfl) (by kernel_rfl) (by kernel_rfl) (by kernel_rfl)
theorem Try.tok134 : TIOK Try.prog 134 ⟨.struct [(0, 22), (1, 3)], 2, 32, .agg [.nil, .int .i64 0]⟩ := tiok_of (by kernel_rfl) (by kernel_rfl) (by kernel_rfl) (by kernel_rfl) (by kernel_rfl) (by kernel_rfl)
theorem Try.tok135 : TIOK Try.prog 135 ⟨.func, 1, 8, .raw .nilFunc⟩ := tiok_of (by kernel_rfl) (by kernel_rfl) (by kernel_rfl) (by kernel_rfl) (by kernel_rfl) (by kernel_rfl)
theorem Try.tok137 : TIOK Try.prog 137 ⟨.func, 1, 8, .raw .nilFunc⟩ := tiok_of (by kernel_rfl) (by kernel_rfl) (by kernel_rfl) (by kernel_rfl) (by kernel_rfl) (by kernel_rfl)
theorem Try.tok138 : TIOK Try.prog 138 ⟨.func, 1, 8, .raw .nilFunc⟩ := tiok_of (by kernel_rfl) (by kernel_rfl) (by kernel_rfl) (by kernel_rfl) (by kernel_rfl) (by kernel_rfl)
theorem Try.tok139 : TIOK Try.prog 139 ⟨.func, 1, 8, .raw .nilFunc⟩ := tiok_of (by kernel_rfl) (by kernel_rfl) (by kernel_rfl) (by kernel_rfl) (by kernel_rfl) (by kernel_rfl)
theorem Try.tok140 : TIOK Try.prog 140 ⟨.struct [(0, 3), (1, 3)], 2, 16, .agg [.int .i64 0, .int .i64 0]⟩ := tiok_of (by kernel_rfl) (by kernel_rfl) (by kernel_rfl) (by kernel_rfl) (by kernel_rfl) (by kernel_rfl)
theorem Try.tok141 : TIOK Try.prog 141 ⟨.func, 1, 8, .raw .nilFunc⟩ := tiok_of (by kernel_rfl) (by kernel_rfl) (by kernel_rfl) (by kernel_rfl) (by kernel_rfl) (by kernel_rfl)
theorem Try.tok142 : TIOK Try.prog 142 ⟨.func, 1, 8, .raw .nilFunc⟩ := tiok_of (by kernel_rfl) (by kernel_rfl) (by kernel_rfl) (by kernel_rfl) (by kernel_rfl) (by kernel_rfl)
theorem Try.tok143 : TIOK Try.prog 143 ⟨.map 117 4, 1, 8, .raw (.map none)⟩ := tiok_of (by kernel_rfl) (by kernel_rfl) (by kernel_rfl) (by kernel_rfl) (by kernel_rfl) (by kernel_rfl)
theorem Try.tok144 : TIOK Try.prog 144 ⟨.slice 88, 1, 24, .nil⟩ := tiok_of (by kernel_rfl) (by kernel_rfl) (by kernel_rfl) (by kernel_rfl) (by kernel_rfl) (by kernel_rfl)
theorem Try.tok145 : TIOK Try.prog 145 ⟨.slice 32, 1, 24, .nil⟩ := tiok_of (by kernel_rfl) (by kernel_rfl) (by kernel_rfl) (by kernel_rfl) (by kernel_rfl) (by kernel_rfl)
theorem Try.tok146 : TIOK Try.prog 146 ⟨.map 88 4, 1, 8, .raw (.map none)⟩ := tiok_of (by kernel_rfl) (by kernel_rfl) (by kernel_rfl) (by kernel_rfl) (by kernel_rfl) (by kernel_rfl)
theorem Try.tok148 : TIOK Try.prog 148 ⟨.func, 1, 8, .raw .nilFunc⟩ := tiok_of (by kernel_rfl) (by kernel_rfl) (by kernel_rfl) (by kernel_rfl) (by kernel_rfl) (by kernel_rfl)
theorem Try.tok149 : TIOK Try.prog 149 ⟨.func, 1, 8, .raw .nilFunc⟩ := tiok_of (by kernel_rfl) (by kernel_rfl) (by kernel_rfl) (by kernel_rfl) (by kernel_rfl) (by kernel_rfl)
theorem Try.tok150 : TIOK Try.prog 150 ⟨.func, 1, 8, .raw .nilFunc⟩ := tiok_of (by kernel_rfl) (by kernel_rfl) (by kernel_rfl) (by kernel_rfl) (by kernel_rfl) (by kernel_rfl)
theorem Try.tok151 : TIOK Try.prog 151 ⟨.func, 1, 8, .raw .nilFunc⟩ := tiok_of (by kernel_rfl) (by kernel_rfl) (by kernel_rfl) (by kernel_rfl) (by kernel_rfl) (by kernel_rfl)
theorem Try.tok157 : TIOK Try.prog 157 ⟨.func, 1, 8, .raw .nilFunc⟩ := tiok_of (by kernel_rfl) (by kernel_rfl) (by kernel_rfl) (by kernel_rfl) (by kernel_rfl) (by kernel_rfl)
theorem Try.tok158 : TIOK Try.prog 158 ⟨.int .u32, 1, 4, .int .u32 0⟩ := tiok_of (by kernel_rfl) (by kernel_rfl) (by kernel_rfl) (by kernel_rfl) (by kernel_rfl) (by kernel_rfl)
theorem Try.tok159 : TIOK Try.prog 159 ⟨.int .u8, 1, 1, .int .u8 0⟩ := tiok_of (by kernel_rfl) (by kernel_rfl) (by kernel_rfl) (by kernel_rfl) (by kernel_rfl) (by kernel_rfl)
theorem Try.tok160 : TIOK Try.prog 160 ⟨.int .u8, 1, 1, .int .u8 0⟩ := tiok_of (by kernel_rfl) (by kernel_rfl) (by kernel_rfl) (by kernel_rfl) (by kernel_rfl) (by kernel_rfl)
theorem Try.tok161 : TIOK Try.prog 161 ⟨.func, 1, 8, .raw .nilFunc⟩ := tiok_of (by kernel_rfl) (by kernel_rfl) (by kernel_rfl) (by kernel_rfl) (by kernel_rfl) (by kernel_rfl)
theorem Try.tok162 : TIOK Try.prog 162 ⟨.ptr 5, 1, 8, .raw (.pointer none)⟩ := tiok_of (by kernel_rfl) (by kernel_rfl) (by kernel_rfl) (by kernel_rfl) (by kernel_rfl) (by kernel_rfl)
theorem Try.tok163 : TIOK Try.prog 163 ⟨.int .i32, 1, 4, .int .i32 0⟩ := tiok_of (by kernel_rfl) (by kernel_rfl) (by kernel_rfl) (by kernel_rfl) (by kernel_rfl) (by kernel_rfl)
theorem Try.tok164 : TIOK Try.prog 164 ⟨.int .i32, 1, 4, .int .i32 0⟩ := tiok_of (by kernel_rfl) (by kernel_rfl) (by kernel_rfl) (by kernel_rfl) (by kernel_rfl) (by kernel_rfl)
theorem Try.tok165 : TIOK Try.prog 165 ⟨.struct [(0, 12), (1, 12), (2, 158), (3, 159), (4, 5), (5, 5), (6, 160), (7, 161), (8, 162), (9, 163), (10, 164)], 11, 48, .agg [.int .u64 0, .int .u64 0, .int .u32 0, .int .u8 0, .int .u8 0, .int .u8 0, .int .u8 0, .raw .nilFunc, .raw (.pointer none), .int .i32 0, .int .i32 0]⟩ := tiok_of (by kernel_rfl) (by kernel_rfl) (by kernel_rfl) (by kernel_rfl) (by kernel_rfl) (by kernel_rfl)
theorem Try.tok166 : TIOK Try.prog 166 ⟨.struct [(0, 12), (1, 12), (2, 158), (3, 159), (4, 5), (5, 5), (6, 160), (7, 161), (8, 162), (9, 163), (10, 164)], 11, 48, .agg [.int .u64 0, .int .u64 0, .int .u32 0, .int .u8 0, .int .u8 0, .int .u8 0, .int .u8 0, .raw .nilFunc, .raw (.pointer none), .int .i32 0, .int .i32 0]⟩ := tiok_of (by kernel_rfl) (by kernel_rfl) (by kernel_rfl) (by kernel_rfl) (by kernel_rfl) (by kernel_rfl)

theorem Try.tok : TOK Try.prog Try.tyT := by
  intro t ti h
  unfold Try.tyT at h
  split at h
  · cases h; exact Try.tok1
  · cases h; exact Try.tok2
  · cases h; exact Try.tok3
  · cases h; exact Try.tok4
  · cases h; exact Try.tok5
  · cases h; exact Try.tok6
  · cases h; exact Try.tok7
  · cases h; exact Try.tok8
  · cases h; exact Try.tok12
  · cases h; exact Try.tok15
  · cases h; exact Try.tok16
  · cases h; exact Try.tok17
  · cases h; exact Try.tok18
  · cases h; exact Try.tok19
  · cases h; exact Try.tok21
  · cases h; exact Try.tok22
  · cases h; exact Try.tok23
  · cases h; exact Try.tok24
  · cases h; exact Try.tok25
  · cases h; exact Try.tok26
  · cases h; exact Try.tok27
  · cases h; exact Try.tok28
  · cases h; exact Try.tok29
  · cases h; exact Try.tok30
  · cases h; exact Try.tok31
  · cases h; exact Try.tok32
  · cases h; exact Try.tok33
  · cases h; exact Try.tok34
  · cases h; exact Try.tok35
  · cases h; exact Try.tok36
  · cases h; exact Try.tok37
  · cases h; exact Try.tok38
  · cases h; exact Try.tok39
  · cases h; exact Try.tok40
  · cases h; exact Try.tok41
  · cases h; exact Try.tok42
  · cases h; exact Try.tok44
  · cases h; exact Try.tok45
  · cases h; exact Try.tok46
  · cases h; exact Try.tok47
  · cases h; exact Try.tok48
  · cases h; exact Try.tok49
  · cases h; exact Try.tok50
  · cases h; exact Try.tok51
  · cases h; exact Try.tok52
  · cases h; exact Try.tok53
  · cases h; exact Try.tok54
  · cases h; exact Try.tok55
  · cases h; exact Try.tok56
  · cases h; exact Try.tok57
  · cases h; exact Try.tok58
  · cases h; exact Try.tok59
  · cases h; exact Try.tok60
  · cases h; exact Try.tok61
  · cases h; exact Try.tok62
  · cases h; exact Try.tok64
  · cases h; exact Try.tok65
  · cases h; exact Try.tok66
  · cases h; exact Try.tok67
  · cases h; exact Try.tok68
  · cases h; exact Try.tok69
  · cases h; exact Try.tok70
  · cases h; exact Try.tok71
  · cases h; exact Try.tok72
  · cases h; exact Try.tok73
  · cases h; exact Try.tok74
  · cases h; exact Try.tok75
  · cases h; exact Try.tok76
  · cases h; exact Try.tok77
  · cases h; exact Try.tok78
  · cases h; exact Try.tok79
  · cases h; exact Try.tok80
  · cases h; exact Try.tok81
  · cases h; exact Try.tok82
  · cases h; exact Try.tok83
  · cases h; exact Try.tok84
  · cases h; exact Try.tok85
  · cases h; exact Try.tok86
  · cases h; exact Try.tok87
  · cases h; exact Try.tok88
  · cases h; exact Try.tok89
  · cases h; exact Try.tok90
  · cases h; exact Try.tok91
  · cases h; exact Try.tok92
  · cases h; exact Try.tok93
  · cases h; exact Try.tok94
  · cases h; exact Try.tok95
  · cases h; exact Try.tok96
  · cases h; exact Try.tok97
  · cases h; exact Try.tok98
  · cases h; exact Try.tok99
  · cases h; exact Try.tok100
  · cases h; exact Try.tok102
  · cases h; exact Try.tok103
  · cases h; exact Try.tok104
  · cases h; exact Try.tok105
  · cases h; exact Try.tok106
  · cases h; exact Try.tok107
  · cases h; exact Try.tok108
  · cases h; exact Try.tok109
  · cases h; exact Try.tok110
  · cases h; exact Try.tok111
  · cases h; exact Try.tok112
  · cases h; exact Try.tok113
  · cases h; exact Try.tok114
  · cases h; exact Try.tok115
  · cases h; exact Try.tok116
  · cases h; exact Try.tok117
  · cases h; exact Try.tok118
  · cases h; exact Try.tok119
  · cases h; exact Try.tok120
  · cases h; exact Try.tok121
  · cases h; exact Try.tok122
  · cases h; exact Try.tok123
  · cases h; exact Try.tok124
  · cases h; exact Try.tok126
  · cases h; exact Try.tok127
  · cases h; exact Try.tok128
  · cases h; exact Try.tok129
  · cases h; exact Try.tok130
  · cases h; exact Try.tok131
  · cases h; exact Try.tok132
  · cases h; exact Try.tok133
  · cases h; exact Try.tok134
  · cases h; exact Try.tok135
  · cases h; exact Try.tok137
  · cases h; exact Try.tok138
  · cases h; exact Try.tok139
  · cases h; exact Try.tok140
  · cases h; exact Try.tok141
  · cases h; exact Try.tok142
  · cases h; exact Try.tok143
  · cases h; exact Try.tok144
  · cases h; exact Try.tok145
  · cases h; exact Try.tok146
  · cases h; exact Try.tok148
  · cases h; exact Try.tok149
  · cases h; exact Try.tok150
  · cases h; exact Try.tok151
  · cases h; exact Try.tok157
  · cases h; exact Try.tok158
  · cases h; exact Try.tok159
  · cases h; exact Try.tok160
  · cases h; exact Try.tok161
  · cases h; exact Try.tok162
  · cases h; exact Try.tok163
  · cases h; exact Try.tok164
  · cases h; exact Try.tok165
  · cases h; exact Try.tok166
  · cases h

@[go_sem] theorem Try.ty1 : Try.tyT 1 = some ⟨.func, 1, 8, .raw .nilFunc⟩ := rfl
@[go_sem] theorem Try.ty2 : Try.tyT 2 = some ⟨.int .i64, 1, 8, .int .i64 0⟩ := rfl
@[go_sem] theorem Try.ty3 : Try.tyT 3 = some ⟨.int .i64, 1, 8, .int .i64 0⟩ := rfl
@[go_sem] theorem Try.ty4 : Try.tyT 4 = some ⟨.bool, 1, 1, .bool false⟩ := rfl
@[go_sem] theorem Try.ty5 : Try.tyT 5 = some ⟨.int .u8, 1, 1, .int .u8 0⟩ := rfl
@[go_sem] theorem Try.ty6 : Try.tyT 6 = some ⟨.int .u8, 1, 1, .int .u8 0⟩ := rfl
@[go_sem] theorem Try.ty7 : Try.tyT 7 = some ⟨.struct [(0, 2), (1, 3), (2, 4), (3, 6)], 4, 24, .agg [.int .i64 0, .int .i64 0, .bool false, .int .u8 0]⟩ := rfl
@[go_sem] theorem Try.ty8 : Try.tyT 8 = some ⟨.struct [(0, 2), (1, 3), (2, 4), (3, 6)], 4, 24, .agg [.int .i64 0, .int .i64 0, .bool false, .int .u8 0]⟩ := rfl
@[go_sem] theorem Try.ty12 : Try.tyT 12 = some ⟨.int .u64, 1, 8, .int .u64 0⟩ := rfl
@[go_sem] theorem Try.ty15 : Try.tyT 15 = some ⟨.ptr 153, 1, 8, .raw (.pointer none)⟩ := rfl
@[go_sem] theorem Try.ty16 : Try.tyT 16 = some ⟨.ptr 156, 1, 8, .raw (.pointer none)⟩ := rfl
@[go_sem] theorem Try.ty17 : Try.tyT 17 = some ⟨.ptr 166, 1, 8, .raw (.pointer none)⟩ := rfl
@[go_sem] theorem Try.ty18 : Try.tyT 18 = some ⟨.struct [(0, 17)], 1, 8, .agg [.raw (.pointer none)]⟩ := rfl
@[go_sem] theorem Try.ty19 : Try.tyT 19 = some ⟨.struct [(0, 17)], 1, 8, .agg [.raw (.pointer none)]⟩ := rfl
@[go_sem] theorem Try.ty21 : Try.tyT 21 = some ⟨.int .i32, 1, 4, .int .i32 0⟩ := rfl
@[go_sem] theorem Try.ty22 : Try.tyT 22 = some ⟨.slice 5, 1, 24, .nil⟩ := rfl
@[go_sem] theorem Try.ty23 : Try.tyT 23 = some ⟨.slice 3, 1, 24, .nil⟩ := rfl
@[go_sem] theorem Try.ty24 : Try.tyT 24 = some ⟨.slice 90, 1, 24, .nil⟩ := rfl
@[go_sem] theorem Try.ty25 : Try.tyT 25 = some ⟨.struct [(0, 3), (1, 23), (2, 24), (3, 23)], 4, 80, .agg [.int .i64 0, .nil, .nil, .nil]⟩ := rfl
@[go_sem] theorem Try.ty26 : Try.tyT 26 = some ⟨.struct [(0, 3), (1, 23), (2, 24), (3, 23)], 4, 80, .agg [.int .i64 0, .nil, .nil, .nil]⟩ := rfl
@[go_sem] theorem Try.ty27 : Try.tyT 27 = some ⟨.func, 1, 8, .raw .nilFunc⟩ := rfl
@[go_sem] theorem Try.ty28 : Try.tyT 28 = some ⟨.func, 1, 8, .raw .nilFunc⟩ := rfl
@[go_sem] theorem Try.ty29 : Try.tyT 29 = some ⟨.func, 1, 8, .raw .nilFunc⟩ := rfl
@[go_sem] theorem Try.ty30 : Try.tyT 30 = some ⟨.func, 1, 8, .raw .nilFunc⟩ := rfl
@[go_sem] theorem Try.ty31 : Try.tyT 31 = some ⟨.func, 1, 8, .raw .nilFunc⟩ := rfl
@[go_sem] theorem Try.ty32 : Try.tyT 32 = some ⟨.slice 33, 1, 24, .nil⟩ := rfl
@[go_sem] theorem Try.ty33 : Try.tyT 33 = some ⟨.slice 4, 1, 24, .nil⟩ := rfl
@[go_sem] theorem Try.ty34 : Try.tyT 34 = some ⟨.func, 1, 8, .raw .nilFunc⟩ := rfl
@[go_sem] theorem Try.ty35 : Try.tyT 35 = some ⟨.func, 1, 8, .raw .nilFunc⟩ := rfl
@[go_sem] theorem Try.ty36 : Try.tyT 36 = some ⟨.func, 1, 8, .raw .nilFunc⟩ := rfl
@[go_sem] theorem Try.ty37 : Try.tyT 37 = some ⟨.func, 1, 8, .raw .nilFunc⟩ := rfl
@[go_sem] theorem Try.ty38 : Try.tyT 38 = some ⟨.func, 1, 8, .raw .nilFunc⟩ := rfl
@[go_sem] theorem Try.ty39 : Try.tyT 39 = some ⟨.func, 1, 8, .raw .nilFunc⟩ := rfl
@[go_sem] theorem Try.ty40 : Try.tyT 40 = some ⟨.func, 1, 8, .raw .nilFunc⟩ := rfl
@[go_sem] theorem Try.ty41 : Try.tyT 41 = some ⟨.func, 1, 8, .raw .nilFunc⟩ := rfl
@[go_sem] theorem Try.ty42 : Try.tyT 42 = some ⟨.func, 1, 8, .raw .nilFunc⟩ := rfl
@[go_sem] theorem Try.ty44 : Try.tyT 44 = some ⟨.func, 1, 8, .raw .nilFunc⟩ := rfl
@[go_sem] theorem Try.ty45 : Try.tyT 45 = some ⟨.func, 1, 8, .raw .nilFunc⟩ := rfl
@[go_sem] theorem Try.ty46 : Try.tyT 46 = some ⟨.struct [(0, 33), (1, 33)], 2, 48, .agg [.nil, .nil]⟩ := rfl
@[go_sem] theorem Try.ty47 : Try.tyT 47 = some ⟨.struct [(0, 33), (1, 33)], 2, 48, .agg [.nil, .nil]⟩ := rfl
@[go_sem] theorem Try.ty48 : Try.tyT 48 = some ⟨.func, 1, 8, .raw .nilFunc⟩ := rfl
@[go_sem] theorem Try.ty49 : Try.tyT 49 = some ⟨.slice 140, 1, 24, .nil⟩ := rfl
@[go_sem] theorem Try.ty50 : Try.tyT 50 = some ⟨.struct [(0, 3), (1, 23), (2, 49), (3, 23)], 4, 80, .agg [.int .i64 0, .nil, .nil, .nil]⟩ := rfl
@[go_sem] theorem Try.ty51 : Try.tyT 51 = some ⟨.struct [(0, 3), (1, 23), (2, 49), (3, 23)], 4, 80, .agg [.int .i64 0, .nil, .nil, .nil]⟩ := rfl
@[go_sem] theorem Try.ty52 : Try.tyT 52 = some ⟨.func, 1, 8, .raw .nilFunc⟩ := rfl
@[go_sem] theorem Try.ty53 : Try.tyT 53 = some ⟨.func, 1, 8, .raw .nilFunc⟩ := rfl
@[go_sem] theorem Try.ty54 : Try.tyT 54 = some ⟨.func, 1, 8, .raw .nilFunc⟩ := rfl
@[go_sem] theorem Try.ty55 : Try.tyT 55 = some ⟨.func, 1, 8, .raw .nilFunc⟩ := rfl
@[go_sem] theorem Try.ty56 : Try.tyT 56 = some ⟨.func, 1, 8, .raw .nilFunc⟩ := rfl
@[go_sem] theorem Try.ty57 : Try.tyT 57 = some ⟨.func, 1, 8, .raw .nilFunc⟩ := rfl
@[go_sem] theorem Try.ty58 : Try.tyT 58 = some ⟨.func, 1, 8, .raw .nilFunc⟩ := rfl
@[go_sem] theorem Try.ty59 : Try.tyT 59 = some ⟨.func, 1, 8, .raw .nilFunc⟩ := rfl
@[go_sem] theorem Try.ty60 : Try.tyT 60 = some ⟨.struct [(0, 3), (1, 4)], 2, 16, .agg [.int .i64 0, .bool false]⟩ := rfl
@[go_sem] theorem Try.ty61 : Try.tyT 61 = some ⟨.struct [(0, 3), (1, 4)], 2, 16, .agg [.int .i64 0, .bool false]⟩ := rfl
@[go_sem] theorem Try.ty62 : Try.tyT 62 = some ⟨.func, 1, 8, .raw .nilFunc⟩ := rfl
@[go_sem] theorem Try.ty64 : Try.tyT 64 = some ⟨.func, 1, 8, .raw .nilFunc⟩ := rfl
@[go_sem] theorem Try.ty65 : Try.tyT 65 = some ⟨.func, 1, 8, .raw .nilFunc⟩ := rfl
@[go_sem] theorem Try.ty66 : Try.tyT 66 = some ⟨.func, 1, 8, .raw .nilFunc⟩ := rfl
@[go_sem] theorem Try.ty67 : Try.tyT 67 = some ⟨.slice 117, 1, 24, .nil⟩ := rfl
@[go_sem] theorem Try.ty68 : Try.tyT 68 = some ⟨.struct [(0, 67), (1, 3)], 2, 32, .agg [.nil, .int .i64 0]⟩ := rfl
@[go_sem] theorem Try.ty69 : Try.tyT 69 = some ⟨.struct [(0, 67), (1, 3)], 2, 32, .agg [.nil, .int .i64 0]⟩ := rfl
@[go_sem] theorem Try.ty70 : Try.tyT 70 = some ⟨.func, 1, 8, .raw .nilFunc⟩ := rfl
@[go_sem] theorem Try.ty71 : Try.tyT 71 = some ⟨.struct [(0, 4), (1, 32)], 2, 32, .agg [.bool false, .nil]⟩ := rfl
@[go_sem] theorem Try.ty72 : Try.tyT 72 = some ⟨.struct [(0, 4), (1, 32)], 2, 32, .agg [.bool false, .nil]⟩ := rfl
@[go_sem] theorem Try.ty73 : Try.tyT 73 = some ⟨.func, 1, 8, .raw .nilFunc⟩ := rfl
@[go_sem] theorem Try.ty74 : Try.tyT 74 = some ⟨.func, 1, 8, .raw .nilFunc⟩ := rfl
@[go_sem] theorem Try.ty75 : Try.tyT 75 = some ⟨.func, 1, 8, .raw .nilFunc⟩ := rfl
@[go_sem] theorem Try.ty76 : Try.tyT 76 = some ⟨.func, 1, 8, .raw .nilFunc⟩ := rfl
@[go_sem] theorem Try.ty77 : Try.tyT 77 = some ⟨.func, 1, 8, .raw .nilFunc⟩ := rfl
@[go_sem] theorem Try.ty78 : Try.tyT 78 = some ⟨.func, 1, 8, .raw .nilFunc⟩ := rfl
@[go_sem] theorem Try.ty79 : Try.tyT 79 = some ⟨.func, 1, 8, .raw .nilFunc⟩ := rfl
@[go_sem] theorem Try.ty80 : Try.tyT 80 = some ⟨.func, 1, 8, .raw .nilFunc⟩ := rfl
@[go_sem] theorem Try.ty81 : Try.tyT 81 = some ⟨.func, 1, 8, .raw .nilFunc⟩ := rfl
@[go_sem] theorem Try.ty82 : Try.tyT 82 = some ⟨.func, 1, 8, .raw .nilFunc⟩ := rfl
@[go_sem] theorem Try.ty83 : Try.tyT 83 = some ⟨.ptr 134, 1, 8, .raw (.pointer none)⟩ := rfl
@[go_sem] theorem Try.ty84 : Try.tyT 84 = some ⟨.func, 1, 8, .raw .nilFunc⟩ := rfl
@[go_sem] theorem Try.ty85 : Try.tyT 85 = some ⟨.func, 1, 8, .raw .nilFunc⟩ := rfl
@[go_sem] theorem Try.ty86 : Try.tyT 86 = some ⟨.ptr 26, 1, 8, .raw (.pointer none)⟩ := rfl
@[go_sem] theorem Try.ty87 : Try.tyT 87 = some ⟨.func, 1, 8, .raw .nilFunc⟩ := rfl
@[go_sem] theorem Try.ty88 : Try.tyT 88 = some ⟨.array 2 3, 2, 16, .agg [.int .i64 0, .int .i64 0]⟩ := rfl
@[go_sem] theorem Try.ty89 : Try.tyT 89 = some ⟨.struct [(0, 3), (1, 3)], 2, 16, .agg [.int .i64 0, .int .i64 0]⟩ := rfl
@[go_sem] theorem Try.ty90 : Try.tyT 90 = some ⟨.struct [(0, 3), (1, 3)], 2, 16, .agg [.int .i64 0, .int .i64 0]⟩ := rfl
@[go_sem] theorem Try.ty91 : Try.tyT 91 = some ⟨.func, 1, 8, .raw .nilFunc⟩ := rfl
@[go_sem] theorem Try.ty92 : Try.tyT 92 = some ⟨.func, 1, 8, .raw .nilFunc⟩ := rfl
@[go_sem] theorem Try.ty93 : Try.tyT 93 = some ⟨.func, 1, 8, .raw .nilFunc⟩ := rfl
@[go_sem] theorem Try.ty94 : Try.tyT 94 = some ⟨.ptr 99, 1, 8, .raw (.pointer none)⟩ := rfl
@[go_sem] theorem Try.ty95 : Try.tyT 95 = some ⟨.func, 1, 8, .raw .nilFunc⟩ := rfl
@[go_sem] theorem Try.ty96 : Try.tyT 96 = some ⟨.func, 1, 8, .raw .nilFunc⟩ := rfl
@[go_sem] theorem Try.ty97 : Try.tyT 97 = some ⟨.map 90 3, 1, 8, .raw (.map none)⟩ := rfl
@[go_sem] theorem Try.ty98 : Try.tyT 98 = some ⟨.struct [(0, 3), (1, 24), (2, 23), (3, 97)], 4, 64, .agg [.int .i64 0, .nil, .nil, .raw (.map none)]⟩ := rfl
@[go_sem] theorem Try.ty99 : Try.tyT 99 = some ⟨.struct [(0, 3), (1, 24), (2, 23), (3, 97)], 4, 64, .agg [.int .i64 0, .nil, .nil, .raw (.map none)]⟩ := rfl
@[go_sem] theorem Try.ty100 : Try.tyT 100 = some ⟨.func, 1, 8, .raw .nilFunc⟩ := rfl
@[go_sem] theorem Try.ty102 : Try.tyT 102 = some ⟨.func, 1, 8, .raw .nilFunc⟩ := rfl
@[go_sem] theorem Try.ty103 : Try.tyT 103 = some ⟨.map 3 4, 1, 8, .raw (.map none)⟩ := rfl
@[go_sem] theorem Try.ty104 : Try.tyT 104 = some ⟨.func, 1, 8, .raw .nilFunc⟩ := rfl
@[go_sem] theorem Try.ty105 : Try.tyT 105 = some ⟨.func, 1, 8, .raw .nilFunc⟩ := rfl
@[go_sem] theorem Try.ty106 : Try.tyT 106 = some ⟨.func, 1, 8, .raw .nilFunc⟩ := rfl
@[go_sem] theorem Try.ty107 : Try.tyT 107 = some ⟨.func, 1, 8, .raw .nilFunc⟩ := rfl
@[go_sem] theorem Try.ty108 : Try.tyT 108 = some ⟨.func, 1, 8, .raw .nilFunc⟩ := rfl
@[go_sem] theorem Try.ty109 : Try.tyT 109 = some ⟨.func, 1, 8, .raw .nilFunc⟩ := rfl
@[go_sem] theorem Try.ty110 : Try.tyT 110 = some ⟨.func, 1, 8, .raw .nilFunc⟩ := rfl
@[go_sem] theorem Try.ty111 : Try.tyT 111 = some ⟨.func, 1, 8, .raw .nilFunc⟩ := rfl
@[go_sem] theorem Try.ty112 : Try.tyT 112 = some ⟨.func, 1, 8, .raw .nilFunc⟩ := rfl
@[go_sem] theorem Try.ty113 : Try.tyT 113 = some ⟨.func, 1, 8, .raw .nilFunc⟩ := rfl
@[go_sem] theorem Try.ty114 : Try.tyT 114 = some ⟨.func, 1, 8, .raw .nilFunc⟩ := rfl
@[go_sem] theorem Try.ty115 : Try.tyT 115 = some ⟨.func, 1, 8, .raw .nilFunc⟩ := rfl
@[go_sem] theorem Try.ty116 : Try.tyT 116 = some ⟨.struct [(0, 3), (1, 3), (2, 3)], 3, 24, .agg [.int .i64 0, .int .i64 0, .int .i64 0]⟩ := rfl
@[go_sem] theorem Try.ty117 : Try.tyT 117 = some ⟨.struct [(0, 3), (1, 3), (2, 3)], 3, 24, .agg [.int .i64 0, .int .i64 0, .int .i64 0]⟩ := rfl
@[go_sem] theorem Try.ty118 : Try.tyT 118 = some ⟨.func, 1, 8, .raw .nilFunc⟩ := rfl
@[go_sem] theorem Try.ty119 : Try.tyT 119 = some ⟨.ptr 123, 1, 8, .raw (.pointer none)⟩ := rfl
@[go_sem] theorem Try.ty120 : Try.tyT 120 = some ⟨.func, 1, 8, .raw .nilFunc⟩ := rfl
@[go_sem] theorem Try.ty121 : Try.tyT 121 = some ⟨.map 117 3, 1, 8, .raw (.map none)⟩ := rfl
@[go_sem] theorem Try.ty122 : Try.tyT 122 = some ⟨.struct [(0, 33), (1, 3), (2, 67), (3, 121)], 4, 64, .agg [.nil, .int .i64 0, .nil, .raw (.map none)]⟩ := rfl
@[go_sem] theorem Try.ty123 : Try.tyT 123 = some ⟨.struct [(0, 33), (1, 3), (2, 67), (3, 121)], 4, 64, .agg [.nil, .int .i64 0, .nil, .raw (.map none)]⟩ := rfl
@[go_sem] theorem Try.ty124 : Try.tyT 124 = some ⟨.func, 1, 8, .raw .nilFunc⟩ := rfl
@[go_sem] theorem Try.ty126 : Try.tyT 126 = some ⟨.func, 1, 8, .raw .nilFunc⟩ := rfl
@[go_sem] theorem Try.ty127 : Try.tyT 127 = some ⟨.func, 1, 8, .raw .nilFunc⟩ := rfl
@[go_sem] theorem Try.ty128 : Try.tyT 128 = some ⟨.func, 1, 8, .raw .nilFunc⟩ := rfl
@[go_sem] theorem Try.ty129 : Try.tyT 129 = some ⟨.func, 1, 8, .raw .nilFunc⟩ := rfl
@[go_sem] theorem Try.ty130 : Try.tyT 130 = some ⟨.func, 1, 8, .raw .nilFunc⟩ := rfl
@[go_sem] theorem Try.ty131 : Try.tyT 131 = some ⟨.func, 1, 8, .raw .nilFunc⟩ := rfl
@[go_sem] theorem Try.ty132 : Try.tyT 132 = some ⟨.func, 1, 8, .raw .nilFunc⟩ := rfl
@[go_sem] theorem Try.ty133 : Try.tyT 133 = some ⟨.struct [(0, 22), (1, 3)], 2, 32, .agg [.nil, .int .i64 0]⟩ := rfl
@[go_sem] theorem Try.ty134 : Try.tyT 134 = some ⟨.struct [(0, 22), (1, 3)], 2, 32, .agg [.nil, .int .i64 0]⟩ := rfl
@[go_sem] theorem Try.ty135 : Try.tyT 135 = some ⟨.func, 1, 8, .raw .nilFunc⟩ := rfl
@[go_sem] theorem Try.ty137 : Try.tyT 137 = some ⟨.func, 1, 8, .raw .nilFunc⟩ := rfl
@[go_sem] theorem Try.ty138 : Try.tyT 138 = some ⟨.func, 1, 8, .raw .nilFunc⟩ := rfl
@[go_sem] theorem Try.ty139 : Try.tyT 139 = some ⟨.func, 1, 8, .raw .nilFunc⟩ := rfl
@[go_sem] theorem Try.ty140 : Try.tyT 140 = some ⟨.struct [(0, 3), (1, 3)], 2, 16, .agg [.int .i64 0, .int .i64 0]⟩ := rfl
@[go_sem] theorem Try.ty141 : Try.tyT 141 = some ⟨.func, 1, 8, .raw .nilFunc⟩ := rfl
@[go_sem] theorem Try.ty142 : Try.tyT 142 = some ⟨.func, 1, 8, .raw .nilFunc⟩ := rfl
@[go_sem] theorem Try.ty143 : Try.tyT 143 = some ⟨.map 117 4, 1, 8, .raw (.map none)⟩ := rfl
@[go_sem] theorem Try.ty144 : Try.tyT 144 = some ⟨.slice 88, 1, 24, .nil⟩ := rfl
@[go_sem] theorem Try.ty145 : Try.tyT 145 = some ⟨.slice 32, 1, 24, .nil⟩ := rfl
@[go_sem] theorem Try.ty146 : Try.tyT 146 = some ⟨.map 88 4, 1, 8, .raw (.map none)⟩ := rfl
@[go_sem] theorem Try.ty148 : Try.tyT 148 = some ⟨.func, 1, 8, .raw .nilFunc⟩ := rfl
@[go_sem] theorem Try.ty149 : Try.tyT 149 = some ⟨.func, 1, 8, .raw .nilFunc⟩ := rfl
@[go_sem] theorem Try.ty150 : Try.tyT 150 = some ⟨.func, 1, 8, .raw .nilFunc⟩ := rfl
@[go_sem] theorem Try.ty151 : Try.tyT 151 = some ⟨.func, 1, 8, .raw .nilFunc⟩ := rfl
@[go_sem] theorem Try.ty157 : Try.tyT 157 = some ⟨.func, 1, 8, .raw .nilFunc⟩ := rfl
@[go_sem] theorem Try.ty158 : Try.tyT 158 = some ⟨.int .u32, 1, 4, .int .u32 0⟩ := rfl
@[go_sem] theorem Try.ty159 : Try.tyT 159 = some ⟨.int .u8, 1, 1, .int .u8 0⟩ := rfl
@[go_sem] theorem Try.ty160 : Try.tyT 160 = some ⟨.int .u8, 1, 1, .int .u8 0⟩ := rfl
@[go_sem] theorem Try.ty161 : Try.tyT 161 = some ⟨.func, 1, 8, .raw .nilFunc⟩ := rfl
@[go_sem] theorem Try.ty162 : Try.tyT 162 = some ⟨.ptr 5, 1, 8, .raw (.pointer none)⟩ := rfl
@[go_sem] theorem Try.ty163 : Try.tyT 163 = some ⟨.int .i32, 1, 4, .int .i32 0⟩ := rfl
@[go_sem] theorem Try.ty164 : Try.tyT 164 = some ⟨.int .i32, 1, 4, .int .i32 0⟩ := rfl
@[go_sem] theorem Try.ty165 : Try.tyT 165 = some ⟨.struct [(0, 12), (1, 12), (2, 158), (3, 159), (4, 5), (5, 5), (6, 160), (7, 161), (8, 162), (9, 163), (10, 164)], 11, 48, .agg [.int .u64 0, .int .u64 0, .int .u32 0, .int .u8 0, .int .u8 0, .int .u8 0, .int .u8 0, .raw .nilFunc, .raw (.pointer none), .int .i32 0, .int .i32 0]⟩ := rfl
@[go_sem] theorem Try.ty166 : Try.tyT 166 = some ⟨.struct [(0, 12), (1, 12), (2, 158), (3, 159), (4, 5), (5, 5), (6, 160), (7, 161), (8, 162), (9, 163), (10, 164)], 11, 48, .agg [.int .u64 0, .int .u64 0, .int .u32 0, .int .u8 0, .int .u8 0, .int .u8 0, .int .u8 0, .raw .nilFunc, .raw (.pointer none), .int .i32 0, .int .i32 0]⟩ := rfl
def Try.pf : Nat → Kind
  | 22 => .proc
  | 38 => .proc
  | 39 => .proc
  | 64 => .proc
  | 66 => .proc
  | 67 => .proc
  | 77 => .proc
  | 78 => .proc
  | 79 => .proc
  | 80 => .proc
  | 83 => .proc
  | 86 => .proc
  | 87 => .proc
  | 88 => .proc
  | 90 => .proc
  | 91 => .proc
  | 99 => .proc
  | 109 => .proc
  | 122 => .proc
  | 15 => .fz
  | 26 => .fz
  | 29 => .fz
  | 46 => .fz
  | 55 => .fz
  | 59 => .fz
  | 82 => .fz
  | 84 => .fz
  | 124 => .fz
  | _ => .own
@[go_sem] theorem Try.pf0 : Try.pf 0 = .own := rfl
@[go_sem] theorem Try.pf1 : Try.pf 1 = .own := rfl
@[go_sem] theorem Try.pf2 : Try.pf 2 = .own := rfl
@[go_sem] theorem Try.pf3 : Try.pf 3 = .own := rfl
@[go_sem] theorem Try.pf4 : Try.pf 4 = .own := rfl
@[go_sem] theorem Try.pf5 : Try.pf 5 = .own := rfl
@[go_sem] theorem Try.pf6 : Try.pf 6 = .own := rfl
@[go_sem] theorem Try.pf7 : Try.pf 7 = .own := rfl
@[go_sem] theorem Try.pf8 : Try.pf 8 = .own := rfl
@[go_sem] theorem Try.pf9 : Try.pf 9 = .own := rfl
@[go_sem] theorem Try.pf10 : Try.pf 10 = .own := rfl
@[go_sem] theorem Try.pf11 : Try.pf 11 = .own := rfl
@[go_sem] theorem Try.pf12 : Try.pf 12 = .own := rfl
@[go_sem] theorem Try.pf13 : Try.pf 13 = .own := rfl
@[go_sem] theorem Try.pf14 : Try.pf 14 = .own := rfl
@[go_sem] theorem Try.pf15 : Try.pf 15 = .fz := rfl
@[go_sem] theorem Try.pf16 : Try.pf 16 = .own := rfl
@[go_sem] theorem Try.pf17 : Try.pf 17 = .own := rfl
@[go_sem] theorem Try.pf18 : Try.pf 18 = .own := rfl
@[go_sem] theorem Try.pf19 : Try.pf 19 = .own := rfl
@[go_sem] theorem Try.pf20 : Try.pf 20 = .own := rfl
@[go_sem] theorem Try.pf21 : Try.pf 21 = .own := rfl
@[go_sem] theorem Try.pf22 : Try.pf 22 = .proc := rfl
@[go_sem] theorem Try.pf23 : Try.pf 23 = .own := rfl
@[go_sem] theorem Try.pf24 : Try.pf 24 = .own := rfl
@[go_sem] theorem Try.pf25 : Try.pf 25 = .own := rfl
@[go_sem] theorem Try.pf26 : Try.pf 26 = .fz := rfl
@[go_sem] theorem Try.pf27 : Try.pf 27 = .own := rfl
@[go_sem] theorem Try.pf28 : Try.pf 28 = .own := rfl
@[go_sem] theorem Try.pf29 : Try.pf 29 = .fz := rfl
@[go_sem] theorem Try.pf30 : Try.pf 30 = .own := rfl
@[go_sem] theorem Try.pf31 : Try.pf 31 = .own := rfl
@[go_sem] theorem Try.pf32 : Try.pf 32 = .own := rfl
@[go_sem] theorem Try.pf33 : Try.pf 33 = .own := rfl
@[go_sem] theorem Try.pf34 : Try.pf 34 = .own := rfl
@[go_sem] theorem Try.pf35 : Try.pf 35 = .own := rfl
@[go_sem] theorem Try.pf36 : Try.pf 36 = .own := rfl
@[go_sem] theorem Try.pf37 : Try.pf 37 = .own := rfl
@[go_sem] theorem Try.pf38 : Try.pf 38 = .proc := rfl
@[go_sem] theorem Try.pf39 : Try.pf 39 = .proc := rfl
@[go_sem] theorem Try.pf40 : Try.pf 40 = .own := rfl
@[go_sem] theorem Try.pf41 : Try.pf 41 = .own := rfl
@[go_sem] theorem Try.pf42 : Try.pf 42 = .own := rfl
@[go_sem] theorem Try.pf43 : Try.pf 43 = .own := rfl
@[go_sem] theorem Try.pf44 : Try.pf 44 = .own := rfl
@[go_sem] theorem Try.pf45 : Try.pf 45 = .own := rfl
@[go_sem] theorem Try.pf46 : Try.pf 46 = .fz := rfl
@[go_sem] theorem Try.pf47 : Try.pf 47 = .own := rfl
@[go_sem] theorem Try.pf48 : Try.pf 48 = .own := rfl
@[go_sem] theorem Try.pf49 : Try.pf 49 = .own := rfl
@[go_sem] theorem Try.pf50 : Try.pf 50 = .own := rfl
@[go_sem] theorem Try.pf51 : Try.pf 51 = .own := rfl
@[go_sem] theorem Try.pf52 : Try.pf 52 = .own := rfl
@[go_sem] theorem Try.pf53 : Try.pf 53 = .own := rfl
@[go_sem] theorem Try.pf54 : Try.pf 54 = .own := rfl
@[go_sem] theorem Try.pf55 : Try.pf 55 = .fz := rfl
@[go_sem] theorem Try.pf56 : Try.pf 56 = .own := rfl
@[go_sem] theorem Try.pf57 : Try.pf 57 = .own := rfl
@[go_sem] theorem Try.pf58 : Try.pf 58 = .own := rfl
@[go_sem] theorem Try.pf59 : Try.pf 59 = .fz := rfl
@[go_sem] theorem Try.pf60 : Try.pf 60 = .own := rfl
@[go_sem] theorem Try.pf61 : Try.pf 61 = .own := rfl
@[go_sem] theorem Try.pf62 : Try.pf 62 = .own := rfl
@[go_sem] theorem Try.pf63 : Try.pf 63 = .own := rfl
@[go_sem] theorem Try.pf64 : Try.pf 64 = .proc := rfl
@[go_sem] theorem Try.pf65 : Try.pf 65 = .own := rfl
@[go_sem] theorem Try.pf66 : Try.pf 66 = .proc := rfl
@[go_sem] theorem Try.pf67 : Try.pf 67 = .proc := rfl
@[go_sem] theorem Try.pf68 : Try.pf 68 = .own := rfl
@[go_sem] theorem Try.pf69 : Try.pf 69 = .own := rfl
@[go_sem] theorem Try.pf70 : Try.pf 70 = .own := rfl
@[go_sem] theorem Try.pf71 : Try.pf 71 = .own := rfl
@[go_sem] theorem Try.pf72 : Try.pf 72 = .own := rfl
@[go_sem] theorem Try.pf73 : Try.pf 73 = .own := rfl
@[go_sem] theorem Try.pf74 : Try.pf 74 = .own := rfl
@[go_sem] theorem Try.pf75 : Try.pf 75 = .own := rfl
@[go_sem] theorem Try.pf76 : Try.pf 76 = .own := rfl
@[go_sem] theorem Try.pf77 : Try.pf 77 = .proc := rfl
@[go_sem] theorem Try.pf78 : Try.pf 78 = .proc := rfl
@[go_sem] theorem Try.pf79 : Try.pf 79 = .proc := rfl
@[go_sem] theorem Try.pf80 : Try.pf 80 = .proc := rfl
@[go_sem] theorem Try.pf81 : Try.pf 81 = .own := rfl
@[go_sem] theorem Try.pf82 : Try.pf 82 = .fz := rfl
@[go_sem] theorem Try.pf83 : Try.pf 83 = .proc := rfl
@[go_sem] theorem Try.pf84 : Try.pf 84 = .fz := rfl
@[go_sem] theorem Try.pf85 : Try.pf 85 = .own := rfl
@[go_sem] theorem Try.pf86 : Try.pf 86 = .proc := rfl
@[go_sem] theorem Try.pf87 : Try.pf 87 = .proc := rfl
@[go_sem] theorem Try.pf88 : Try.pf 88 = .proc := rfl
@[go_sem] theorem Try.pf89 : Try.pf 89 = .own := rfl
@[go_sem] theorem Try.pf90 : Try.pf 90 = .proc := rfl
@[go_sem] theorem Try.pf91 : Try.pf 91 = .proc := rfl
@[go_sem] theorem Try.pf92 : Try.pf 92 = .own := rfl
@[go_sem] theorem Try.pf93 : Try.pf 93 = .own := rfl
@[go_sem] theorem Try.pf94 : Try.pf 94 = .own := rfl
@[go_sem] theorem Try.pf95 : Try.pf 95 = .own := rfl
@[go_sem] theorem Try.pf96 : Try.pf 96 = .own := rfl
@[go_sem] theorem Try.pf97 : Try.pf 97 = .own := rfl
@[go_sem] theorem Try.pf98 : Try.pf 98 = .own := rfl
@[go_sem] theorem Try.pf99 : Try.pf 99 = .proc := rfl
@[go_sem] theorem Try.pf100 : Try.pf 100 = .own := rfl
@[go_sem] theorem Try.pf101 : Try.pf 101 = .own := rfl
@[go_sem] theorem Try.pf102 : Try.pf 102 = .own := rfl
@[go_sem] theorem Try.pf103 : Try.pf 103 = .own := rfl
@[go_sem] theorem Try.pf104 : Try.pf 104 = .own := rfl
@[go_sem] theorem Try.pf105 : Try.pf 105 = .own := rfl
@[go_sem] theorem Try.pf106 : Try.pf 106 = .own := rfl
@[go_sem] theorem Try.pf107 : Try.pf 107 = .own := rfl
@[go_sem] theorem Try.pf108 : Try.pf 108 = .own := rfl
@[go_sem] theorem Try.pf109 : Try.pf 109 = .proc := rfl
@[go_sem] theorem Try.pf110 : Try.pf 110 = .own := rfl
@[go_sem] theorem Try.pf111 : Try.pf 111 = .own := rfl
@[go_sem] theorem Try.pf112 : Try.pf 112 = .own := rfl
@[go_sem] theorem Try.pf113 : Try.pf 113 = .own := rfl
@[go_sem] theorem Try.pf114 : Try.pf 114 = .own := rfl
@[go_sem] theorem Try.pf115 : Try.pf 115 = .own := rfl
@[go_sem] theorem Try.pf116 : Try.pf 116 = .own := rfl
@[go_sem] theorem Try.pf117 : Try.pf 117 = .own := rfl
@[go_sem] theorem Try.pf118 : Try.pf 118 = .own := rfl
@[go_sem] theorem Try.pf119 : Try.pf 119 = .own := rfl
@[go_sem] theorem Try.pf120 : Try.pf 120 = .own := rfl
@[go_sem] theorem Try.pf121 : Try.pf 121 = .own := rfl
@[go_sem] theorem Try.pf122 : Try.pf 122 = .proc := rfl
@[go_sem] theorem Try.pf123 : Try.pf 123 = .own := rfl
@[go_sem] theorem Try.pf124 : Try.pf 124 = .fz := rfl
@[go_sem] theorem Try.pf125 : Try.pf 125 = .own := rfl
@[go_sem] theorem Try.pf126 : Try.pf 126 = .own := rfl
@[go_sem] theorem Try.pf127 : Try.pf 127 = .own := rfl
@[go_sem] theorem Try.pf128 : Try.pf 128 = .own := rfl
@[go_sem] theorem Try.pf129 : Try.pf 129 = .own := rfl
@[go_sem] theorem Try.pf130 : Try.pf 130 = .own := rfl
@[go_sem] theorem Try.pf131 : Try.pf 131 = .own := rfl
@[go_sem] theorem Try.pf132 : Try.pf 132 = .own := rfl
@[go_sem] theorem Try.pf133 : Try.pf 133 = .own := rfl
@[go_sem] theorem Try.pf134 : Try.pf 134 = .own := rfl
@[go_sem] theorem Try.pf135 : Try.pf 135 = .own := rfl
@[go_sem] theorem Try.pf136 : Try.pf 136 = .own := rfl
@[go_sem] theorem Try.pf137 : Try.pf 137 = .own := rfl
@[go_sem] theorem Try.pf138 : Try.pf 138 = .own := rfl
@[go_sem] theorem Try.pf139 : Try.pf 139 = .own := rfl
@[go_sem] theorem Try.pf140 : Try.pf 140 = .own := rfl
@[go_sem] theorem Try.pf141 : Try.pf 141 = .own := rfl
@[go_sem] theorem Try.pf142 : Try.pf 142 = .own := rfl
@[go_sem] theorem Try.pf143 : Try.pf 143 = .own := rfl
@[go_sem] theorem Try.pf144 : Try.pf 144 = .own := rfl
@[go_sem] theorem Try.pf145 : Try.pf 145 = .own := rfl
@[go_sem] theorem Try.pf146 : Try.pf 146 = .own := rfl
@[go_sem] theorem Try.pf147 : Try.pf 147 = .own := rfl
@[go_sem] theorem Try.pf148 : Try.pf 148 = .own := rfl
@[go_sem] theorem Try.pf149 : Try.pf 149 = .own := rfl
@[go_sem] theorem Try.pf150 : Try.pf 150 = .own := rfl
@[go_sem] theorem Try.pf151 : Try.pf 151 = .own := rfl
@[go_sem] theorem Try.pf152 : Try.pf 152 = .own := rfl
@[go_sem] theorem Try.pf153 : Try.pf 153 = .own := rfl
@[go_sem] theorem Try.pf154 : Try.pf 154 = .own := rfl
@[go_sem] theorem Try.pf155 : Try.pf 155 = .own := rfl
@[go_sem] theorem Try.pf156 : Try.pf 156 = .own := rfl
@[go_sem] theorem Try.pf157 : Try.pf 157 = .own := rfl
@[go_sem] theorem Try.pf158 : Try.pf 158 = .own := rfl
@[go_sem] theorem Try.pf159 : Try.pf 159 = .own := rfl
@[go_sem] theorem Try.pf160 : Try.pf 160 = .own := rfl
@[go_sem] theorem Try.pf161 : Try.pf 161 = .own := rfl
noncomputable def Try.env (n : Nat) : Env := ⟨Try.prog, Try.tyT, Try.pf, n⟩
@[go_sem] theorem Try.env_T (n : Nat) : (Try.env n).T = Try.tyT := rfl
@[go_sem] theorem Try.env_n (n : Nat) : (Try.env n).n = n := rfl
@[go_sem] theorem Try.env_pf (n f : Nat) : (Try.env n).pf f = Try.pf f := rfl
@[go_sem] theorem Try.env_P (n : Nat) : (Try.env n).P = Try.prog := rfl
@[go_sem] theorem Try.follows : Try.prog.follows .mixedOrders = true := by kernel_rfl

end Go.Proofs
