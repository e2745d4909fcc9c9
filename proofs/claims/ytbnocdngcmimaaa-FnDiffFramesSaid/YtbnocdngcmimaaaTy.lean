/- The table of the types of a translation, and that it is right. Made by a program. Conditions: none. -/
import Derived.Test.YtbnocdngcmimaaaProg
import Derived.Test.YtbnocdngcmimaaaVM8
import Derived.KernelRfl
set_option linter.unusedVariables false
namespace Go.Proofs
open Go.VL
theorem qaO {P:Program}{t:Nat}{ti:TI}(h1:(P.info? t).map (fun i=>(i.size,i.bytes,i.zero))=some (ti.size,ti.bytes,some (qaQ ti.zero)):=by kernel_rfl) (h2:(P.underlying t).map tyOf=some ti.ty:=by kernel_rfl) (h3:qgk ti.zero=true:=by kernel_rfl) (h4:ti.zero.cells.length=ti.size:=by kernel_rfl) (h5:(match ti.zero with|.agg _=>true|_=>false)=ti.ty.agg:=by kernel_rfl) (h6:qmO P t=true:=by kernel_rfl):TIOK P t ti:=tiok_of h1 h2 h3 h4 h5 h6
def qnN (t:Nat):List (Nat×TI)→Option TI
 | []=>none
 | (s,x)::r=>cond (Nat.beq s t) (some x) (qnN t r)
def AllT (P:Nat→TI→Prop):List (Nat×TI)→Prop
 | []=>True
 | (s,x)::r=>P s x∧AllT P r
theorem qlA {P:Nat→TI→Prop}{t:Nat}{ti:TI} : ∀ {l:List (Nat×TI)},AllT P l→qnN t l=some ti→P t ti
 | [],_,h=>by simp[qnN] at h
 | (s,x)::r,ha,h=>by
  simp only[qnN] at h
  cases e:Nat.beq s t with
  | true=>
   rw[e] at h
   cases h
   rw[Nat.eq_of_beq_eq_true e] at ha
   exact ha.1
  | false=>
   rw[e] at h
   exact qlA ha.2 h
def Try.tyL:List (Nat×TI):=[
 (2,⟨.int .i64,1,8,.int .i64 0⟩),
 (3,⟨.int .i64,1,8,.int .i64 0⟩),
 (4,⟨.bool,1,1,.bool false⟩),
 (5,⟨.int .u8,1,1,.int .u8 0⟩),
 (6,⟨.int .u8,1,1,.int .u8 0⟩),
 (7,⟨.struct [(0,2),(1,3),(2,4),(3,6)],4,24,.agg [.int .i64 0,.int .i64 0,.bool false,.int .u8 0]⟩),
 (8,⟨.struct [(0,2),(1,3),(2,4),(3,6)],4,24,.agg [.int .i64 0,.int .i64 0,.bool false,.int .u8 0]⟩),
 (12,⟨.int .u64,1,8,.int .u64 0⟩),
 (15,⟨.ptr 199,1,8,.raw (.pointer none)⟩),
 (16,⟨.ptr 202,1,8,.raw (.pointer none)⟩),
 (17,⟨.ptr 212,1,8,.raw (.pointer none)⟩),
 (18,⟨.struct [(0,17)],1,8,.agg [.raw (.pointer none)]⟩),
 (19,⟨.struct [(0,17)],1,8,.agg [.raw (.pointer none)]⟩),
 (21,⟨.int .i32,1,4,.int .i32 0⟩),
 (22,⟨.slice 98,1,24,.nil⟩),
 (23,⟨.slice 103,1,24,.nil⟩),
 (24,⟨.struct [(0,22),(1,23)],2,48,.agg [.nil,.nil]⟩),
 (25,⟨.struct [(0,22),(1,23)],2,48,.agg [.nil,.nil]⟩),
 (27,⟨.slice 65,1,24,.nil⟩),
 (29,⟨.slice 63,1,24,.nil⟩),
 (30,⟨.slice 75,1,24,.nil⟩),
 (31,⟨.struct [(0,29),(1,30)],2,48,.agg [.nil,.nil]⟩),
 (32,⟨.struct [(0,29),(1,30)],2,48,.agg [.nil,.nil]⟩),
 (39,⟨.slice 95,1,24,.nil⟩),
 (42,⟨.slice 82,1,24,.nil⟩),
 (47,⟨.slice 100,1,24,.nil⟩),
 (56,⟨.slice 32,1,24,.nil⟩),
 (60,⟨.slice 5,1,24,.nil⟩),
 (61,⟨.slice 3,1,24,.nil⟩),
 (62,⟨.struct [(0,3),(1,61),(2,4),(3,61)],4,64,.agg [.int .i64 0,.nil,.bool false,.nil]⟩),
 (63,⟨.struct [(0,3),(1,61),(2,4),(3,61)],4,64,.agg [.int .i64 0,.nil,.bool false,.nil]⟩),
 (64,⟨.struct [(0,3),(1,63)],5,72,.agg [.int .i64 0,.int .i64 0,.nil,.bool false,.nil]⟩),
 (65,⟨.struct [(0,3),(1,63)],5,72,.agg [.int .i64 0,.int .i64 0,.nil,.bool false,.nil]⟩),
 (74,⟨.struct [(0,3),(1,4)],2,16,.agg [.int .i64 0,.bool false]⟩),
 (75,⟨.struct [(0,3),(1,4)],2,16,.agg [.int .i64 0,.bool false]⟩),
 (81,⟨.struct [(0,3),(1,3)],2,16,.agg [.int .i64 0,.int .i64 0]⟩),
 (82,⟨.struct [(0,3),(1,3)],2,16,.agg [.int .i64 0,.int .i64 0]⟩),
 (95,⟨.struct [(0,3),(1,3)],2,16,.agg [.int .i64 0,.int .i64 0]⟩),
 (98,⟨.struct [(0,3),(1,61),(2,4),(3,61)],4,64,.agg [.int .i64 0,.nil,.bool false,.nil]⟩),
 (99,⟨.struct [(0,3),(1,98)],5,72,.agg [.int .i64 0,.int .i64 0,.nil,.bool false,.nil]⟩),
 (100,⟨.struct [(0,3),(1,98)],5,72,.agg [.int .i64 0,.int .i64 0,.nil,.bool false,.nil]⟩),
 (103,⟨.struct [(0,3),(1,4)],2,16,.agg [.int .i64 0,.bool false]⟩),
 (110,⟨.ptr 135,1,8,.raw (.pointer none)⟩),
 (117,⟨.slice 143,1,24,.nil⟩),
 (118,⟨.struct [(0,3),(1,61),(2,117),(3,61)],4,80,.agg [.int .i64 0,.nil,.nil,.nil]⟩),
 (119,⟨.struct [(0,3),(1,61),(2,117),(3,61)],4,80,.agg [.int .i64 0,.nil,.nil,.nil]⟩),
 (123,⟨.int .u64,1,8,.int .u64 0⟩),
 (126,⟨.map 130 3,1,8,.raw (.map none)⟩),
 (128,⟨.ptr 32,1,8,.raw (.pointer none)⟩),
 (129,⟨.struct [(0,3),(1,3)],2,16,.agg [.int .i64 0,.int .i64 0]⟩),
 (130,⟨.struct [(0,3),(1,3)],2,16,.agg [.int .i64 0,.int .i64 0]⟩),
 (134,⟨.struct [(0,60),(1,3)],2,32,.agg [.nil,.int .i64 0]⟩),
 (135,⟨.struct [(0,60),(1,3)],2,32,.agg [.nil,.int .i64 0]⟩),
 (139,⟨.array 4 3,4,32,.agg [.int .i64 0,.int .i64 0,.int .i64 0,.int .i64 0]⟩),
 (142,⟨.struct [(0,3),(1,3)],2,16,.agg [.int .i64 0,.int .i64 0]⟩),
 (143,⟨.struct [(0,3),(1,3)],2,16,.agg [.int .i64 0,.int .i64 0]⟩),
 (146,⟨.ptr 119,1,8,.raw (.pointer none)⟩),
 (148,⟨.slice 130,1,24,.nil⟩),
 (150,⟨.slice 161,1,24,.nil⟩),
 (153,⟨.slice 173,1,24,.nil⟩),
 (157,⟨.ptr 63,1,8,.raw (.pointer none)⟩),
 (160,⟨.struct [(0,3),(1,61),(2,3),(3,4)],4,48,.agg [.int .i64 0,.nil,.int .i64 0,.bool false]⟩),
 (161,⟨.struct [(0,3),(1,61),(2,3),(3,4)],4,48,.agg [.int .i64 0,.nil,.int .i64 0,.bool false]⟩),
 (162,⟨.slice 165,1,24,.nil⟩),
 (164,⟨.struct [(0,3),(1,61),(2,3)],3,40,.agg [.int .i64 0,.nil,.int .i64 0]⟩),
 (165,⟨.struct [(0,3),(1,61),(2,3)],3,40,.agg [.int .i64 0,.nil,.int .i64 0]⟩),
 (168,⟨.slice 169,1,24,.nil⟩),
 (169,⟨.slice 4,1,24,.nil⟩),
 (171,⟨.slice 177,1,24,.nil⟩),
 (172,⟨.struct [(0,3),(1,3),(2,171)],3,40,.agg [.int .i64 0,.int .i64 0,.nil]⟩),
 (173,⟨.struct [(0,3),(1,3),(2,171)],3,40,.agg [.int .i64 0,.int .i64 0,.nil]⟩),
 (176,⟨.struct [(0,3),(1,3)],2,16,.agg [.int .i64 0,.int .i64 0]⟩),
 (177,⟨.struct [(0,3),(1,3)],2,16,.agg [.int .i64 0,.int .i64 0]⟩),
 (180,⟨.slice 61,1,24,.nil⟩),
 (183,⟨.slice 180,1,24,.nil⟩),
 (204,⟨.int .u32,1,4,.int .u32 0⟩),
 (205,⟨.int .u8,1,1,.int .u8 0⟩),
 (206,⟨.int .u8,1,1,.int .u8 0⟩),
 (208,⟨.ptr 5,1,8,.raw (.pointer none)⟩),
 (209,⟨.int .i32,1,4,.int .i32 0⟩),
 (210,⟨.int .i32,1,4,.int .i32 0⟩),
 (211,⟨.struct [(0,12),(1,12),(2,204),(3,205),(4,5),(5,5),(6,206),(7,207),(8,208),(9,209),(10,210)],11,48,.agg [.int .u64 0,.int .u64 0,.int .u32 0,.int .u8 0,.int .u8 0,.int .u8 0,.int .u8 0,.raw .nilFunc,.raw (.pointer none),.int .i32 0,.int .i32 0]⟩),
 (212,⟨.struct [(0,12),(1,12),(2,204),(3,205),(4,5),(5,5),(6,206),(7,207),(8,208),(9,209),(10,210)],11,48,.agg [.int .u64 0,.int .u64 0,.int .u32 0,.int .u8 0,.int .u8 0,.int .u8 0,.int .u8 0,.raw .nilFunc,.raw (.pointer none),.int .i32 0,.int .i32 0]⟩)]
def Try.tyT:Nat→Option TI:=fun t=>qnN t Try.tyL
theorem Try.tok2:TIOK Try.prog 2 ⟨.int .i64,1,8,.int .i64 0⟩:=qaO
theorem Try.tok3:TIOK Try.prog 3 ⟨.int .i64,1,8,.int .i64 0⟩:=qaO
theorem Try.tok4:TIOK Try.prog 4 ⟨.bool,1,1,.bool false⟩:=qaO
theorem Try.tok5:TIOK Try.prog 5 ⟨.int .u8,1,1,.int .u8 0⟩:=qaO
theorem Try.tok6:TIOK Try.prog 6 ⟨.int .u8,1,1,.int .u8 0⟩:=qaO
theorem Try.tok7:TIOK Try.prog 7 ⟨.struct [(0,2),(1,3),(2,4),(3,6)],4,24,.agg [.int .i64 0,.int .i64 0,.bool false,.int .u8 0]⟩:=qaO
theorem Try.tok8:TIOK Try.prog 8 ⟨.struct [(0,2),(1,3),(2,4),(3,6)],4,24,.agg [.int .i64 0,.int .i64 0,.bool false,.int .u8 0]⟩:=qaO
theorem Try.tok12:TIOK Try.prog 12 ⟨.int .u64,1,8,.int .u64 0⟩:=qaO
theorem Try.tok15:TIOK Try.prog 15 ⟨.ptr 199,1,8,.raw (.pointer none)⟩:=qaO
theorem Try.tok16:TIOK Try.prog 16 ⟨.ptr 202,1,8,.raw (.pointer none)⟩:=qaO
theorem Try.tok17:TIOK Try.prog 17 ⟨.ptr 212,1,8,.raw (.pointer none)⟩:=qaO
theorem Try.tok18:TIOK Try.prog 18 ⟨.struct [(0,17)],1,8,.agg [.raw (.pointer none)]⟩:=qaO
theorem Try.tok19:TIOK Try.prog 19 ⟨.struct [(0,17)],1,8,.agg [.raw (.pointer none)]⟩:=qaO
theorem Try.tok21:TIOK Try.prog 21 ⟨.int .i32,1,4,.int .i32 0⟩:=qaO
theorem Try.tok22:TIOK Try.prog 22 ⟨.slice 98,1,24,.nil⟩:=qaO
theorem Try.tok23:TIOK Try.prog 23 ⟨.slice 103,1,24,.nil⟩:=qaO
theorem Try.tok24:TIOK Try.prog 24 ⟨.struct [(0,22),(1,23)],2,48,.agg [.nil,.nil]⟩:=qaO
theorem Try.tok25:TIOK Try.prog 25 ⟨.struct [(0,22),(1,23)],2,48,.agg [.nil,.nil]⟩:=qaO
theorem Try.tok27:TIOK Try.prog 27 ⟨.slice 65,1,24,.nil⟩:=qaO
theorem Try.tok29:TIOK Try.prog 29 ⟨.slice 63,1,24,.nil⟩:=qaO
theorem Try.tok30:TIOK Try.prog 30 ⟨.slice 75,1,24,.nil⟩:=qaO
theorem Try.tok31:TIOK Try.prog 31 ⟨.struct [(0,29),(1,30)],2,48,.agg [.nil,.nil]⟩:=qaO
theorem Try.tok32:TIOK Try.prog 32 ⟨.struct [(0,29),(1,30)],2,48,.agg [.nil,.nil]⟩:=qaO
theorem Try.tok39:TIOK Try.prog 39 ⟨.slice 95,1,24,.nil⟩:=qaO
theorem Try.tok42:TIOK Try.prog 42 ⟨.slice 82,1,24,.nil⟩:=qaO
theorem Try.tok47:TIOK Try.prog 47 ⟨.slice 100,1,24,.nil⟩:=qaO
theorem Try.tok56:TIOK Try.prog 56 ⟨.slice 32,1,24,.nil⟩:=qaO
theorem Try.tok60:TIOK Try.prog 60 ⟨.slice 5,1,24,.nil⟩:=qaO
theorem Try.tok61:TIOK Try.prog 61 ⟨.slice 3,1,24,.nil⟩:=qaO
theorem Try.tok62:TIOK Try.prog 62 ⟨.struct [(0,3),(1,61),(2,4),(3,61)],4,64,.agg [.int .i64 0,.nil,.bool false,.nil]⟩:=qaO
theorem Try.tok63:TIOK Try.prog 63 ⟨.struct [(0,3),(1,61),(2,4),(3,61)],4,64,.agg [.int .i64 0,.nil,.bool false,.nil]⟩:=qaO
theorem Try.tok64:TIOK Try.prog 64 ⟨.struct [(0,3),(1,63)],5,72,.agg [.int .i64 0,.int .i64 0,.nil,.bool false,.nil]⟩:=qaO
theorem Try.tok65:TIOK Try.prog 65 ⟨.struct [(0,3),(1,63)],5,72,.agg [.int .i64 0,.int .i64 0,.nil,.bool false,.nil]⟩:=qaO
theorem Try.tok74:TIOK Try.prog 74 ⟨.struct [(0,3),(1,4)],2,16,.agg [.int .i64 0,.bool false]⟩:=qaO
theorem Try.tok75:TIOK Try.prog 75 ⟨.struct [(0,3),(1,4)],2,16,.agg [.int .i64 0,.bool false]⟩:=qaO
theorem Try.tok81:TIOK Try.prog 81 ⟨.struct [(0,3),(1,3)],2,16,.agg [.int .i64 0,.int .i64 0]⟩:=qaO
theorem Try.tok82:TIOK Try.prog 82 ⟨.struct [(0,3),(1,3)],2,16,.agg [.int .i64 0,.int .i64 0]⟩:=qaO
theorem Try.tok95:TIOK Try.prog 95 ⟨.struct [(0,3),(1,3)],2,16,.agg [.int .i64 0,.int .i64 0]⟩:=qaO
theorem Try.tok98:TIOK Try.prog 98 ⟨.struct [(0,3),(1,61),(2,4),(3,61)],4,64,.agg [.int .i64 0,.nil,.bool false,.nil]⟩:=qaO
theorem Try.tok99:TIOK Try.prog 99 ⟨.struct [(0,3),(1,98)],5,72,.agg [.int .i64 0,.int .i64 0,.nil,.bool false,.nil]⟩:=qaO
theorem Try.tok100:TIOK Try.prog 100 ⟨.struct [(0,3),(1,98)],5,72,.agg [.int .i64 0,.int .i64 0,.nil,.bool false,.nil]⟩:=qaO
theorem Try.tok103:TIOK Try.prog 103 ⟨.struct [(0,3),(1,4)],2,16,.agg [.int .i64 0,.bool false]⟩:=qaO
theorem Try.tok110:TIOK Try.prog 110 ⟨.ptr 135,1,8,.raw (.pointer none)⟩:=qaO
theorem Try.tok117:TIOK Try.prog 117 ⟨.slice 143,1,24,.nil⟩:=qaO
theorem Try.tok118:TIOK Try.prog 118 ⟨.struct [(0,3),(1,61),(2,117),(3,61)],4,80,.agg [.int .i64 0,.nil,.nil,.nil]⟩:=qaO
theorem Try.tok119:TIOK Try.prog 119 ⟨.struct [(0,3),(1,61),(2,117),(3,61)],4,80,.agg [.int .i64 0,.nil,.nil,.nil]⟩:=qaO
theorem Try.tok123:TIOK Try.prog 123 ⟨.int .u64,1,8,.int .u64 0⟩:=qaO
theorem Try.tok126:TIOK Try.prog 126 ⟨.map 130 3,1,8,.raw (.map none)⟩:=qaO
theorem Try.tok128:TIOK Try.prog 128 ⟨.ptr 32,1,8,.raw (.pointer none)⟩:=qaO
theorem Try.tok129:TIOK Try.prog 129 ⟨.struct [(0,3),(1,3)],2,16,.agg [.int .i64 0,.int .i64 0]⟩:=qaO
theorem Try.tok130:TIOK Try.prog 130 ⟨.struct [(0,3),(1,3)],2,16,.agg [.int .i64 0,.int .i64 0]⟩:=qaO
theorem Try.tok134:TIOK Try.prog 134 ⟨.struct [(0,60),(1,3)],2,32,.agg [.nil,.int .i64 0]⟩:=qaO
theorem Try.tok135:TIOK Try.prog 135 ⟨.struct [(0,60),(1,3)],2,32,.agg [.nil,.int .i64 0]⟩:=qaO
theorem Try.tok139:TIOK Try.prog 139 ⟨.array 4 3,4,32,.agg [.int .i64 0,.int .i64 0,.int .i64 0,.int .i64 0]⟩:=qaO
theorem Try.tok142:TIOK Try.prog 142 ⟨.struct [(0,3),(1,3)],2,16,.agg [.int .i64 0,.int .i64 0]⟩:=qaO
theorem Try.tok143:TIOK Try.prog 143 ⟨.struct [(0,3),(1,3)],2,16,.agg [.int .i64 0,.int .i64 0]⟩:=qaO
theorem Try.tok146:TIOK Try.prog 146 ⟨.ptr 119,1,8,.raw (.pointer none)⟩:=qaO
theorem Try.tok148:TIOK Try.prog 148 ⟨.slice 130,1,24,.nil⟩:=qaO
theorem Try.tok150:TIOK Try.prog 150 ⟨.slice 161,1,24,.nil⟩:=qaO
theorem Try.tok153:TIOK Try.prog 153 ⟨.slice 173,1,24,.nil⟩:=qaO
theorem Try.tok157:TIOK Try.prog 157 ⟨.ptr 63,1,8,.raw (.pointer none)⟩:=qaO
theorem Try.tok160:TIOK Try.prog 160 ⟨.struct [(0,3),(1,61),(2,3),(3,4)],4,48,.agg [.int .i64 0,.nil,.int .i64 0,.bool false]⟩:=qaO
theorem Try.tok161:TIOK Try.prog 161 ⟨.struct [(0,3),(1,61),(2,3),(3,4)],4,48,.agg [.int .i64 0,.nil,.int .i64 0,.bool false]⟩:=qaO
theorem Try.tok162:TIOK Try.prog 162 ⟨.slice 165,1,24,.nil⟩:=qaO
theorem Try.tok164:TIOK Try.prog 164 ⟨.struct [(0,3),(1,61),(2,3)],3,40,.agg [.int .i64 0,.nil,.int .i64 0]⟩:=qaO
theorem Try.tok165:TIOK Try.prog 165 ⟨.struct [(0,3),(1,61),(2,3)],3,40,.agg [.int .i64 0,.nil,.int .i64 0]⟩:=qaO
theorem Try.tok168:TIOK Try.prog 168 ⟨.slice 169,1,24,.nil⟩:=qaO
theorem Try.tok169:TIOK Try.prog 169 ⟨.slice 4,1,24,.nil⟩:=qaO
theorem Try.tok171:TIOK Try.prog 171 ⟨.slice 177,1,24,.nil⟩:=qaO
theorem Try.tok172:TIOK Try.prog 172 ⟨.struct [(0,3),(1,3),(2,171)],3,40,.agg [.int .i64 0,.int .i64 0,.nil]⟩:=qaO
theorem Try.tok173:TIOK Try.prog 173 ⟨.struct [(0,3),(1,3),(2,171)],3,40,.agg [.int .i64 0,.int .i64 0,.nil]⟩:=qaO
theorem Try.tok176:TIOK Try.prog 176 ⟨.struct [(0,3),(1,3)],2,16,.agg [.int .i64 0,.int .i64 0]⟩:=qaO
theorem Try.tok177:TIOK Try.prog 177 ⟨.struct [(0,3),(1,3)],2,16,.agg [.int .i64 0,.int .i64 0]⟩:=qaO
theorem Try.tok180:TIOK Try.prog 180 ⟨.slice 61,1,24,.nil⟩:=qaO
theorem Try.tok183:TIOK Try.prog 183 ⟨.slice 180,1,24,.nil⟩:=qaO
theorem Try.tok204:TIOK Try.prog 204 ⟨.int .u32,1,4,.int .u32 0⟩:=qaO
theorem Try.tok205:TIOK Try.prog 205 ⟨.int .u8,1,1,.int .u8 0⟩:=qaO
theorem Try.tok206:TIOK Try.prog 206 ⟨.int .u8,1,1,.int .u8 0⟩:=qaO
theorem Try.tok208:TIOK Try.prog 208 ⟨.ptr 5,1,8,.raw (.pointer none)⟩:=qaO
theorem Try.tok209:TIOK Try.prog 209 ⟨.int .i32,1,4,.int .i32 0⟩:=qaO
theorem Try.tok210:TIOK Try.prog 210 ⟨.int .i32,1,4,.int .i32 0⟩:=qaO
theorem Try.tok211:TIOK Try.prog 211 ⟨.struct [(0,12),(1,12),(2,204),(3,205),(4,5),(5,5),(6,206),(7,207),(8,208),(9,209),(10,210)],11,48,.agg [.int .u64 0,.int .u64 0,.int .u32 0,.int .u8 0,.int .u8 0,.int .u8 0,.int .u8 0,.raw .nilFunc,.raw (.pointer none),.int .i32 0,.int .i32 0]⟩:=qaO
theorem Try.tok212:TIOK Try.prog 212 ⟨.struct [(0,12),(1,12),(2,204),(3,205),(4,5),(5,5),(6,206),(7,207),(8,208),(9,209),(10,210)],11,48,.agg [.int .u64 0,.int .u64 0,.int .u32 0,.int .u8 0,.int .u8 0,.int .u8 0,.int .u8 0,.raw .nilFunc,.raw (.pointer none),.int .i32 0,.int .i32 0]⟩:=qaO
theorem Try.tok:TOK Try.prog Try.tyT:=fun t ti h=>qlA (P:=TIOK Try.prog) (l:=Try.tyL) ⟨Try.tok2,Try.tok3,Try.tok4,Try.tok5,Try.tok6,Try.tok7,Try.tok8,Try.tok12,Try.tok15,Try.tok16,Try.tok17,Try.tok18,Try.tok19,Try.tok21,Try.tok22,Try.tok23,Try.tok24,Try.tok25,Try.tok27,Try.tok29,Try.tok30,Try.tok31,Try.tok32,Try.tok39,Try.tok42,Try.tok47,Try.tok56,Try.tok60,Try.tok61,Try.tok62,Try.tok63,Try.tok64,Try.tok65,Try.tok74,Try.tok75,Try.tok81,Try.tok82,Try.tok95,Try.tok98,Try.tok99,Try.tok100,Try.tok103,Try.tok110,Try.tok117,Try.tok118,Try.tok119,Try.tok123,Try.tok126,Try.tok128,Try.tok129,Try.tok130,Try.tok134,Try.tok135,Try.tok139,Try.tok142,Try.tok143,Try.tok146,Try.tok148,Try.tok150,Try.tok153,Try.tok157,Try.tok160,Try.tok161,Try.tok162,Try.tok164,Try.tok165,Try.tok168,Try.tok169,Try.tok171,Try.tok172,Try.tok173,Try.tok176,Try.tok177,Try.tok180,Try.tok183,Try.tok204,Try.tok205,Try.tok206,Try.tok208,Try.tok209,Try.tok210,Try.tok211,Try.tok212,trivial⟩ h
@[go_sem] theorem Try.ty2:Try.tyT 2=some ⟨.int .i64,1,8,.int .i64 0⟩:=by kernel_rfl
@[go_sem] theorem Try.ty3:Try.tyT 3=some ⟨.int .i64,1,8,.int .i64 0⟩:=by kernel_rfl
@[go_sem] theorem Try.ty4:Try.tyT 4=some ⟨.bool,1,1,.bool false⟩:=by kernel_rfl
@[go_sem] theorem Try.ty5:Try.tyT 5=some ⟨.int .u8,1,1,.int .u8 0⟩:=by kernel_rfl
@[go_sem] theorem Try.ty6:Try.tyT 6=some ⟨.int .u8,1,1,.int .u8 0⟩:=by kernel_rfl
@[go_sem] theorem Try.ty7:Try.tyT 7=some ⟨.struct [(0,2),(1,3),(2,4),(3,6)],4,24,.agg [.int .i64 0,.int .i64 0,.bool false,.int .u8 0]⟩:=by kernel_rfl
@[go_sem] theorem Try.ty8:Try.tyT 8=some ⟨.struct [(0,2),(1,3),(2,4),(3,6)],4,24,.agg [.int .i64 0,.int .i64 0,.bool false,.int .u8 0]⟩:=by kernel_rfl
@[go_sem] theorem Try.ty12:Try.tyT 12=some ⟨.int .u64,1,8,.int .u64 0⟩:=by kernel_rfl
@[go_sem] theorem Try.ty15:Try.tyT 15=some ⟨.ptr 199,1,8,.raw (.pointer none)⟩:=by kernel_rfl
@[go_sem] theorem Try.ty16:Try.tyT 16=some ⟨.ptr 202,1,8,.raw (.pointer none)⟩:=by kernel_rfl
@[go_sem] theorem Try.ty17:Try.tyT 17=some ⟨.ptr 212,1,8,.raw (.pointer none)⟩:=by kernel_rfl
@[go_sem] theorem Try.ty18:Try.tyT 18=some ⟨.struct [(0,17)],1,8,.agg [.raw (.pointer none)]⟩:=by kernel_rfl
@[go_sem] theorem Try.ty19:Try.tyT 19=some ⟨.struct [(0,17)],1,8,.agg [.raw (.pointer none)]⟩:=by kernel_rfl
@[go_sem] theorem Try.ty21:Try.tyT 21=some ⟨.int .i32,1,4,.int .i32 0⟩:=by kernel_rfl
@[go_sem] theorem Try.ty22:Try.tyT 22=some ⟨.slice 98,1,24,.nil⟩:=by kernel_rfl
@[go_sem] theorem Try.ty23:Try.tyT 23=some ⟨.slice 103,1,24,.nil⟩:=by kernel_rfl
@[go_sem] theorem Try.ty24:Try.tyT 24=some ⟨.struct [(0,22),(1,23)],2,48,.agg [.nil,.nil]⟩:=by kernel_rfl
@[go_sem] theorem Try.ty25:Try.tyT 25=some ⟨.struct [(0,22),(1,23)],2,48,.agg [.nil,.nil]⟩:=by kernel_rfl
@[go_sem] theorem Try.ty27:Try.tyT 27=some ⟨.slice 65,1,24,.nil⟩:=by kernel_rfl
@[go_sem] theorem Try.ty29:Try.tyT 29=some ⟨.slice 63,1,24,.nil⟩:=by kernel_rfl
@[go_sem] theorem Try.ty30:Try.tyT 30=some ⟨.slice 75,1,24,.nil⟩:=by kernel_rfl
@[go_sem] theorem Try.ty31:Try.tyT 31=some ⟨.struct [(0,29),(1,30)],2,48,.agg [.nil,.nil]⟩:=by kernel_rfl
@[go_sem] theorem Try.ty32:Try.tyT 32=some ⟨.struct [(0,29),(1,30)],2,48,.agg [.nil,.nil]⟩:=by kernel_rfl
@[go_sem] theorem Try.ty39:Try.tyT 39=some ⟨.slice 95,1,24,.nil⟩:=by kernel_rfl
@[go_sem] theorem Try.ty42:Try.tyT 42=some ⟨.slice 82,1,24,.nil⟩:=by kernel_rfl
@[go_sem] theorem Try.ty47:Try.tyT 47=some ⟨.slice 100,1,24,.nil⟩:=by kernel_rfl
@[go_sem] theorem Try.ty56:Try.tyT 56=some ⟨.slice 32,1,24,.nil⟩:=by kernel_rfl
@[go_sem] theorem Try.ty60:Try.tyT 60=some ⟨.slice 5,1,24,.nil⟩:=by kernel_rfl
@[go_sem] theorem Try.ty61:Try.tyT 61=some ⟨.slice 3,1,24,.nil⟩:=by kernel_rfl
@[go_sem] theorem Try.ty62:Try.tyT 62=some ⟨.struct [(0,3),(1,61),(2,4),(3,61)],4,64,.agg [.int .i64 0,.nil,.bool false,.nil]⟩:=by kernel_rfl
@[go_sem] theorem Try.ty63:Try.tyT 63=some ⟨.struct [(0,3),(1,61),(2,4),(3,61)],4,64,.agg [.int .i64 0,.nil,.bool false,.nil]⟩:=by kernel_rfl
@[go_sem] theorem Try.ty64:Try.tyT 64=some ⟨.struct [(0,3),(1,63)],5,72,.agg [.int .i64 0,.int .i64 0,.nil,.bool false,.nil]⟩:=by kernel_rfl
@[go_sem] theorem Try.ty65:Try.tyT 65=some ⟨.struct [(0,3),(1,63)],5,72,.agg [.int .i64 0,.int .i64 0,.nil,.bool false,.nil]⟩:=by kernel_rfl
@[go_sem] theorem Try.ty74:Try.tyT 74=some ⟨.struct [(0,3),(1,4)],2,16,.agg [.int .i64 0,.bool false]⟩:=by kernel_rfl
@[go_sem] theorem Try.ty75:Try.tyT 75=some ⟨.struct [(0,3),(1,4)],2,16,.agg [.int .i64 0,.bool false]⟩:=by kernel_rfl
@[go_sem] theorem Try.ty81:Try.tyT 81=some ⟨.struct [(0,3),(1,3)],2,16,.agg [.int .i64 0,.int .i64 0]⟩:=by kernel_rfl
@[go_sem] theorem Try.ty82:Try.tyT 82=some ⟨.struct [(0,3),(1,3)],2,16,.agg [.int .i64 0,.int .i64 0]⟩:=by kernel_rfl
@[go_sem] theorem Try.ty95:Try.tyT 95=some ⟨.struct [(0,3),(1,3)],2,16,.agg [.int .i64 0,.int .i64 0]⟩:=by kernel_rfl
@[go_sem] theorem Try.ty98:Try.tyT 98=some ⟨.struct [(0,3),(1,61),(2,4),(3,61)],4,64,.agg [.int .i64 0,.nil,.bool false,.nil]⟩:=by kernel_rfl
@[go_sem] theorem Try.ty99:Try.tyT 99=some ⟨.struct [(0,3),(1,98)],5,72,.agg [.int .i64 0,.int .i64 0,.nil,.bool false,.nil]⟩:=by kernel_rfl
@[go_sem] theorem Try.ty100:Try.tyT 100=some ⟨.struct [(0,3),(1,98)],5,72,.agg [.int .i64 0,.int .i64 0,.nil,.bool false,.nil]⟩:=by kernel_rfl
@[go_sem] theorem Try.ty103:Try.tyT 103=some ⟨.struct [(0,3),(1,4)],2,16,.agg [.int .i64 0,.bool false]⟩:=by kernel_rfl
@[go_sem] theorem Try.ty110:Try.tyT 110=some ⟨.ptr 135,1,8,.raw (.pointer none)⟩:=by kernel_rfl
@[go_sem] theorem Try.ty117:Try.tyT 117=some ⟨.slice 143,1,24,.nil⟩:=by kernel_rfl
@[go_sem] theorem Try.ty118:Try.tyT 118=some ⟨.struct [(0,3),(1,61),(2,117),(3,61)],4,80,.agg [.int .i64 0,.nil,.nil,.nil]⟩:=by kernel_rfl
@[go_sem] theorem Try.ty119:Try.tyT 119=some ⟨.struct [(0,3),(1,61),(2,117),(3,61)],4,80,.agg [.int .i64 0,.nil,.nil,.nil]⟩:=by kernel_rfl
@[go_sem] theorem Try.ty123:Try.tyT 123=some ⟨.int .u64,1,8,.int .u64 0⟩:=by kernel_rfl
@[go_sem] theorem Try.ty126:Try.tyT 126=some ⟨.map 130 3,1,8,.raw (.map none)⟩:=by kernel_rfl
@[go_sem] theorem Try.ty128:Try.tyT 128=some ⟨.ptr 32,1,8,.raw (.pointer none)⟩:=by kernel_rfl
@[go_sem] theorem Try.ty129:Try.tyT 129=some ⟨.struct [(0,3),(1,3)],2,16,.agg [.int .i64 0,.int .i64 0]⟩:=by kernel_rfl
@[go_sem] theorem Try.ty130:Try.tyT 130=some ⟨.struct [(0,3),(1,3)],2,16,.agg [.int .i64 0,.int .i64 0]⟩:=by kernel_rfl
@[go_sem] theorem Try.ty134:Try.tyT 134=some ⟨.struct [(0,60),(1,3)],2,32,.agg [.nil,.int .i64 0]⟩:=by kernel_rfl
@[go_sem] theorem Try.ty135:Try.tyT 135=some ⟨.struct [(0,60),(1,3)],2,32,.agg [.nil,.int .i64 0]⟩:=by kernel_rfl
@[go_sem] theorem Try.ty139:Try.tyT 139=some ⟨.array 4 3,4,32,.agg [.int .i64 0,.int .i64 0,.int .i64 0,.int .i64 0]⟩:=by kernel_rfl
@[go_sem] theorem Try.ty142:Try.tyT 142=some ⟨.struct [(0,3),(1,3)],2,16,.agg [.int .i64 0,.int .i64 0]⟩:=by kernel_rfl
@[go_sem] theorem Try.ty143:Try.tyT 143=some ⟨.struct [(0,3),(1,3)],2,16,.agg [.int .i64 0,.int .i64 0]⟩:=by kernel_rfl
@[go_sem] theorem Try.ty146:Try.tyT 146=some ⟨.ptr 119,1,8,.raw (.pointer none)⟩:=by kernel_rfl
@[go_sem] theorem Try.ty148:Try.tyT 148=some ⟨.slice 130,1,24,.nil⟩:=by kernel_rfl
@[go_sem] theorem Try.ty150:Try.tyT 150=some ⟨.slice 161,1,24,.nil⟩:=by kernel_rfl
@[go_sem] theorem Try.ty153:Try.tyT 153=some ⟨.slice 173,1,24,.nil⟩:=by kernel_rfl
@[go_sem] theorem Try.ty157:Try.tyT 157=some ⟨.ptr 63,1,8,.raw (.pointer none)⟩:=by kernel_rfl
@[go_sem] theorem Try.ty160:Try.tyT 160=some ⟨.struct [(0,3),(1,61),(2,3),(3,4)],4,48,.agg [.int .i64 0,.nil,.int .i64 0,.bool false]⟩:=by kernel_rfl
@[go_sem] theorem Try.ty161:Try.tyT 161=some ⟨.struct [(0,3),(1,61),(2,3),(3,4)],4,48,.agg [.int .i64 0,.nil,.int .i64 0,.bool false]⟩:=by kernel_rfl
@[go_sem] theorem Try.ty162:Try.tyT 162=some ⟨.slice 165,1,24,.nil⟩:=by kernel_rfl
@[go_sem] theorem Try.ty164:Try.tyT 164=some ⟨.struct [(0,3),(1,61),(2,3)],3,40,.agg [.int .i64 0,.nil,.int .i64 0]⟩:=by kernel_rfl
@[go_sem] theorem Try.ty165:Try.tyT 165=some ⟨.struct [(0,3),(1,61),(2,3)],3,40,.agg [.int .i64 0,.nil,.int .i64 0]⟩:=by kernel_rfl
@[go_sem] theorem Try.ty168:Try.tyT 168=some ⟨.slice 169,1,24,.nil⟩:=by kernel_rfl
@[go_sem] theorem Try.ty169:Try.tyT 169=some ⟨.slice 4,1,24,.nil⟩:=by kernel_rfl
@[go_sem] theorem Try.ty171:Try.tyT 171=some ⟨.slice 177,1,24,.nil⟩:=by kernel_rfl
@[go_sem] theorem Try.ty172:Try.tyT 172=some ⟨.struct [(0,3),(1,3),(2,171)],3,40,.agg [.int .i64 0,.int .i64 0,.nil]⟩:=by kernel_rfl
@[go_sem] theorem Try.ty173:Try.tyT 173=some ⟨.struct [(0,3),(1,3),(2,171)],3,40,.agg [.int .i64 0,.int .i64 0,.nil]⟩:=by kernel_rfl
@[go_sem] theorem Try.ty176:Try.tyT 176=some ⟨.struct [(0,3),(1,3)],2,16,.agg [.int .i64 0,.int .i64 0]⟩:=by kernel_rfl
@[go_sem] theorem Try.ty177:Try.tyT 177=some ⟨.struct [(0,3),(1,3)],2,16,.agg [.int .i64 0,.int .i64 0]⟩:=by kernel_rfl
@[go_sem] theorem Try.ty180:Try.tyT 180=some ⟨.slice 61,1,24,.nil⟩:=by kernel_rfl
@[go_sem] theorem Try.ty183:Try.tyT 183=some ⟨.slice 180,1,24,.nil⟩:=by kernel_rfl
@[go_sem] theorem Try.ty204:Try.tyT 204=some ⟨.int .u32,1,4,.int .u32 0⟩:=by kernel_rfl
@[go_sem] theorem Try.ty205:Try.tyT 205=some ⟨.int .u8,1,1,.int .u8 0⟩:=by kernel_rfl
@[go_sem] theorem Try.ty206:Try.tyT 206=some ⟨.int .u8,1,1,.int .u8 0⟩:=by kernel_rfl
@[go_sem] theorem Try.ty208:Try.tyT 208=some ⟨.ptr 5,1,8,.raw (.pointer none)⟩:=by kernel_rfl
@[go_sem] theorem Try.ty209:Try.tyT 209=some ⟨.int .i32,1,4,.int .i32 0⟩:=by kernel_rfl
@[go_sem] theorem Try.ty210:Try.tyT 210=some ⟨.int .i32,1,4,.int .i32 0⟩:=by kernel_rfl
@[go_sem] theorem Try.ty211:Try.tyT 211=some ⟨.struct [(0,12),(1,12),(2,204),(3,205),(4,5),(5,5),(6,206),(7,207),(8,208),(9,209),(10,210)],11,48,.agg [.int .u64 0,.int .u64 0,.int .u32 0,.int .u8 0,.int .u8 0,.int .u8 0,.int .u8 0,.raw .nilFunc,.raw (.pointer none),.int .i32 0,.int .i32 0]⟩:=by kernel_rfl
@[go_sem] theorem Try.ty212:Try.tyT 212=some ⟨.struct [(0,12),(1,12),(2,204),(3,205),(4,5),(5,5),(6,206),(7,207),(8,208),(9,209),(10,210)],11,48,.agg [.int .u64 0,.int .u64 0,.int .u32 0,.int .u8 0,.int .u8 0,.int .u8 0,.int .u8 0,.raw .nilFunc,.raw (.pointer none),.int .i32 0,.int .i32 0]⟩:=by kernel_rfl
def Try.pf:Nat→Kind
 | 21=>.proc
 | 22=>.proc
 | 29=>.proc
 | 38=>.proc
 | 42=>.proc
 | 68=>.proc
 | 69=>.proc
 | 86=>.proc
 | 87=>.proc
 | 88=>.proc
 | 94=>.proc
 | 97=>.proc
 | 99=>.proc
 | 106=>.proc
 | 108=>.proc
 | 130=>.proc
 | 139=>.proc
 | 144=>.proc
 | 16=>.fz
 | 33=>.fz
 | 39=>.fz
 | 44=>.fz
 | 45=>.fz
 | 50=>.fz
 | 52=>.fz
 | 55=>.fz
 | 59=>.fz
 | 120=>.fz
 | 121=>.fz
 | 126=>.fz
 | 133=>.fz
 | 134=>.fz
 | _=>.own
@[go_sem] theorem Try.pf0:Try.pf 0=.own:=rfl
@[go_sem] theorem Try.pf1:Try.pf 1=.own:=rfl
@[go_sem] theorem Try.pf2:Try.pf 2=.own:=rfl
@[go_sem] theorem Try.pf3:Try.pf 3=.own:=rfl
@[go_sem] theorem Try.pf4:Try.pf 4=.own:=rfl
@[go_sem] theorem Try.pf5:Try.pf 5=.own:=rfl
@[go_sem] theorem Try.pf6:Try.pf 6=.own:=rfl
@[go_sem] theorem Try.pf7:Try.pf 7=.own:=rfl
@[go_sem] theorem Try.pf8:Try.pf 8=.own:=rfl
@[go_sem] theorem Try.pf9:Try.pf 9=.own:=rfl
@[go_sem] theorem Try.pf10:Try.pf 10=.own:=rfl
@[go_sem] theorem Try.pf11:Try.pf 11=.own:=rfl
@[go_sem] theorem Try.pf12:Try.pf 12=.own:=rfl
@[go_sem] theorem Try.pf13:Try.pf 13=.own:=rfl
@[go_sem] theorem Try.pf14:Try.pf 14=.own:=rfl
@[go_sem] theorem Try.pf15:Try.pf 15=.own:=rfl
@[go_sem] theorem Try.pf16:Try.pf 16=.fz:=rfl
@[go_sem] theorem Try.pf17:Try.pf 17=.own:=rfl
@[go_sem] theorem Try.pf18:Try.pf 18=.own:=rfl
@[go_sem] theorem Try.pf19:Try.pf 19=.own:=rfl
@[go_sem] theorem Try.pf20:Try.pf 20=.own:=rfl
@[go_sem] theorem Try.pf21:Try.pf 21=.proc:=rfl
@[go_sem] theorem Try.pf22:Try.pf 22=.proc:=rfl
@[go_sem] theorem Try.pf23:Try.pf 23=.own:=rfl
@[go_sem] theorem Try.pf24:Try.pf 24=.own:=rfl
@[go_sem] theorem Try.pf25:Try.pf 25=.own:=rfl
@[go_sem] theorem Try.pf26:Try.pf 26=.own:=rfl
@[go_sem] theorem Try.pf27:Try.pf 27=.own:=rfl
@[go_sem] theorem Try.pf28:Try.pf 28=.own:=rfl
@[go_sem] theorem Try.pf29:Try.pf 29=.proc:=rfl
@[go_sem] theorem Try.pf30:Try.pf 30=.own:=rfl
@[go_sem] theorem Try.pf31:Try.pf 31=.own:=rfl
@[go_sem] theorem Try.pf32:Try.pf 32=.own:=rfl
@[go_sem] theorem Try.pf33:Try.pf 33=.fz:=rfl
@[go_sem] theorem Try.pf34:Try.pf 34=.own:=rfl
@[go_sem] theorem Try.pf35:Try.pf 35=.own:=rfl
@[go_sem] theorem Try.pf36:Try.pf 36=.own:=rfl
@[go_sem] theorem Try.pf37:Try.pf 37=.own:=rfl
@[go_sem] theorem Try.pf38:Try.pf 38=.proc:=rfl
@[go_sem] theorem Try.pf39:Try.pf 39=.fz:=rfl
@[go_sem] theorem Try.pf40:Try.pf 40=.own:=rfl
@[go_sem] theorem Try.pf41:Try.pf 41=.own:=rfl
@[go_sem] theorem Try.pf42:Try.pf 42=.proc:=rfl
@[go_sem] theorem Try.pf43:Try.pf 43=.own:=rfl
@[go_sem] theorem Try.pf44:Try.pf 44=.fz:=rfl
@[go_sem] theorem Try.pf45:Try.pf 45=.fz:=rfl
@[go_sem] theorem Try.pf46:Try.pf 46=.own:=rfl
@[go_sem] theorem Try.pf47:Try.pf 47=.own:=rfl
@[go_sem] theorem Try.pf48:Try.pf 48=.own:=rfl
@[go_sem] theorem Try.pf49:Try.pf 49=.own:=rfl
@[go_sem] theorem Try.pf50:Try.pf 50=.fz:=rfl
@[go_sem] theorem Try.pf51:Try.pf 51=.own:=rfl
@[go_sem] theorem Try.pf52:Try.pf 52=.fz:=rfl
@[go_sem] theorem Try.pf53:Try.pf 53=.own:=rfl
@[go_sem] theorem Try.pf54:Try.pf 54=.own:=rfl
@[go_sem] theorem Try.pf55:Try.pf 55=.fz:=rfl
@[go_sem] theorem Try.pf56:Try.pf 56=.own:=rfl
@[go_sem] theorem Try.pf57:Try.pf 57=.own:=rfl
@[go_sem] theorem Try.pf58:Try.pf 58=.own:=rfl
@[go_sem] theorem Try.pf59:Try.pf 59=.fz:=rfl
@[go_sem] theorem Try.pf60:Try.pf 60=.own:=rfl
@[go_sem] theorem Try.pf61:Try.pf 61=.own:=rfl
@[go_sem] theorem Try.pf62:Try.pf 62=.own:=rfl
@[go_sem] theorem Try.pf63:Try.pf 63=.own:=rfl
@[go_sem] theorem Try.pf64:Try.pf 64=.own:=rfl
@[go_sem] theorem Try.pf65:Try.pf 65=.own:=rfl
@[go_sem] theorem Try.pf66:Try.pf 66=.own:=rfl
@[go_sem] theorem Try.pf67:Try.pf 67=.own:=rfl
@[go_sem] theorem Try.pf68:Try.pf 68=.proc:=rfl
@[go_sem] theorem Try.pf69:Try.pf 69=.proc:=rfl
@[go_sem] theorem Try.pf70:Try.pf 70=.own:=rfl
@[go_sem] theorem Try.pf71:Try.pf 71=.own:=rfl
@[go_sem] theorem Try.pf72:Try.pf 72=.own:=rfl
@[go_sem] theorem Try.pf73:Try.pf 73=.own:=rfl
@[go_sem] theorem Try.pf74:Try.pf 74=.own:=rfl
@[go_sem] theorem Try.pf75:Try.pf 75=.own:=rfl
@[go_sem] theorem Try.pf76:Try.pf 76=.own:=rfl
@[go_sem] theorem Try.pf77:Try.pf 77=.own:=rfl
@[go_sem] theorem Try.pf78:Try.pf 78=.own:=rfl
@[go_sem] theorem Try.pf79:Try.pf 79=.own:=rfl
@[go_sem] theorem Try.pf80:Try.pf 80=.own:=rfl
@[go_sem] theorem Try.pf81:Try.pf 81=.own:=rfl
@[go_sem] theorem Try.pf82:Try.pf 82=.own:=rfl
@[go_sem] theorem Try.pf83:Try.pf 83=.own:=rfl
@[go_sem] theorem Try.pf84:Try.pf 84=.own:=rfl
@[go_sem] theorem Try.pf85:Try.pf 85=.own:=rfl
@[go_sem] theorem Try.pf86:Try.pf 86=.proc:=rfl
@[go_sem] theorem Try.pf87:Try.pf 87=.proc:=rfl
@[go_sem] theorem Try.pf88:Try.pf 88=.proc:=rfl
@[go_sem] theorem Try.pf89:Try.pf 89=.own:=rfl
@[go_sem] theorem Try.pf90:Try.pf 90=.own:=rfl
@[go_sem] theorem Try.pf91:Try.pf 91=.own:=rfl
@[go_sem] theorem Try.pf92:Try.pf 92=.own:=rfl
@[go_sem] theorem Try.pf93:Try.pf 93=.own:=rfl
@[go_sem] theorem Try.pf94:Try.pf 94=.proc:=rfl
@[go_sem] theorem Try.pf95:Try.pf 95=.own:=rfl
@[go_sem] theorem Try.pf96:Try.pf 96=.own:=rfl
@[go_sem] theorem Try.pf97:Try.pf 97=.proc:=rfl
@[go_sem] theorem Try.pf98:Try.pf 98=.own:=rfl
@[go_sem] theorem Try.pf99:Try.pf 99=.proc:=rfl
@[go_sem] theorem Try.pf100:Try.pf 100=.own:=rfl
@[go_sem] theorem Try.pf101:Try.pf 101=.own:=rfl
@[go_sem] theorem Try.pf102:Try.pf 102=.own:=rfl
@[go_sem] theorem Try.pf103:Try.pf 103=.own:=rfl
@[go_sem] theorem Try.pf104:Try.pf 104=.own:=rfl
@[go_sem] theorem Try.pf105:Try.pf 105=.own:=rfl
@[go_sem] theorem Try.pf106:Try.pf 106=.proc:=rfl
@[go_sem] theorem Try.pf107:Try.pf 107=.own:=rfl
@[go_sem] theorem Try.pf108:Try.pf 108=.proc:=rfl
@[go_sem] theorem Try.pf109:Try.pf 109=.own:=rfl
@[go_sem] theorem Try.pf110:Try.pf 110=.own:=rfl
@[go_sem] theorem Try.pf111:Try.pf 111=.own:=rfl
@[go_sem] theorem Try.pf112:Try.pf 112=.own:=rfl
@[go_sem] theorem Try.pf113:Try.pf 113=.own:=rfl
@[go_sem] theorem Try.pf114:Try.pf 114=.own:=rfl
@[go_sem] theorem Try.pf115:Try.pf 115=.own:=rfl
@[go_sem] theorem Try.pf116:Try.pf 116=.own:=rfl
@[go_sem] theorem Try.pf117:Try.pf 117=.own:=rfl
@[go_sem] theorem Try.pf118:Try.pf 118=.own:=rfl
@[go_sem] theorem Try.pf119:Try.pf 119=.own:=rfl
@[go_sem] theorem Try.pf120:Try.pf 120=.fz:=rfl
@[go_sem] theorem Try.pf121:Try.pf 121=.fz:=rfl
@[go_sem] theorem Try.pf122:Try.pf 122=.own:=rfl
@[go_sem] theorem Try.pf123:Try.pf 123=.own:=rfl
@[go_sem] theorem Try.pf124:Try.pf 124=.own:=rfl
@[go_sem] theorem Try.pf125:Try.pf 125=.own:=rfl
@[go_sem] theorem Try.pf126:Try.pf 126=.fz:=rfl
@[go_sem] theorem Try.pf127:Try.pf 127=.own:=rfl
@[go_sem] theorem Try.pf128:Try.pf 128=.own:=rfl
@[go_sem] theorem Try.pf129:Try.pf 129=.own:=rfl
@[go_sem] theorem Try.pf130:Try.pf 130=.proc:=rfl
@[go_sem] theorem Try.pf131:Try.pf 131=.own:=rfl
@[go_sem] theorem Try.pf132:Try.pf 132=.own:=rfl
@[go_sem] theorem Try.pf133:Try.pf 133=.fz:=rfl
@[go_sem] theorem Try.pf134:Try.pf 134=.fz:=rfl
@[go_sem] theorem Try.pf135:Try.pf 135=.own:=rfl
@[go_sem] theorem Try.pf136:Try.pf 136=.own:=rfl
@[go_sem] theorem Try.pf137:Try.pf 137=.own:=rfl
@[go_sem] theorem Try.pf138:Try.pf 138=.own:=rfl
@[go_sem] theorem Try.pf139:Try.pf 139=.proc:=rfl
@[go_sem] theorem Try.pf140:Try.pf 140=.own:=rfl
@[go_sem] theorem Try.pf141:Try.pf 141=.own:=rfl
@[go_sem] theorem Try.pf142:Try.pf 142=.own:=rfl
@[go_sem] theorem Try.pf143:Try.pf 143=.own:=rfl
@[go_sem] theorem Try.pf144:Try.pf 144=.proc:=rfl
@[go_sem] theorem Try.pf145:Try.pf 145=.own:=rfl
@[go_sem] theorem Try.pf146:Try.pf 146=.own:=rfl
@[go_sem] theorem Try.pf147:Try.pf 147=.own:=rfl
@[go_sem] theorem Try.pf148:Try.pf 148=.own:=rfl
@[go_sem] theorem Try.pf149:Try.pf 149=.own:=rfl
@[go_sem] theorem Try.pf150:Try.pf 150=.own:=rfl
@[go_sem] theorem Try.pf151:Try.pf 151=.own:=rfl
@[go_sem] theorem Try.pf152:Try.pf 152=.own:=rfl
@[go_sem] theorem Try.pf153:Try.pf 153=.own:=rfl
@[go_sem] theorem Try.pf154:Try.pf 154=.own:=rfl
@[go_sem] theorem Try.pf155:Try.pf 155=.own:=rfl
@[go_sem] theorem Try.pf156:Try.pf 156=.own:=rfl
@[go_sem] theorem Try.pf157:Try.pf 157=.own:=rfl
@[go_sem] theorem Try.pf158:Try.pf 158=.own:=rfl
@[go_sem] theorem Try.pf159:Try.pf 159=.own:=rfl
@[go_sem] theorem Try.pf160:Try.pf 160=.own:=rfl
@[go_sem] theorem Try.pf161:Try.pf 161=.own:=rfl
@[go_sem] theorem Try.pf162:Try.pf 162=.own:=rfl
noncomputable def Try.env (n:Nat):Env:=⟨Try.prog,Try.tyT,Try.pf,n,.low⟩
@[go_sem] theorem Try.env_deep (n:Nat):(Try.env n).deep=.low:=rfl
noncomputable def Try.envd (n:Nat):Env:=⟨Try.prog,Try.tyT,Try.pf,n,.both⟩
@[go_sem] theorem Try.envd_deep (n:Nat):(Try.envd n).deep=.both:=rfl
@[go_sem] theorem Try.envd_T (n:Nat):(Try.envd n).T=Try.tyT:=rfl
@[go_sem] theorem Try.envd_n (n:Nat):(Try.envd n).n=n:=rfl
@[go_sem] theorem Try.envd_pf (n f:Nat):(Try.envd n).pf f=Try.pf f:=rfl
@[go_sem] theorem Try.envd_P (n:Nat):(Try.envd n).P=Try.prog:=rfl
noncomputable def Try.envf (n:Nat):Env:=⟨Try.prog,Try.tyT,Try.pf,n,.frz⟩
@[go_sem] theorem Try.envf_deep (n:Nat):(Try.envf n).deep=.frz:=rfl
@[go_sem] theorem Try.envf_T (n:Nat):(Try.envf n).T=Try.tyT:=rfl
@[go_sem] theorem Try.envf_n (n:Nat):(Try.envf n).n=n:=rfl
@[go_sem] theorem Try.envf_pf (n f:Nat):(Try.envf n).pf f=Try.pf f:=rfl
@[go_sem] theorem Try.envf_P (n:Nat):(Try.envf n).P=Try.prog:=rfl
@[go_sem] theorem Try.env_T (n:Nat):(Try.env n).T=Try.tyT:=rfl
@[go_sem] theorem Try.env_n (n:Nat):(Try.env n).n=n:=rfl
@[go_sem] theorem Try.env_pf (n f:Nat):(Try.env n).pf f=Try.pf f:=rfl
@[go_sem] theorem Try.env_P (n:Nat):(Try.env n).P=Try.prog:=rfl
@[go_sem] theorem Try.follows:Try.prog.follows .mixedOrders=true:=by kernel_rfl
end Go.Proofs
