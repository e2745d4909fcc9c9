/- The table of the types of a translation, and that it is right. Made by a program. Conditions: none. -/
import Derived.Test.YtoanmdnkgjdinaaProg
import Derived.Test.YtoanmdnkgjdinaaVM8
import Derived.KernelRfl
set_option linter.unusedVariables false
namespace Go.Proofs
open Go.VL
theorem qaV {P:Program}{t:Nat}{ti:TI}(h1:(P.info? t).map (fun i=>(i.size,i.bytes,i.zero))=some (ti.size,ti.bytes,some (qav ti.zero)):=by kernel_rfl) (h2:(P.underlying t).map tyOf=some ti.ty:=by kernel_rfl) (h3:qfM ti.zero=true:=by kernel_rfl) (h4:ti.zero.cells.length=ti.size:=by kernel_rfl) (h5:(match ti.zero with|.agg _=>true|_=>false)=ti.ty.agg:=by kernel_rfl) (h6:qna P t=true:=by kernel_rfl):TIOK P t ti:=tiok_of h1 h2 h3 h4 h5 h6
def qoh (t:Nat):List (Nat×TI)→Option TI
 | []=>none
 | (s,x)::r=>cond (Nat.beq s t) (some x) (qoh t r)
def AllT (P:Nat→TI→Prop):List (Nat×TI)→Prop
 | []=>True
 | (s,x)::r=>P s x∧AllT P r
theorem ql8 {P:Nat→TI→Prop}{t:Nat}{ti:TI} : ∀ {l:List (Nat×TI)},AllT P l→qoh t l=some ti→P t ti
 | [],_,h=>by simp[qoh] at h
 | (s,x)::r,ha,h=>by
  simp only[qoh] at h
  cases e:Nat.beq s t with
  | true=>
   rw[e] at h
   cases h
   rw[Nat.eq_of_beq_eq_true e] at ha
   exact ha.1
  | false=>
   rw[e] at h
   exact ql8 ha.2 h
def Try.tyL:List (Nat×TI):=[
 (2,⟨.int .i64,1,8,.int .i64 0⟩),
 (3,⟨.int .i64,1,8,.int .i64 0⟩),
 (4,⟨.bool,1,1,.bool false⟩),
 (5,⟨.int .u8,1,1,.int .u8 0⟩),
 (9,⟨.string,1,16,.raw (.string .empty)⟩),
 (12,⟨.int .u64,1,8,.int .u64 0⟩),
 (13,⟨.struct [(0,9),(1,12)],2,24,.agg [.raw (.string .empty),.int .u64 0]⟩),
 (21,⟨.int .i32,1,4,.int .i32 0⟩),
 (22,⟨.slice 5,1,24,.nil⟩),
 (23,⟨.slice 3,1,24,.nil⟩),
 (24,⟨.slice 120,1,24,.nil⟩),
 (25,⟨.struct [(0,3),(1,23),(2,24),(3,23)],4,80,.agg [.int .i64 0,.nil,.nil,.nil]⟩),
 (26,⟨.struct [(0,3),(1,23),(2,24),(3,23)],4,80,.agg [.int .i64 0,.nil,.nil,.nil]⟩),
 (29,⟨.slice 41,1,24,.nil⟩),
 (33,⟨.slice 38,1,24,.nil⟩),
 (37,⟨.struct [(0,3),(1,23),(2,3),(3,4)],4,48,.agg [.int .i64 0,.nil,.int .i64 0,.bool false]⟩),
 (38,⟨.struct [(0,3),(1,23),(2,3),(3,4)],4,48,.agg [.int .i64 0,.nil,.int .i64 0,.bool false]⟩),
 (39,⟨.slice 43,1,24,.nil⟩),
 (40,⟨.struct [(0,3),(1,3),(2,39)],3,40,.agg [.int .i64 0,.int .i64 0,.nil]⟩),
 (41,⟨.struct [(0,3),(1,3),(2,39)],3,40,.agg [.int .i64 0,.int .i64 0,.nil]⟩),
 (42,⟨.struct [(0,3),(1,3)],2,16,.agg [.int .i64 0,.int .i64 0]⟩),
 (43,⟨.struct [(0,3),(1,3)],2,16,.agg [.int .i64 0,.int .i64 0]⟩),
 (46,⟨.slice 51,1,24,.nil⟩),
 (50,⟨.struct [(0,3),(1,3)],2,16,.agg [.int .i64 0,.int .i64 0]⟩),
 (51,⟨.struct [(0,3),(1,3)],2,16,.agg [.int .i64 0,.int .i64 0]⟩),
 (55,⟨.slice 132,1,24,.nil⟩),
 (56,⟨.struct [(0,3),(1,23),(2,55),(3,23)],4,80,.agg [.int .i64 0,.nil,.nil,.nil]⟩),
 (57,⟨.struct [(0,3),(1,23),(2,55),(3,23)],4,80,.agg [.int .i64 0,.nil,.nil,.nil]⟩),
 (70,⟨.slice 73,1,24,.nil⟩),
 (72,⟨.struct [(0,3),(1,23),(2,3)],3,40,.agg [.int .i64 0,.nil,.int .i64 0]⟩),
 (73,⟨.struct [(0,3),(1,23),(2,3)],3,40,.agg [.int .i64 0,.nil,.int .i64 0]⟩),
 (75,⟨.ptr 26,1,8,.raw (.pointer none)⟩),
 (76,⟨.ptr 125,1,8,.raw (.pointer none)⟩),
 (82,⟨.ptr 86,1,8,.raw (.pointer none)⟩),
 (83,⟨.array 8 4,8,8,.agg [.bool false,.bool false,.bool false,.bool false,.bool false,.bool false,.bool false,.bool false]⟩),
 (84,⟨.array 25 83,200,200,.agg [.bool false,.bool false,.bool false,.bool false,.bool false,.bool false,.bool false,.bool false,.bool false,.bool false,.bool false,.bool false,.bool false,.bool false,.bool false,.bool false,.bool false,.bool false,.bool false,.bool false,.bool false,.bool false,.bool false,.bool false,.bool false,.bool false,.bool false,.bool false,.bool false,.bool false,.bool false,.bool false,.bool false,.bool false,.bool false,.bool false,.bool false,.bool false,.bool false,.bool false,.bool false,.bool false,.bool false,.bool false,.bool false,.bool false,.bool false,.bool false,.bool false,.bool false,.bool false,.bool false,.bool false,.bool false,.bool false,.bool false,.bool false,.bool false,.bool false,.bool false,.bool false,.bool false,.bool false,.bool false,.bool false,.bool false,.bool false,.bool false,.bool false,.bool false,.bool false,.bool false,.bool false,.bool false,.bool false,.bool false,.bool false,.bool false,.bool false,.bool false,.bool false,.bool false,.bool false,.bool false,.bool false,.bool false,.bool false,.bool false,.bool false,.bool false,.bool false,.bool false,.bool false,.bool false,.bool false,.bool false,.bool false,.bool false,.bool false,.bool false,.bool false,.bool false,.bool false,.bool false,.bool false,.bool false,.bool false,.bool false,.bool false,.bool false,.bool false,.bool false,.bool false,.bool false,.bool false,.bool false,.bool false,.bool false,.bool false,.bool false,.bool false,.bool false,.bool false,.bool false,.bool false,.bool false,.bool false,.bool false,.bool false,.bool false,.bool false,.bool false,.bool false,.bool false,.bool false,.bool false,.bool false,.bool false,.bool false,.bool false,.bool false,.bool false,.bool false,.bool false,.bool false,.bool false,.bool false,.bool false,.bool false,.bool false,.bool false,.bool false,.bool false,.bool false,.bool false,.bool false,.bool false,.bool false,.bool false,.bool false,.bool false,.bool false,.bool false,.bool false,.bool false,.bool false,.bool false,.bool false,.bool false,.bool false,.bool false,.bool false,.bool false,.bool false,.bool false,.bool false,.bool false,.bool false,.bool false,.bool false,.bool false,.bool false,.bool false,.bool false,.bool false,.bool false,.bool false,.bool false,.bool false,.bool false,.bool false,.bool false,.bool false,.bool false,.bool false,.bool false,.bool false,.bool false,.bool false,.bool false]⟩),
 (85,⟨.struct [(0,84)],200,200,.agg [.bool false,.bool false,.bool false,.bool false,.bool false,.bool false,.bool false,.bool false,.bool false,.bool false,.bool false,.bool false,.bool false,.bool false,.bool false,.bool false,.bool false,.bool false,.bool false,.bool false,.bool false,.bool false,.bool false,.bool false,.bool false,.bool false,.bool false,.bool false,.bool false,.bool false,.bool false,.bool false,.bool false,.bool false,.bool false,.bool false,.bool false,.bool false,.bool false,.bool false,.bool false,.bool false,.bool false,.bool false,.bool false,.bool false,.bool false,.bool false,.bool false,.bool false,.bool false,.bool false,.bool false,.bool false,.bool false,.bool false,.bool false,.bool false,.bool false,.bool false,.bool false,.bool false,.bool false,.bool false,.bool false,.bool false,.bool false,.bool false,.bool false,.bool false,.bool false,.bool false,.bool false,.bool false,.bool false,.bool false,.bool false,.bool false,.bool false,.bool false,.bool false,.bool false,.bool false,.bool false,.bool false,.bool false,.bool false,.bool false,.bool false,.bool false,.bool false,.bool false,.bool false,.bool false,.bool false,.bool false,.bool false,.bool false,.bool false,.bool false,.bool false,.bool false,.bool false,.bool false,.bool false,.bool false,.bool false,.bool false,.bool false,.bool false,.bool false,.bool false,.bool false,.bool false,.bool false,.bool false,.bool false,.bool false,.bool false,.bool false,.bool false,.bool false,.bool false,.bool false,.bool false,.bool false,.bool false,.bool false,.bool false,.bool false,.bool false,.bool false,.bool false,.bool false,.bool false,.bool false,.bool false,.bool false,.bool false,.bool false,.bool false,.bool false,.bool false,.bool false,.bool false,.bool false,.bool false,.bool false,.bool false,.bool false,.bool false,.bool false,.bool false,.bool false,.bool false,.bool false,.bool false,.bool false,.bool false,.bool false,.bool false,.bool false,.bool false,.bool false,.bool false,.bool false,.bool false,.bool false,.bool false,.bool false,.bool false,.bool false,.bool false,.bool false,.bool false,.bool false,.bool false,.bool false,.bool false,.bool false,.bool false,.bool false,.bool false,.bool false,.bool false,.bool false,.bool false,.bool false,.bool false,.bool false,.bool false,.bool false,.bool false,.bool false,.bool false,.bool false,.bool false,.bool false,.bool false,.bool false]⟩),
 (86,⟨.struct [(0,84)],200,200,.agg [.bool false,.bool false,.bool false,.bool false,.bool false,.bool false,.bool false,.bool false,.bool false,.bool false,.bool false,.bool false,.bool false,.bool false,.bool false,.bool false,.bool false,.bool false,.bool false,.bool false,.bool false,.bool false,.bool false,.bool false,.bool false,.bool false,.bool false,.bool false,.bool false,.bool false,.bool false,.bool false,.bool false,.bool false,.bool false,.bool false,.bool false,.bool false,.bool false,.bool false,.bool false,.bool false,.bool false,.bool false,.bool false,.bool false,.bool false,.bool false,.bool false,.bool false,.bool false,.bool false,.bool false,.bool false,.bool false,.bool false,.bool false,.bool false,.bool false,.bool false,.bool false,.bool false,.bool false,.bool false,.bool false,.bool false,.bool false,.bool false,.bool false,.bool false,.bool false,.bool false,.bool false,.bool false,.bool false,.bool false,.bool false,.bool false,.bool false,.bool false,.bool false,.bool false,.bool false,.bool false,.bool false,.bool false,.bool false,.bool false,.bool false,.bool false,.bool false,.bool false,.bool false,.bool false,.bool false,.bool false,.bool false,.bool false,.bool false,.bool false,.bool false,.bool false,.bool false,.bool false,.bool false,.bool false,.bool false,.bool false,.bool false,.bool false,.bool false,.bool false,.bool false,.bool false,.bool false,.bool false,.bool false,.bool false,.bool false,.bool false,.bool false,.bool false,.bool false,.bool false,.bool false,.bool false,.bool false,.bool false,.bool false,.bool false,.bool false,.bool false,.bool false,.bool false,.bool false,.bool false,.bool false,.bool false,.bool false,.bool false,.bool false,.bool false,.bool false,.bool false,.bool false,.bool false,.bool false,.bool false,.bool false,.bool false,.bool false,.bool false,.bool false,.bool false,.bool false,.bool false,.bool false,.bool false,.bool false,.bool false,.bool false,.bool false,.bool false,.bool false,.bool false,.bool false,.bool false,.bool false,.bool false,.bool false,.bool false,.bool false,.bool false,.bool false,.bool false,.bool false,.bool false,.bool false,.bool false,.bool false,.bool false,.bool false,.bool false,.bool false,.bool false,.bool false,.bool false,.bool false,.bool false,.bool false,.bool false,.bool false,.bool false,.bool false,.bool false,.bool false,.bool false,.bool false,.bool false,.bool false]⟩),
 (87,⟨.slice 90,1,24,.nil⟩),
 (89,⟨.struct [(0,3),(1,3),(2,3),(3,23),(4,23)],5,72,.agg [.int .i64 0,.int .i64 0,.int .i64 0,.nil,.nil]⟩),
 (90,⟨.struct [(0,3),(1,3),(2,3),(3,23),(4,23)],5,72,.agg [.int .i64 0,.int .i64 0,.int .i64 0,.nil,.nil]⟩),
 (95,⟨.map 101 3,1,8,.raw (.map none)⟩),
 (96,⟨.struct [(0,33),(1,95),(2,23)],3,56,.agg [.nil,.raw (.map none),.nil]⟩),
 (97,⟨.struct [(0,33),(1,95),(2,23)],3,56,.agg [.nil,.raw (.map none),.nil]⟩),
 (101,⟨.array 2 3,2,16,.agg [.int .i64 0,.int .i64 0]⟩),
 (110,⟨.slice 23,1,24,.nil⟩),
 (115,⟨.slice 116,1,24,.nil⟩),
 (116,⟨.slice 4,1,24,.nil⟩),
 (119,⟨.struct [(0,3),(1,3)],2,16,.agg [.int .i64 0,.int .i64 0]⟩),
 (120,⟨.struct [(0,3),(1,3)],2,16,.agg [.int .i64 0,.int .i64 0]⟩),
 (124,⟨.struct [(0,22),(1,3)],2,32,.agg [.nil,.int .i64 0]⟩),
 (125,⟨.struct [(0,22),(1,3)],2,32,.agg [.nil,.int .i64 0]⟩),
 (127,⟨.map 3 4,1,8,.raw (.map none)⟩),
 (132,⟨.struct [(0,3),(1,3)],2,16,.agg [.int .i64 0,.int .i64 0]⟩),
 (134,⟨.slice 110,1,24,.nil⟩),
 (149,⟨.map 3 3,1,8,.raw (.map none)⟩),
 (150,⟨.array 4 3,4,32,.agg [.int .i64 0,.int .i64 0,.int .i64 0,.int .i64 0]⟩),
 (160,⟨.int .u64,1,8,.int .u64 0⟩),
 (163,⟨.int .i64,1,8,.int .i64 0⟩),
 (170,⟨.int .u32,1,4,.int .u32 0⟩),
 (172,⟨.int .u64,1,8,.int .u64 0⟩),
 (173,⟨.int .u64,1,8,.int .u64 0⟩),
 (177,⟨.ptr 3,1,8,.raw (.pointer none)⟩),
 (179,⟨.ptr 173,1,8,.raw (.pointer none)⟩),
 (192,⟨.ptr 5,1,8,.raw (.pointer none)⟩)]
def Try.tyT:Nat→Option TI:=fun t=>qoh t Try.tyL
theorem Try.tok:TOK Try.prog Try.tyT:=fun t ti h=>ql8 (P:=TIOK Try.prog) (l:=Try.tyL) ⟨qaV,qaV,qaV,qaV,qaV,qaV,qaV,qaV,qaV,qaV,qaV,qaV,qaV,qaV,qaV,qaV,qaV,qaV,qaV,qaV,qaV,qaV,qaV,qaV,qaV,qaV,qaV,qaV,qaV,qaV,qaV,qaV,qaV,qaV,qaV,qaV,qaV,qaV,qaV,qaV,qaV,qaV,qaV,qaV,qaV,qaV,qaV,qaV,qaV,qaV,qaV,qaV,qaV,qaV,qaV,qaV,qaV,qaV,qaV,qaV,qaV,qaV,qaV,qaV,qaV,trivial⟩ h
@[go_sem] theorem Try.ty2:Try.tyT 2=some ⟨.int .i64,1,8,.int .i64 0⟩:=by kernel_rfl
@[go_sem] theorem Try.ty3:Try.tyT 3=some ⟨.int .i64,1,8,.int .i64 0⟩:=by kernel_rfl
@[go_sem] theorem Try.ty4:Try.tyT 4=some ⟨.bool,1,1,.bool false⟩:=by kernel_rfl
@[go_sem] theorem Try.ty5:Try.tyT 5=some ⟨.int .u8,1,1,.int .u8 0⟩:=by kernel_rfl
@[go_sem] theorem Try.ty9:Try.tyT 9=some ⟨.string,1,16,.raw (.string .empty)⟩:=by kernel_rfl
@[go_sem] theorem Try.ty12:Try.tyT 12=some ⟨.int .u64,1,8,.int .u64 0⟩:=by kernel_rfl
@[go_sem] theorem Try.ty13:Try.tyT 13=some ⟨.struct [(0,9),(1,12)],2,24,.agg [.raw (.string .empty),.int .u64 0]⟩:=by kernel_rfl
@[go_sem] theorem Try.ty21:Try.tyT 21=some ⟨.int .i32,1,4,.int .i32 0⟩:=by kernel_rfl
@[go_sem] theorem Try.ty22:Try.tyT 22=some ⟨.slice 5,1,24,.nil⟩:=by kernel_rfl
@[go_sem] theorem Try.ty23:Try.tyT 23=some ⟨.slice 3,1,24,.nil⟩:=by kernel_rfl
@[go_sem] theorem Try.ty24:Try.tyT 24=some ⟨.slice 120,1,24,.nil⟩:=by kernel_rfl
@[go_sem] theorem Try.ty25:Try.tyT 25=some ⟨.struct [(0,3),(1,23),(2,24),(3,23)],4,80,.agg [.int .i64 0,.nil,.nil,.nil]⟩:=by kernel_rfl
@[go_sem] theorem Try.ty26:Try.tyT 26=some ⟨.struct [(0,3),(1,23),(2,24),(3,23)],4,80,.agg [.int .i64 0,.nil,.nil,.nil]⟩:=by kernel_rfl
@[go_sem] theorem Try.ty29:Try.tyT 29=some ⟨.slice 41,1,24,.nil⟩:=by kernel_rfl
@[go_sem] theorem Try.ty33:Try.tyT 33=some ⟨.slice 38,1,24,.nil⟩:=by kernel_rfl
@[go_sem] theorem Try.ty37:Try.tyT 37=some ⟨.struct [(0,3),(1,23),(2,3),(3,4)],4,48,.agg [.int .i64 0,.nil,.int .i64 0,.bool false]⟩:=by kernel_rfl
@[go_sem] theorem Try.ty38:Try.tyT 38=some ⟨.struct [(0,3),(1,23),(2,3),(3,4)],4,48,.agg [.int .i64 0,.nil,.int .i64 0,.bool false]⟩:=by kernel_rfl
@[go_sem] theorem Try.ty39:Try.tyT 39=some ⟨.slice 43,1,24,.nil⟩:=by kernel_rfl
@[go_sem] theorem Try.ty40:Try.tyT 40=some ⟨.struct [(0,3),(1,3),(2,39)],3,40,.agg [.int .i64 0,.int .i64 0,.nil]⟩:=by kernel_rfl
@[go_sem] theorem Try.ty41:Try.tyT 41=some ⟨.struct [(0,3),(1,3),(2,39)],3,40,.agg [.int .i64 0,.int .i64 0,.nil]⟩:=by kernel_rfl
@[go_sem] theorem Try.ty42:Try.tyT 42=some ⟨.struct [(0,3),(1,3)],2,16,.agg [.int .i64 0,.int .i64 0]⟩:=by kernel_rfl
@[go_sem] theorem Try.ty43:Try.tyT 43=some ⟨.struct [(0,3),(1,3)],2,16,.agg [.int .i64 0,.int .i64 0]⟩:=by kernel_rfl
@[go_sem] theorem Try.ty46:Try.tyT 46=some ⟨.slice 51,1,24,.nil⟩:=by kernel_rfl
@[go_sem] theorem Try.ty50:Try.tyT 50=some ⟨.struct [(0,3),(1,3)],2,16,.agg [.int .i64 0,.int .i64 0]⟩:=by kernel_rfl
@[go_sem] theorem Try.ty51:Try.tyT 51=some ⟨.struct [(0,3),(1,3)],2,16,.agg [.int .i64 0,.int .i64 0]⟩:=by kernel_rfl
@[go_sem] theorem Try.ty55:Try.tyT 55=some ⟨.slice 132,1,24,.nil⟩:=by kernel_rfl
@[go_sem] theorem Try.ty56:Try.tyT 56=some ⟨.struct [(0,3),(1,23),(2,55),(3,23)],4,80,.agg [.int .i64 0,.nil,.nil,.nil]⟩:=by kernel_rfl
@[go_sem] theorem Try.ty57:Try.tyT 57=some ⟨.struct [(0,3),(1,23),(2,55),(3,23)],4,80,.agg [.int .i64 0,.nil,.nil,.nil]⟩:=by kernel_rfl
@[go_sem] theorem Try.ty70:Try.tyT 70=some ⟨.slice 73,1,24,.nil⟩:=by kernel_rfl
@[go_sem] theorem Try.ty72:Try.tyT 72=some ⟨.struct [(0,3),(1,23),(2,3)],3,40,.agg [.int .i64 0,.nil,.int .i64 0]⟩:=by kernel_rfl
@[go_sem] theorem Try.ty73:Try.tyT 73=some ⟨.struct [(0,3),(1,23),(2,3)],3,40,.agg [.int .i64 0,.nil,.int .i64 0]⟩:=by kernel_rfl
@[go_sem] theorem Try.ty75:Try.tyT 75=some ⟨.ptr 26,1,8,.raw (.pointer none)⟩:=by kernel_rfl
@[go_sem] theorem Try.ty76:Try.tyT 76=some ⟨.ptr 125,1,8,.raw (.pointer none)⟩:=by kernel_rfl
@[go_sem] theorem Try.ty82:Try.tyT 82=some ⟨.ptr 86,1,8,.raw (.pointer none)⟩:=by kernel_rfl
@[go_sem] theorem Try.ty83:Try.tyT 83=some ⟨.array 8 4,8,8,.agg [.bool false,.bool false,.bool false,.bool false,.bool false,.bool false,.bool false,.bool false]⟩:=by kernel_rfl
@[go_sem] theorem Try.ty84:Try.tyT 84=some ⟨.array 25 83,200,200,.agg [.bool false,.bool false,.bool false,.bool false,.bool false,.bool false,.bool false,.bool false,.bool false,.bool false,.bool false,.bool false,.bool false,.bool false,.bool false,.bool false,.bool false,.bool false,.bool false,.bool false,.bool false,.bool false,.bool false,.bool false,.bool false,.bool false,.bool false,.bool false,.bool false,.bool false,.bool false,.bool false,.bool false,.bool false,.bool false,.bool false,.bool false,.bool false,.bool false,.bool false,.bool false,.bool false,.bool false,.bool false,.bool false,.bool false,.bool false,.bool false,.bool false,.bool false,.bool false,.bool false,.bool false,.bool false,.bool false,.bool false,.bool false,.bool false,.bool false,.bool false,.bool false,.bool false,.bool false,.bool false,.bool false,.bool false,.bool false,.bool false,.bool false,.bool false,.bool false,.bool false,.bool false,.bool false,.bool false,.bool false,.bool false,.bool false,.bool false,.bool false,.bool false,.bool false,.bool false,.bool false,.bool false,.bool false,.bool false,.bool false,.bool false,.bool false,.bool false,.bool false,.bool false,.bool false,.bool false,.bool false,.bool false,.bool false,.bool false,.bool false,.bool false,.bool false,.bool false,.bool false,.bool false,.bool false,.bool false,.bool false,.bool false,.bool false,.bool false,.bool false,.bool false,.bool false,.bool false,.bool false,.bool false,.bool false,.bool false,.bool false,.bool false,.bool false,.bool false,.bool false,.bool false,.bool false,.bool false,.bool false,.bool false,.bool false,.bool false,.bool false,.bool false,.bool false,.bool false,.bool false,.bool false,.bool false,.bool false,.bool false,.bool false,.bool false,.bool false,.bool false,.bool false,.bool false,.bool false,.bool false,.bool false,.bool false,.bool false,.bool false,.bool false,.bool false,.bool false,.bool false,.bool false,.bool false,.bool false,.bool false,.bool false,.bool false,.bool false,.bool false,.bool false,.bool false,.bool false,.bool false,.bool false,.bool false,.bool false,.bool false,.bool false,.bool false,.bool false,.bool false,.bool false,.bool false,.bool false,.bool false,.bool false,.bool false,.bool false,.bool false,.bool false,.bool false,.bool false,.bool false,.bool false,.bool false,.bool false,.bool false,.bool false,.bool false,.bool false,.bool false,.bool false,.bool false,.bool false,.bool false]⟩:=by kernel_rfl
@[go_sem] theorem Try.ty85:Try.tyT 85=some ⟨.struct [(0,84)],200,200,.agg [.bool false,.bool false,.bool false,.bool false,.bool false,.bool false,.bool false,.bool false,.bool false,.bool false,.bool false,.bool false,.bool false,.bool false,.bool false,.bool false,.bool false,.bool false,.bool false,.bool false,.bool false,.bool false,.bool false,.bool false,.bool false,.bool false,.bool false,.bool false,.bool false,.bool false,.bool false,.bool false,.bool false,.bool false,.bool false,.bool false,.bool false,.bool false,.bool false,.bool false,.bool false,.bool false,.bool false,.bool false,.bool false,.bool false,.bool false,.bool false,.bool false,.bool false,.bool false,.bool false,.bool false,.bool false,.bool false,.bool false,.bool false,.bool false,.bool false,.bool false,.bool false,.bool false,.bool false,.bool false,.bool false,.bool false,.bool false,.bool false,.bool false,.bool false,.bool false,.bool false,.bool false,.bool false,.bool false,.bool false,.bool false,.bool false,.bool false,.bool false,.bool false,.bool false,.bool false,.bool false,.bool false,.bool false,.bool false,.bool false,.bool false,.bool false,.bool false,.bool false,.bool false,.bool false,.bool false,.bool false,.bool false,.bool false,.bool false,.bool false,.bool false,.bool false,.bool false,.bool false,.bool false,.bool false,.bool false,.bool false,.bool false,.bool false,.bool false,.bool false,.bool false,.bool false,.bool false,.bool false,.bool false,.bool false,.bool false,.bool false,.bool false,.bool false,.bool false,.bool false,.bool false,.bool false,.bool false,.bool false,.bool false,.bool false,.bool false,.bool false,.bool false,.bool false,.bool false,.bool false,.bool false,.bool false,.bool false,.bool false,.bool false,.bool false,.bool false,.bool false,.bool false,.bool false,.bool false,.bool false,.bool false,.bool false,.bool false,.bool false,.bool false,.bool false,.bool false,.bool false,.bool false,.bool false,.bool false,.bool false,.bool false,.bool false,.bool false,.bool false,.bool false,.bool false,.bool false,.bool false,.bool false,.bool false,.bool false,.bool false,.bool false,.bool false,.bool false,.bool false,.bool false,.bool false,.bool false,.bool false,.bool false,.bool false,.bool false,.bool false,.bool false,.bool false,.bool false,.bool false,.bool false,.bool false,.bool false,.bool false,.bool false,.bool false,.bool false,.bool false,.bool false,.bool false,.bool false,.bool false]⟩:=by kernel_rfl
@[go_sem] theorem Try.ty86:Try.tyT 86=some ⟨.struct [(0,84)],200,200,.agg [.bool false,.bool false,.bool false,.bool false,.bool false,.bool false,.bool false,.bool false,.bool false,.bool false,.bool false,.bool false,.bool false,.bool false,.bool false,.bool false,.bool false,.bool false,.bool false,.bool false,.bool false,.bool false,.bool false,.bool false,.bool false,.bool false,.bool false,.bool false,.bool false,.bool false,.bool false,.bool false,.bool false,.bool false,.bool false,.bool false,.bool false,.bool false,.bool false,.bool false,.bool false,.bool false,.bool false,.bool false,.bool false,.bool false,.bool false,.bool false,.bool false,.bool false,.bool false,.bool false,.bool false,.bool false,.bool false,.bool false,.bool false,.bool false,.bool false,.bool false,.bool false,.bool false,.bool false,.bool false,.bool false,.bool false,.bool false,.bool false,.bool false,.bool false,.bool false,.bool false,.bool false,.bool false,.bool false,.bool false,.bool false,.bool false,.bool false,.bool false,.bool false,.bool false,.bool false,.bool false,.bool false,.bool false,.bool false,.bool false,.bool false,.bool false,.bool false,.bool false,.bool false,.bool false,.bool false,.bool false,.bool false,.bool false,.bool false,.bool false,.bool false,.bool false,.bool false,.bool false,.bool false,.bool false,.bool false,.bool false,.bool false,.bool false,.bool false,.bool false,.bool false,.bool false,.bool false,.bool false,.bool false,.bool false,.bool false,.bool false,.bool false,.bool false,.bool false,.bool false,.bool false,.bool false,.bool false,.bool false,.bool false,.bool false,.bool false,.bool false,.bool false,.bool false,.bool false,.bool false,.bool false,.bool false,.bool false,.bool false,.bool false,.bool false,.bool false,.bool false,.bool false,.bool false,.bool false,.bool false,.bool false,.bool false,.bool false,.bool false,.bool false,.bool false,.bool false,.bool false,.bool false,.bool false,.bool false,.bool false,.bool false,.bool false,.bool false,.bool false,.bool false,.bool false,.bool false,.bool false,.bool false,.bool false,.bool false,.bool false,.bool false,.bool false,.bool false,.bool false,.bool false,.bool false,.bool false,.bool false,.bool false,.bool false,.bool false,.bool false,.bool false,.bool false,.bool false,.bool false,.bool false,.bool false,.bool false,.bool false,.bool false,.bool false,.bool false,.bool false,.bool false,.bool false,.bool false,.bool false]⟩:=by kernel_rfl
@[go_sem] theorem Try.ty87:Try.tyT 87=some ⟨.slice 90,1,24,.nil⟩:=by kernel_rfl
@[go_sem] theorem Try.ty89:Try.tyT 89=some ⟨.struct [(0,3),(1,3),(2,3),(3,23),(4,23)],5,72,.agg [.int .i64 0,.int .i64 0,.int .i64 0,.nil,.nil]⟩:=by kernel_rfl
@[go_sem] theorem Try.ty90:Try.tyT 90=some ⟨.struct [(0,3),(1,3),(2,3),(3,23),(4,23)],5,72,.agg [.int .i64 0,.int .i64 0,.int .i64 0,.nil,.nil]⟩:=by kernel_rfl
@[go_sem] theorem Try.ty95:Try.tyT 95=some ⟨.map 101 3,1,8,.raw (.map none)⟩:=by kernel_rfl
@[go_sem] theorem Try.ty96:Try.tyT 96=some ⟨.struct [(0,33),(1,95),(2,23)],3,56,.agg [.nil,.raw (.map none),.nil]⟩:=by kernel_rfl
@[go_sem] theorem Try.ty97:Try.tyT 97=some ⟨.struct [(0,33),(1,95),(2,23)],3,56,.agg [.nil,.raw (.map none),.nil]⟩:=by kernel_rfl
@[go_sem] theorem Try.ty101:Try.tyT 101=some ⟨.array 2 3,2,16,.agg [.int .i64 0,.int .i64 0]⟩:=by kernel_rfl
@[go_sem] theorem Try.ty110:Try.tyT 110=some ⟨.slice 23,1,24,.nil⟩:=by kernel_rfl
@[go_sem] theorem Try.ty115:Try.tyT 115=some ⟨.slice 116,1,24,.nil⟩:=by kernel_rfl
@[go_sem] theorem Try.ty116:Try.tyT 116=some ⟨.slice 4,1,24,.nil⟩:=by kernel_rfl
@[go_sem] theorem Try.ty119:Try.tyT 119=some ⟨.struct [(0,3),(1,3)],2,16,.agg [.int .i64 0,.int .i64 0]⟩:=by kernel_rfl
@[go_sem] theorem Try.ty120:Try.tyT 120=some ⟨.struct [(0,3),(1,3)],2,16,.agg [.int .i64 0,.int .i64 0]⟩:=by kernel_rfl
@[go_sem] theorem Try.ty124:Try.tyT 124=some ⟨.struct [(0,22),(1,3)],2,32,.agg [.nil,.int .i64 0]⟩:=by kernel_rfl
@[go_sem] theorem Try.ty125:Try.tyT 125=some ⟨.struct [(0,22),(1,3)],2,32,.agg [.nil,.int .i64 0]⟩:=by kernel_rfl
@[go_sem] theorem Try.ty127:Try.tyT 127=some ⟨.map 3 4,1,8,.raw (.map none)⟩:=by kernel_rfl
@[go_sem] theorem Try.ty132:Try.tyT 132=some ⟨.struct [(0,3),(1,3)],2,16,.agg [.int .i64 0,.int .i64 0]⟩:=by kernel_rfl
@[go_sem] theorem Try.ty134:Try.tyT 134=some ⟨.slice 110,1,24,.nil⟩:=by kernel_rfl
@[go_sem] theorem Try.ty149:Try.tyT 149=some ⟨.map 3 3,1,8,.raw (.map none)⟩:=by kernel_rfl
@[go_sem] theorem Try.ty150:Try.tyT 150=some ⟨.array 4 3,4,32,.agg [.int .i64 0,.int .i64 0,.int .i64 0,.int .i64 0]⟩:=by kernel_rfl
@[go_sem] theorem Try.ty160:Try.tyT 160=some ⟨.int .u64,1,8,.int .u64 0⟩:=by kernel_rfl
@[go_sem] theorem Try.ty163:Try.tyT 163=some ⟨.int .i64,1,8,.int .i64 0⟩:=by kernel_rfl
@[go_sem] theorem Try.ty170:Try.tyT 170=some ⟨.int .u32,1,4,.int .u32 0⟩:=by kernel_rfl
@[go_sem] theorem Try.ty172:Try.tyT 172=some ⟨.int .u64,1,8,.int .u64 0⟩:=by kernel_rfl
@[go_sem] theorem Try.ty173:Try.tyT 173=some ⟨.int .u64,1,8,.int .u64 0⟩:=by kernel_rfl
@[go_sem] theorem Try.ty177:Try.tyT 177=some ⟨.ptr 3,1,8,.raw (.pointer none)⟩:=by kernel_rfl
@[go_sem] theorem Try.ty179:Try.tyT 179=some ⟨.ptr 173,1,8,.raw (.pointer none)⟩:=by kernel_rfl
@[go_sem] theorem Try.ty192:Try.tyT 192=some ⟨.ptr 5,1,8,.raw (.pointer none)⟩:=by kernel_rfl
def Try.pf:Nat→Kind
 | 42=>.proc
 | 43=>.proc
 | 44=>.proc
 | 45=>.proc
 | 48=>.proc
 | 49=>.proc
 | 52=>.proc
 | 53=>.proc
 | 62=>.proc
 | 64=>.proc
 | 71=>.proc
 | 77=>.proc
 | 78=>.proc
 | 82=>.proc
 | 88=>.proc
 | 92=>.proc
 | 94=>.proc
 | 95=>.proc
 | 96=>.proc
 | 103=>.proc
 | 104=>.proc
 | 105=>.proc
 | 110=>.proc
 | 111=>.proc
 | 114=>.proc
 | 11=>.fz
 | 13=>.fz
 | 15=>.fz
 | 19=>.fz
 | 21=>.fz
 | 22=>.fz
 | 32=>.fz
 | 35=>.fz
 | 37=>.fz
 | 40=>.fz
 | 51=>.fz
 | 72=>.fz
 | 85=>.fz
 | 89=>.fz
 | 90=>.fz
 | _=>.own
@[go_sem] theorem Try.pf3:Try.pf 3=.own:=rfl
@[go_sem] theorem Try.pf6:Try.pf 6=.own:=rfl
@[go_sem] theorem Try.pf7:Try.pf 7=.own:=rfl
@[go_sem] theorem Try.pf8:Try.pf 8=.own:=rfl
@[go_sem] theorem Try.pf9:Try.pf 9=.own:=rfl
@[go_sem] theorem Try.pf10:Try.pf 10=.own:=rfl
@[go_sem] theorem Try.pf11:Try.pf 11=.fz:=rfl
@[go_sem] theorem Try.pf12:Try.pf 12=.own:=rfl
@[go_sem] theorem Try.pf13:Try.pf 13=.fz:=rfl
@[go_sem] theorem Try.pf14:Try.pf 14=.own:=rfl
@[go_sem] theorem Try.pf15:Try.pf 15=.fz:=rfl
@[go_sem] theorem Try.pf16:Try.pf 16=.own:=rfl
@[go_sem] theorem Try.pf17:Try.pf 17=.own:=rfl
@[go_sem] theorem Try.pf20:Try.pf 20=.own:=rfl
@[go_sem] theorem Try.pf22:Try.pf 22=.fz:=rfl
@[go_sem] theorem Try.pf23:Try.pf 23=.own:=rfl
@[go_sem] theorem Try.pf24:Try.pf 24=.own:=rfl
@[go_sem] theorem Try.pf25:Try.pf 25=.own:=rfl
@[go_sem] theorem Try.pf26:Try.pf 26=.own:=rfl
@[go_sem] theorem Try.pf27:Try.pf 27=.own:=rfl
@[go_sem] theorem Try.pf28:Try.pf 28=.own:=rfl
@[go_sem] theorem Try.pf29:Try.pf 29=.own:=rfl
@[go_sem] theorem Try.pf30:Try.pf 30=.own:=rfl
@[go_sem] theorem Try.pf31:Try.pf 31=.own:=rfl
@[go_sem] theorem Try.pf32:Try.pf 32=.fz:=rfl
@[go_sem] theorem Try.pf33:Try.pf 33=.own:=rfl
@[go_sem] theorem Try.pf34:Try.pf 34=.own:=rfl
@[go_sem] theorem Try.pf35:Try.pf 35=.fz:=rfl
@[go_sem] theorem Try.pf36:Try.pf 36=.own:=rfl
@[go_sem] theorem Try.pf37:Try.pf 37=.fz:=rfl
@[go_sem] theorem Try.pf38:Try.pf 38=.own:=rfl
@[go_sem] theorem Try.pf39:Try.pf 39=.own:=rfl
@[go_sem] theorem Try.pf40:Try.pf 40=.fz:=rfl
@[go_sem] theorem Try.pf41:Try.pf 41=.own:=rfl
@[go_sem] theorem Try.pf42:Try.pf 42=.proc:=rfl
@[go_sem] theorem Try.pf43:Try.pf 43=.proc:=rfl
@[go_sem] theorem Try.pf44:Try.pf 44=.proc:=rfl
@[go_sem] theorem Try.pf46:Try.pf 46=.own:=rfl
@[go_sem] theorem Try.pf47:Try.pf 47=.own:=rfl
@[go_sem] theorem Try.pf48:Try.pf 48=.proc:=rfl
@[go_sem] theorem Try.pf49:Try.pf 49=.proc:=rfl
@[go_sem] theorem Try.pf52:Try.pf 52=.proc:=rfl
@[go_sem] theorem Try.pf53:Try.pf 53=.proc:=rfl
@[go_sem] theorem Try.pf54:Try.pf 54=.own:=rfl
@[go_sem] theorem Try.pf55:Try.pf 55=.own:=rfl
@[go_sem] theorem Try.pf56:Try.pf 56=.own:=rfl
@[go_sem] theorem Try.pf57:Try.pf 57=.own:=rfl
@[go_sem] theorem Try.pf58:Try.pf 58=.own:=rfl
@[go_sem] theorem Try.pf59:Try.pf 59=.own:=rfl
@[go_sem] theorem Try.pf60:Try.pf 60=.own:=rfl
@[go_sem] theorem Try.pf61:Try.pf 61=.own:=rfl
@[go_sem] theorem Try.pf62:Try.pf 62=.proc:=rfl
@[go_sem] theorem Try.pf63:Try.pf 63=.own:=rfl
@[go_sem] theorem Try.pf64:Try.pf 64=.proc:=rfl
@[go_sem] theorem Try.pf65:Try.pf 65=.own:=rfl
@[go_sem] theorem Try.pf66:Try.pf 66=.own:=rfl
@[go_sem] theorem Try.pf67:Try.pf 67=.own:=rfl
@[go_sem] theorem Try.pf68:Try.pf 68=.own:=rfl
@[go_sem] theorem Try.pf69:Try.pf 69=.own:=rfl
@[go_sem] theorem Try.pf70:Try.pf 70=.own:=rfl
@[go_sem] theorem Try.pf71:Try.pf 71=.proc:=rfl
@[go_sem] theorem Try.pf72:Try.pf 72=.fz:=rfl
@[go_sem] theorem Try.pf73:Try.pf 73=.own:=rfl
@[go_sem] theorem Try.pf74:Try.pf 74=.own:=rfl
@[go_sem] theorem Try.pf75:Try.pf 75=.own:=rfl
@[go_sem] theorem Try.pf76:Try.pf 76=.own:=rfl
@[go_sem] theorem Try.pf77:Try.pf 77=.proc:=rfl
@[go_sem] theorem Try.pf78:Try.pf 78=.proc:=rfl
@[go_sem] theorem Try.pf79:Try.pf 79=.own:=rfl
@[go_sem] theorem Try.pf80:Try.pf 80=.own:=rfl
@[go_sem] theorem Try.pf81:Try.pf 81=.own:=rfl
@[go_sem] theorem Try.pf82:Try.pf 82=.proc:=rfl
@[go_sem] theorem Try.pf83:Try.pf 83=.own:=rfl
@[go_sem] theorem Try.pf84:Try.pf 84=.own:=rfl
@[go_sem] theorem Try.pf85:Try.pf 85=.fz:=rfl
@[go_sem] theorem Try.pf86:Try.pf 86=.own:=rfl
@[go_sem] theorem Try.pf87:Try.pf 87=.own:=rfl
@[go_sem] theorem Try.pf88:Try.pf 88=.proc:=rfl
@[go_sem] theorem Try.pf89:Try.pf 89=.fz:=rfl
@[go_sem] theorem Try.pf90:Try.pf 90=.fz:=rfl
@[go_sem] theorem Try.pf91:Try.pf 91=.own:=rfl
@[go_sem] theorem Try.pf92:Try.pf 92=.proc:=rfl
@[go_sem] theorem Try.pf93:Try.pf 93=.own:=rfl
@[go_sem] theorem Try.pf94:Try.pf 94=.proc:=rfl
@[go_sem] theorem Try.pf95:Try.pf 95=.proc:=rfl
@[go_sem] theorem Try.pf96:Try.pf 96=.proc:=rfl
@[go_sem] theorem Try.pf97:Try.pf 97=.own:=rfl
@[go_sem] theorem Try.pf98:Try.pf 98=.own:=rfl
@[go_sem] theorem Try.pf99:Try.pf 99=.own:=rfl
@[go_sem] theorem Try.pf100:Try.pf 100=.own:=rfl
@[go_sem] theorem Try.pf101:Try.pf 101=.own:=rfl
@[go_sem] theorem Try.pf102:Try.pf 102=.own:=rfl
@[go_sem] theorem Try.pf103:Try.pf 103=.proc:=rfl
@[go_sem] theorem Try.pf104:Try.pf 104=.proc:=rfl
@[go_sem] theorem Try.pf105:Try.pf 105=.proc:=rfl
@[go_sem] theorem Try.pf106:Try.pf 106=.own:=rfl
@[go_sem] theorem Try.pf107:Try.pf 107=.own:=rfl
@[go_sem] theorem Try.pf108:Try.pf 108=.own:=rfl
@[go_sem] theorem Try.pf109:Try.pf 109=.own:=rfl
@[go_sem] theorem Try.pf110:Try.pf 110=.proc:=rfl
@[go_sem] theorem Try.pf111:Try.pf 111=.proc:=rfl
@[go_sem] theorem Try.pf112:Try.pf 112=.own:=rfl
@[go_sem] theorem Try.pf113:Try.pf 113=.own:=rfl
@[go_sem] theorem Try.pf114:Try.pf 114=.proc:=rfl
@[go_sem] theorem Try.pf120:Try.pf 120=.own:=rfl
@[go_sem] theorem Try.pf124:Try.pf 124=.own:=rfl
@[go_sem] theorem Try.pf130:Try.pf 130=.own:=rfl
noncomputable def Try.env (n:Nat):Env:=⟨Try.prog,Try.tyT,Try.pf,n,.low⟩
@[go_sem] theorem Try.env_deep (n:Nat):(Try.env n).deep=.low:=rfl
noncomputable def Try.envd (n:Nat):Env:=⟨Try.prog,Try.tyT,Try.pf,n,.both⟩
@[go_sem] theorem Try.envd_deep (n:Nat):(Try.envd n).deep=.both:=rfl
@[go_sem] theorem Try.envd_T (n:Nat):(Try.envd n).T=Try.tyT:=rfl
@[go_sem] theorem Try.envd_n (n:Nat):(Try.envd n).n=n:=rfl
@[go_sem] theorem Try.envd_pf (n f:Nat):(Try.envd n).pf f=Try.pf f:=rfl
@[go_sem] theorem Try.envd_P (n:Nat):(Try.envd n).P=Try.prog:=rfl
noncomputable def Try.envf (n:Nat):Env:=⟨Try.prog,Try.tyT,Try.pf,n,.frz⟩
@[go_sem] theorem Try.envf_deep (n:Nat):(Try.envf n).deep=.frz:=rfl
@[go_sem] theorem Try.envf_T (n:Nat):(Try.envf n).T=Try.tyT:=rfl
@[go_sem] theorem Try.envf_n (n:Nat):(Try.envf n).n=n:=rfl
@[go_sem] theorem Try.envf_pf (n f:Nat):(Try.envf n).pf f=Try.pf f:=rfl
@[go_sem] theorem Try.envf_P (n:Nat):(Try.envf n).P=Try.prog:=rfl
@[go_sem] theorem Try.env_T (n:Nat):(Try.env n).T=Try.tyT:=rfl
@[go_sem] theorem Try.env_n (n:Nat):(Try.env n).n=n:=rfl
@[go_sem] theorem Try.env_pf (n f:Nat):(Try.env n).pf f=Try.pf f:=rfl
@[go_sem] theorem Try.env_P (n:Nat):(Try.env n).P=Try.prog:=rfl
@[go_sem] theorem Try.follows:Try.prog.follows .mixedOrders=true:=by kernel_rfl
end Go.Proofs
