/- The table of the types of a translation, and that it is right. Made by a program. Conditions: none. -/
import Derived.Test.YtoanmdnkgjdinaaGreatProg
import Derived.Test.YtoanmdnkgjdinaaGreatVM8
import Derived.KernelRfl
set_option linter.unusedVariables false
namespace Go.Proofs
open Go.VL
theorem qaQ {P:Program}{t:Nat}{ti:TI}(h1:(P.info? t).map (fun i=>(i.size,i.bytes,i.zero))=some (ti.size,ti.bytes,some (qau ti.zero)):=by kernel_rfl) (h2:(P.underlying t).map tyOf=some ti.ty:=by kernel_rfl) (h3:qfz ti.zero=true:=by kernel_rfl) (h4:ti.zero.cells.length=ti.size:=by kernel_rfl) (h5:(match ti.zero with|.agg _=>true|_=>false)=ti.ty.agg:=by kernel_rfl) (h6:qmE P t=true:=by kernel_rfl):TIOK P t ti:=tiok_of h1 h2 h3 h4 h5 h6
def qnI (t:Nat):List (Nat×TI)→Option TI
 | []=>none
 | (s,x)::r=>cond (Nat.beq s t) (some x) (qnI t r)
def AllT (P:Nat→TI→Prop):List (Nat×TI)→Prop
 | []=>True
 | (s,x)::r=>P s x∧AllT P r
theorem qlD {P:Nat→TI→Prop}{t:Nat}{ti:TI} : ∀ {l:List (Nat×TI)},AllT P l→qnI t l=some ti→P t ti
 | [],_,h=>by simp[qnI] at h
 | (s,x)::r,ha,h=>by
  simp only[qnI] at h
  cases e:Nat.beq s t with
  | true=>
   rw[e] at h
   cases h
   rw[Nat.eq_of_beq_eq_true e] at ha
   exact ha.1
  | false=>
   rw[e] at h
   exact qlD ha.2 h
def Tryz.tyL:List (Nat×TI):=[
 (2,⟨.int .i64,1,8,.int .i64 0⟩),
 (3,⟨.int .i64,1,8,.int .i64 0⟩),
 (4,⟨.bool,1,1,.bool false⟩),
 (5,⟨.int .u8,1,1,.int .u8 0⟩),
 (9,⟨.string,1,16,.raw (.string .empty)⟩),
 (12,⟨.int .u64,1,8,.int .u64 0⟩),
 (13,⟨.struct [(0,9),(1,12)],2,24,.agg [.raw (.string .empty),.int .u64 0]⟩),
 (21,⟨.int .i32,1,4,.int .i32 0⟩),
 (22,⟨.slice 3,1,24,.nil⟩),
 (23,⟨.slice 113,1,24,.nil⟩),
 (24,⟨.struct [(0,3),(1,22),(2,23),(3,22)],4,80,.agg [.int .i64 0,.nil,.nil,.nil]⟩),
 (25,⟨.struct [(0,3),(1,22),(2,23),(3,22)],4,80,.agg [.int .i64 0,.nil,.nil,.nil]⟩),
 (28,⟨.slice 111,1,24,.nil⟩),
 (29,⟨.struct [(0,3),(1,22),(2,28),(3,22)],4,80,.agg [.int .i64 0,.nil,.nil,.nil]⟩),
 (30,⟨.struct [(0,3),(1,22),(2,28),(3,22)],4,80,.agg [.int .i64 0,.nil,.nil,.nil]⟩),
 (38,⟨.slice 49,1,24,.nil⟩),
 (43,⟨.slice 5,1,24,.nil⟩),
 (47,⟨.slice 115,1,24,.nil⟩),
 (48,⟨.struct [(0,3),(1,3),(2,47)],3,40,.agg [.int .i64 0,.int .i64 0,.nil]⟩),
 (49,⟨.struct [(0,3),(1,3),(2,47)],3,40,.agg [.int .i64 0,.int .i64 0,.nil]⟩),
 (50,⟨.slice 53,1,24,.nil⟩),
 (52,⟨.struct [(0,3),(1,22),(2,3),(3,4)],4,48,.agg [.int .i64 0,.nil,.int .i64 0,.bool false]⟩),
 (53,⟨.struct [(0,3),(1,22),(2,3),(3,4)],4,48,.agg [.int .i64 0,.nil,.int .i64 0,.bool false]⟩),
 (58,⟨.slice 96,1,24,.nil⟩),
 (61,⟨.slice 94,1,24,.nil⟩),
 (69,⟨.map 116 3,1,8,.raw (.map none)⟩),
 (70,⟨.struct [(0,50),(1,69),(2,22)],3,56,.agg [.nil,.raw (.map none),.nil]⟩),
 (71,⟨.struct [(0,50),(1,69),(2,22)],3,56,.agg [.nil,.raw (.map none),.nil]⟩),
 (74,⟨.ptr 30,1,8,.raw (.pointer none)⟩),
 (82,⟨.slice 85,1,24,.nil⟩),
 (84,⟨.struct [(0,3),(1,22),(2,3)],3,40,.agg [.int .i64 0,.nil,.int .i64 0]⟩),
 (85,⟨.struct [(0,3),(1,22),(2,3)],3,40,.agg [.int .i64 0,.nil,.int .i64 0]⟩),
 (86,⟨.slice 22,1,24,.nil⟩),
 (93,⟨.struct [(0,3),(1,3)],2,16,.agg [.int .i64 0,.int .i64 0]⟩),
 (94,⟨.struct [(0,3),(1,3)],2,16,.agg [.int .i64 0,.int .i64 0]⟩),
 (96,⟨.struct [(0,3),(1,3)],2,16,.agg [.int .i64 0,.int .i64 0]⟩),
 (97,⟨.ptr 101,1,8,.raw (.pointer none)⟩),
 (98,⟨.array 8 4,8,8,.agg [.bool false,.bool false,.bool false,.bool false,.bool false,.bool false,.bool false,.bool false]⟩),
 (99,⟨.array 25 98,200,200,.agg [.bool false,.bool false,.bool false,.bool false,.bool false,.bool false,.bool false,.bool false,.bool false,.bool false,.bool false,.bool false,.bool false,.bool false,.bool false,.bool false,.bool false,.bool false,.bool false,.bool false,.bool false,.bool false,.bool false,.bool false,.bool false,.bool false,.bool false,.bool false,.bool false,.bool false,.bool false,.bool false,.bool false,.bool false,.bool false,.bool false,.bool false,.bool false,.bool false,.bool false,.bool false,.bool false,.bool false,.bool false,.bool false,.bool false,.bool false,.bool false,.bool false,.bool false,.bool false,.bool false,.bool false,.bool false,.bool false,.bool false,.bool false,.bool false,.bool false,.bool false,.bool false,.bool false,.bool false,.bool false,.bool false,.bool false,.bool false,.bool false,.bool false,.bool false,.bool false,.bool false,.bool false,.bool false,.bool false,.bool false,.bool false,.bool false,.bool false,.bool false,.bool false,.bool false,.bool false,.bool false,.bool false,.bool false,.bool false,.bool false,.bool false,.bool false,.bool false,.bool false,.bool false,.bool false,.bool false,.bool false,.bool false,.bool false,.bool false,.bool false,.bool false,.bool false,.bool false,.bool false,.bool false,.bool false,.bool false,.bool false,.bool false,.bool false,.bool false,.bool false,.bool false,.bool false,.bool false,.bool false,.bool false,.bool false,.bool false,.bool false,.bool false,.bool false,.bool false,.bool false,.bool false,.bool false,.bool false,.bool false,.bool false,.bool false,.bool false,.bool false,.bool false,.bool false,.bool false,.bool false,.bool false,.bool false,.bool false,.bool false,.bool false,.bool false,.bool false,.bool false,.bool false,.bool false,.bool false,.bool false,.bool false,.bool false,.bool false,.bool false,.bool false,.bool false,.bool false,.bool false,.bool false,.bool false,.bool false,.bool false,.bool false,.bool false,.bool false,.bool false,.bool false,.bool false,.bool false,.bool false,.bool false,.bool false,.bool false,.bool false,.bool false,.bool false,.bool false,.bool false,.bool false,.bool false,.bool false,.bool false,.bool false,.bool false,.bool false,.bool false,.bool false,.bool false,.bool false,.bool false,.bool false,.bool false,.bool false,.bool false,.bool false,.bool false,.bool false,.bool false,.bool false,.bool false,.bool false,.bool false]⟩),
 (100,⟨.struct [(0,99)],200,200,.agg [.bool false,.bool false,.bool false,.bool false,.bool false,.bool false,.bool false,.bool false,.bool false,.bool false,.bool false,.bool false,.bool false,.bool false,.bool false,.bool false,.bool false,.bool false,.bool false,.bool false,.bool false,.bool false,.bool false,.bool false,.bool false,.bool false,.bool false,.bool false,.bool false,.bool false,.bool false,.bool false,.bool false,.bool false,.bool false,.bool false,.bool false,.bool false,.bool false,.bool false,.bool false,.bool false,.bool false,.bool false,.bool false,.bool false,.bool false,.bool false,.bool false,.bool false,.bool false,.bool false,.bool false,.bool false,.bool false,.bool false,.bool false,.bool false,.bool false,.bool false,.bool false,.bool false,.bool false,.bool false,.bool false,.bool false,.bool false,.bool false,.bool false,.bool false,.bool false,.bool false,.bool false,.bool false,.bool false,.bool false,.bool false,.bool false,.bool false,.bool false,.bool false,.bool false,.bool false,.bool false,.bool false,.bool false,.bool false,.bool false,.bool false,.bool false,.bool false,.bool false,.bool false,.bool false,.bool false,.bool false,.bool false,.bool false,.bool false,.bool false,.bool false,.bool false,.bool false,.bool false,.bool false,.bool false,.bool false,.bool false,.bool false,.bool false,.bool false,.bool false,.bool false,.bool false,.bool false,.bool false,.bool false,.bool false,.bool false,.bool false,.bool false,.bool false,.bool false,.bool false,.bool false,.bool false,.bool false,.bool false,.bool false,.bool false,.bool false,.bool false,.bool false,.bool false,.bool false,.bool false,.bool false,.bool false,.bool false,.bool false,.bool false,.bool false,.bool false,.bool false,.bool false,.bool false,.bool false,.bool false,.bool false,.bool false,.bool false,.bool false,.bool false,.bool false,.bool false,.bool false,.bool false,.bool false,.bool false,.bool false,.bool false,.bool false,.bool false,.bool false,.bool false,.bool false,.bool false,.bool false,.bool false,.bool false,.bool false,.bool false,.bool false,.bool false,.bool false,.bool false,.bool false,.bool false,.bool false,.bool false,.bool false,.bool false,.bool false,.bool false,.bool false,.bool false,.bool false,.bool false,.bool false,.bool false,.bool false,.bool false,.bool false,.bool false,.bool false,.bool false,.bool false,.bool false,.bool false,.bool false]⟩),
 (101,⟨.struct [(0,99)],200,200,.agg [.bool false,.bool false,.bool false,.bool false,.bool false,.bool false,.bool false,.bool false,.bool false,.bool false,.bool false,.bool false,.bool false,.bool false,.bool false,.bool false,.bool false,.bool false,.bool false,.bool false,.bool false,.bool false,.bool false,.bool false,.bool false,.bool false,.bool false,.bool false,.bool false,.bool false,.bool false,.bool false,.bool false,.bool false,.bool false,.bool false,.bool false,.bool false,.bool false,.bool false,.bool false,.bool false,.bool false,.bool false,.bool false,.bool false,.bool false,.bool false,.bool false,.bool false,.bool false,.bool false,.bool false,.bool false,.bool false,.bool false,.bool false,.bool false,.bool false,.bool false,.bool false,.bool false,.bool false,.bool false,.bool false,.bool false,.bool false,.bool false,.bool false,.bool false,.bool false,.bool false,.bool false,.bool false,.bool false,.bool false,.bool false,.bool false,.bool false,.bool false,.bool false,.bool false,.bool false,.bool false,.bool false,.bool false,.bool false,.bool false,.bool false,.bool false,.bool false,.bool false,.bool false,.bool false,.bool false,.bool false,.bool false,.bool false,.bool false,.bool false,.bool false,.bool false,.bool false,.bool false,.bool false,.bool false,.bool false,.bool false,.bool false,.bool false,.bool false,.bool false,.bool false,.bool false,.bool false,.bool false,.bool false,.bool false,.bool false,.bool false,.bool false,.bool false,.bool false,.bool false,.bool false,.bool false,.bool false,.bool false,.bool false,.bool false,.bool false,.bool false,.bool false,.bool false,.bool false,.bool false,.bool false,.bool false,.bool false,.bool false,.bool false,.bool false,.bool false,.bool false,.bool false,.bool false,.bool false,.bool false,.bool false,.bool false,.bool false,.bool false,.bool false,.bool false,.bool false,.bool false,.bool false,.bool false,.bool false,.bool false,.bool false,.bool false,.bool false,.bool false,.bool false,.bool false,.bool false,.bool false,.bool false,.bool false,.bool false,.bool false,.bool false,.bool false,.bool false,.bool false,.bool false,.bool false,.bool false,.bool false,.bool false,.bool false,.bool false,.bool false,.bool false,.bool false,.bool false,.bool false,.bool false,.bool false,.bool false,.bool false,.bool false,.bool false,.bool false,.bool false,.bool false,.bool false,.bool false,.bool false]⟩),
 (102,⟨.slice 105,1,24,.nil⟩),
 (104,⟨.struct [(0,3),(1,3),(2,3),(3,22),(4,22)],5,72,.agg [.int .i64 0,.int .i64 0,.int .i64 0,.nil,.nil]⟩),
 (105,⟨.struct [(0,3),(1,3),(2,3),(3,22),(4,22)],5,72,.agg [.int .i64 0,.int .i64 0,.int .i64 0,.nil,.nil]⟩),
 (110,⟨.struct [(0,3),(1,3)],2,16,.agg [.int .i64 0,.int .i64 0]⟩),
 (111,⟨.struct [(0,3),(1,3)],2,16,.agg [.int .i64 0,.int .i64 0]⟩),
 (113,⟨.struct [(0,3),(1,3)],2,16,.agg [.int .i64 0,.int .i64 0]⟩),
 (114,⟨.struct [(0,3),(1,3)],2,16,.agg [.int .i64 0,.int .i64 0]⟩),
 (115,⟨.struct [(0,3),(1,3)],2,16,.agg [.int .i64 0,.int .i64 0]⟩),
 (116,⟨.array 2 3,2,16,.agg [.int .i64 0,.int .i64 0]⟩),
 (119,⟨.slice 120,1,24,.nil⟩),
 (120,⟨.slice 4,1,24,.nil⟩),
 (124,⟨.ptr 145,1,8,.raw (.pointer none)⟩),
 (131,⟨.slice 86,1,24,.nil⟩),
 (133,⟨.map 3 4,1,8,.raw (.map none)⟩),
 (144,⟨.struct [(0,43),(1,3)],2,32,.agg [.nil,.int .i64 0]⟩),
 (145,⟨.struct [(0,43),(1,3)],2,32,.agg [.nil,.int .i64 0]⟩),
 (160,⟨.map 3 3,1,8,.raw (.map none)⟩),
 (161,⟨.array 4 3,4,32,.agg [.int .i64 0,.int .i64 0,.int .i64 0,.int .i64 0]⟩),
 (169,⟨.int .u64,1,8,.int .u64 0⟩),
 (172,⟨.int .i64,1,8,.int .i64 0⟩),
 (179,⟨.int .u32,1,4,.int .u32 0⟩),
 (181,⟨.int .u64,1,8,.int .u64 0⟩),
 (182,⟨.int .u64,1,8,.int .u64 0⟩),
 (186,⟨.ptr 3,1,8,.raw (.pointer none)⟩),
 (188,⟨.ptr 182,1,8,.raw (.pointer none)⟩),
 (201,⟨.ptr 5,1,8,.raw (.pointer none)⟩)]
def Tryz.tyT:Nat→Option TI:=fun t=>qnI t Tryz.tyL
theorem Tryz.tok:TOK Tryz.prog Tryz.tyT:=fun t ti h=>qlD (P:=TIOK Tryz.prog) (l:=Tryz.tyL) ⟨qaQ,qaQ,qaQ,qaQ,qaQ,qaQ,qaQ,qaQ,qaQ,qaQ,qaQ,qaQ,qaQ,qaQ,qaQ,qaQ,qaQ,qaQ,qaQ,qaQ,qaQ,qaQ,qaQ,qaQ,qaQ,qaQ,qaQ,qaQ,qaQ,qaQ,qaQ,qaQ,qaQ,qaQ,qaQ,qaQ,qaQ,qaQ,qaQ,qaQ,qaQ,qaQ,qaQ,qaQ,qaQ,qaQ,qaQ,qaQ,qaQ,qaQ,qaQ,qaQ,qaQ,qaQ,qaQ,qaQ,qaQ,qaQ,qaQ,qaQ,qaQ,qaQ,qaQ,qaQ,qaQ,qaQ,qaQ,trivial⟩ h
@[go_sem] theorem Tryz.ty2:Tryz.tyT 2=some ⟨.int .i64,1,8,.int .i64 0⟩:=by kernel_rfl
@[go_sem] theorem Tryz.ty3:Tryz.tyT 3=some ⟨.int .i64,1,8,.int .i64 0⟩:=by kernel_rfl
@[go_sem] theorem Tryz.ty4:Tryz.tyT 4=some ⟨.bool,1,1,.bool false⟩:=by kernel_rfl
@[go_sem] theorem Tryz.ty5:Tryz.tyT 5=some ⟨.int .u8,1,1,.int .u8 0⟩:=by kernel_rfl
@[go_sem] theorem Tryz.ty9:Tryz.tyT 9=some ⟨.string,1,16,.raw (.string .empty)⟩:=by kernel_rfl
@[go_sem] theorem Tryz.ty12:Tryz.tyT 12=some ⟨.int .u64,1,8,.int .u64 0⟩:=by kernel_rfl
@[go_sem] theorem Tryz.ty13:Tryz.tyT 13=some ⟨.struct [(0,9),(1,12)],2,24,.agg [.raw (.string .empty),.int .u64 0]⟩:=by kernel_rfl
@[go_sem] theorem Tryz.ty21:Tryz.tyT 21=some ⟨.int .i32,1,4,.int .i32 0⟩:=by kernel_rfl
@[go_sem] theorem Tryz.ty22:Tryz.tyT 22=some ⟨.slice 3,1,24,.nil⟩:=by kernel_rfl
@[go_sem] theorem Tryz.ty23:Tryz.tyT 23=some ⟨.slice 113,1,24,.nil⟩:=by kernel_rfl
@[go_sem] theorem Tryz.ty24:Tryz.tyT 24=some ⟨.struct [(0,3),(1,22),(2,23),(3,22)],4,80,.agg [.int .i64 0,.nil,.nil,.nil]⟩:=by kernel_rfl
@[go_sem] theorem Tryz.ty25:Tryz.tyT 25=some ⟨.struct [(0,3),(1,22),(2,23),(3,22)],4,80,.agg [.int .i64 0,.nil,.nil,.nil]⟩:=by kernel_rfl
@[go_sem] theorem Tryz.ty28:Tryz.tyT 28=some ⟨.slice 111,1,24,.nil⟩:=by kernel_rfl
@[go_sem] theorem Tryz.ty29:Tryz.tyT 29=some ⟨.struct [(0,3),(1,22),(2,28),(3,22)],4,80,.agg [.int .i64 0,.nil,.nil,.nil]⟩:=by kernel_rfl
@[go_sem] theorem Tryz.ty30:Tryz.tyT 30=some ⟨.struct [(0,3),(1,22),(2,28),(3,22)],4,80,.agg [.int .i64 0,.nil,.nil,.nil]⟩:=by kernel_rfl
@[go_sem] theorem Tryz.ty38:Tryz.tyT 38=some ⟨.slice 49,1,24,.nil⟩:=by kernel_rfl
@[go_sem] theorem Tryz.ty43:Tryz.tyT 43=some ⟨.slice 5,1,24,.nil⟩:=by kernel_rfl
@[go_sem] theorem Tryz.ty47:Tryz.tyT 47=some ⟨.slice 115,1,24,.nil⟩:=by kernel_rfl
@[go_sem] theorem Tryz.ty48:Tryz.tyT 48=some ⟨.struct [(0,3),(1,3),(2,47)],3,40,.agg [.int .i64 0,.int .i64 0,.nil]⟩:=by kernel_rfl
@[go_sem] theorem Tryz.ty49:Tryz.tyT 49=some ⟨.struct [(0,3),(1,3),(2,47)],3,40,.agg [.int .i64 0,.int .i64 0,.nil]⟩:=by kernel_rfl
@[go_sem] theorem Tryz.ty50:Tryz.tyT 50=some ⟨.slice 53,1,24,.nil⟩:=by kernel_rfl
@[go_sem] theorem Tryz.ty52:Tryz.tyT 52=some ⟨.struct [(0,3),(1,22),(2,3),(3,4)],4,48,.agg [.int .i64 0,.nil,.int .i64 0,.bool false]⟩:=by kernel_rfl
@[go_sem] theorem Tryz.ty53:Tryz.tyT 53=some ⟨.struct [(0,3),(1,22),(2,3),(3,4)],4,48,.agg [.int .i64 0,.nil,.int .i64 0,.bool false]⟩:=by kernel_rfl
@[go_sem] theorem Tryz.ty58:Tryz.tyT 58=some ⟨.slice 96,1,24,.nil⟩:=by kernel_rfl
@[go_sem] theorem Tryz.ty61:Tryz.tyT 61=some ⟨.slice 94,1,24,.nil⟩:=by kernel_rfl
@[go_sem] theorem Tryz.ty69:Tryz.tyT 69=some ⟨.map 116 3,1,8,.raw (.map none)⟩:=by kernel_rfl
@[go_sem] theorem Tryz.ty70:Tryz.tyT 70=some ⟨.struct [(0,50),(1,69),(2,22)],3,56,.agg [.nil,.raw (.map none),.nil]⟩:=by kernel_rfl
@[go_sem] theorem Tryz.ty71:Tryz.tyT 71=some ⟨.struct [(0,50),(1,69),(2,22)],3,56,.agg [.nil,.raw (.map none),.nil]⟩:=by kernel_rfl
@[go_sem] theorem Tryz.ty74:Tryz.tyT 74=some ⟨.ptr 30,1,8,.raw (.pointer none)⟩:=by kernel_rfl
@[go_sem] theorem Tryz.ty82:Tryz.tyT 82=some ⟨.slice 85,1,24,.nil⟩:=by kernel_rfl
@[go_sem] theorem Tryz.ty84:Tryz.tyT 84=some ⟨.struct [(0,3),(1,22),(2,3)],3,40,.agg [.int .i64 0,.nil,.int .i64 0]⟩:=by kernel_rfl
@[go_sem] theorem Tryz.ty85:Tryz.tyT 85=some ⟨.struct [(0,3),(1,22),(2,3)],3,40,.agg [.int .i64 0,.nil,.int .i64 0]⟩:=by kernel_rfl
@[go_sem] theorem Tryz.ty86:Tryz.tyT 86=some ⟨.slice 22,1,24,.nil⟩:=by kernel_rfl
@[go_sem] theorem Tryz.ty93:Tryz.tyT 93=some ⟨.struct [(0,3),(1,3)],2,16,.agg [.int .i64 0,.int .i64 0]⟩:=by kernel_rfl
@[go_sem] theorem Tryz.ty94:Tryz.tyT 94=some ⟨.struct [(0,3),(1,3)],2,16,.agg [.int .i64 0,.int .i64 0]⟩:=by kernel_rfl
@[go_sem] theorem Tryz.ty96:Tryz.tyT 96=some ⟨.struct [(0,3),(1,3)],2,16,.agg [.int .i64 0,.int .i64 0]⟩:=by kernel_rfl
@[go_sem] theorem Tryz.ty97:Tryz.tyT 97=some ⟨.ptr 101,1,8,.raw (.pointer none)⟩:=by kernel_rfl
@[go_sem] theorem Tryz.ty98:Tryz.tyT 98=some ⟨.array 8 4,8,8,.agg [.bool false,.bool false,.bool false,.bool false,.bool false,.bool false,.bool false,.bool false]⟩:=by kernel_rfl
@[go_sem] theorem Tryz.ty99:Tryz.tyT 99=some ⟨.array 25 98,200,200,.agg [.bool false,.bool false,.bool false,.bool false,.bool false,.bool false,.bool false,.bool false,.bool false,.bool false,.bool false,.bool false,.bool false,.bool false,.bool false,.bool false,.bool false,.bool false,.bool false,.bool false,.bool false,.bool false,.bool false,.bool false,.bool false,.bool false,.bool false,.bool false,.bool false,.bool false,.bool false,.bool false,.bool false,.bool false,.bool false,.bool false,.bool false,.bool false,.bool false,.bool false,.bool false,.bool false,.bool false,.bool false,.bool false,.bool false,.bool false,.bool false,.bool false,.bool false,.bool false,.bool false,.bool false,.bool false,.bool false,.bool false,.bool false,.bool false,.bool false,.bool false,.bool false,.bool false,.bool false,.bool false,.bool false,.bool false,.bool false,.bool false,.bool false,.bool false,.bool false,.bool false,.bool false,.bool false,.bool false,.bool false,.bool false,.bool false,.bool false,.bool false,.bool false,.bool false,.bool false,.bool false,.bool false,.bool false,.bool false,.bool false,.bool false,.bool false,.bool false,.bool false,.bool false,.bool false,.bool false,.bool false,.bool false,.bool false,.bool false,.bool false,.bool false,.bool false,.bool false,.bool false,.bool false,.bool false,.bool false,.bool false,.bool false,.bool false,.bool false,.bool false,.bool false,.bool false,.bool false,.bool false,.bool false,.bool false,.bool false,.bool false,.bool false,.bool false,.bool false,.bool false,.bool false,.bool false,.bool false,.bool false,.bool false,.bool false,.bool false,.bool false,.bool false,.bool false,.bool false,.bool false,.bool false,.bool false,.bool false,.bool false,.bool false,.bool false,.bool false,.bool false,.bool false,.bool false,.bool false,.bool false,.bool false,.bool false,.bool false,.bool false,.bool false,.bool false,.bool false,.bool false,.bool false,.bool false,.bool false,.bool false,.bool false,.bool false,.bool false,.bool false,.bool false,.bool false,.bool false,.bool false,.bool false,.bool false,.bool false,.bool false,.bool false,.bool false,.bool false,.bool false,.bool false,.bool false,.bool false,.bool false,.bool false,.bool false,.bool false,.bool false,.bool false,.bool false,.bool false,.bool false,.bool false,.bool false,.bool false,.bool false,.bool false,.bool false,.bool false,.bool false,.bool false,.bool false,.bool false,.bool false]⟩:=by kernel_rfl
@[go_sem] theorem Tryz.ty100:Tryz.tyT 100=some ⟨.struct [(0,99)],200,200,.agg [.bool false,.bool false,.bool false,.bool false,.bool false,.bool false,.bool false,.bool false,.bool false,.bool false,.bool false,.bool false,.bool false,.bool false,.bool false,.bool false,.bool false,.bool false,.bool false,.bool false,.bool false,.bool false,.bool false,.bool false,.bool false,.bool false,.bool false,.bool false,.bool false,.bool false,.bool false,.bool false,.bool false,.bool false,.bool false,.bool false,.bool false,.bool false,.bool false,.bool false,.bool false,.bool false,.bool false,.bool false,.bool false,.bool false,.bool false,.bool false,.bool false,.bool false,.bool false,.bool false,.bool false,.bool false,.bool false,.bool false,.bool false,.bool false,.bool false,.bool false,.bool false,.bool false,.bool false,.bool false,.bool false,.bool false,.bool false,.bool false,.bool false,.bool false,.bool false,.bool false,.bool false,.bool false,.bool false,.bool false,.bool false,.bool false,.bool false,.bool false,.bool false,.bool false,.bool false,.bool false,.bool false,.bool false,.bool false,.bool false,.bool false,.bool false,.bool false,.bool false,.bool false,.bool false,.bool false,.bool false,.bool false,.bool false,.bool false,.bool false,.bool false,.bool false,.bool false,.bool false,.bool false,.bool false,.bool false,.bool false,.bool false,.bool false,.bool false,.bool false,.bool false,.bool false,.bool false,.bool false,.bool false,.bool false,.bool false,.bool false,.bool false,.bool false,.bool false,.bool false,.bool false,.bool false,.bool false,.bool false,.bool false,.bool false,.bool false,.bool false,.bool false,.bool false,.bool false,.bool false,.bool false,.bool false,.bool false,.bool false,.bool false,.bool false,.bool false,.bool false,.bool false,.bool false,.bool false,.bool false,.bool false,.bool false,.bool false,.bool false,.bool false,.bool false,.bool false,.bool false,.bool false,.bool false,.bool false,.bool false,.bool false,.bool false,.bool false,.bool false,.bool false,.bool false,.bool false,.bool false,.bool false,.bool false,.bool false,.bool false,.bool false,.bool false,.bool false,.bool false,.bool false,.bool false,.bool false,.bool false,.bool false,.bool false,.bool false,.bool false,.bool false,.bool false,.bool false,.bool false,.bool false,.bool false,.bool false,.bool false,.bool false,.bool false,.bool false,.bool false,.bool false,.bool false,.bool false,.bool false]⟩:=by kernel_rfl
@[go_sem] theorem Tryz.ty101:Tryz.tyT 101=some ⟨.struct [(0,99)],200,200,.agg [.bool false,.bool false,.bool false,.bool false,.bool false,.bool false,.bool false,.bool false,.bool false,.bool false,.bool false,.bool false,.bool false,.bool false,.bool false,.bool false,.bool false,.bool false,.bool false,.bool false,.bool false,.bool false,.bool false,.bool false,.bool false,.bool false,.bool false,.bool false,.bool false,.bool false,.bool false,.bool false,.bool false,.bool false,.bool false,.bool false,.bool false,.bool false,.bool false,.bool false,.bool false,.bool false,.bool false,.bool false,.bool false,.bool false,.bool false,.bool false,.bool false,.bool false,.bool false,.bool false,.bool false,.bool false,.bool false,.bool false,.bool false,.bool false,.bool false,.bool false,.bool false,.bool false,.bool false,.bool false,.bool false,.bool false,.bool false,.bool false,.bool false,.bool false,.bool false,.bool false,.bool false,.bool false,.bool false,.bool false,.bool false,.bool false,.bool false,.bool false,.bool false,.bool false,.bool false,.bool false,.bool false,.bool false,.bool false,.bool false,.bool false,.bool false,.bool false,.bool false,.bool false,.bool false,.bool false,.bool false,.bool false,.bool false,.bool false,.bool false,.bool false,.bool false,.bool false,.bool false,.bool false,.bool false,.bool false,.bool false,.bool false,.bool false,.bool false,.bool false,.bool false,.bool false,.bool false,.bool false,.bool false,.bool false,.bool false,.bool false,.bool false,.bool false,.bool false,.bool false,.bool false,.bool false,.bool false,.bool false,.bool false,.bool false,.bool false,.bool false,.bool false,.bool false,.bool false,.bool false,.bool false,.bool false,.bool false,.bool false,.bool false,.bool false,.bool false,.bool false,.bool false,.bool false,.bool false,.bool false,.bool false,.bool false,.bool false,.bool false,.bool false,.bool false,.bool false,.bool false,.bool false,.bool false,.bool false,.bool false,.bool false,.bool false,.bool false,.bool false,.bool false,.bool false,.bool false,.bool false,.bool false,.bool false,.bool false,.bool false,.bool false,.bool false,.bool false,.bool false,.bool false,.bool false,.bool false,.bool false,.bool false,.bool false,.bool false,.bool false,.bool false,.bool false,.bool false,.bool false,.bool false,.bool false,.bool false,.bool false,.bool false,.bool false,.bool false,.bool false,.bool false,.bool false,.bool false,.bool false]⟩:=by kernel_rfl
@[go_sem] theorem Tryz.ty102:Tryz.tyT 102=some ⟨.slice 105,1,24,.nil⟩:=by kernel_rfl
@[go_sem] theorem Tryz.ty104:Tryz.tyT 104=some ⟨.struct [(0,3),(1,3),(2,3),(3,22),(4,22)],5,72,.agg [.int .i64 0,.int .i64 0,.int .i64 0,.nil,.nil]⟩:=by kernel_rfl
@[go_sem] theorem Tryz.ty105:Tryz.tyT 105=some ⟨.struct [(0,3),(1,3),(2,3),(3,22),(4,22)],5,72,.agg [.int .i64 0,.int .i64 0,.int .i64 0,.nil,.nil]⟩:=by kernel_rfl
@[go_sem] theorem Tryz.ty110:Tryz.tyT 110=some ⟨.struct [(0,3),(1,3)],2,16,.agg [.int .i64 0,.int .i64 0]⟩:=by kernel_rfl
@[go_sem] theorem Tryz.ty111:Tryz.tyT 111=some ⟨.struct [(0,3),(1,3)],2,16,.agg [.int .i64 0,.int .i64 0]⟩:=by kernel_rfl
@[go_sem] theorem Tryz.ty113:Tryz.tyT 113=some ⟨.struct [(0,3),(1,3)],2,16,.agg [.int .i64 0,.int .i64 0]⟩:=by kernel_rfl
@[go_sem] theorem Tryz.ty114:Tryz.tyT 114=some ⟨.struct [(0,3),(1,3)],2,16,.agg [.int .i64 0,.int .i64 0]⟩:=by kernel_rfl
@[go_sem] theorem Tryz.ty115:Tryz.tyT 115=some ⟨.struct [(0,3),(1,3)],2,16,.agg [.int .i64 0,.int .i64 0]⟩:=by kernel_rfl
@[go_sem] theorem Tryz.ty116:Tryz.tyT 116=some ⟨.array 2 3,2,16,.agg [.int .i64 0,.int .i64 0]⟩:=by kernel_rfl
@[go_sem] theorem Tryz.ty119:Tryz.tyT 119=some ⟨.slice 120,1,24,.nil⟩:=by kernel_rfl
@[go_sem] theorem Tryz.ty120:Tryz.tyT 120=some ⟨.slice 4,1,24,.nil⟩:=by kernel_rfl
@[go_sem] theorem Tryz.ty124:Tryz.tyT 124=some ⟨.ptr 145,1,8,.raw (.pointer none)⟩:=by kernel_rfl
@[go_sem] theorem Tryz.ty131:Tryz.tyT 131=some ⟨.slice 86,1,24,.nil⟩:=by kernel_rfl
@[go_sem] theorem Tryz.ty133:Tryz.tyT 133=some ⟨.map 3 4,1,8,.raw (.map none)⟩:=by kernel_rfl
@[go_sem] theorem Tryz.ty144:Tryz.tyT 144=some ⟨.struct [(0,43),(1,3)],2,32,.agg [.nil,.int .i64 0]⟩:=by kernel_rfl
@[go_sem] theorem Tryz.ty145:Tryz.tyT 145=some ⟨.struct [(0,43),(1,3)],2,32,.agg [.nil,.int .i64 0]⟩:=by kernel_rfl
@[go_sem] theorem Tryz.ty160:Tryz.tyT 160=some ⟨.map 3 3,1,8,.raw (.map none)⟩:=by kernel_rfl
@[go_sem] theorem Tryz.ty161:Tryz.tyT 161=some ⟨.array 4 3,4,32,.agg [.int .i64 0,.int .i64 0,.int .i64 0,.int .i64 0]⟩:=by kernel_rfl
@[go_sem] theorem Tryz.ty169:Tryz.tyT 169=some ⟨.int .u64,1,8,.int .u64 0⟩:=by kernel_rfl
@[go_sem] theorem Tryz.ty172:Tryz.tyT 172=some ⟨.int .i64,1,8,.int .i64 0⟩:=by kernel_rfl
@[go_sem] theorem Tryz.ty179:Tryz.tyT 179=some ⟨.int .u32,1,4,.int .u32 0⟩:=by kernel_rfl
@[go_sem] theorem Tryz.ty181:Tryz.tyT 181=some ⟨.int .u64,1,8,.int .u64 0⟩:=by kernel_rfl
@[go_sem] theorem Tryz.ty182:Tryz.tyT 182=some ⟨.int .u64,1,8,.int .u64 0⟩:=by kernel_rfl
@[go_sem] theorem Tryz.ty186:Tryz.tyT 186=some ⟨.ptr 3,1,8,.raw (.pointer none)⟩:=by kernel_rfl
@[go_sem] theorem Tryz.ty188:Tryz.tyT 188=some ⟨.ptr 182,1,8,.raw (.pointer none)⟩:=by kernel_rfl
@[go_sem] theorem Tryz.ty201:Tryz.tyT 201=some ⟨.ptr 5,1,8,.raw (.pointer none)⟩:=by kernel_rfl
def Tryz.pf:Nat→Kind
 | 14=>.proc
 | 15=>.proc
 | 20=>.proc
 | 35=>.proc
 | 41=>.proc
 | 43=>.proc
 | 47=>.proc
 | 52=>.proc
 | 60=>.proc
 | 61=>.proc
 | 67=>.proc
 | 73=>.proc
 | 75=>.proc
 | 76=>.proc
 | 77=>.proc
 | 82=>.proc
 | 87=>.proc
 | 94=>.proc
 | 96=>.proc
 | 97=>.proc
 | 99=>.proc
 | 100=>.proc
 | 102=>.proc
 | 107=>.proc
 | 108=>.proc
 | 109=>.proc
 | 110=>.proc
 | 118=>.proc
 | 119=>.proc
 | 122=>.proc
 | 17=>.fz
 | 22=>.fz
 | 25=>.fz
 | 31=>.fz
 | 45=>.fz
 | 49=>.fz
 | 51=>.fz
 | 56=>.fz
 | 65=>.fz
 | 83=>.fz
 | 89=>.fz
 | 90=>.fz
 | _=>.own
@[go_sem] theorem Tryz.pf3:Tryz.pf 3=.own:=rfl
@[go_sem] theorem Tryz.pf4:Tryz.pf 4=.own:=rfl
@[go_sem] theorem Tryz.pf6:Tryz.pf 6=.own:=rfl
@[go_sem] theorem Tryz.pf7:Tryz.pf 7=.own:=rfl
@[go_sem] theorem Tryz.pf8:Tryz.pf 8=.own:=rfl
@[go_sem] theorem Tryz.pf9:Tryz.pf 9=.own:=rfl
@[go_sem] theorem Tryz.pf10:Tryz.pf 10=.own:=rfl
@[go_sem] theorem Tryz.pf11:Tryz.pf 11=.own:=rfl
@[go_sem] theorem Tryz.pf12:Tryz.pf 12=.own:=rfl
@[go_sem] theorem Tryz.pf13:Tryz.pf 13=.own:=rfl
@[go_sem] theorem Tryz.pf14:Tryz.pf 14=.proc:=rfl
@[go_sem] theorem Tryz.pf15:Tryz.pf 15=.proc:=rfl
@[go_sem] theorem Tryz.pf16:Tryz.pf 16=.own:=rfl
@[go_sem] theorem Tryz.pf17:Tryz.pf 17=.fz:=rfl
@[go_sem] theorem Tryz.pf18:Tryz.pf 18=.own:=rfl
@[go_sem] theorem Tryz.pf19:Tryz.pf 19=.own:=rfl
@[go_sem] theorem Tryz.pf20:Tryz.pf 20=.proc:=rfl
@[go_sem] theorem Tryz.pf21:Tryz.pf 21=.own:=rfl
@[go_sem] theorem Tryz.pf25:Tryz.pf 25=.fz:=rfl
@[go_sem] theorem Tryz.pf30:Tryz.pf 30=.own:=rfl
@[go_sem] theorem Tryz.pf31:Tryz.pf 31=.fz:=rfl
@[go_sem] theorem Tryz.pf32:Tryz.pf 32=.own:=rfl
@[go_sem] theorem Tryz.pf33:Tryz.pf 33=.own:=rfl
@[go_sem] theorem Tryz.pf34:Tryz.pf 34=.own:=rfl
@[go_sem] theorem Tryz.pf35:Tryz.pf 35=.proc:=rfl
@[go_sem] theorem Tryz.pf36:Tryz.pf 36=.own:=rfl
@[go_sem] theorem Tryz.pf37:Tryz.pf 37=.own:=rfl
@[go_sem] theorem Tryz.pf38:Tryz.pf 38=.own:=rfl
@[go_sem] theorem Tryz.pf39:Tryz.pf 39=.own:=rfl
@[go_sem] theorem Tryz.pf40:Tryz.pf 40=.own:=rfl
@[go_sem] theorem Tryz.pf41:Tryz.pf 41=.proc:=rfl
@[go_sem] theorem Tryz.pf42:Tryz.pf 42=.own:=rfl
@[go_sem] theorem Tryz.pf43:Tryz.pf 43=.proc:=rfl
@[go_sem] theorem Tryz.pf44:Tryz.pf 44=.own:=rfl
@[go_sem] theorem Tryz.pf45:Tryz.pf 45=.fz:=rfl
@[go_sem] theorem Tryz.pf46:Tryz.pf 46=.own:=rfl
@[go_sem] theorem Tryz.pf47:Tryz.pf 47=.proc:=rfl
@[go_sem] theorem Tryz.pf48:Tryz.pf 48=.own:=rfl
@[go_sem] theorem Tryz.pf50:Tryz.pf 50=.own:=rfl
@[go_sem] theorem Tryz.pf51:Tryz.pf 51=.fz:=rfl
@[go_sem] theorem Tryz.pf52:Tryz.pf 52=.proc:=rfl
@[go_sem] theorem Tryz.pf53:Tryz.pf 53=.own:=rfl
@[go_sem] theorem Tryz.pf54:Tryz.pf 54=.own:=rfl
@[go_sem] theorem Tryz.pf55:Tryz.pf 55=.own:=rfl
@[go_sem] theorem Tryz.pf56:Tryz.pf 56=.fz:=rfl
@[go_sem] theorem Tryz.pf57:Tryz.pf 57=.own:=rfl
@[go_sem] theorem Tryz.pf58:Tryz.pf 58=.own:=rfl
@[go_sem] theorem Tryz.pf59:Tryz.pf 59=.own:=rfl
@[go_sem] theorem Tryz.pf60:Tryz.pf 60=.proc:=rfl
@[go_sem] theorem Tryz.pf61:Tryz.pf 61=.proc:=rfl
@[go_sem] theorem Tryz.pf62:Tryz.pf 62=.own:=rfl
@[go_sem] theorem Tryz.pf63:Tryz.pf 63=.own:=rfl
@[go_sem] theorem Tryz.pf64:Tryz.pf 64=.own:=rfl
@[go_sem] theorem Tryz.pf65:Tryz.pf 65=.fz:=rfl
@[go_sem] theorem Tryz.pf66:Tryz.pf 66=.own:=rfl
@[go_sem] theorem Tryz.pf67:Tryz.pf 67=.proc:=rfl
@[go_sem] theorem Tryz.pf68:Tryz.pf 68=.own:=rfl
@[go_sem] theorem Tryz.pf69:Tryz.pf 69=.own:=rfl
@[go_sem] theorem Tryz.pf70:Tryz.pf 70=.own:=rfl
@[go_sem] theorem Tryz.pf71:Tryz.pf 71=.own:=rfl
@[go_sem] theorem Tryz.pf72:Tryz.pf 72=.own:=rfl
@[go_sem] theorem Tryz.pf73:Tryz.pf 73=.proc:=rfl
@[go_sem] theorem Tryz.pf74:Tryz.pf 74=.own:=rfl
@[go_sem] theorem Tryz.pf78:Tryz.pf 78=.own:=rfl
@[go_sem] theorem Tryz.pf79:Tryz.pf 79=.own:=rfl
@[go_sem] theorem Tryz.pf80:Tryz.pf 80=.own:=rfl
@[go_sem] theorem Tryz.pf81:Tryz.pf 81=.own:=rfl
@[go_sem] theorem Tryz.pf82:Tryz.pf 82=.proc:=rfl
@[go_sem] theorem Tryz.pf83:Tryz.pf 83=.fz:=rfl
@[go_sem] theorem Tryz.pf84:Tryz.pf 84=.own:=rfl
@[go_sem] theorem Tryz.pf85:Tryz.pf 85=.own:=rfl
@[go_sem] theorem Tryz.pf86:Tryz.pf 86=.own:=rfl
@[go_sem] theorem Tryz.pf87:Tryz.pf 87=.proc:=rfl
@[go_sem] theorem Tryz.pf88:Tryz.pf 88=.own:=rfl
@[go_sem] theorem Tryz.pf89:Tryz.pf 89=.fz:=rfl
@[go_sem] theorem Tryz.pf90:Tryz.pf 90=.fz:=rfl
@[go_sem] theorem Tryz.pf91:Tryz.pf 91=.own:=rfl
@[go_sem] theorem Tryz.pf92:Tryz.pf 92=.own:=rfl
@[go_sem] theorem Tryz.pf93:Tryz.pf 93=.own:=rfl
@[go_sem] theorem Tryz.pf94:Tryz.pf 94=.proc:=rfl
@[go_sem] theorem Tryz.pf95:Tryz.pf 95=.own:=rfl
@[go_sem] theorem Tryz.pf99:Tryz.pf 99=.proc:=rfl
@[go_sem] theorem Tryz.pf100:Tryz.pf 100=.proc:=rfl
@[go_sem] theorem Tryz.pf101:Tryz.pf 101=.own:=rfl
@[go_sem] theorem Tryz.pf102:Tryz.pf 102=.proc:=rfl
@[go_sem] theorem Tryz.pf103:Tryz.pf 103=.own:=rfl
@[go_sem] theorem Tryz.pf104:Tryz.pf 104=.own:=rfl
@[go_sem] theorem Tryz.pf105:Tryz.pf 105=.own:=rfl
@[go_sem] theorem Tryz.pf106:Tryz.pf 106=.own:=rfl
@[go_sem] theorem Tryz.pf107:Tryz.pf 107=.proc:=rfl
@[go_sem] theorem Tryz.pf108:Tryz.pf 108=.proc:=rfl
@[go_sem] theorem Tryz.pf109:Tryz.pf 109=.proc:=rfl
@[go_sem] theorem Tryz.pf110:Tryz.pf 110=.proc:=rfl
@[go_sem] theorem Tryz.pf111:Tryz.pf 111=.own:=rfl
@[go_sem] theorem Tryz.pf112:Tryz.pf 112=.own:=rfl
@[go_sem] theorem Tryz.pf113:Tryz.pf 113=.own:=rfl
@[go_sem] theorem Tryz.pf114:Tryz.pf 114=.own:=rfl
@[go_sem] theorem Tryz.pf115:Tryz.pf 115=.own:=rfl
@[go_sem] theorem Tryz.pf116:Tryz.pf 116=.own:=rfl
@[go_sem] theorem Tryz.pf117:Tryz.pf 117=.own:=rfl
@[go_sem] theorem Tryz.pf118:Tryz.pf 118=.proc:=rfl
@[go_sem] theorem Tryz.pf119:Tryz.pf 119=.proc:=rfl
@[go_sem] theorem Tryz.pf120:Tryz.pf 120=.own:=rfl
@[go_sem] theorem Tryz.pf121:Tryz.pf 121=.own:=rfl
@[go_sem] theorem Tryz.pf122:Tryz.pf 122=.proc:=rfl
@[go_sem] theorem Tryz.pf128:Tryz.pf 128=.own:=rfl
@[go_sem] theorem Tryz.pf132:Tryz.pf 132=.own:=rfl
@[go_sem] theorem Tryz.pf138:Tryz.pf 138=.own:=rfl
noncomputable def Tryz.env (n:Nat):Env:=⟨Tryz.prog,Tryz.tyT,Tryz.pf,n,.low⟩
@[go_sem] theorem Tryz.env_deep (n:Nat):(Tryz.env n).deep=.low:=rfl
noncomputable def Tryz.envd (n:Nat):Env:=⟨Tryz.prog,Tryz.tyT,Tryz.pf,n,.both⟩
@[go_sem] theorem Tryz.envd_deep (n:Nat):(Tryz.envd n).deep=.both:=rfl
@[go_sem] theorem Tryz.envd_T (n:Nat):(Tryz.envd n).T=Tryz.tyT:=rfl
@[go_sem] theorem Tryz.envd_n (n:Nat):(Tryz.envd n).n=n:=rfl
@[go_sem] theorem Tryz.envd_pf (n f:Nat):(Tryz.envd n).pf f=Tryz.pf f:=rfl
@[go_sem] theorem Tryz.envd_P (n:Nat):(Tryz.envd n).P=Tryz.prog:=rfl
noncomputable def Tryz.envf (n:Nat):Env:=⟨Tryz.prog,Tryz.tyT,Tryz.pf,n,.frz⟩
@[go_sem] theorem Tryz.envf_deep (n:Nat):(Tryz.envf n).deep=.frz:=rfl
@[go_sem] theorem Tryz.envf_T (n:Nat):(Tryz.envf n).T=Tryz.tyT:=rfl
@[go_sem] theorem Tryz.envf_n (n:Nat):(Tryz.envf n).n=n:=rfl
@[go_sem] theorem Tryz.envf_pf (n f:Nat):(Tryz.envf n).pf f=Tryz.pf f:=rfl
@[go_sem] theorem Tryz.envf_P (n:Nat):(Tryz.envf n).P=Tryz.prog:=rfl
@[go_sem] theorem Tryz.env_T (n:Nat):(Tryz.env n).T=Tryz.tyT:=rfl
@[go_sem] theorem Tryz.env_n (n:Nat):(Tryz.env n).n=n:=rfl
@[go_sem] theorem Tryz.env_pf (n f:Nat):(Tryz.env n).pf f=Tryz.pf f:=rfl
@[go_sem] theorem Tryz.env_P (n:Nat):(Tryz.env n).P=Tryz.prog:=rfl
@[go_sem] theorem Tryz.follows:Tryz.prog.follows .mixedOrders=true:=by kernel_rfl
end Go.Proofs
