/- The table of the types of a translation, and that it is right. Made by a program. Conditions: none. -/
import Derived.Test.YteikeianenfhaaaGreatProg
import Derived.Test.YteikeianenfhaaaGreatVM8
import Derived.KernelRfl
set_option linter.unusedVariables false
set_option maxRecDepth 20000
set_option maxHeartbeats 2000000
namespace Go.Proofs
open Go.VL
theorem qar {P:Program}{t:Nat}{ti:TI}(h1:(P.info? t).map (fun i=>(i.size,i.bytes,i.zero))=some (ti.size,ti.bytes,some (qag ti.zero)):=by kernel_rfl) (h2:(P.underlying t).map tyOf=some ti.ty:=by kernel_rfl) (h3:qf5 ti.zero=true:=by kernel_rfl) (h4:ti.zero.cells.length=ti.size:=by kernel_rfl) (h5:(match ti.zero with|.agg _=>true|_=>false)=ti.ty.agg:=by kernel_rfl) (h6:qpn P t=true:=by kernel_rfl):TIOK P t ti:=tiok_of h1 h2 h3 h4 h5 h6
def qqj (t:Nat):List (Nat×TI)->Option TI
 | []=>none
 | (s,x)::r=>cond (Nat.beq s t) (some x) (qqj t r)
def AllT (P:Nat->TI->Prop):List (Nat×TI)->Prop
 | []=>True
 | (s,x)::r=>P s x/\AllT P r
theorem qnN {P:Nat->TI->Prop}{t:Nat}{ti:TI} : ∀ {l:List (Nat×TI)},AllT P l->qqj t l=some ti->P t ti
 | [],_,h=>by simp[qqj] at h
 | (s,x)::r,ha,h=>by
  simp only[qqj] at h;cases e:Nat.beq s t with
  | true=>
   rw[e] at h;cases h;rw[Nat.eq_of_beq_eq_true e] at ha;exact ha.1
  | false=>
   rw[e] at h;exact qnN ha.2 h
def Tryz.tyL:List (Nat×TI):=[
 (2,⟨.int .i64,1,8,.int .i64 0⟩),
 (3,⟨.int .i64,1,8,.int .i64 0⟩),
 (4,⟨.bool,1,1,.bool false⟩),
 (5,⟨.int .u8,1,1,.int .u8 0⟩),
 (9,⟨.string,1,16,.raw (.string .empty)⟩),
 (12,⟨.int .u64,1,8,.int .u64 0⟩),
 (13,⟨.struct [(0,9),(1,12)],2,24,.agg [.raw (.string .empty),.int .u64 0]⟩),
 (21,⟨.int .i32,1,4,.int .i32 0⟩),
 (22,⟨.slice 5,1,24,.nil⟩),
 (23,⟨.slice 3,1,24,.nil⟩),
 (24,⟨.slice 157,1,24,.nil⟩),
 (25,⟨.struct [(0,3),(1,23),(2,24),(3,23)],4,80,.agg [.int .i64 0,.nil,.nil,.nil]⟩),
 (26,⟨.struct [(0,3),(1,23),(2,24),(3,23)],4,80,.agg [.int .i64 0,.nil,.nil,.nil]⟩),
 (27,⟨.slice 124,1,24,.nil⟩),
 (30,⟨.slice 91,1,24,.nil⟩),
 (31,⟨.slice 110,1,24,.nil⟩),
 (32,⟨.struct [(0,30),(1,31)],2,48,.agg [.nil,.nil]⟩),
 (33,⟨.struct [(0,30),(1,31)],2,48,.agg [.nil,.nil]⟩),
 (38,⟨.slice 39,1,24,.nil⟩),
 (39,⟨.slice 4,1,24,.nil⟩),
 (47,⟨.slice 216,1,24,.nil⟩),
 (48,⟨.struct [(0,3),(1,23),(2,47),(3,23)],4,80,.agg [.int .i64 0,.nil,.nil,.nil]⟩),
 (49,⟨.struct [(0,3),(1,23),(2,47),(3,23)],4,80,.agg [.int .i64 0,.nil,.nil,.nil]⟩),
 (67,⟨.slice 72,1,24,.nil⟩),
 (70,⟨.slice 195,1,24,.nil⟩),
 (71,⟨.struct [(0,3),(1,3),(2,70)],3,40,.agg [.int .i64 0,.int .i64 0,.nil]⟩),
 (72,⟨.struct [(0,3),(1,3),(2,70)],3,40,.agg [.int .i64 0,.int .i64 0,.nil]⟩),
 (73,⟨.slice 76,1,24,.nil⟩),
 (75,⟨.struct [(0,3),(1,23),(2,3),(3,4)],4,48,.agg [.int .i64 0,.nil,.int .i64 0,.bool false]⟩),
 (76,⟨.struct [(0,3),(1,23),(2,3),(3,4)],4,48,.agg [.int .i64 0,.nil,.int .i64 0,.bool false]⟩),
 (82,⟨.slice 26,1,24,.nil⟩),
 (90,⟨.struct [(0,3),(1,23),(2,4),(3,23)],4,64,.agg [.int .i64 0,.nil,.bool false,.nil]⟩),
 (91,⟨.struct [(0,3),(1,23),(2,4),(3,23)],4,64,.agg [.int .i64 0,.nil,.bool false,.nil]⟩),
 (92,⟨.slice 171,1,24,.nil⟩),
 (98,⟨.ptr 176,1,8,.raw (.pointer none)⟩),
 (105,⟨.ptr 26,1,8,.raw (.pointer none)⟩),
 (109,⟨.struct [(0,3),(1,4)],2,16,.agg [.int .i64 0,.bool false]⟩),
 (110,⟨.struct [(0,3),(1,4)],2,16,.agg [.int .i64 0,.bool false]⟩),
 (112,⟨.struct [(0,39),(1,39)],2,48,.agg [.nil,.nil]⟩),
 (113,⟨.struct [(0,39),(1,39)],2,48,.agg [.nil,.nil]⟩),
 (115,⟨.struct [(0,39)],1,24,.agg [.nil]⟩),
 (116,⟨.struct [(0,39)],1,24,.agg [.nil]⟩),
 (118,⟨.struct [(0,39),(1,116)],2,48,.agg [.nil,.nil]⟩),
 (119,⟨.struct [(0,39),(1,116)],2,48,.agg [.nil,.nil]⟩),
 (121,⟨.ptr 33,1,8,.raw (.pointer none)⟩),
 (123,⟨.struct [(0,3),(1,3)],2,16,.agg [.int .i64 0,.int .i64 0]⟩),
 (124,⟨.struct [(0,3),(1,3)],2,16,.agg [.int .i64 0,.int .i64 0]⟩),
 (135,⟨.map 229 3,1,8,.raw (.map none)⟩),
 (136,⟨.struct [(0,73),(1,135),(2,23)],3,56,.agg [.nil,.raw (.map none),.nil]⟩),
 (137,⟨.struct [(0,73),(1,135),(2,23)],3,56,.agg [.nil,.raw (.map none),.nil]⟩),
 (141,⟨.slice 144,1,24,.nil⟩),
 (143,⟨.struct [(0,3),(1,23),(2,3)],3,40,.agg [.int .i64 0,.nil,.int .i64 0]⟩),
 (144,⟨.struct [(0,3),(1,23),(2,3)],3,40,.agg [.int .i64 0,.nil,.int .i64 0]⟩),
 (145,⟨.slice 23,1,24,.nil⟩),
 (150,⟨.ptr 155,1,8,.raw (.pointer none)⟩),
 (153,⟨.map 157 3,1,8,.raw (.map none)⟩),
 (154,⟨.struct [(0,3),(1,24),(2,23),(3,153)],4,64,.agg [.int .i64 0,.nil,.nil,.raw (.map none)]⟩),
 (155,⟨.struct [(0,3),(1,24),(2,23),(3,153)],4,64,.agg [.int .i64 0,.nil,.nil,.raw (.map none)]⟩),
 (156,⟨.struct [(0,3),(1,3)],2,16,.agg [.int .i64 0,.int .i64 0]⟩),
 (157,⟨.struct [(0,3),(1,3)],2,16,.agg [.int .i64 0,.int .i64 0]⟩),
 (165,⟨.map 168 3,1,8,.raw (.map none)⟩),
 (167,⟨.struct [(0,3),(1,3)],2,16,.agg [.int .i64 0,.int .i64 0]⟩),
 (168,⟨.struct [(0,3),(1,3)],2,16,.agg [.int .i64 0,.int .i64 0]⟩),
 (171,⟨.struct [(0,3),(1,3)],2,16,.agg [.int .i64 0,.int .i64 0]⟩),
 (175,⟨.struct [(0,22),(1,3)],2,32,.agg [.nil,.int .i64 0]⟩),
 (176,⟨.struct [(0,22),(1,3)],2,32,.agg [.nil,.int .i64 0]⟩),
 (179,⟨.slice 182,1,24,.nil⟩),
 (181,⟨.struct [(0,3),(1,3),(2,3),(3,23),(4,23)],5,72,.agg [.int .i64 0,.int .i64 0,.int .i64 0,.nil,.nil]⟩),
 (182,⟨.struct [(0,3),(1,3),(2,3),(3,23),(4,23)],5,72,.agg [.int .i64 0,.int .i64 0,.int .i64 0,.nil,.nil]⟩),
 (186,⟨.ptr 190,1,8,.raw (.pointer none)⟩),
 (187,⟨.array 8 4,8,8,.agg [.bool false,.bool false,.bool false,.bool false,.bool false,.bool false,.bool false,.bool false]⟩),
 (188,⟨.array 25 187,200,200,.agg (.replicate 200 (.bool false))⟩),
 (189,⟨.struct [(0,188)],200,200,.agg (.replicate 200 (.bool false))⟩),
 (190,⟨.struct [(0,188)],200,200,.agg (.replicate 200 (.bool false))⟩),
 (193,⟨.map 3 3,1,8,.raw (.map none)⟩),
 (194,⟨.struct [(0,3),(1,3)],2,16,.agg [.int .i64 0,.int .i64 0]⟩),
 (195,⟨.struct [(0,3),(1,3)],2,16,.agg [.int .i64 0,.int .i64 0]⟩),
 (197,⟨.ptr 91,1,8,.raw (.pointer none)⟩),
 (206,⟨.ptr 209,1,8,.raw (.pointer none)⟩),
 (207,⟨.map 168 4,1,8,.raw (.map none)⟩),
 (208,⟨.struct [(0,121),(1,39),(2,39),(3,207)],4,64,.agg [.raw (.pointer none),.nil,.nil,.raw (.map none)]⟩),
 (209,⟨.struct [(0,121),(1,39),(2,39),(3,207)],4,64,.agg [.raw (.pointer none),.nil,.nil,.raw (.map none)]⟩),
 (216,⟨.struct [(0,3),(1,3)],2,16,.agg [.int .i64 0,.int .i64 0]⟩),
 (218,⟨.int .u64,1,8,.int .u64 0⟩),
 (223,⟨.ptr 225,1,8,.raw (.pointer none)⟩),
 (224,⟨.struct [(0,22),(1,4)],2,32,.agg [.nil,.bool false]⟩),
 (225,⟨.struct [(0,22),(1,4)],2,32,.agg [.nil,.bool false]⟩),
 (229,⟨.array 2 3,2,16,.agg [.int .i64 0,.int .i64 0]⟩),
 (233,⟨.slice 145,1,24,.nil⟩),
 (238,⟨.slice 168,1,24,.nil⟩),
 (241,⟨.array 4 3,4,32,.agg [.int .i64 0,.int .i64 0,.int .i64 0,.int .i64 0]⟩),
 (244,⟨.map 3 4,1,8,.raw (.map none)⟩),
 (278,⟨.int .i64,1,8,.int .i64 0⟩),
 (285,⟨.int .u32,1,4,.int .u32 0⟩),
 (287,⟨.int .u64,1,8,.int .u64 0⟩),
 (288,⟨.int .u64,1,8,.int .u64 0⟩),
 (292,⟨.ptr 3,1,8,.raw (.pointer none)⟩),
 (294,⟨.ptr 288,1,8,.raw (.pointer none)⟩),
 (306,⟨.ptr 5,1,8,.raw (.pointer none)⟩)]
def Tryz.tyT:Nat->Option TI:=fun t=>qqj t Tryz.tyL
theorem Tryz.tok:TOK Tryz.prog Tryz.tyT:=fun t ti h=>qnN (P:=TIOK Tryz.prog) (l:=Tryz.tyL) ⟨qar,qar,qar,qar,qar,qar,qar,qar,qar,qar,qar,qar,qar,qar,qar,qar,qar,qar,qar,qar,qar,qar,qar,qar,qar,qar,qar,qar,qar,qar,qar,qar,qar,qar,qar,qar,qar,qar,qar,qar,qar,qar,qar,qar,qar,qar,qar,qar,qar,qar,qar,qar,qar,qar,qar,qar,qar,qar,qar,qar,qar,qar,qar,qar,qar,qar,qar,qar,qar,qar,qar,qar,qar,qar,qar,qar,qar,qar,qar,qar,qar,qar,qar,qar,qar,qar,qar,qar,qar,qar,qar,qar,qar,qar,qar,qar,qar,qar,qar,trivial⟩ h
@[go_sem] theorem Tryz.ty2:Tryz.tyT 2=some ⟨.int .i64,1,8,.int .i64 0⟩:=by kernel_rfl
@[go_sem] theorem Tryz.ty3:Tryz.tyT 3=some ⟨.int .i64,1,8,.int .i64 0⟩:=by kernel_rfl
@[go_sem] theorem Tryz.ty4:Tryz.tyT 4=some ⟨.bool,1,1,.bool false⟩:=by kernel_rfl
@[go_sem] theorem Tryz.ty5:Tryz.tyT 5=some ⟨.int .u8,1,1,.int .u8 0⟩:=by kernel_rfl
@[go_sem] theorem Tryz.ty9:Tryz.tyT 9=some ⟨.string,1,16,.raw (.string .empty)⟩:=by kernel_rfl
@[go_sem] theorem Tryz.ty22:Tryz.tyT 22=some ⟨.slice 5,1,24,.nil⟩:=by kernel_rfl
@[go_sem] theorem Tryz.ty23:Tryz.tyT 23=some ⟨.slice 3,1,24,.nil⟩:=by kernel_rfl
@[go_sem] theorem Tryz.ty24:Tryz.tyT 24=some ⟨.slice 157,1,24,.nil⟩:=by kernel_rfl
@[go_sem] theorem Tryz.ty26:Tryz.tyT 26=some ⟨.struct [(0,3),(1,23),(2,24),(3,23)],4,80,.agg [.int .i64 0,.nil,.nil,.nil]⟩:=by kernel_rfl
@[go_sem] theorem Tryz.ty27:Tryz.tyT 27=some ⟨.slice 124,1,24,.nil⟩:=by kernel_rfl
@[go_sem] theorem Tryz.ty30:Tryz.tyT 30=some ⟨.slice 91,1,24,.nil⟩:=by kernel_rfl
@[go_sem] theorem Tryz.ty31:Tryz.tyT 31=some ⟨.slice 110,1,24,.nil⟩:=by kernel_rfl
@[go_sem] theorem Tryz.ty33:Tryz.tyT 33=some ⟨.struct [(0,30),(1,31)],2,48,.agg [.nil,.nil]⟩:=by kernel_rfl
@[go_sem] theorem Tryz.ty38:Tryz.tyT 38=some ⟨.slice 39,1,24,.nil⟩:=by kernel_rfl
@[go_sem] theorem Tryz.ty39:Tryz.tyT 39=some ⟨.slice 4,1,24,.nil⟩:=by kernel_rfl
@[go_sem] theorem Tryz.ty47:Tryz.tyT 47=some ⟨.slice 216,1,24,.nil⟩:=by kernel_rfl
@[go_sem] theorem Tryz.ty49:Tryz.tyT 49=some ⟨.struct [(0,3),(1,23),(2,47),(3,23)],4,80,.agg [.int .i64 0,.nil,.nil,.nil]⟩:=by kernel_rfl
@[go_sem] theorem Tryz.ty67:Tryz.tyT 67=some ⟨.slice 72,1,24,.nil⟩:=by kernel_rfl
@[go_sem] theorem Tryz.ty70:Tryz.tyT 70=some ⟨.slice 195,1,24,.nil⟩:=by kernel_rfl
@[go_sem] theorem Tryz.ty72:Tryz.tyT 72=some ⟨.struct [(0,3),(1,3),(2,70)],3,40,.agg [.int .i64 0,.int .i64 0,.nil]⟩:=by kernel_rfl
@[go_sem] theorem Tryz.ty73:Tryz.tyT 73=some ⟨.slice 76,1,24,.nil⟩:=by kernel_rfl
@[go_sem] theorem Tryz.ty76:Tryz.tyT 76=some ⟨.struct [(0,3),(1,23),(2,3),(3,4)],4,48,.agg [.int .i64 0,.nil,.int .i64 0,.bool false]⟩:=by kernel_rfl
@[go_sem] theorem Tryz.ty82:Tryz.tyT 82=some ⟨.slice 26,1,24,.nil⟩:=by kernel_rfl
@[go_sem] theorem Tryz.ty91:Tryz.tyT 91=some ⟨.struct [(0,3),(1,23),(2,4),(3,23)],4,64,.agg [.int .i64 0,.nil,.bool false,.nil]⟩:=by kernel_rfl
@[go_sem] theorem Tryz.ty92:Tryz.tyT 92=some ⟨.slice 171,1,24,.nil⟩:=by kernel_rfl
@[go_sem] theorem Tryz.ty110:Tryz.tyT 110=some ⟨.struct [(0,3),(1,4)],2,16,.agg [.int .i64 0,.bool false]⟩:=by kernel_rfl
@[go_sem] theorem Tryz.ty113:Tryz.tyT 113=some ⟨.struct [(0,39),(1,39)],2,48,.agg [.nil,.nil]⟩:=by kernel_rfl
@[go_sem] theorem Tryz.ty116:Tryz.tyT 116=some ⟨.struct [(0,39)],1,24,.agg [.nil]⟩:=by kernel_rfl
@[go_sem] theorem Tryz.ty119:Tryz.tyT 119=some ⟨.struct [(0,39),(1,116)],2,48,.agg [.nil,.nil]⟩:=by kernel_rfl
@[go_sem] theorem Tryz.ty121:Tryz.tyT 121=some ⟨.ptr 33,1,8,.raw (.pointer none)⟩:=by kernel_rfl
@[go_sem] theorem Tryz.ty124:Tryz.tyT 124=some ⟨.struct [(0,3),(1,3)],2,16,.agg [.int .i64 0,.int .i64 0]⟩:=by kernel_rfl
@[go_sem] theorem Tryz.ty141:Tryz.tyT 141=some ⟨.slice 144,1,24,.nil⟩:=by kernel_rfl
@[go_sem] theorem Tryz.ty144:Tryz.tyT 144=some ⟨.struct [(0,3),(1,23),(2,3)],3,40,.agg [.int .i64 0,.nil,.int .i64 0]⟩:=by kernel_rfl
@[go_sem] theorem Tryz.ty145:Tryz.tyT 145=some ⟨.slice 23,1,24,.nil⟩:=by kernel_rfl
@[go_sem] theorem Tryz.ty150:Tryz.tyT 150=some ⟨.ptr 155,1,8,.raw (.pointer none)⟩:=by kernel_rfl
@[go_sem] theorem Tryz.ty153:Tryz.tyT 153=some ⟨.map 157 3,1,8,.raw (.map none)⟩:=by kernel_rfl
@[go_sem] theorem Tryz.ty155:Tryz.tyT 155=some ⟨.struct [(0,3),(1,24),(2,23),(3,153)],4,64,.agg [.int .i64 0,.nil,.nil,.raw (.map none)]⟩:=by kernel_rfl
@[go_sem] theorem Tryz.ty157:Tryz.tyT 157=some ⟨.struct [(0,3),(1,3)],2,16,.agg [.int .i64 0,.int .i64 0]⟩:=by kernel_rfl
@[go_sem] theorem Tryz.ty165:Tryz.tyT 165=some ⟨.map 168 3,1,8,.raw (.map none)⟩:=by kernel_rfl
@[go_sem] theorem Tryz.ty168:Tryz.tyT 168=some ⟨.struct [(0,3),(1,3)],2,16,.agg [.int .i64 0,.int .i64 0]⟩:=by kernel_rfl
@[go_sem] theorem Tryz.ty171:Tryz.tyT 171=some ⟨.struct [(0,3),(1,3)],2,16,.agg [.int .i64 0,.int .i64 0]⟩:=by kernel_rfl
@[go_sem] theorem Tryz.ty176:Tryz.tyT 176=some ⟨.struct [(0,22),(1,3)],2,32,.agg [.nil,.int .i64 0]⟩:=by kernel_rfl
@[go_sem] theorem Tryz.ty179:Tryz.tyT 179=some ⟨.slice 182,1,24,.nil⟩:=by kernel_rfl
@[go_sem] theorem Tryz.ty182:Tryz.tyT 182=some ⟨.struct [(0,3),(1,3),(2,3),(3,23),(4,23)],5,72,.agg [.int .i64 0,.int .i64 0,.int .i64 0,.nil,.nil]⟩:=by kernel_rfl
@[go_sem] theorem Tryz.ty187:Tryz.tyT 187=some ⟨.array 8 4,8,8,.agg [.bool false,.bool false,.bool false,.bool false,.bool false,.bool false,.bool false,.bool false]⟩:=by kernel_rfl
@[go_sem] theorem Tryz.ty188:Tryz.tyT 188=some ⟨.array 25 187,200,200,.agg [.bool false,.bool false,.bool false,.bool false,.bool false,.bool false,.bool false,.bool false,.bool false,.bool false,.bool false,.bool false,.bool false,.bool false,.bool false,.bool false,.bool false,.bool false,.bool false,.bool false,.bool false,.bool false,.bool false,.bool false,.bool false,.bool false,.bool false,.bool false,.bool false,.bool false,.bool false,.bool false,.bool false,.bool false,.bool false,.bool false,.bool false,.bool false,.bool false,.bool false,.bool false,.bool false,.bool false,.bool false,.bool false,.bool false,.bool false,.bool false,.bool false,.bool false,.bool false,.bool false,.bool false,.bool false,.bool false,.bool false,.bool false,.bool false,.bool false,.bool false,.bool false,.bool false,.bool false,.bool false,.bool false,.bool false,.bool false,.bool false,.bool false,.bool false,.bool false,.bool false,.bool false,.bool false,.bool false,.bool false,.bool false,.bool false,.bool false,.bool false,.bool false,.bool false,.bool false,.bool false,.bool false,.bool false,.bool false,.bool false,.bool false,.bool false,.bool false,.bool false,.bool false,.bool false,.bool false,.bool false,.bool false,.bool false,.bool false,.bool false,.bool false,.bool false,.bool false,.bool false,.bool false,.bool false,.bool false,.bool false,.bool false,.bool false,.bool false,.bool false,.bool false,.bool false,.bool false,.bool false,.bool false,.bool false,.bool false,.bool false,.bool false,.bool false,.bool false,.bool false,.bool false,.bool false,.bool false,.bool false,.bool false,.bool false,.bool false,.bool false,.bool false,.bool false,.bool false,.bool false,.bool false,.bool false,.bool false,.bool false,.bool false,.bool false,.bool false,.bool false,.bool false,.bool false,.bool false,.bool false,.bool false,.bool false,.bool false,.bool false,.bool false,.bool false,.bool false,.bool false,.bool false,.bool false,.bool false,.bool false,.bool false,.bool false,.bool false,.bool false,.bool false,.bool false,.bool false,.bool false,.bool false,.bool false,.bool false,.bool false,.bool false,.bool false,.bool false,.bool false,.bool false,.bool false,.bool false,.bool false,.bool false,.bool false,.bool false,.bool false,.bool false,.bool false,.bool false,.bool false,.bool false,.bool false,.bool false,.bool false,.bool false,.bool false,.bool false,.bool false,.bool false,.bool false,.bool false,.bool false]⟩:=by kernel_rfl
@[go_sem] theorem Tryz.ty190:Tryz.tyT 190=some ⟨.struct [(0,188)],200,200,.agg [.bool false,.bool false,.bool false,.bool false,.bool false,.bool false,.bool false,.bool false,.bool false,.bool false,.bool false,.bool false,.bool false,.bool false,.bool false,.bool false,.bool false,.bool false,.bool false,.bool false,.bool false,.bool false,.bool false,.bool false,.bool false,.bool false,.bool false,.bool false,.bool false,.bool false,.bool false,.bool false,.bool false,.bool false,.bool false,.bool false,.bool false,.bool false,.bool false,.bool false,.bool false,.bool false,.bool false,.bool false,.bool false,.bool false,.bool false,.bool false,.bool false,.bool false,.bool false,.bool false,.bool false,.bool false,.bool false,.bool false,.bool false,.bool false,.bool false,.bool false,.bool false,.bool false,.bool false,.bool false,.bool false,.bool false,.bool false,.bool false,.bool false,.bool false,.bool false,.bool false,.bool false,.bool false,.bool false,.bool false,.bool false,.bool false,.bool false,.bool false,.bool false,.bool false,.bool false,.bool false,.bool false,.bool false,.bool false,.bool false,.bool false,.bool false,.bool false,.bool false,.bool false,.bool false,.bool false,.bool false,.bool false,.bool false,.bool false,.bool false,.bool false,.bool false,.bool false,.bool false,.bool false,.bool false,.bool false,.bool false,.bool false,.bool false,.bool false,.bool false,.bool false,.bool false,.bool false,.bool false,.bool false,.bool false,.bool false,.bool false,.bool false,.bool false,.bool false,.bool false,.bool false,.bool false,.bool false,.bool false,.bool false,.bool false,.bool false,.bool false,.bool false,.bool false,.bool false,.bool false,.bool false,.bool false,.bool false,.bool false,.bool false,.bool false,.bool false,.bool false,.bool false,.bool false,.bool false,.bool false,.bool false,.bool false,.bool false,.bool false,.bool false,.bool false,.bool false,.bool false,.bool false,.bool false,.bool false,.bool false,.bool false,.bool false,.bool false,.bool false,.bool false,.bool false,.bool false,.bool false,.bool false,.bool false,.bool false,.bool false,.bool false,.bool false,.bool false,.bool false,.bool false,.bool false,.bool false,.bool false,.bool false,.bool false,.bool false,.bool false,.bool false,.bool false,.bool false,.bool false,.bool false,.bool false,.bool false,.bool false,.bool false,.bool false,.bool false,.bool false,.bool false,.bool false,.bool false,.bool false]⟩:=by kernel_rfl
@[go_sem] theorem Tryz.ty193:Tryz.tyT 193=some ⟨.map 3 3,1,8,.raw (.map none)⟩:=by kernel_rfl
@[go_sem] theorem Tryz.ty195:Tryz.tyT 195=some ⟨.struct [(0,3),(1,3)],2,16,.agg [.int .i64 0,.int .i64 0]⟩:=by kernel_rfl
@[go_sem] theorem Tryz.ty207:Tryz.tyT 207=some ⟨.map 168 4,1,8,.raw (.map none)⟩:=by kernel_rfl
@[go_sem] theorem Tryz.ty209:Tryz.tyT 209=some ⟨.struct [(0,121),(1,39),(2,39),(3,207)],4,64,.agg [.raw (.pointer none),.nil,.nil,.raw (.map none)]⟩:=by kernel_rfl
@[go_sem] theorem Tryz.ty216:Tryz.tyT 216=some ⟨.struct [(0,3),(1,3)],2,16,.agg [.int .i64 0,.int .i64 0]⟩:=by kernel_rfl
@[go_sem] theorem Tryz.ty218:Tryz.tyT 218=some ⟨.int .u64,1,8,.int .u64 0⟩:=by kernel_rfl
@[go_sem] theorem Tryz.ty225:Tryz.tyT 225=some ⟨.struct [(0,22),(1,4)],2,32,.agg [.nil,.bool false]⟩:=by kernel_rfl
@[go_sem] theorem Tryz.ty229:Tryz.tyT 229=some ⟨.array 2 3,2,16,.agg [.int .i64 0,.int .i64 0]⟩:=by kernel_rfl
@[go_sem] theorem Tryz.ty233:Tryz.tyT 233=some ⟨.slice 145,1,24,.nil⟩:=by kernel_rfl
@[go_sem] theorem Tryz.ty238:Tryz.tyT 238=some ⟨.slice 168,1,24,.nil⟩:=by kernel_rfl
@[go_sem] theorem Tryz.ty241:Tryz.tyT 241=some ⟨.array 4 3,4,32,.agg [.int .i64 0,.int .i64 0,.int .i64 0,.int .i64 0]⟩:=by kernel_rfl
@[go_sem] theorem Tryz.ty244:Tryz.tyT 244=some ⟨.map 3 4,1,8,.raw (.map none)⟩:=by kernel_rfl
@[go_sem] theorem Tryz.ty285:Tryz.tyT 285=some ⟨.int .u32,1,4,.int .u32 0⟩:=by kernel_rfl
@[go_sem] theorem Tryz.ty287:Tryz.tyT 287=some ⟨.int .u64,1,8,.int .u64 0⟩:=by kernel_rfl
def Tryz.pf:Nat->Kind
 | 18=>.proc
 | 19=>.proc
 | 29=>.proc
 | 30=>.proc
 | 34=>.proc
 | 53=>.proc
 | 63=>.proc
 | 65=>.proc
 | 66=>.proc
 | 67=>.proc
 | 92=>.proc
 | 93=>.proc
 | 94=>.proc
 | 98=>.proc
 | 102=>.proc
 | 105=>.proc
 | 106=>.proc
 | 107=>.proc
 | 112=>.proc
 | 113=>.proc
 | 116=>.proc
 | 117=>.proc
 | 125=>.proc
 | 126=>.proc
 | 127=>.proc
 | 132=>.proc
 | 141=>.proc
 | 147=>.proc
 | 149=>.proc
 | 159=>.proc
 | 163=>.proc
 | 165=>.proc
 | 166=>.proc
 | 167=>.proc
 | 169=>.proc
 | 170=>.proc
 | 175=>.proc
 | 183=>.proc
 | 188=>.proc
 | 195=>.proc
 | 199=>.proc
 | 201=>.proc
 | 208=>.proc
 | 209=>.proc
 | 211=>.proc
 | 216=>.proc
 | 217=>.proc
 | 218=>.proc
 | 219=>.proc
 | 226=>.proc
 | 227=>.proc
 | 230=>.proc
 | 12=>.fz
 | 32=>.fz
 | 35=>.fz
 | 40=>.fz
 | 55=>.fz
 | 56=>.fz
 | 69=>.fz
 | 75=>.fz
 | 76=>.fz
 | 85=>.fz
 | 96=>.fz
 | 97=>.fz
 | 99=>.fz
 | 101=>.fz
 | 109=>.fz
 | 137=>.fz
 | 152=>.fz
 | 176=>.fz
 | 189=>.fz
 | 190=>.fz
 | _=>.own
@[go_sem] theorem Tryz.pf13:Tryz.pf 13=.own:=rfl
@[go_sem] theorem Tryz.pf17:Tryz.pf 17=.own:=rfl
@[go_sem] theorem Tryz.pf18:Tryz.pf 18=.proc:=rfl
@[go_sem] theorem Tryz.pf19:Tryz.pf 19=.proc:=rfl
@[go_sem] theorem Tryz.pf21:Tryz.pf 21=.own:=rfl
@[go_sem] theorem Tryz.pf22:Tryz.pf 22=.own:=rfl
@[go_sem] theorem Tryz.pf26:Tryz.pf 26=.own:=rfl
@[go_sem] theorem Tryz.pf33:Tryz.pf 33=.own:=rfl
@[go_sem] theorem Tryz.pf34:Tryz.pf 34=.proc:=rfl
@[go_sem] theorem Tryz.pf40:Tryz.pf 40=.fz:=rfl
@[go_sem] theorem Tryz.pf45:Tryz.pf 45=.own:=rfl
@[go_sem] theorem Tryz.pf46:Tryz.pf 46=.own:=rfl
@[go_sem] theorem Tryz.pf47:Tryz.pf 47=.own:=rfl
@[go_sem] theorem Tryz.pf48:Tryz.pf 48=.own:=rfl
@[go_sem] theorem Tryz.pf49:Tryz.pf 49=.own:=rfl
@[go_sem] theorem Tryz.pf51:Tryz.pf 51=.own:=rfl
@[go_sem] theorem Tryz.pf57:Tryz.pf 57=.own:=rfl
@[go_sem] theorem Tryz.pf59:Tryz.pf 59=.own:=rfl
@[go_sem] theorem Tryz.pf64:Tryz.pf 64=.own:=rfl
@[go_sem] theorem Tryz.pf68:Tryz.pf 68=.own:=rfl
@[go_sem] theorem Tryz.pf69:Tryz.pf 69=.fz:=rfl
@[go_sem] theorem Tryz.pf70:Tryz.pf 70=.own:=rfl
@[go_sem] theorem Tryz.pf71:Tryz.pf 71=.own:=rfl
@[go_sem] theorem Tryz.pf78:Tryz.pf 78=.own:=rfl
@[go_sem] theorem Tryz.pf79:Tryz.pf 79=.own:=rfl
@[go_sem] theorem Tryz.pf80:Tryz.pf 80=.own:=rfl
@[go_sem] theorem Tryz.pf81:Tryz.pf 81=.own:=rfl
@[go_sem] theorem Tryz.pf89:Tryz.pf 89=.own:=rfl
@[go_sem] theorem Tryz.pf95:Tryz.pf 95=.own:=rfl
@[go_sem] theorem Tryz.pf96:Tryz.pf 96=.fz:=rfl
@[go_sem] theorem Tryz.pf101:Tryz.pf 101=.fz:=rfl
@[go_sem] theorem Tryz.pf102:Tryz.pf 102=.proc:=rfl
@[go_sem] theorem Tryz.pf103:Tryz.pf 103=.own:=rfl
@[go_sem] theorem Tryz.pf104:Tryz.pf 104=.own:=rfl
@[go_sem] theorem Tryz.pf105:Tryz.pf 105=.proc:=rfl
@[go_sem] theorem Tryz.pf106:Tryz.pf 106=.proc:=rfl
@[go_sem] theorem Tryz.pf107:Tryz.pf 107=.proc:=rfl
@[go_sem] theorem Tryz.pf108:Tryz.pf 108=.own:=rfl
@[go_sem] theorem Tryz.pf117:Tryz.pf 117=.proc:=rfl
@[go_sem] theorem Tryz.pf120:Tryz.pf 120=.own:=rfl
@[go_sem] theorem Tryz.pf123:Tryz.pf 123=.own:=rfl
@[go_sem] theorem Tryz.pf124:Tryz.pf 124=.own:=rfl
@[go_sem] theorem Tryz.pf127:Tryz.pf 127=.proc:=rfl
@[go_sem] theorem Tryz.pf128:Tryz.pf 128=.own:=rfl
@[go_sem] theorem Tryz.pf129:Tryz.pf 129=.own:=rfl
@[go_sem] theorem Tryz.pf130:Tryz.pf 130=.own:=rfl
@[go_sem] theorem Tryz.pf131:Tryz.pf 131=.own:=rfl
@[go_sem] theorem Tryz.pf132:Tryz.pf 132=.proc:=rfl
@[go_sem] theorem Tryz.pf133:Tryz.pf 133=.own:=rfl
@[go_sem] theorem Tryz.pf145:Tryz.pf 145=.own:=rfl
@[go_sem] theorem Tryz.pf146:Tryz.pf 146=.own:=rfl
@[go_sem] theorem Tryz.pf147:Tryz.pf 147=.proc:=rfl
@[go_sem] theorem Tryz.pf148:Tryz.pf 148=.own:=rfl
@[go_sem] theorem Tryz.pf149:Tryz.pf 149=.proc:=rfl
@[go_sem] theorem Tryz.pf156:Tryz.pf 156=.own:=rfl
@[go_sem] theorem Tryz.pf157:Tryz.pf 157=.own:=rfl
@[go_sem] theorem Tryz.pf160:Tryz.pf 160=.own:=rfl
@[go_sem] theorem Tryz.pf161:Tryz.pf 161=.own:=rfl
@[go_sem] theorem Tryz.pf162:Tryz.pf 162=.own:=rfl
@[go_sem] theorem Tryz.pf163:Tryz.pf 163=.proc:=rfl
@[go_sem] theorem Tryz.pf164:Tryz.pf 164=.own:=rfl
@[go_sem] theorem Tryz.pf165:Tryz.pf 165=.proc:=rfl
@[go_sem] theorem Tryz.pf166:Tryz.pf 166=.proc:=rfl
@[go_sem] theorem Tryz.pf167:Tryz.pf 167=.proc:=rfl
@[go_sem] theorem Tryz.pf168:Tryz.pf 168=.own:=rfl
@[go_sem] theorem Tryz.pf173:Tryz.pf 173=.own:=rfl
@[go_sem] theorem Tryz.pf174:Tryz.pf 174=.own:=rfl
@[go_sem] theorem Tryz.pf175:Tryz.pf 175=.proc:=rfl
@[go_sem] theorem Tryz.pf176:Tryz.pf 176=.fz:=rfl
@[go_sem] theorem Tryz.pf181:Tryz.pf 181=.own:=rfl
@[go_sem] theorem Tryz.pf184:Tryz.pf 184=.own:=rfl
@[go_sem] theorem Tryz.pf185:Tryz.pf 185=.own:=rfl
@[go_sem] theorem Tryz.pf186:Tryz.pf 186=.own:=rfl
@[go_sem] theorem Tryz.pf187:Tryz.pf 187=.own:=rfl
@[go_sem] theorem Tryz.pf188:Tryz.pf 188=.proc:=rfl
@[go_sem] theorem Tryz.pf197:Tryz.pf 197=.own:=rfl
@[go_sem] theorem Tryz.pf198:Tryz.pf 198=.own:=rfl
@[go_sem] theorem Tryz.pf199:Tryz.pf 199=.proc:=rfl
@[go_sem] theorem Tryz.pf203:Tryz.pf 203=.own:=rfl
@[go_sem] theorem Tryz.pf208:Tryz.pf 208=.proc:=rfl
@[go_sem] theorem Tryz.pf209:Tryz.pf 209=.proc:=rfl
@[go_sem] theorem Tryz.pf210:Tryz.pf 210=.own:=rfl
@[go_sem] theorem Tryz.pf211:Tryz.pf 211=.proc:=rfl
@[go_sem] theorem Tryz.pf217:Tryz.pf 217=.proc:=rfl
@[go_sem] theorem Tryz.pf218:Tryz.pf 218=.proc:=rfl
@[go_sem] theorem Tryz.pf219:Tryz.pf 219=.proc:=rfl
@[go_sem] theorem Tryz.pf220:Tryz.pf 220=.own:=rfl
@[go_sem] theorem Tryz.pf221:Tryz.pf 221=.own:=rfl
@[go_sem] theorem Tryz.pf222:Tryz.pf 222=.own:=rfl
@[go_sem] theorem Tryz.pf223:Tryz.pf 223=.own:=rfl
@[go_sem] theorem Tryz.pf226:Tryz.pf 226=.proc:=rfl
@[go_sem] theorem Tryz.pf227:Tryz.pf 227=.proc:=rfl
@[go_sem] theorem Tryz.pf228:Tryz.pf 228=.own:=rfl
@[go_sem] theorem Tryz.pf229:Tryz.pf 229=.own:=rfl
@[go_sem] theorem Tryz.pf230:Tryz.pf 230=.proc:=rfl
@[go_sem] theorem Tryz.pf236:Tryz.pf 236=.own:=rfl
@[go_sem] theorem Tryz.pf240:Tryz.pf 240=.own:=rfl
@[go_sem] theorem Tryz.pf246:Tryz.pf 246=.own:=rfl
noncomputable def Tryz.env (n:Nat):Env:=⟨Tryz.prog,Tryz.tyT,Tryz.pf,n,.low⟩
@[go_sem] theorem Tryz.env_deep (n:Nat):(Tryz.env n).deep=.low:=rfl
noncomputable def Tryz.envd (n:Nat):Env:=⟨Tryz.prog,Tryz.tyT,Tryz.pf,n,.both⟩
@[go_sem] theorem Tryz.envd_deep (n:Nat):(Tryz.envd n).deep=.both:=rfl
@[go_sem] theorem Tryz.envd_T (n:Nat):(Tryz.envd n).T=Tryz.tyT:=rfl
@[go_sem] theorem Tryz.envd_n (n:Nat):(Tryz.envd n).n=n:=rfl
@[go_sem] theorem Tryz.envd_pf (n f:Nat):(Tryz.envd n).pf f=Tryz.pf f:=rfl
@[go_sem] theorem Tryz.envd_P (n:Nat):(Tryz.envd n).P=Tryz.prog:=rfl
noncomputable def Tryz.envf (n:Nat):Env:=⟨Tryz.prog,Tryz.tyT,Tryz.pf,n,.frz⟩
@[go_sem] theorem Tryz.envf_deep (n:Nat):(Tryz.envf n).deep=.frz:=rfl
@[go_sem] theorem Tryz.envf_T (n:Nat):(Tryz.envf n).T=Tryz.tyT:=rfl
@[go_sem] theorem Tryz.envf_n (n:Nat):(Tryz.envf n).n=n:=rfl
@[go_sem] theorem Tryz.envf_pf (n f:Nat):(Tryz.envf n).pf f=Tryz.pf f:=rfl
@[go_sem] theorem Tryz.envf_P (n:Nat):(Tryz.envf n).P=Tryz.prog:=rfl
@[go_sem] theorem Tryz.env_T (n:Nat):(Tryz.env n).T=Tryz.tyT:=rfl
@[go_sem] theorem Tryz.env_n (n:Nat):(Tryz.env n).n=n:=rfl
@[go_sem] theorem Tryz.env_pf (n f:Nat):(Tryz.env n).pf f=Tryz.pf f:=rfl
@[go_sem] theorem Tryz.env_P (n:Nat):(Tryz.env n).P=Tryz.prog:=rfl
@[go_sem] theorem Tryz.follows:Tryz.prog.follows .mixedOrders=true:=by kernel_rfl
attribute [go_sem] Tryz.results3 Tryz.results4 Tryz.results5 Tryz.results6 Tryz.results7 Tryz.results8 Tryz.results9 Tryz.results10 Tryz.results11 Tryz.results12 Tryz.results13 Tryz.results14 Tryz.results15 Tryz.results16 Tryz.results17 Tryz.results18 Tryz.results19 Tryz.results20 Tryz.results21 Tryz.results22 Tryz.results23 Tryz.results24 Tryz.results25 Tryz.results26 Tryz.results27 Tryz.results28 Tryz.results29 Tryz.results30 Tryz.results31 Tryz.results32 Tryz.results33 Tryz.results34 Tryz.results35 Tryz.results36 Tryz.results37 Tryz.results38 Tryz.results39 Tryz.results40 Tryz.results41 Tryz.results42 Tryz.results43 Tryz.results44 Tryz.results45 Tryz.results46 Tryz.results47 Tryz.results48 Tryz.results49 Tryz.results50 Tryz.results51 Tryz.results52 Tryz.results53 Tryz.results54 Tryz.results55 Tryz.results56 Tryz.results57 Tryz.results58 Tryz.results59 Tryz.results60 Tryz.results61 Tryz.results62 Tryz.results63 Tryz.results64 Tryz.results65 Tryz.results66 Tryz.results67 Tryz.results68 Tryz.results69 Tryz.results70 Tryz.results71 Tryz.results72 Tryz.results73 Tryz.results74 Tryz.results75 Tryz.results76 Tryz.results77 Tryz.results78 Tryz.results79 Tryz.results80 Tryz.results81 Tryz.results82 Tryz.results83 Tryz.results84 Tryz.results85 Tryz.results86 Tryz.results87 Tryz.results88 Tryz.results89 Tryz.results90 Tryz.results91 Tryz.results92 Tryz.results93 Tryz.results94 Tryz.results95 Tryz.results96 Tryz.results97 Tryz.results98 Tryz.results99 Tryz.results100 Tryz.results101 Tryz.results102 Tryz.results103 Tryz.results104 Tryz.results105 Tryz.results106 Tryz.results107 Tryz.results108 Tryz.results109 Tryz.results110 Tryz.results111 Tryz.results112 Tryz.results113 Tryz.results114 Tryz.results115 Tryz.results116 Tryz.results117 Tryz.results118 Tryz.results119 Tryz.results120 Tryz.results121 Tryz.results122 Tryz.results123 Tryz.results124 Tryz.results125 Tryz.results126 Tryz.results127 Tryz.results128 Tryz.results129 Tryz.results130 Tryz.results131 Tryz.results132 Tryz.results133 Tryz.results134 Tryz.results135 Tryz.results136 Tryz.results137 Tryz.results138 Tryz.results139 Tryz.results140 Tryz.results141 Tryz.results142 Tryz.results143 Tryz.results144 Tryz.results145 Tryz.results146 Tryz.results147 Tryz.results148 Tryz.results149 Tryz.results150 Tryz.results151 Tryz.results152 Tryz.results153 Tryz.results154 Tryz.results155 Tryz.results156 Tryz.results157 Tryz.results158 Tryz.results159 Tryz.results160 Tryz.results161 Tryz.results162 Tryz.results163 Tryz.results164 Tryz.results165 Tryz.results166 Tryz.results167 Tryz.results168 Tryz.results169 Tryz.results170 Tryz.results171 Tryz.results172 Tryz.results173 Tryz.results174 Tryz.results175 Tryz.results176 Tryz.results177 Tryz.results178 Tryz.results179 Tryz.results180 Tryz.results181 Tryz.results182 Tryz.results183 Tryz.results184 Tryz.results185 Tryz.results186 Tryz.results187 Tryz.results188 Tryz.results189 Tryz.results190 Tryz.results191 Tryz.results192 Tryz.results193 Tryz.results194 Tryz.results195 Tryz.results196 Tryz.results197 Tryz.results198 Tryz.results199 Tryz.results200 Tryz.results201 Tryz.results202 Tryz.results203 Tryz.results204 Tryz.results205 Tryz.results206 Tryz.results207 Tryz.results208 Tryz.results209 Tryz.results210 Tryz.results211 Tryz.results212 Tryz.results213 Tryz.results214 Tryz.results215 Tryz.results216 Tryz.results217 Tryz.results218 Tryz.results219 Tryz.results220 Tryz.results221 Tryz.results222 Tryz.results223 Tryz.results224 Tryz.results225 Tryz.results226 Tryz.results227 Tryz.results228 Tryz.results229 Tryz.results230 Tryz.results231 Tryz.results232 Tryz.results233 Tryz.results234 Tryz.results235 Tryz.results236 Tryz.results237 Tryz.results238 Tryz.results239 Tryz.results240 Tryz.results241 Tryz.results242 Tryz.results243 Tryz.results244 Tryz.results245 Tryz.results246 Tryz.results247
theorem qav {f : Nat} {fn : Func} {c : Code} {nt : Nat} {ds : List D} {x : D} (hf : Tryz.prog.funcs[f]? = some fn) (hb : fn.body = some c) (hnt : fn.ntmps = nt) (h : okL ds -> qaQ (Tryz.env 0) 1000 c [] (endsWith (Tryz.env 0).T fn (fun fr r H' => pkR x (pk H' 3 r))) ⟨nt, qdo 0 (ds.map .d)⟩ []) (hnm : (fn.name == "runtime.NumGoroutine") = false := by rfl) (hl : ds.length <= nt := by simp) : Pure Tryz.prog f ds x :=
 qsM (E:=Tryz.env 0) Tryz.tok rfl 1000 hf hb hnm hnt hl h
theorem qaP {n:Nat}{fr:Fr}{H:List R}{Q:Post}{id:Nat}{l:List Oper}{ks:List VL.Item}(tails:List Nat) (t:Sch) (h:runS (Tryz.env n) 1000 l tails (endK (Tryz.env n) 1000 ks Q) t fr H) (hc:chkT l.toArray tails t=true:=by kernel_rfl):iwp (Tryz.env n).P (Tryz.env n).n (.region id l.toArray true) (qbv (Tryz.env n) ks Q) fr H:=
 qsR (E:=Tryz.env n) Tryz.tok Tryz.follows 1000 1000 tails t hc h
end Go.Proofs
