/- The table of the types of a translation, and that it is right. Made by a program. Conditions: none. -/
import Derived.Test.YteikeianenfhaaaGreatProg
import Derived.Test.YteikeianenfhaaaGreatVM8
import Derived.KernelRfl
set_option linter.unusedVariables false
set_option maxRecDepth 20000
set_option maxHeartbeats 2000000
namespace Go.Proofs
set_option linter.defProp false
open Go.VL
def qaB {P:Program}{t:Nat}{ti:TI}(h1:(P.info? t).map (fun i=>(i.size,i.bytes,i.zero))=some (ti.size,ti.bytes,some (qaj ti.zero)):=by kernel_rfl) (h2:(P.underlying t).map tyOf=some ti.ty:=by kernel_rfl) (h3:qgf ti.zero=true:=by kernel_rfl) (h4:ti.zero.cells.length=ti.size:=by kernel_rfl) (h5:(match ti.zero with|.agg _=>true|_=>false)=ti.ty.agg:=by kernel_rfl) (h6:qoP P t=true:=by kernel_rfl):TIOK P t ti:=tiok_of h1 h2 h3 h4 h5 h6
def qpL (t:Nat):List (Nat×TI)->Option TI
 | []=>none
 | (s,x)::r=>cond (Nat.beq s t) (some x) (qpL t r)
def AllT (P:Nat->TI->Prop):List (Nat×TI)->Prop
 | []=>True
 | (s,x)::r=>P s x/\AllT P r
def qno {P:Nat->TI->Prop}{t:Nat}{ti:TI} : ∀ {l:List (Nat×TI)},AllT P l->qpL t l=some ti->P t ti
 | [],_,h=>by simp[qpL] at h
 | (s,x)::r,ha,h=>by
  simp only[qpL] at h;cases e:Nat.beq s t with
  | true=>
   rw[e] at h;cases h;rw[Nat.eq_of_beq_eq_true e] at ha;exact ha.1
  | false=>
   rw[e] at h;exact qno ha.2 h
def Tryz.tyL:List (Nat×TI):=[
 (2,⟨.int .i64,1,8,.int .i64 0⟩),
 (3,⟨.int .i64,1,8,.int .i64 0⟩),
 (4,⟨.bool,1,1,.bool false⟩),
 (5,⟨.int .u8,1,1,.int .u8 0⟩),
 (9,⟨.string,1,16,.raw (.string .empty)⟩),
 (12,⟨.int .u64,1,8,.int .u64 0⟩),
 (13,⟨.struct [(0,9),(1,12)],2,24,.agg [.raw (.string .empty),.int .u64 0]⟩),
 (21,⟨.int .i32,1,4,.int .i32 0⟩),
 (22,⟨.slice 5,1,24,.nil⟩),
 (23,⟨.slice 3,1,24,.nil⟩),
 (24,⟨.slice 157,1,24,.nil⟩),
 (25,⟨.struct [(0,3),(1,23),(2,24),(3,23)],4,80,.agg [.int .i64 0,.nil,.nil,.nil]⟩),
 (26,⟨.struct [(0,3),(1,23),(2,24),(3,23)],4,80,.agg [.int .i64 0,.nil,.nil,.nil]⟩),
 (27,⟨.slice 124,1,24,.nil⟩),
 (30,⟨.slice 91,1,24,.nil⟩),
 (31,⟨.slice 110,1,24,.nil⟩),
 (32,⟨.struct [(0,30),(1,31)],2,48,.agg [.nil,.nil]⟩),
 (33,⟨.struct [(0,30),(1,31)],2,48,.agg [.nil,.nil]⟩),
 (38,⟨.slice 39,1,24,.nil⟩),
 (39,⟨.slice 4,1,24,.nil⟩),
 (47,⟨.slice 216,1,24,.nil⟩),
 (48,⟨.struct [(0,3),(1,23),(2,47),(3,23)],4,80,.agg [.int .i64 0,.nil,.nil,.nil]⟩),
 (49,⟨.struct [(0,3),(1,23),(2,47),(3,23)],4,80,.agg [.int .i64 0,.nil,.nil,.nil]⟩),
 (67,⟨.slice 72,1,24,.nil⟩),
 (70,⟨.slice 195,1,24,.nil⟩),
 (71,⟨.struct [(0,3),(1,3),(2,70)],3,40,.agg [.int .i64 0,.int .i64 0,.nil]⟩),
 (72,⟨.struct [(0,3),(1,3),(2,70)],3,40,.agg [.int .i64 0,.int .i64 0,.nil]⟩),
 (73,⟨.slice 76,1,24,.nil⟩),
 (75,⟨.struct [(0,3),(1,23),(2,3),(3,4)],4,48,.agg [.int .i64 0,.nil,.int .i64 0,.bool false]⟩),
 (76,⟨.struct [(0,3),(1,23),(2,3),(3,4)],4,48,.agg [.int .i64 0,.nil,.int .i64 0,.bool false]⟩),
 (82,⟨.slice 26,1,24,.nil⟩),
 (90,⟨.struct [(0,3),(1,23),(2,4),(3,23)],4,64,.agg [.int .i64 0,.nil,.bool false,.nil]⟩),
 (91,⟨.struct [(0,3),(1,23),(2,4),(3,23)],4,64,.agg [.int .i64 0,.nil,.bool false,.nil]⟩),
 (92,⟨.slice 171,1,24,.nil⟩),
 (98,⟨.ptr 176,1,8,.raw (.pointer none)⟩),
 (105,⟨.ptr 26,1,8,.raw (.pointer none)⟩),
 (109,⟨.struct [(0,3),(1,4)],2,16,.agg [.int .i64 0,.bool false]⟩),
 (110,⟨.struct [(0,3),(1,4)],2,16,.agg [.int .i64 0,.bool false]⟩),
 (112,⟨.struct [(0,39),(1,39)],2,48,.agg [.nil,.nil]⟩),
 (113,⟨.struct [(0,39),(1,39)],2,48,.agg [.nil,.nil]⟩),
 (115,⟨.struct [(0,39)],1,24,.agg [.nil]⟩),
 (116,⟨.struct [(0,39)],1,24,.agg [.nil]⟩),
 (118,⟨.struct [(0,39),(1,116)],2,48,.agg [.nil,.nil]⟩),
 (119,⟨.struct [(0,39),(1,116)],2,48,.agg [.nil,.nil]⟩),
 (121,⟨.ptr 33,1,8,.raw (.pointer none)⟩),
 (123,⟨.struct [(0,3),(1,3)],2,16,.agg [.int .i64 0,.int .i64 0]⟩),
 (124,⟨.struct [(0,3),(1,3)],2,16,.agg [.int .i64 0,.int .i64 0]⟩),
 (135,⟨.map 229 3,1,8,.raw (.map none)⟩),
 (136,⟨.struct [(0,73),(1,135),(2,23)],3,56,.agg [.nil,.raw (.map none),.nil]⟩),
 (137,⟨.struct [(0,73),(1,135),(2,23)],3,56,.agg [.nil,.raw (.map none),.nil]⟩),
 (141,⟨.slice 144,1,24,.nil⟩),
 (143,⟨.struct [(0,3),(1,23),(2,3)],3,40,.agg [.int .i64 0,.nil,.int .i64 0]⟩),
 (144,⟨.struct [(0,3),(1,23),(2,3)],3,40,.agg [.int .i64 0,.nil,.int .i64 0]⟩),
 (145,⟨.slice 23,1,24,.nil⟩),
 (150,⟨.ptr 155,1,8,.raw (.pointer none)⟩),
 (153,⟨.map 157 3,1,8,.raw (.map none)⟩),
 (154,⟨.struct [(0,3),(1,24),(2,23),(3,153)],4,64,.agg [.int .i64 0,.nil,.nil,.raw (.map none)]⟩),
 (155,⟨.struct [(0,3),(1,24),(2,23),(3,153)],4,64,.agg [.int .i64 0,.nil,.nil,.raw (.map none)]⟩),
 (156,⟨.struct [(0,3),(1,3)],2,16,.agg [.int .i64 0,.int .i64 0]⟩),
 (157,⟨.struct [(0,3),(1,3)],2,16,.agg [.int .i64 0,.int .i64 0]⟩),
 (165,⟨.map 168 3,1,8,.raw (.map none)⟩),
 (167,⟨.struct [(0,3),(1,3)],2,16,.agg [.int .i64 0,.int .i64 0]⟩),
 (168,⟨.struct [(0,3),(1,3)],2,16,.agg [.int .i64 0,.int .i64 0]⟩),
 (171,⟨.struct [(0,3),(1,3)],2,16,.agg [.int .i64 0,.int .i64 0]⟩),
 (175,⟨.struct [(0,22),(1,3)],2,32,.agg [.nil,.int .i64 0]⟩),
 (176,⟨.struct [(0,22),(1,3)],2,32,.agg [.nil,.int .i64 0]⟩),
 (179,⟨.slice 182,1,24,.nil⟩),
 (181,⟨.struct [(0,3),(1,3),(2,3),(3,23),(4,23)],5,72,.agg [.int .i64 0,.int .i64 0,.int .i64 0,.nil,.nil]⟩),
 (182,⟨.struct [(0,3),(1,3),(2,3),(3,23),(4,23)],5,72,.agg [.int .i64 0,.int .i64 0,.int .i64 0,.nil,.nil]⟩),
 (186,⟨.ptr 190,1,8,.raw (.pointer none)⟩),
 (187,⟨.array 8 4,8,8,.agg [.bool false,.bool false,.bool false,.bool false,.bool false,.bool false,.bool false,.bool false]⟩),
 (188,⟨.array 25 187,200,200,.agg (.replicate 200 (.bool false))⟩),
 (189,⟨.struct [(0,188)],200,200,.agg (.replicate 200 (.bool false))⟩),
 (190,⟨.struct [(0,188)],200,200,.agg (.replicate 200 (.bool false))⟩),
 (193,⟨.map 3 3,1,8,.raw (.map none)⟩),
 (194,⟨.struct [(0,3),(1,3)],2,16,.agg [.int .i64 0,.int .i64 0]⟩),
 (195,⟨.struct [(0,3),(1,3)],2,16,.agg [.int .i64 0,.int .i64 0]⟩),
 (197,⟨.ptr 91,1,8,.raw (.pointer none)⟩),
 (206,⟨.ptr 209,1,8,.raw (.pointer none)⟩),
 (207,⟨.map 168 4,1,8,.raw (.map none)⟩),
 (208,⟨.struct [(0,121),(1,39),(2,39),(3,207)],4,64,.agg [.raw (.pointer none),.nil,.nil,.raw (.map none)]⟩),
 (209,⟨.struct [(0,121),(1,39),(2,39),(3,207)],4,64,.agg [.raw (.pointer none),.nil,.nil,.raw (.map none)]⟩),
 (216,⟨.struct [(0,3),(1,3)],2,16,.agg [.int .i64 0,.int .i64 0]⟩),
 (218,⟨.int .u64,1,8,.int .u64 0⟩),
 (223,⟨.ptr 225,1,8,.raw (.pointer none)⟩),
 (224,⟨.struct [(0,22),(1,4)],2,32,.agg [.nil,.bool false]⟩),
 (225,⟨.struct [(0,22),(1,4)],2,32,.agg [.nil,.bool false]⟩),
 (229,⟨.array 2 3,2,16,.agg [.int .i64 0,.int .i64 0]⟩),
 (233,⟨.slice 145,1,24,.nil⟩),
 (238,⟨.slice 168,1,24,.nil⟩),
 (241,⟨.array 4 3,4,32,.agg [.int .i64 0,.int .i64 0,.int .i64 0,.int .i64 0]⟩),
 (244,⟨.map 3 4,1,8,.raw (.map none)⟩),
 (278,⟨.int .i64,1,8,.int .i64 0⟩),
 (285,⟨.int .u32,1,4,.int .u32 0⟩),
 (287,⟨.int .u64,1,8,.int .u64 0⟩),
 (288,⟨.int .u64,1,8,.int .u64 0⟩),
 (292,⟨.ptr 3,1,8,.raw (.pointer none)⟩),
 (294,⟨.ptr 288,1,8,.raw (.pointer none)⟩),
 (306,⟨.ptr 5,1,8,.raw (.pointer none)⟩)]
def Tryz.tyT:Nat->Option TI:=fun t=>qpL t Tryz.tyL
def Tryz.tok:TOK Tryz.prog Tryz.tyT:=fun t ti h=>qno (P:=TIOK Tryz.prog) (l:=Tryz.tyL) ⟨qaB,qaB,qaB,qaB,qaB,qaB,qaB,qaB,qaB,qaB,qaB,qaB,qaB,qaB,qaB,qaB,qaB,qaB,qaB,qaB,qaB,qaB,qaB,qaB,qaB,qaB,qaB,qaB,qaB,qaB,qaB,qaB,qaB,qaB,qaB,qaB,qaB,qaB,qaB,qaB,qaB,qaB,qaB,qaB,qaB,qaB,qaB,qaB,qaB,qaB,qaB,qaB,qaB,qaB,qaB,qaB,qaB,qaB,qaB,qaB,qaB,qaB,qaB,qaB,qaB,qaB,qaB,qaB,qaB,qaB,qaB,qaB,qaB,qaB,qaB,qaB,qaB,qaB,qaB,qaB,qaB,qaB,qaB,qaB,qaB,qaB,qaB,qaB,qaB,qaB,qaB,qaB,qaB,qaB,qaB,qaB,qaB,qaB,qaB,trivial⟩ h
@[go_sem] def Tryz.ty2:Tryz.tyT 2=some ⟨.int .i64,1,8,.int .i64 0⟩:=by kernel_rfl
@[go_sem] def Tryz.ty3:Tryz.tyT 3=some ⟨.int .i64,1,8,.int .i64 0⟩:=by kernel_rfl
@[go_sem] def Tryz.ty4:Tryz.tyT 4=some ⟨.bool,1,1,.bool false⟩:=by kernel_rfl
@[go_sem] def Tryz.ty5:Tryz.tyT 5=some ⟨.int .u8,1,1,.int .u8 0⟩:=by kernel_rfl
@[go_sem] def Tryz.ty9:Tryz.tyT 9=some ⟨.string,1,16,.raw (.string .empty)⟩:=by kernel_rfl
@[go_sem] def Tryz.ty22:Tryz.tyT 22=some ⟨.slice 5,1,24,.nil⟩:=by kernel_rfl
@[go_sem] def Tryz.ty23:Tryz.tyT 23=some ⟨.slice 3,1,24,.nil⟩:=by kernel_rfl
@[go_sem] def Tryz.ty24:Tryz.tyT 24=some ⟨.slice 157,1,24,.nil⟩:=by kernel_rfl
@[go_sem] def Tryz.ty26:Tryz.tyT 26=some ⟨.struct [(0,3),(1,23),(2,24),(3,23)],4,80,.agg [.int .i64 0,.nil,.nil,.nil]⟩:=by kernel_rfl
@[go_sem] def Tryz.ty27:Tryz.tyT 27=some ⟨.slice 124,1,24,.nil⟩:=by kernel_rfl
@[go_sem] def Tryz.ty30:Tryz.tyT 30=some ⟨.slice 91,1,24,.nil⟩:=by kernel_rfl
@[go_sem] def Tryz.ty31:Tryz.tyT 31=some ⟨.slice 110,1,24,.nil⟩:=by kernel_rfl
@[go_sem] def Tryz.ty33:Tryz.tyT 33=some ⟨.struct [(0,30),(1,31)],2,48,.agg [.nil,.nil]⟩:=by kernel_rfl
@[go_sem] def Tryz.ty38:Tryz.tyT 38=some ⟨.slice 39,1,24,.nil⟩:=by kernel_rfl
@[go_sem] def Tryz.ty39:Tryz.tyT 39=some ⟨.slice 4,1,24,.nil⟩:=by kernel_rfl
@[go_sem] def Tryz.ty47:Tryz.tyT 47=some ⟨.slice 216,1,24,.nil⟩:=by kernel_rfl
@[go_sem] def Tryz.ty49:Tryz.tyT 49=some ⟨.struct [(0,3),(1,23),(2,47),(3,23)],4,80,.agg [.int .i64 0,.nil,.nil,.nil]⟩:=by kernel_rfl
@[go_sem] def Tryz.ty67:Tryz.tyT 67=some ⟨.slice 72,1,24,.nil⟩:=by kernel_rfl
@[go_sem] def Tryz.ty70:Tryz.tyT 70=some ⟨.slice 195,1,24,.nil⟩:=by kernel_rfl
@[go_sem] def Tryz.ty72:Tryz.tyT 72=some ⟨.struct [(0,3),(1,3),(2,70)],3,40,.agg [.int .i64 0,.int .i64 0,.nil]⟩:=by kernel_rfl
@[go_sem] def Tryz.ty73:Tryz.tyT 73=some ⟨.slice 76,1,24,.nil⟩:=by kernel_rfl
@[go_sem] def Tryz.ty76:Tryz.tyT 76=some ⟨.struct [(0,3),(1,23),(2,3),(3,4)],4,48,.agg [.int .i64 0,.nil,.int .i64 0,.bool false]⟩:=by kernel_rfl
@[go_sem] def Tryz.ty91:Tryz.tyT 91=some ⟨.struct [(0,3),(1,23),(2,4),(3,23)],4,64,.agg [.int .i64 0,.nil,.bool false,.nil]⟩:=by kernel_rfl
@[go_sem] def Tryz.ty92:Tryz.tyT 92=some ⟨.slice 171,1,24,.nil⟩:=by kernel_rfl
@[go_sem] def Tryz.ty110:Tryz.tyT 110=some ⟨.struct [(0,3),(1,4)],2,16,.agg [.int .i64 0,.bool false]⟩:=by kernel_rfl
@[go_sem] def Tryz.ty113:Tryz.tyT 113=some ⟨.struct [(0,39),(1,39)],2,48,.agg [.nil,.nil]⟩:=by kernel_rfl
@[go_sem] def Tryz.ty116:Tryz.tyT 116=some ⟨.struct [(0,39)],1,24,.agg [.nil]⟩:=by kernel_rfl
@[go_sem] def Tryz.ty119:Tryz.tyT 119=some ⟨.struct [(0,39),(1,116)],2,48,.agg [.nil,.nil]⟩:=by kernel_rfl
@[go_sem] def Tryz.ty121:Tryz.tyT 121=some ⟨.ptr 33,1,8,.raw (.pointer none)⟩:=by kernel_rfl
@[go_sem] def Tryz.ty124:Tryz.tyT 124=some ⟨.struct [(0,3),(1,3)],2,16,.agg [.int .i64 0,.int .i64 0]⟩:=by kernel_rfl
@[go_sem] def Tryz.ty141:Tryz.tyT 141=some ⟨.slice 144,1,24,.nil⟩:=by kernel_rfl
@[go_sem] def Tryz.ty144:Tryz.tyT 144=some ⟨.struct [(0,3),(1,23),(2,3)],3,40,.agg [.int .i64 0,.nil,.int .i64 0]⟩:=by kernel_rfl
@[go_sem] def Tryz.ty145:Tryz.tyT 145=some ⟨.slice 23,1,24,.nil⟩:=by kernel_rfl
@[go_sem] def Tryz.ty157:Tryz.tyT 157=some ⟨.struct [(0,3),(1,3)],2,16,.agg [.int .i64 0,.int .i64 0]⟩:=by kernel_rfl
@[go_sem] def Tryz.ty165:Tryz.tyT 165=some ⟨.map 168 3,1,8,.raw (.map none)⟩:=by kernel_rfl
@[go_sem] def Tryz.ty168:Tryz.tyT 168=some ⟨.struct [(0,3),(1,3)],2,16,.agg [.int .i64 0,.int .i64 0]⟩:=by kernel_rfl
@[go_sem] def Tryz.ty171:Tryz.tyT 171=some ⟨.struct [(0,3),(1,3)],2,16,.agg [.int .i64 0,.int .i64 0]⟩:=by kernel_rfl
@[go_sem] def Tryz.ty176:Tryz.tyT 176=some ⟨.struct [(0,22),(1,3)],2,32,.agg [.nil,.int .i64 0]⟩:=by kernel_rfl
@[go_sem] def Tryz.ty179:Tryz.tyT 179=some ⟨.slice 182,1,24,.nil⟩:=by kernel_rfl
@[go_sem] def Tryz.ty182:Tryz.tyT 182=some ⟨.struct [(0,3),(1,3),(2,3),(3,23),(4,23)],5,72,.agg [.int .i64 0,.int .i64 0,.int .i64 0,.nil,.nil]⟩:=by kernel_rfl
@[go_sem] def Tryz.ty187:Tryz.tyT 187=some ⟨.array 8 4,8,8,.agg [.bool false,.bool false,.bool false,.bool false,.bool false,.bool false,.bool false,.bool false]⟩:=by kernel_rfl
@[go_sem] def Tryz.ty188:Tryz.tyT 188=some ⟨.array 25 187,200,200,.agg [.bool false,.bool false,.bool false,.bool false,.bool false,.bool false,.bool false,.bool false,.bool false,.bool false,.bool false,.bool false,.bool false,.bool false,.bool false,.bool false,.bool false,.bool false,.bool false,.bool false,.bool false,.bool false,.bool false,.bool false,.bool false,.bool false,.bool false,.bool false,.bool false,.bool false,.bool false,.bool false,.bool false,.bool false,.bool false,.bool false,.bool false,.bool false,.bool false,.bool false,.bool false,.bool false,.bool false,.bool false,.bool false,.bool false,.bool false,.bool false,.bool false,.bool false,.bool false,.bool false,.bool false,.bool false,.bool false,.bool false,.bool false,.bool false,.bool false,.bool false,.bool false,.bool false,.bool false,.bool false,.bool false,.bool false,.bool false,.bool false,.bool false,.bool false,.bool false,.bool false,.bool false,.bool false,.bool false,.bool false,.bool false,.bool false,.bool false,.bool false,.bool false,.bool false,.bool false,.bool false,.bool false,.bool false,.bool false,.bool false,.bool false,.bool false,.bool false,.bool false,.bool false,.bool false,.bool false,.bool false,.bool false,.bool false,.bool false,.bool false,.bool false,.bool false,.bool false,.bool false,.bool false,.bool false,.bool false,.bool false,.bool false,.bool false,.bool false,.bool false,.bool false,.bool false,.bool false,.bool false,.bool false,.bool false,.bool false,.bool false,.bool false,.bool false,.bool false,.bool false,.bool false,.bool false,.bool false,.bool false,.bool false,.bool false,.bool false,.bool false,.bool false,.bool false,.bool false,.bool false,.bool false,.bool false,.bool false,.bool false,.bool false,.bool false,.bool false,.bool false,.bool false,.bool false,.bool false,.bool false,.bool false,.bool false,.bool false,.bool false,.bool false,.bool false,.bool false,.bool false,.bool false,.bool false,.bool false,.bool false,.bool false,.bool false,.bool false,.bool false,.bool false,.bool false,.bool false,.bool false,.bool false,.bool false,.bool false,.bool false,.bool false,.bool false,.bool false,.bool false,.bool false,.bool false,.bool false,.bool false,.bool false,.bool false,.bool false,.bool false,.bool false,.bool false,.bool false,.bool false,.bool false,.bool false,.bool false,.bool false,.bool false,.bool false,.bool false,.bool false,.bool false,.bool false,.bool false,.bool false]⟩:=by kernel_rfl
@[go_sem] def Tryz.ty190:Tryz.tyT 190=some ⟨.struct [(0,188)],200,200,.agg [.bool false,.bool false,.bool false,.bool false,.bool false,.bool false,.bool false,.bool false,.bool false,.bool false,.bool false,.bool false,.bool false,.bool false,.bool false,.bool false,.bool false,.bool false,.bool false,.bool false,.bool false,.bool false,.bool false,.bool false,.bool false,.bool false,.bool false,.bool false,.bool false,.bool false,.bool false,.bool false,.bool false,.bool false,.bool false,.bool false,.bool false,.bool false,.bool false,.bool false,.bool false,.bool false,.bool false,.bool false,.bool false,.bool false,.bool false,.bool false,.bool false,.bool false,.bool false,.bool false,.bool false,.bool false,.bool false,.bool false,.bool false,.bool false,.bool false,.bool false,.bool false,.bool false,.bool false,.bool false,.bool false,.bool false,.bool false,.bool false,.bool false,.bool false,.bool false,.bool false,.bool false,.bool false,.bool false,.bool false,.bool false,.bool false,.bool false,.bool false,.bool false,.bool false,.bool false,.bool false,.bool false,.bool false,.bool false,.bool false,.bool false,.bool false,.bool false,.bool false,.bool false,.bool false,.bool false,.bool false,.bool false,.bool false,.bool false,.bool false,.bool false,.bool false,.bool false,.bool false,.bool false,.bool false,.bool false,.bool false,.bool false,.bool false,.bool false,.bool false,.bool false,.bool false,.bool false,.bool false,.bool false,.bool false,.bool false,.bool false,.bool false,.bool false,.bool false,.bool false,.bool false,.bool false,.bool false,.bool false,.bool false,.bool false,.bool false,.bool false,.bool false,.bool false,.bool false,.bool false,.bool false,.bool false,.bool false,.bool false,.bool false,.bool false,.bool false,.bool false,.bool false,.bool false,.bool false,.bool false,.bool false,.bool false,.bool false,.bool false,.bool false,.bool false,.bool false,.bool false,.bool false,.bool false,.bool false,.bool false,.bool false,.bool false,.bool false,.bool false,.bool false,.bool false,.bool false,.bool false,.bool false,.bool false,.bool false,.bool false,.bool false,.bool false,.bool false,.bool false,.bool false,.bool false,.bool false,.bool false,.bool false,.bool false,.bool false,.bool false,.bool false,.bool false,.bool false,.bool false,.bool false,.bool false,.bool false,.bool false,.bool false,.bool false,.bool false,.bool false,.bool false,.bool false,.bool false,.bool false]⟩:=by kernel_rfl
@[go_sem] def Tryz.ty193:Tryz.tyT 193=some ⟨.map 3 3,1,8,.raw (.map none)⟩:=by kernel_rfl
@[go_sem] def Tryz.ty195:Tryz.tyT 195=some ⟨.struct [(0,3),(1,3)],2,16,.agg [.int .i64 0,.int .i64 0]⟩:=by kernel_rfl
@[go_sem] def Tryz.ty207:Tryz.tyT 207=some ⟨.map 168 4,1,8,.raw (.map none)⟩:=by kernel_rfl
@[go_sem] def Tryz.ty209:Tryz.tyT 209=some ⟨.struct [(0,121),(1,39),(2,39),(3,207)],4,64,.agg [.raw (.pointer none),.nil,.nil,.raw (.map none)]⟩:=by kernel_rfl
@[go_sem] def Tryz.ty216:Tryz.tyT 216=some ⟨.struct [(0,3),(1,3)],2,16,.agg [.int .i64 0,.int .i64 0]⟩:=by kernel_rfl
@[go_sem] def Tryz.ty218:Tryz.tyT 218=some ⟨.int .u64,1,8,.int .u64 0⟩:=by kernel_rfl
@[go_sem] def Tryz.ty229:Tryz.tyT 229=some ⟨.array 2 3,2,16,.agg [.int .i64 0,.int .i64 0]⟩:=by kernel_rfl
@[go_sem] def Tryz.ty233:Tryz.tyT 233=some ⟨.slice 145,1,24,.nil⟩:=by kernel_rfl
@[go_sem] def Tryz.ty238:Tryz.tyT 238=some ⟨.slice 168,1,24,.nil⟩:=by kernel_rfl
@[go_sem] def Tryz.ty241:Tryz.tyT 241=some ⟨.array 4 3,4,32,.agg [.int .i64 0,.int .i64 0,.int .i64 0,.int .i64 0]⟩:=by kernel_rfl
@[go_sem] def Tryz.ty244:Tryz.tyT 244=some ⟨.map 3 4,1,8,.raw (.map none)⟩:=by kernel_rfl
@[go_sem] def Tryz.ty285:Tryz.tyT 285=some ⟨.int .u32,1,4,.int .u32 0⟩:=by kernel_rfl
@[go_sem] def Tryz.ty287:Tryz.tyT 287=some ⟨.int .u64,1,8,.int .u64 0⟩:=by kernel_rfl
def Tryz.pf:Nat->Kind
 | 18=>.proc
 | 19=>.proc
 | 29=>.proc
 | 30=>.proc
 | 34=>.proc
 | 53=>.proc
 | 63=>.proc
 | 65=>.proc
 | 66=>.proc
 | 67=>.proc
 | 92=>.proc
 | 93=>.proc
 | 94=>.proc
 | 98=>.proc
 | 102=>.proc
 | 105=>.proc
 | 106=>.proc
 | 107=>.proc
 | 112=>.proc
 | 113=>.proc
 | 116=>.proc
 | 117=>.proc
 | 125=>.proc
 | 126=>.proc
 | 127=>.proc
 | 132=>.proc
 | 141=>.proc
 | 147=>.proc
 | 149=>.proc
 | 159=>.proc
 | 163=>.proc
 | 165=>.proc
 | 166=>.proc
 | 167=>.proc
 | 169=>.proc
 | 170=>.proc
 | 175=>.proc
 | 183=>.proc
 | 188=>.proc
 | 195=>.proc
 | 199=>.proc
 | 201=>.proc
 | 208=>.proc
 | 209=>.proc
 | 211=>.proc
 | 216=>.proc
 | 217=>.proc
 | 218=>.proc
 | 219=>.proc
 | 226=>.proc
 | 227=>.proc
 | 230=>.proc
 | 12=>.fz
 | 32=>.fz
 | 35=>.fz
 | 40=>.fz
 | 55=>.fz
 | 56=>.fz
 | 69=>.fz
 | 75=>.fz
 | 76=>.fz
 | 85=>.fz
 | 96=>.fz
 | 97=>.fz
 | 99=>.fz
 | 101=>.fz
 | 109=>.fz
 | 137=>.fz
 | 152=>.fz
 | 176=>.fz
 | 189=>.fz
 | 190=>.fz
 | _=>.own
@[go_sem] def Tryz.pf12:Tryz.pf 12=.fz:=rfl
@[go_sem] def Tryz.pf13:Tryz.pf 13=.own:=rfl
@[go_sem] def Tryz.pf14:Tryz.pf 14=.own:=rfl
@[go_sem] def Tryz.pf15:Tryz.pf 15=.own:=rfl
@[go_sem] def Tryz.pf16:Tryz.pf 16=.own:=rfl
@[go_sem] def Tryz.pf17:Tryz.pf 17=.own:=rfl
@[go_sem] def Tryz.pf18:Tryz.pf 18=.proc:=rfl
@[go_sem] def Tryz.pf19:Tryz.pf 19=.proc:=rfl
@[go_sem] def Tryz.pf20:Tryz.pf 20=.own:=rfl
@[go_sem] def Tryz.pf21:Tryz.pf 21=.own:=rfl
@[go_sem] def Tryz.pf22:Tryz.pf 22=.own:=rfl
@[go_sem] def Tryz.pf37:Tryz.pf 37=.own:=rfl
@[go_sem] def Tryz.pf40:Tryz.pf 40=.fz:=rfl
@[go_sem] def Tryz.pf49:Tryz.pf 49=.own:=rfl
@[go_sem] def Tryz.pf57:Tryz.pf 57=.own:=rfl
@[go_sem] def Tryz.pf59:Tryz.pf 59=.own:=rfl
@[go_sem] def Tryz.pf64:Tryz.pf 64=.own:=rfl
@[go_sem] def Tryz.pf65:Tryz.pf 65=.proc:=rfl
@[go_sem] def Tryz.pf66:Tryz.pf 66=.proc:=rfl
@[go_sem] def Tryz.pf67:Tryz.pf 67=.proc:=rfl
@[go_sem] def Tryz.pf68:Tryz.pf 68=.own:=rfl
@[go_sem] def Tryz.pf69:Tryz.pf 69=.fz:=rfl
@[go_sem] def Tryz.pf70:Tryz.pf 70=.own:=rfl
@[go_sem] def Tryz.pf71:Tryz.pf 71=.own:=rfl
@[go_sem] def Tryz.pf72:Tryz.pf 72=.own:=rfl
@[go_sem] def Tryz.pf73:Tryz.pf 73=.own:=rfl
@[go_sem] def Tryz.pf74:Tryz.pf 74=.own:=rfl
@[go_sem] def Tryz.pf75:Tryz.pf 75=.fz:=rfl
@[go_sem] def Tryz.pf76:Tryz.pf 76=.fz:=rfl
@[go_sem] def Tryz.pf77:Tryz.pf 77=.own:=rfl
@[go_sem] def Tryz.pf78:Tryz.pf 78=.own:=rfl
@[go_sem] def Tryz.pf79:Tryz.pf 79=.own:=rfl
@[go_sem] def Tryz.pf80:Tryz.pf 80=.own:=rfl
@[go_sem] def Tryz.pf81:Tryz.pf 81=.own:=rfl
@[go_sem] def Tryz.pf82:Tryz.pf 82=.own:=rfl
@[go_sem] def Tryz.pf101:Tryz.pf 101=.fz:=rfl
@[go_sem] def Tryz.pf102:Tryz.pf 102=.proc:=rfl
@[go_sem] def Tryz.pf103:Tryz.pf 103=.own:=rfl
@[go_sem] def Tryz.pf104:Tryz.pf 104=.own:=rfl
@[go_sem] def Tryz.pf108:Tryz.pf 108=.own:=rfl
@[go_sem] def Tryz.pf117:Tryz.pf 117=.proc:=rfl
@[go_sem] def Tryz.pf120:Tryz.pf 120=.own:=rfl
@[go_sem] def Tryz.pf123:Tryz.pf 123=.own:=rfl
@[go_sem] def Tryz.pf124:Tryz.pf 124=.own:=rfl
@[go_sem] def Tryz.pf125:Tryz.pf 125=.proc:=rfl
@[go_sem] def Tryz.pf126:Tryz.pf 126=.proc:=rfl
@[go_sem] def Tryz.pf127:Tryz.pf 127=.proc:=rfl
@[go_sem] def Tryz.pf128:Tryz.pf 128=.own:=rfl
@[go_sem] def Tryz.pf129:Tryz.pf 129=.own:=rfl
@[go_sem] def Tryz.pf130:Tryz.pf 130=.own:=rfl
@[go_sem] def Tryz.pf131:Tryz.pf 131=.own:=rfl
@[go_sem] def Tryz.pf132:Tryz.pf 132=.proc:=rfl
@[go_sem] def Tryz.pf133:Tryz.pf 133=.own:=rfl
@[go_sem] def Tryz.pf134:Tryz.pf 134=.own:=rfl
@[go_sem] def Tryz.pf135:Tryz.pf 135=.own:=rfl
@[go_sem] def Tryz.pf136:Tryz.pf 136=.own:=rfl
@[go_sem] def Tryz.pf137:Tryz.pf 137=.fz:=rfl
@[go_sem] def Tryz.pf138:Tryz.pf 138=.own:=rfl
@[go_sem] def Tryz.pf139:Tryz.pf 139=.own:=rfl
@[go_sem] def Tryz.pf140:Tryz.pf 140=.own:=rfl
@[go_sem] def Tryz.pf141:Tryz.pf 141=.proc:=rfl
@[go_sem] def Tryz.pf142:Tryz.pf 142=.own:=rfl
@[go_sem] def Tryz.pf143:Tryz.pf 143=.own:=rfl
@[go_sem] def Tryz.pf144:Tryz.pf 144=.own:=rfl
@[go_sem] def Tryz.pf145:Tryz.pf 145=.own:=rfl
@[go_sem] def Tryz.pf146:Tryz.pf 146=.own:=rfl
@[go_sem] def Tryz.pf147:Tryz.pf 147=.proc:=rfl
@[go_sem] def Tryz.pf148:Tryz.pf 148=.own:=rfl
@[go_sem] def Tryz.pf149:Tryz.pf 149=.proc:=rfl
@[go_sem] def Tryz.pf150:Tryz.pf 150=.own:=rfl
@[go_sem] def Tryz.pf151:Tryz.pf 151=.own:=rfl
@[go_sem] def Tryz.pf162:Tryz.pf 162=.own:=rfl
@[go_sem] def Tryz.pf173:Tryz.pf 173=.own:=rfl
@[go_sem] def Tryz.pf174:Tryz.pf 174=.own:=rfl
@[go_sem] def Tryz.pf175:Tryz.pf 175=.proc:=rfl
@[go_sem] def Tryz.pf176:Tryz.pf 176=.fz:=rfl
@[go_sem] def Tryz.pf181:Tryz.pf 181=.own:=rfl
@[go_sem] def Tryz.pf184:Tryz.pf 184=.own:=rfl
@[go_sem] def Tryz.pf185:Tryz.pf 185=.own:=rfl
@[go_sem] def Tryz.pf186:Tryz.pf 186=.own:=rfl
@[go_sem] def Tryz.pf187:Tryz.pf 187=.own:=rfl
@[go_sem] def Tryz.pf188:Tryz.pf 188=.proc:=rfl
@[go_sem] def Tryz.pf189:Tryz.pf 189=.fz:=rfl
@[go_sem] def Tryz.pf190:Tryz.pf 190=.fz:=rfl
@[go_sem] def Tryz.pf191:Tryz.pf 191=.own:=rfl
@[go_sem] def Tryz.pf192:Tryz.pf 192=.own:=rfl
@[go_sem] def Tryz.pf193:Tryz.pf 193=.own:=rfl
@[go_sem] def Tryz.pf194:Tryz.pf 194=.own:=rfl
@[go_sem] def Tryz.pf195:Tryz.pf 195=.proc:=rfl
@[go_sem] def Tryz.pf196:Tryz.pf 196=.own:=rfl
@[go_sem] def Tryz.pf197:Tryz.pf 197=.own:=rfl
@[go_sem] def Tryz.pf198:Tryz.pf 198=.own:=rfl
@[go_sem] def Tryz.pf199:Tryz.pf 199=.proc:=rfl
@[go_sem] def Tryz.pf208:Tryz.pf 208=.proc:=rfl
@[go_sem] def Tryz.pf209:Tryz.pf 209=.proc:=rfl
@[go_sem] def Tryz.pf210:Tryz.pf 210=.own:=rfl
@[go_sem] def Tryz.pf211:Tryz.pf 211=.proc:=rfl
@[go_sem] def Tryz.pf212:Tryz.pf 212=.own:=rfl
@[go_sem] def Tryz.pf213:Tryz.pf 213=.own:=rfl
@[go_sem] def Tryz.pf214:Tryz.pf 214=.own:=rfl
@[go_sem] def Tryz.pf215:Tryz.pf 215=.own:=rfl
@[go_sem] def Tryz.pf216:Tryz.pf 216=.proc:=rfl
@[go_sem] def Tryz.pf217:Tryz.pf 217=.proc:=rfl
@[go_sem] def Tryz.pf218:Tryz.pf 218=.proc:=rfl
@[go_sem] def Tryz.pf219:Tryz.pf 219=.proc:=rfl
@[go_sem] def Tryz.pf220:Tryz.pf 220=.own:=rfl
@[go_sem] def Tryz.pf221:Tryz.pf 221=.own:=rfl
@[go_sem] def Tryz.pf222:Tryz.pf 222=.own:=rfl
@[go_sem] def Tryz.pf223:Tryz.pf 223=.own:=rfl
@[go_sem] def Tryz.pf224:Tryz.pf 224=.own:=rfl
@[go_sem] def Tryz.pf225:Tryz.pf 225=.own:=rfl
@[go_sem] def Tryz.pf226:Tryz.pf 226=.proc:=rfl
@[go_sem] def Tryz.pf227:Tryz.pf 227=.proc:=rfl
@[go_sem] def Tryz.pf228:Tryz.pf 228=.own:=rfl
@[go_sem] def Tryz.pf229:Tryz.pf 229=.own:=rfl
@[go_sem] def Tryz.pf230:Tryz.pf 230=.proc:=rfl
@[go_sem] def Tryz.pf236:Tryz.pf 236=.own:=rfl
@[go_sem] def Tryz.pf240:Tryz.pf 240=.own:=rfl
@[go_sem] def Tryz.pf246:Tryz.pf 246=.own:=rfl
noncomputable def Tryz.env (n:Nat):Env:=⟨Tryz.prog,Tryz.tyT,Tryz.pf,n,.low⟩
@[go_sem] def Tryz.env_deep (n:Nat):(Tryz.env n).deep=.low:=rfl
noncomputable def Tryz.envd (n:Nat):Env:=⟨Tryz.prog,Tryz.tyT,Tryz.pf,n,.both⟩
@[go_sem] def Tryz.envd_deep (n:Nat):(Tryz.envd n).deep=.both:=rfl
@[go_sem] def Tryz.envd_T (n:Nat):(Tryz.envd n).T=Tryz.tyT:=rfl
@[go_sem] def Tryz.envd_n (n:Nat):(Tryz.envd n).n=n:=rfl
@[go_sem] def Tryz.envd_pf (n f:Nat):(Tryz.envd n).pf f=Tryz.pf f:=rfl
@[go_sem] def Tryz.envd_P (n:Nat):(Tryz.envd n).P=Tryz.prog:=rfl
noncomputable def Tryz.envf (n:Nat):Env:=⟨Tryz.prog,Tryz.tyT,Tryz.pf,n,.frz⟩
@[go_sem] def Tryz.envf_deep (n:Nat):(Tryz.envf n).deep=.frz:=rfl
@[go_sem] def Tryz.envf_T (n:Nat):(Tryz.envf n).T=Tryz.tyT:=rfl
@[go_sem] def Tryz.envf_n (n:Nat):(Tryz.envf n).n=n:=rfl
@[go_sem] def Tryz.envf_pf (n f:Nat):(Tryz.envf n).pf f=Tryz.pf f:=rfl
@[go_sem] def Tryz.envf_P (n:Nat):(Tryz.envf n).P=Tryz.prog:=rfl
@[go_sem] def Tryz.env_T (n:Nat):(Tryz.env n).T=Tryz.tyT:=rfl
@[go_sem] def Tryz.env_n (n:Nat):(Tryz.env n).n=n:=rfl
@[go_sem] def Tryz.env_pf (n f:Nat):(Tryz.env n).pf f=Tryz.pf f:=rfl
@[go_sem] def Tryz.env_P (n:Nat):(Tryz.env n).P=Tryz.prog:=rfl
@[go_sem] def Tryz.follows:Tryz.prog.follows .mixedOrders=true:=by kernel_rfl
attribute [go_sem] Tryz.results3 Tryz.results4 Tryz.results5 Tryz.results6 Tryz.results7 Tryz.results8 Tryz.results9 Tryz.results10 Tryz.results11 Tryz.results12 Tryz.results13 Tryz.results14 Tryz.results15 Tryz.results16 Tryz.results17 Tryz.results18 Tryz.results19 Tryz.results20 Tryz.results21 Tryz.results22 Tryz.results23 Tryz.results24 Tryz.results25 Tryz.results26 Tryz.results27 Tryz.results28 Tryz.results29 Tryz.results30 Tryz.results31 Tryz.results32 Tryz.results33 Tryz.results34 Tryz.results35 Tryz.results36 Tryz.results37 Tryz.results38 Tryz.results39 Tryz.results40 Tryz.results41 Tryz.results42 Tryz.results43 Tryz.results44 Tryz.results45 Tryz.results46 Tryz.results47 Tryz.results48 Tryz.results49 Tryz.results50 Tryz.results51 Tryz.results52 Tryz.results53 Tryz.results54 Tryz.results55 Tryz.results56 Tryz.results57 Tryz.results58 Tryz.results59 Tryz.results60 Tryz.results61 Tryz.results62 Tryz.results63 Tryz.results64 Tryz.results65 Tryz.results66 Tryz.results67 Tryz.results68 Tryz.results69 Tryz.results70 Tryz.results71 Tryz.results72 Tryz.results73 Tryz.results74 Tryz.results75 Tryz.results76 Tryz.results77 Tryz.results78 Tryz.results79 Tryz.results80 Tryz.results81 Tryz.results82 Tryz.results83 Tryz.results84 Tryz.results85 Tryz.results86 Tryz.results87 Tryz.results88 Tryz.results89 Tryz.results90 Tryz.results91 Tryz.results92 Tryz.results93 Tryz.results94 Tryz.results95 Tryz.results96 Tryz.results97 Tryz.results98 Tryz.results99 Tryz.results100 Tryz.results101 Tryz.results102 Tryz.results103 Tryz.results104 Tryz.results105 Tryz.results106 Tryz.results107 Tryz.results108 Tryz.results109 Tryz.results110 Tryz.results111 Tryz.results112 Tryz.results113 Tryz.results114 Tryz.results115 Tryz.results116 Tryz.results117 Tryz.results118 Tryz.results119 Tryz.results120 Tryz.results121 Tryz.results122 Tryz.results123 Tryz.results124 Tryz.results125 Tryz.results126 Tryz.results127 Tryz.results128 Tryz.results129 Tryz.results130 Tryz.results131 Tryz.results132 Tryz.results133 Tryz.results134 Tryz.results135 Tryz.results136 Tryz.results137 Tryz.results138 Tryz.results139 Tryz.results140 Tryz.results141 Tryz.results142 Tryz.results143 Tryz.results144 Tryz.results145 Tryz.results146 Tryz.results147 Tryz.results148 Tryz.results149 Tryz.results150 Tryz.results151 Tryz.results152 Tryz.results153 Tryz.results154 Tryz.results155 Tryz.results156 Tryz.results157 Tryz.results158 Tryz.results159 Tryz.results160 Tryz.results161 Tryz.results162 Tryz.results163 Tryz.results164 Tryz.results165 Tryz.results166 Tryz.results167 Tryz.results168 Tryz.results169 Tryz.results170 Tryz.results171 Tryz.results172 Tryz.results173 Tryz.results174 Tryz.results175 Tryz.results176 Tryz.results177 Tryz.results178 Tryz.results179 Tryz.results180 Tryz.results181 Tryz.results182 Tryz.results183 Tryz.results184 Tryz.results185 Tryz.results186 Tryz.results187 Tryz.results188 Tryz.results189 Tryz.results190 Tryz.results191 Tryz.results192 Tryz.results193 Tryz.results194 Tryz.results195 Tryz.results196 Tryz.results197 Tryz.results198 Tryz.results199 Tryz.results200 Tryz.results201 Tryz.results202 Tryz.results203 Tryz.results204 Tryz.results205 Tryz.results206 Tryz.results207 Tryz.results208 Tryz.results209 Tryz.results210 Tryz.results211 Tryz.results212 Tryz.results213 Tryz.results214 Tryz.results215 Tryz.results216 Tryz.results217 Tryz.results218 Tryz.results219 Tryz.results220 Tryz.results221 Tryz.results222 Tryz.results223 Tryz.results224 Tryz.results225 Tryz.results226 Tryz.results227 Tryz.results228 Tryz.results229 Tryz.results230 Tryz.results231 Tryz.results232 Tryz.results233 Tryz.results234 Tryz.results235 Tryz.results236 Tryz.results237 Tryz.results238 Tryz.results239 Tryz.results240 Tryz.results241 Tryz.results242 Tryz.results243 Tryz.results244 Tryz.results245 Tryz.results246 Tryz.results247
def qax {f : Nat} {fn : Func} {c : Code} {nt : Nat} {ds : List D} {x : D} (hf : Tryz.prog.funcs[f]? = some fn) (hb : fn.body = some c) (hnt : fn.ntmps = nt) (h : okL ds -> qaZ (Tryz.env 0) 1000 c [] (endsWith (Tryz.env 0).T fn (fun fr r H' => pkR x (pk H' 3 r))) ⟨nt, qdq 0 (ds.map .d)⟩ []) (hnm : (fn.name == "runtime.NumGoroutine") = false := by rfl) (hl : ds.length <= nt := by simp) : Pure Tryz.prog f ds x :=
 qrK (E:=Tryz.env 0) Tryz.tok rfl 1000 hf hb hnm hnt hl h
def qaL {n:Nat}{fr:Fr}{H:List R}{Q:Post}{id:Nat}{l:List Oper}{ks:List VL.Item}(tails:List Nat) (t:Sch) (h:runS (Tryz.env n) 1000 l tails (endK (Tryz.env n) 1000 ks Q) t fr H) (hc:chkT l.toArray tails t=true:=by kernel_rfl):iwp (Tryz.env n).P (Tryz.env n).n (.region id l.toArray true) (qbR (Tryz.env n) ks Q) fr H:=
 qeO (E:=Tryz.env n) Tryz.tok Tryz.follows 1000 1000 tails t hc h
end Go.Proofs
