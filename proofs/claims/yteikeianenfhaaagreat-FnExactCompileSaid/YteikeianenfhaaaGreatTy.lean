/- The table of the types of a translation, and that it is right. Made by a program. Conditions: none. -/
import Derived.Test.YteikeianenfhaaaGreatProg
import Derived.Test.YteikeianenfhaaaGreatVM8
import Derived.KernelRfl
set_option linter.unusedVariables false
set_option maxRecDepth 20000
set_option maxHeartbeats 2000000
namespace Go.Proofs.Tryz
set_option linter.defProp false
open Go.VL
def bh {P:Program}{t:Nat}{ti:TI}(h1:(P.info? t).map (fun i=>(i.size,i.bytes,i.zero))=some (ti.size,ti.bytes,some (bc ti.zero)):=by kernel_rfl) (h2:(P.underlying t).map eH=some ti.ty:=by kernel_rfl) (h3:rK ti.zero=true:=by kernel_rfl) (h4:ti.zero.cells.length=ti.size:=by kernel_rfl) (h5:(match ti.zero with|.agg _=>true|_=>false)=ti.ty.agg:=by kernel_rfl) (h6:yy P t=true:=by kernel_rfl):aZ P t ti:=tD h1 h2 h3 h4 h5 h6
def zT (t:Nat):List (Nat×TI)->Option TI
 | []=>none
 | (s,x)::r=>cond (Nat.beq s t) (some x) (zT t r)
def yl (P:Nat->TI->Prop):List (Nat×TI)->Prop
 | []=>True
 | (s,x)::r=>P s x/\yl P r
def G9 {P:Nat->TI->Prop}{t:Nat}{ti:TI} : ∀ {l:List (Nat×TI)},yl P l->zT t l=some ti->P t ti
 | [],_,h=>by simp[zT] at h
 | (s,x)::r,ha,h=>by
  simp only[zT] at h;cases e:Nat.beq s t with
  | true=>
   rw[e] at h;cases h;rw[Nat.eq_of_beq_eq_true e] at ha;exact ha.1
  | false=>
   rw[e] at h;exact G9 ha.2 h
def JC:List (Nat×TI):=[
 (2,⟨.int .i64,1,8,.int .i64 0⟩),
 (3,⟨.int .i64,1,8,.int .i64 0⟩),
 (4,⟨.bool,1,1,.bool false⟩),
 (5,⟨.int .u8,1,1,.int .u8 0⟩),
 (9,⟨.string,1,16,.raw (.string .empty)⟩),
 (12,⟨.int .u64,1,8,.int .u64 0⟩),
 (13,⟨.struct [(0,9),(1,12)],2,24,.agg [.raw (.string .empty),.int .u64 0]⟩),
 (21,⟨.int .i32,1,4,.int .i32 0⟩),
 (22,⟨.slice 5,1,24,.nil⟩),
 (23,⟨.slice 3,1,24,.nil⟩),
 (24,⟨.slice 157,1,24,.nil⟩),
 (25,⟨.struct [(0,3),(1,23),(2,24),(3,23)],4,80,.agg [.int .i64 0,.nil,.nil,.nil]⟩),
 (26,⟨.struct [(0,3),(1,23),(2,24),(3,23)],4,80,.agg [.int .i64 0,.nil,.nil,.nil]⟩),
 (27,⟨.slice 124,1,24,.nil⟩),
 (30,⟨.slice 91,1,24,.nil⟩),
 (31,⟨.slice 110,1,24,.nil⟩),
 (32,⟨.struct [(0,30),(1,31)],2,48,.agg [.nil,.nil]⟩),
 (33,⟨.struct [(0,30),(1,31)],2,48,.agg [.nil,.nil]⟩),
 (38,⟨.slice 39,1,24,.nil⟩),
 (39,⟨.slice 4,1,24,.nil⟩),
 (47,⟨.slice 216,1,24,.nil⟩),
 (48,⟨.struct [(0,3),(1,23),(2,47),(3,23)],4,80,.agg [.int .i64 0,.nil,.nil,.nil]⟩),
 (49,⟨.struct [(0,3),(1,23),(2,47),(3,23)],4,80,.agg [.int .i64 0,.nil,.nil,.nil]⟩),
 (67,⟨.slice 72,1,24,.nil⟩),
 (70,⟨.slice 195,1,24,.nil⟩),
 (71,⟨.struct [(0,3),(1,3),(2,70)],3,40,.agg [.int .i64 0,.int .i64 0,.nil]⟩),
 (72,⟨.struct [(0,3),(1,3),(2,70)],3,40,.agg [.int .i64 0,.int .i64 0,.nil]⟩),
 (73,⟨.slice 76,1,24,.nil⟩),
 (75,⟨.struct [(0,3),(1,23),(2,3),(3,4)],4,48,.agg [.int .i64 0,.nil,.int .i64 0,.bool false]⟩),
 (76,⟨.struct [(0,3),(1,23),(2,3),(3,4)],4,48,.agg [.int .i64 0,.nil,.int .i64 0,.bool false]⟩),
 (82,⟨.slice 26,1,24,.nil⟩),
 (90,⟨.struct [(0,3),(1,23),(2,4),(3,23)],4,64,.agg [.int .i64 0,.nil,.bool false,.nil]⟩),
 (91,⟨.struct [(0,3),(1,23),(2,4),(3,23)],4,64,.agg [.int .i64 0,.nil,.bool false,.nil]⟩),
 (92,⟨.slice 171,1,24,.nil⟩),
 (98,⟨.ptr 176,1,8,.raw (.pointer none)⟩),
 (105,⟨.ptr 26,1,8,.raw (.pointer none)⟩),
 (109,⟨.struct [(0,3),(1,4)],2,16,.agg [.int .i64 0,.bool false]⟩),
 (110,⟨.struct [(0,3),(1,4)],2,16,.agg [.int .i64 0,.bool false]⟩),
 (112,⟨.struct [(0,39),(1,39)],2,48,.agg [.nil,.nil]⟩),
 (113,⟨.struct [(0,39),(1,39)],2,48,.agg [.nil,.nil]⟩),
 (115,⟨.struct [(0,39)],1,24,.agg [.nil]⟩),
 (116,⟨.struct [(0,39)],1,24,.agg [.nil]⟩),
 (118,⟨.struct [(0,39),(1,116)],2,48,.agg [.nil,.nil]⟩),
 (119,⟨.struct [(0,39),(1,116)],2,48,.agg [.nil,.nil]⟩),
 (121,⟨.ptr 33,1,8,.raw (.pointer none)⟩),
 (123,⟨.struct [(0,3),(1,3)],2,16,.agg [.int .i64 0,.int .i64 0]⟩),
 (124,⟨.struct [(0,3),(1,3)],2,16,.agg [.int .i64 0,.int .i64 0]⟩),
 (135,⟨.map 229 3,1,8,.raw (.map none)⟩),
 (136,⟨.struct [(0,73),(1,135),(2,23)],3,56,.agg [.nil,.raw (.map none),.nil]⟩),
 (137,⟨.struct [(0,73),(1,135),(2,23)],3,56,.agg [.nil,.raw (.map none),.nil]⟩),
 (141,⟨.slice 144,1,24,.nil⟩),
 (143,⟨.struct [(0,3),(1,23),(2,3)],3,40,.agg [.int .i64 0,.nil,.int .i64 0]⟩),
 (144,⟨.struct [(0,3),(1,23),(2,3)],3,40,.agg [.int .i64 0,.nil,.int .i64 0]⟩),
 (145,⟨.slice 23,1,24,.nil⟩),
 (150,⟨.ptr 155,1,8,.raw (.pointer none)⟩),
 (153,⟨.map 157 3,1,8,.raw (.map none)⟩),
 (154,⟨.struct [(0,3),(1,24),(2,23),(3,153)],4,64,.agg [.int .i64 0,.nil,.nil,.raw (.map none)]⟩),
 (155,⟨.struct [(0,3),(1,24),(2,23),(3,153)],4,64,.agg [.int .i64 0,.nil,.nil,.raw (.map none)]⟩),
 (156,⟨.struct [(0,3),(1,3)],2,16,.agg [.int .i64 0,.int .i64 0]⟩),
 (157,⟨.struct [(0,3),(1,3)],2,16,.agg [.int .i64 0,.int .i64 0]⟩),
 (165,⟨.map 168 3,1,8,.raw (.map none)⟩),
 (167,⟨.struct [(0,3),(1,3)],2,16,.agg [.int .i64 0,.int .i64 0]⟩),
 (168,⟨.struct [(0,3),(1,3)],2,16,.agg [.int .i64 0,.int .i64 0]⟩),
 (171,⟨.struct [(0,3),(1,3)],2,16,.agg [.int .i64 0,.int .i64 0]⟩),
 (175,⟨.struct [(0,22),(1,3)],2,32,.agg [.nil,.int .i64 0]⟩),
 (176,⟨.struct [(0,22),(1,3)],2,32,.agg [.nil,.int .i64 0]⟩),
 (179,⟨.slice 182,1,24,.nil⟩),
 (181,⟨.struct [(0,3),(1,3),(2,3),(3,23),(4,23)],5,72,.agg [.int .i64 0,.int .i64 0,.int .i64 0,.nil,.nil]⟩),
 (182,⟨.struct [(0,3),(1,3),(2,3),(3,23),(4,23)],5,72,.agg [.int .i64 0,.int .i64 0,.int .i64 0,.nil,.nil]⟩),
 (186,⟨.ptr 190,1,8,.raw (.pointer none)⟩),
 (187,⟨.array 8 4,8,8,.agg [.bool false,.bool false,.bool false,.bool false,.bool false,.bool false,.bool false,.bool false]⟩),
 (188,⟨.array 25 187,200,200,.agg (.replicate 200 (.bool false))⟩),
 (189,⟨.struct [(0,188)],200,200,.agg (.replicate 200 (.bool false))⟩),
 (190,⟨.struct [(0,188)],200,200,.agg (.replicate 200 (.bool false))⟩),
 (193,⟨.map 3 3,1,8,.raw (.map none)⟩),
 (194,⟨.struct [(0,3),(1,3)],2,16,.agg [.int .i64 0,.int .i64 0]⟩),
 (195,⟨.struct [(0,3),(1,3)],2,16,.agg [.int .i64 0,.int .i64 0]⟩),
 (197,⟨.ptr 91,1,8,.raw (.pointer none)⟩),
 (206,⟨.ptr 209,1,8,.raw (.pointer none)⟩),
 (207,⟨.map 168 4,1,8,.raw (.map none)⟩),
 (208,⟨.struct [(0,121),(1,39),(2,39),(3,207)],4,64,.agg [.raw (.pointer none),.nil,.nil,.raw (.map none)]⟩),
 (209,⟨.struct [(0,121),(1,39),(2,39),(3,207)],4,64,.agg [.raw (.pointer none),.nil,.nil,.raw (.map none)]⟩),
 (216,⟨.struct [(0,3),(1,3)],2,16,.agg [.int .i64 0,.int .i64 0]⟩),
 (218,⟨.int .u64,1,8,.int .u64 0⟩),
 (223,⟨.ptr 225,1,8,.raw (.pointer none)⟩),
 (224,⟨.struct [(0,22),(1,4)],2,32,.agg [.nil,.bool false]⟩),
 (225,⟨.struct [(0,22),(1,4)],2,32,.agg [.nil,.bool false]⟩),
 (229,⟨.array 2 3,2,16,.agg [.int .i64 0,.int .i64 0]⟩),
 (233,⟨.slice 145,1,24,.nil⟩),
 (238,⟨.slice 168,1,24,.nil⟩),
 (241,⟨.array 4 3,4,32,.agg [.int .i64 0,.int .i64 0,.int .i64 0,.int .i64 0]⟩),
 (244,⟨.map 3 4,1,8,.raw (.map none)⟩),
 (278,⟨.int .i64,1,8,.int .i64 0⟩),
 (285,⟨.int .u32,1,4,.int .u32 0⟩),
 (287,⟨.int .u64,1,8,.int .u64 0⟩),
 (288,⟨.int .u64,1,8,.int .u64 0⟩),
 (292,⟨.ptr 3,1,8,.raw (.pointer none)⟩),
 (294,⟨.ptr 288,1,8,.raw (.pointer none)⟩),
 (306,⟨.ptr 5,1,8,.raw (.pointer none)⟩)]
def tyT:Nat->Option TI:=fun t=>zT t JC
def tok:bO prog tyT:=fun t ti h=>G9 (P:=aZ prog) (l:=JC) ⟨bh,bh,bh,bh,bh,bh,bh,bh,bh,bh,bh,bh,bh,bh,bh,bh,bh,bh,bh,bh,bh,bh,bh,bh,bh,bh,bh,bh,bh,bh,bh,bh,bh,bh,bh,bh,bh,bh,bh,bh,bh,bh,bh,bh,bh,bh,bh,bh,bh,bh,bh,bh,bh,bh,bh,bh,bh,bh,bh,bh,bh,bh,bh,bh,bh,bh,bh,bh,bh,bh,bh,bh,bh,bh,bh,bh,bh,bh,bh,bh,bh,bh,bh,bh,bh,bh,bh,bh,bh,bh,bh,bh,bh,bh,bh,bh,bh,bh,bh,trivial⟩ h
@[go_sem] def o8:tyT 2=some ⟨.int .i64,1,8,.int .i64 0⟩:=by kernel_rfl
@[go_sem] def wb:tyT 3=some ⟨.int .i64,1,8,.int .i64 0⟩:=by kernel_rfl
@[go_sem] def ty4:tyT 4=some ⟨.bool,1,1,.bool false⟩:=by kernel_rfl
@[go_sem] def Hl:tyT 5=some ⟨.int .u8,1,1,.int .u8 0⟩:=by kernel_rfl
@[go_sem] def ty9:tyT 9=some ⟨.string,1,16,.raw (.string .empty)⟩:=by kernel_rfl
@[go_sem] def Cf:tyT 22=some ⟨.slice 5,1,24,.nil⟩:=by kernel_rfl
@[go_sem] def CI:tyT 23=some ⟨.slice 3,1,24,.nil⟩:=by kernel_rfl
@[go_sem] def Pi:tyT 24=some ⟨.slice 157,1,24,.nil⟩:=by kernel_rfl
@[go_sem] def Me:tyT 26=some ⟨.struct [(0,3),(1,23),(2,24),(3,23)],4,80,.agg [.int .i64 0,.nil,.nil,.nil]⟩:=by kernel_rfl
@[go_sem] def Mt:tyT 27=some ⟨.slice 124,1,24,.nil⟩:=by kernel_rfl
@[go_sem] def Nb:tyT 30=some ⟨.slice 91,1,24,.nil⟩:=by kernel_rfl
@[go_sem] def Na:tyT 31=some ⟨.slice 110,1,24,.nil⟩:=by kernel_rfl
@[go_sem] def OQ:tyT 33=some ⟨.struct [(0,30),(1,31)],2,48,.agg [.nil,.nil]⟩:=by kernel_rfl
@[go_sem] def Pa:tyT 38=some ⟨.slice 39,1,24,.nil⟩:=by kernel_rfl
@[go_sem] def Mg:tyT 39=some ⟨.slice 4,1,24,.nil⟩:=by kernel_rfl
@[go_sem] def DX:tyT 47=some ⟨.slice 216,1,24,.nil⟩:=by kernel_rfl
@[go_sem] def CD:tyT 49=some ⟨.struct [(0,3),(1,23),(2,47),(3,23)],4,80,.agg [.int .i64 0,.nil,.nil,.nil]⟩:=by kernel_rfl
@[go_sem] def Lv:tyT 67=some ⟨.slice 72,1,24,.nil⟩:=by kernel_rfl
@[go_sem] def Nc:tyT 70=some ⟨.slice 195,1,24,.nil⟩:=by kernel_rfl
@[go_sem] def N6:tyT 72=some ⟨.struct [(0,3),(1,3),(2,70)],3,40,.agg [.int .i64 0,.int .i64 0,.nil]⟩:=by kernel_rfl
@[go_sem] def OJ:tyT 73=some ⟨.slice 76,1,24,.nil⟩:=by kernel_rfl
@[go_sem] def Lr:tyT 76=some ⟨.struct [(0,3),(1,23),(2,3),(3,4)],4,48,.agg [.int .i64 0,.nil,.int .i64 0,.bool false]⟩:=by kernel_rfl
@[go_sem] def K6:tyT 91=some ⟨.struct [(0,3),(1,23),(2,4),(3,23)],4,64,.agg [.int .i64 0,.nil,.bool false,.nil]⟩:=by kernel_rfl
@[go_sem] def C7:tyT 92=some ⟨.slice 171,1,24,.nil⟩:=by kernel_rfl
@[go_sem] def FD:tyT 110=some ⟨.struct [(0,3),(1,4)],2,16,.agg [.int .i64 0,.bool false]⟩:=by kernel_rfl
@[go_sem] def Kb:tyT 113=some ⟨.struct [(0,39),(1,39)],2,48,.agg [.nil,.nil]⟩:=by kernel_rfl
@[go_sem] def Gn:tyT 124=some ⟨.struct [(0,3),(1,3)],2,16,.agg [.int .i64 0,.int .i64 0]⟩:=by kernel_rfl
@[go_sem] def Ko:tyT 141=some ⟨.slice 144,1,24,.nil⟩:=by kernel_rfl
@[go_sem] def FU:tyT 144=some ⟨.struct [(0,3),(1,23),(2,3)],3,40,.agg [.int .i64 0,.nil,.int .i64 0]⟩:=by kernel_rfl
@[go_sem] def HW:tyT 145=some ⟨.slice 23,1,24,.nil⟩:=by kernel_rfl
@[go_sem] def Ih:tyT 150=some ⟨.ptr 155,1,8,.raw (.pointer none)⟩:=by kernel_rfl
@[go_sem] def Hg:tyT 153=some ⟨.map 157 3,1,8,.raw (.map none)⟩:=by kernel_rfl
@[go_sem] def J1:tyT 155=some ⟨.struct [(0,3),(1,24),(2,23),(3,153)],4,64,.agg [.int .i64 0,.nil,.nil,.raw (.map none)]⟩:=by kernel_rfl
@[go_sem] def G0:tyT 157=some ⟨.struct [(0,3),(1,3)],2,16,.agg [.int .i64 0,.int .i64 0]⟩:=by kernel_rfl
@[go_sem] def JM:tyT 165=some ⟨.map 168 3,1,8,.raw (.map none)⟩:=by kernel_rfl
@[go_sem] def FQ:tyT 168=some ⟨.struct [(0,3),(1,3)],2,16,.agg [.int .i64 0,.int .i64 0]⟩:=by kernel_rfl
@[go_sem] def uR:tyT 171=some ⟨.struct [(0,3),(1,3)],2,16,.agg [.int .i64 0,.int .i64 0]⟩:=by kernel_rfl
@[go_sem] def F8:tyT 176=some ⟨.struct [(0,22),(1,3)],2,32,.agg [.nil,.int .i64 0]⟩:=by kernel_rfl
@[go_sem] def JV:tyT 179=some ⟨.slice 182,1,24,.nil⟩:=by kernel_rfl
@[go_sem] def ET:tyT 182=some ⟨.struct [(0,3),(1,3),(2,3),(3,23),(4,23)],5,72,.agg [.int .i64 0,.int .i64 0,.int .i64 0,.nil,.nil]⟩:=by kernel_rfl
@[go_sem] def J5:tyT 187=some ⟨.array 8 4,8,8,.agg [.bool false,.bool false,.bool false,.bool false,.bool false,.bool false,.bool false,.bool false]⟩:=by kernel_rfl
@[go_sem] def Fm:tyT 188=some ⟨.array 25 187,200,200,.agg [.bool false,.bool false,.bool false,.bool false,.bool false,.bool false,.bool false,.bool false,.bool false,.bool false,.bool false,.bool false,.bool false,.bool false,.bool false,.bool false,.bool false,.bool false,.bool false,.bool false,.bool false,.bool false,.bool false,.bool false,.bool false,.bool false,.bool false,.bool false,.bool false,.bool false,.bool false,.bool false,.bool false,.bool false,.bool false,.bool false,.bool false,.bool false,.bool false,.bool false,.bool false,.bool false,.bool false,.bool false,.bool false,.bool false,.bool false,.bool false,.bool false,.bool false,.bool false,.bool false,.bool false,.bool false,.bool false,.bool false,.bool false,.bool false,.bool false,.bool false,.bool false,.bool false,.bool false,.bool false,.bool false,.bool false,.bool false,.bool false,.bool false,.bool false,.bool false,.bool false,.bool false,.bool false,.bool false,.bool false,.bool false,.bool false,.bool false,.bool false,.bool false,.bool false,.bool false,.bool false,.bool false,.bool false,.bool false,.bool false,.bool false,.bool false,.bool false,.bool false,.bool false,.bool false,.bool false,.bool false,.bool false,.bool false,.bool false,.bool false,.bool false,.bool false,.bool false,.bool false,.bool false,.bool false,.bool false,.bool false,.bool false,.bool false,.bool false,.bool false,.bool false,.bool false,.bool false,.bool false,.bool false,.bool false,.bool false,.bool false,.bool false,.bool false,.bool false,.bool false,.bool false,.bool false,.bool false,.bool false,.bool false,.bool false,.bool false,.bool false,.bool false,.bool false,.bool false,.bool false,.bool false,.bool false,.bool false,.bool false,.bool false,.bool false,.bool false,.bool false,.bool false,.bool false,.bool false,.bool false,.bool false,.bool false,.bool false,.bool false,.bool false,.bool false,.bool false,.bool false,.bool false,.bool false,.bool false,.bool false,.bool false,.bool false,.bool false,.bool false,.bool false,.bool false,.bool false,.bool false,.bool false,.bool false,.bool false,.bool false,.bool false,.bool false,.bool false,.bool false,.bool false,.bool false,.bool false,.bool false,.bool false,.bool false,.bool false,.bool false,.bool false,.bool false,.bool false,.bool false,.bool false,.bool false,.bool false,.bool false,.bool false,.bool false,.bool false,.bool false,.bool false,.bool false,.bool false,.bool false]⟩:=by kernel_rfl
@[go_sem] def Ke:tyT 190=some ⟨.struct [(0,188)],200,200,.agg [.bool false,.bool false,.bool false,.bool false,.bool false,.bool false,.bool false,.bool false,.bool false,.bool false,.bool false,.bool false,.bool false,.bool false,.bool false,.bool false,.bool false,.bool false,.bool false,.bool false,.bool false,.bool false,.bool false,.bool false,.bool false,.bool false,.bool false,.bool false,.bool false,.bool false,.bool false,.bool false,.bool false,.bool false,.bool false,.bool false,.bool false,.bool false,.bool false,.bool false,.bool false,.bool false,.bool false,.bool false,.bool false,.bool false,.bool false,.bool false,.bool false,.bool false,.bool false,.bool false,.bool false,.bool false,.bool false,.bool false,.bool false,.bool false,.bool false,.bool false,.bool false,.bool false,.bool false,.bool false,.bool false,.bool false,.bool false,.bool false,.bool false,.bool false,.bool false,.bool false,.bool false,.bool false,.bool false,.bool false,.bool false,.bool false,.bool false,.bool false,.bool false,.bool false,.bool false,.bool false,.bool false,.bool false,.bool false,.bool false,.bool false,.bool false,.bool false,.bool false,.bool false,.bool false,.bool false,.bool false,.bool false,.bool false,.bool false,.bool false,.bool false,.bool false,.bool false,.bool false,.bool false,.bool false,.bool false,.bool false,.bool false,.bool false,.bool false,.bool false,.bool false,.bool false,.bool false,.bool false,.bool false,.bool false,.bool false,.bool false,.bool false,.bool false,.bool false,.bool false,.bool false,.bool false,.bool false,.bool false,.bool false,.bool false,.bool false,.bool false,.bool false,.bool false,.bool false,.bool false,.bool false,.bool false,.bool false,.bool false,.bool false,.bool false,.bool false,.bool false,.bool false,.bool false,.bool false,.bool false,.bool false,.bool false,.bool false,.bool false,.bool false,.bool false,.bool false,.bool false,.bool false,.bool false,.bool false,.bool false,.bool false,.bool false,.bool false,.bool false,.bool false,.bool false,.bool false,.bool false,.bool false,.bool false,.bool false,.bool false,.bool false,.bool false,.bool false,.bool false,.bool false,.bool false,.bool false,.bool false,.bool false,.bool false,.bool false,.bool false,.bool false,.bool false,.bool false,.bool false,.bool false,.bool false,.bool false,.bool false,.bool false,.bool false,.bool false,.bool false,.bool false,.bool false,.bool false,.bool false]⟩:=by kernel_rfl
@[go_sem] def Ip:tyT 193=some ⟨.map 3 3,1,8,.raw (.map none)⟩:=by kernel_rfl
@[go_sem] def Iq:tyT 195=some ⟨.struct [(0,3),(1,3)],2,16,.agg [.int .i64 0,.int .i64 0]⟩:=by kernel_rfl
@[go_sem] def uI:tyT 216=some ⟨.struct [(0,3),(1,3)],2,16,.agg [.int .i64 0,.int .i64 0]⟩:=by kernel_rfl
@[go_sem] def FN:tyT 218=some ⟨.int .u64,1,8,.int .u64 0⟩:=by kernel_rfl
@[go_sem] def HU:tyT 229=some ⟨.array 2 3,2,16,.agg [.int .i64 0,.int .i64 0]⟩:=by kernel_rfl
@[go_sem] def Ff:tyT 233=some ⟨.slice 145,1,24,.nil⟩:=by kernel_rfl
@[go_sem] def KW:tyT 238=some ⟨.slice 168,1,24,.nil⟩:=by kernel_rfl
@[go_sem] def KG:tyT 241=some ⟨.array 4 3,4,32,.agg [.int .i64 0,.int .i64 0,.int .i64 0,.int .i64 0]⟩:=by kernel_rfl
@[go_sem] def Kx:tyT 244=some ⟨.map 3 4,1,8,.raw (.map none)⟩:=by kernel_rfl
@[go_sem] def EQ:tyT 285=some ⟨.int .u32,1,4,.int .u32 0⟩:=by kernel_rfl
@[go_sem] def Gg:tyT 287=some ⟨.int .u64,1,8,.int .u64 0⟩:=by kernel_rfl
def pf:Nat->Kind
 | 18=>.proc
 | 19=>.proc
 | 29=>.proc
 | 30=>.proc
 | 34=>.proc
 | 53=>.proc
 | 63=>.proc
 | 65=>.proc
 | 66=>.proc
 | 67=>.proc
 | 92=>.proc
 | 93=>.proc
 | 94=>.proc
 | 98=>.proc
 | 102=>.proc
 | 105=>.proc
 | 106=>.proc
 | 107=>.proc
 | 112=>.proc
 | 113=>.proc
 | 116=>.proc
 | 117=>.proc
 | 125=>.proc
 | 126=>.proc
 | 127=>.proc
 | 132=>.proc
 | 141=>.proc
 | 147=>.proc
 | 149=>.proc
 | 159=>.proc
 | 163=>.proc
 | 165=>.proc
 | 166=>.proc
 | 167=>.proc
 | 169=>.proc
 | 170=>.proc
 | 175=>.proc
 | 183=>.proc
 | 188=>.proc
 | 195=>.proc
 | 199=>.proc
 | 201=>.proc
 | 208=>.proc
 | 209=>.proc
 | 211=>.proc
 | 216=>.proc
 | 217=>.proc
 | 218=>.proc
 | 219=>.proc
 | 226=>.proc
 | 227=>.proc
 | 230=>.proc
 | 12=>.fz
 | 32=>.fz
 | 35=>.fz
 | 40=>.fz
 | 55=>.fz
 | 56=>.fz
 | 69=>.fz
 | 75=>.fz
 | 76=>.fz
 | 85=>.fz
 | 96=>.fz
 | 97=>.fz
 | 99=>.fz
 | 101=>.fz
 | 109=>.fz
 | 137=>.fz
 | 152=>.fz
 | 176=>.fz
 | 189=>.fz
 | 190=>.fz
 | _=>.own
@[go_sem] def MK:pf 13=.own:=rfl
@[go_sem] def Pl:pf 23=.own:=rfl
@[go_sem] def MB:pf 24=.own:=rfl
@[go_sem] def LD:pf 25=.own:=rfl
@[go_sem] def MG:pf 26=.own:=rfl
@[go_sem] def O4:pf 27=.own:=rfl
@[go_sem] def Lo:pf 28=.own:=rfl
@[go_sem] def L6:pf 29=.proc:=rfl
@[go_sem] def Od:pf 30=.proc:=rfl
@[go_sem] def Mx:pf 31=.own:=rfl
@[go_sem] def Ms:pf 33=.own:=rfl
@[go_sem] def NP:pf 40=.fz:=rfl
@[go_sem] def MQ:pf 49=.own:=rfl
@[go_sem] def MO:pf 50=.own:=rfl
@[go_sem] def Nl:pf 51=.own:=rfl
@[go_sem] def Lk:pf 59=.own:=rfl
@[go_sem] def Nt:pf 64=.own:=rfl
@[go_sem] def Ov:pf 68=.own:=rfl
@[go_sem] def L2:pf 69=.fz:=rfl
@[go_sem] def Mu:pf 70=.own:=rfl
@[go_sem] def Ld:pf 71=.own:=rfl
@[go_sem] def N7:pf 72=.own:=rfl
@[go_sem] def Pb:pf 74=.own:=rfl
@[go_sem] def Ns:pf 75=.fz:=rfl
@[go_sem] def Nf:pf 77=.own:=rfl
@[go_sem] def Ll:pf 83=.own:=rfl
@[go_sem] def OR:pf 84=.own:=rfl
@[go_sem] def Ly:pf 85=.fz:=rfl
@[go_sem] def NY:pf 86=.own:=rfl
@[go_sem] def Ml:pf 87=.own:=rfl
@[go_sem] def NM:pf 88=.own:=rfl
@[go_sem] def LL:pf 89=.own:=rfl
@[go_sem] def Oa:pf 90=.own:=rfl
@[go_sem] def MD:pf 91=.own:=rfl
@[go_sem] def N0:pf 92=.proc:=rfl
@[go_sem] def LY:pf 93=.proc:=rfl
@[go_sem] def OX:pf 95=.own:=rfl
@[go_sem] def Ia:pf 101=.fz:=rfl
@[go_sem] def HD:pf 102=.proc:=rfl
@[go_sem] def Gp:pf 103=.own:=rfl
@[go_sem] def HJ:pf 104=.own:=rfl
@[go_sem] def IZ:pf 105=.proc:=rfl
@[go_sem] def IK:pf 107=.proc:=rfl
@[go_sem] def Fx:pf 108=.own:=rfl
@[go_sem] def F5:pf 109=.fz:=rfl
@[go_sem] def Fk:pf 118=.own:=rfl
@[go_sem] def KV:pf 120=.own:=rfl
@[go_sem] def IP:pf 123=.own:=rfl
@[go_sem] def Ie:pf 124=.own:=rfl
@[go_sem] def G3:pf 127=.proc:=rfl
@[go_sem] def HM:pf 128=.own:=rfl
@[go_sem] def GT:pf 129=.own:=rfl
@[go_sem] def I2:pf 130=.own:=rfl
@[go_sem] def Fo:pf 131=.own:=rfl
@[go_sem] def JG:pf 132=.proc:=rfl
@[go_sem] def Fz:pf 133=.own:=rfl
@[go_sem] def Ho:pf 134=.own:=rfl
@[go_sem] def Gr:pf 135=.own:=rfl
@[go_sem] def Ja:pf 136=.own:=rfl
@[go_sem] def Kw:pf 137=.fz:=rfl
@[go_sem] def Jw:pf 138=.own:=rfl
@[go_sem] def J6:pf 139=.own:=rfl
@[go_sem] def Hx:pf 140=.own:=rfl
@[go_sem] def E3:pf 141=.proc:=rfl
@[go_sem] def G8:pf 142=.own:=rfl
@[go_sem] def II:pf 143=.own:=rfl
@[go_sem] def Km:pf 144=.own:=rfl
@[go_sem] def Fe:pf 148=.own:=rfl
@[go_sem] def IM:pf 152=.fz:=rfl
@[go_sem] def Kk:pf 153=.own:=rfl
@[go_sem] def JK:pf 154=.own:=rfl
@[go_sem] def Gy:pf 155=.own:=rfl
@[go_sem] def Ib:pf 156=.own:=rfl
@[go_sem] def HC:pf 157=.own:=rfl
@[go_sem] def KK:pf 158=.own:=rfl
@[go_sem] def Hn:pf 160=.own:=rfl
@[go_sem] def Gq:pf 161=.own:=rfl
@[go_sem] def Hf:pf 162=.own:=rfl
@[go_sem] def In:pf 163=.proc:=rfl
@[go_sem] def KH:pf 164=.own:=rfl
@[go_sem] def IC:pf 173=.own:=rfl
@[go_sem] def Ij:pf 174=.own:=rfl
@[go_sem] def Fv:pf 175=.proc:=rfl
@[go_sem] def H3:pf 176=.fz:=rfl
@[go_sem] def IY:pf 180=.own:=rfl
@[go_sem] def JT:pf 182=.own:=rfl
@[go_sem] def Gu:pf 184=.own:=rfl
@[go_sem] def Jq:pf 185=.own:=rfl
@[go_sem] def GD:pf 186=.own:=rfl
@[go_sem] def KQ:pf 187=.own:=rfl
@[go_sem] def Je:pf 188=.proc:=rfl
@[go_sem] def HZ:pf 189=.fz:=rfl
@[go_sem] def KP:pf 190=.fz:=rfl
@[go_sem] def FE:pf 191=.own:=rfl
@[go_sem] def HV:pf 192=.own:=rfl
@[go_sem] def GC:pf 193=.own:=rfl
@[go_sem] def G2:pf 194=.own:=rfl
@[go_sem] def Gk:pf 195=.proc:=rfl
@[go_sem] def GO:pf 196=.own:=rfl
@[go_sem] def Hc:pf 200=.own:=rfl
@[go_sem] def GA:pf 201=.proc:=rfl
@[go_sem] def Jf:pf 202=.own:=rfl
@[go_sem] def GH:pf 203=.own:=rfl
@[go_sem] def KS:pf 208=.proc:=rfl
@[go_sem] def Io:pf 209=.proc:=rfl
@[go_sem] def If:pf 210=.own:=rfl
@[go_sem] def JJ:pf 211=.proc:=rfl
@[go_sem] def GL:pf 212=.own:=rfl
@[go_sem] def J9:pf 213=.own:=rfl
@[go_sem] def Gi:pf 214=.own:=rfl
@[go_sem] def HH:pf 215=.own:=rfl
@[go_sem] def EZ:pf 216=.proc:=rfl
@[go_sem] def GI:pf 217=.proc:=rfl
@[go_sem] def H4:pf 218=.proc:=rfl
@[go_sem] def Iz:pf 219=.proc:=rfl
@[go_sem] def HX:pf 220=.own:=rfl
@[go_sem] def FJ:pf 221=.own:=rfl
@[go_sem] def GU:pf 222=.own:=rfl
@[go_sem] def KM:pf 223=.own:=rfl
@[go_sem] def Fw:pf 224=.own:=rfl
@[go_sem] def Ks:pf 225=.own:=rfl
@[go_sem] def HP:pf 226=.proc:=rfl
@[go_sem] def I5:pf 227=.proc:=rfl
@[go_sem] def Hw:pf 228=.own:=rfl
@[go_sem] def KI:pf 229=.own:=rfl
@[go_sem] def Gb:pf 230=.proc:=rfl
@[go_sem] def KD:pf 236=.own:=rfl
@[go_sem] def Hu:pf 240=.own:=rfl
@[go_sem] def Ik:pf 246=.own:=rfl
noncomputable def env (n:Nat):Env:=⟨prog,tyT,pf,n,.low⟩
@[go_sem] def yi (n:Nat):(env n).deep=.low:=rfl
noncomputable def kb (n:Nat):Env:=⟨prog,tyT,pf,n,.both⟩
@[go_sem] def xC (n:Nat):(kb n).deep=.both:=rfl
@[go_sem] def B2 (n:Nat):(kb n).T=tyT:=rfl
@[go_sem] def El (n:Nat):(kb n).n=n:=rfl
@[go_sem] def BO (n f:Nat):(kb n).pf f=pf f:=rfl
@[go_sem] def Cb (n:Nat):(kb n).P=prog:=rfl
noncomputable def dx (n:Nat):Env:=⟨prog,tyT,pf,n,.sD⟩
@[go_sem] def xW (n:Nat):(dx n).deep=.sD:=rfl
@[go_sem] def B1 (n:Nat):(dx n).T=tyT:=rfl
@[go_sem] def DK (n:Nat):(dx n).n=n:=rfl
@[go_sem] def Ag (n f:Nat):(dx n).pf f=pf f:=rfl
@[go_sem] def Dx (n:Nat):(dx n).P=prog:=rfl
@[go_sem] def Hv (n:Nat):(env n).T=tyT:=rfl
@[go_sem] def I7 (n:Nat):(env n).n=n:=rfl
@[go_sem] def CK (n f:Nat):(env n).pf f=pf f:=rfl
@[go_sem] def Kd (n:Nat):(env n).P=prog:=rfl
@[go_sem] def follows:prog.follows .mixedOrders=true:=by kernel_rfl
attribute [go_sem] results3 results4 results5 results6 results7 results8 results9 results10 results11 results12 results13 results14 results15 results16 results17 results18 results19 results20 results21 results22 results23 results24 results25 results26 results27 results28 results29 results30 results31 results32 results33 results34 results35 results36 results37 results38 results39 results40 results41 results42 results43 results44 results45 results46 results47 results48 results49 results50 results51 results52 results53 results54 results55 results56 results57 results58 results59 results60 results61 results62 results63 results64 results65 results66 results67 results68 results69 results70 results71 results72 results73 results74 results75 results76 results77 results78 results79 results80 results81 results82 results83 results84 results85 results86 results87 results88 results89 results90 results91 results92 results93 results94 results95 results96 results97 results98 results99 results100 results101 results102 results103 results104 results105 results106 results107 results108 results109 results110 results111 results112 results113 results114 results115 results116 results117 results118 results119 results120 results121 results122 results123 results124 results125 results126 results127 results128 results129 results130 results131 results132 results133 results134 results135 results136 results137 results138 results139 results140 results141 results142 results143 results144 results145 results146 results147 results148 results149 results150 results151 results152 results153 results154 results155 results156 results157 results158 results159 results160 results161 results162 results163 results164 results165 results166 results167 results168 results169 results170 results171 results172 results173 results174 results175 results176 results177 results178 results179 results180 results181 results182 results183 results184 results185 results186 results187 results188 results189 results190 results191 results192 results193 results194 results195 results196 results197 results198 results199 results200 results201 results202 results203 results204 results205 results206 results207 results208 results209 results210 results211 results212 results213 results214 results215 results216 results217 results218 results219 results220 results221 results222 results223 results224 results225 results226 results227 results228 results229 results230 results231 results232 results233 results234 results235 results236 results237 results238 results239 results240 results241 results242 results243 results244 results245 results246 results247
def bw {f : Nat} {fn : Func} {c : Code} {nt : Nat} {ds : List D} {x : D} (hf : prog.funcs[f]? = some fn) (hb : fn.body = some c) (hnt : fn.ntmps = nt) (h : eC ds -> ct (env 0) 1000 c [] (endsWith (env 0).T fn (fun fr r H' => qC x (pk H' 3 r))) ⟨nt, jw 0 (ds.map .d)⟩ []) (hnm : (fn.name == "runtime.NumGoroutine") = false := by rfl) (hl : ds.length <= nt := by simp) : Pure prog f ds x :=
 MX (E:=env 0) tok rfl 1000 hf hb hnm hnt hl h
def cg {n:Nat}{fr:Fr}{H:List R}{Q:aX}{id:Nat}{l:List Oper}{ks:List VL.Item}(tails:List Nat) (t:dV) (h:bY (env n) 1000 l tails (tJ (env n) 1000 ks Q) t fr H) (hc:vE l.toArray tails t=true:=by kernel_rfl):cJ (env n).P (env n).n (.region id l.toArray true) (dG (env n) ks Q) fr H:=
 xX (E:=env n) tok follows 1000 1000 tails t hc h
end Go.Proofs.Tryz
