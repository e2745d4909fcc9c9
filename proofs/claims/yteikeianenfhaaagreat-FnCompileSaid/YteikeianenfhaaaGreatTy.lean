/- The table of the types of a translation, and that it is right. Made by a program. Conditions: none. -/
import Derived.Test.YteikeianenfhaaaGreatProg
import Derived.Test.YteikeianenfhaaaGreatVM8
import Derived.KernelRfl
set_option linter.unusedVariables false
set_option maxRecDepth 20000
set_option maxHeartbeats 2000000
set_option linter.defProp false
namespace Go.Proofs.Tryz
open Go.VL
def bg {P:Program}{t:Nat}{ti:TI}(h1:(P.info? t).map (fun i=>(i.size,i.bytes,i.zero))=some (ti.size,ti.bytes,some (bc ti.zero)):=by kernel_rfl) (h2:(P.underlying t).map ff=some ti.ty:=by kernel_rfl) (h3:vn ti.zero=true:=by kernel_rfl) (h4:ti.zero.cells.length=ti.size:=by kernel_rfl) (h5:(match ti.zero with|.agg _=>true|_=>false)=ti.ty.agg:=by kernel_rfl) (h6:AU P t=true:=by kernel_rfl):a0 P t ti:=ue h1 h2 h3 h4 h5 h6
def AG (t:Nat):List (Nat×TI)->Option TI
 | []=>none
 | (s,x)::r=>cond (Nat.beq s t) (some x) (AG t r)
def Ax (P:Nat->TI->Prop):List (Nat×TI)->Prop
 | []=>True
 | (s,x)::r=>P s x/\Ax P r
def Ms {P:Nat->TI->Prop}{t:Nat}{ti:TI} : ∀ {l:List (Nat×TI)},Ax P l->AG t l=some ti->P t ti
 | [],_,h=>by simp[AG] at h
 | (s,x)::r,ha,h=>by
  simp only[AG] at h;cases e:Nat.beq s t with
  | true=>
   rw[e] at h;cases h;rw[Nat.eq_of_beq_eq_true e] at ha;exact ha.1
  | false=>
   rw[e] at h;exact Ms ha.2 h
def Jd:List (Nat×TI):=[
 (2,⟨.int .i64,1,8,.int .i64 0⟩),
 (3,⟨.int .i64,1,8,.int .i64 0⟩),
 (4,⟨.bool,1,1,.bool false⟩),
 (5,⟨.int .u8,1,1,.int .u8 0⟩),
 (9,⟨.string,1,16,.raw (.string .empty)⟩),
 (12,⟨.int .u64,1,8,.int .u64 0⟩),
 (13,⟨.struct [(0,9),(1,12)],2,24,.agg [.raw (.string .empty),.int .u64 0]⟩),
 (21,⟨.int .i32,1,4,.int .i32 0⟩),
 (22,⟨.slice 5,1,24,.nil⟩),
 (23,⟨.slice 3,1,24,.nil⟩),
 (24,⟨.slice 157,1,24,.nil⟩),
 (25,⟨.struct [(0,3),(1,23),(2,24),(3,23)],4,80,.agg [.int .i64 0,.nil,.nil,.nil]⟩),
 (26,⟨.struct [(0,3),(1,23),(2,24),(3,23)],4,80,.agg [.int .i64 0,.nil,.nil,.nil]⟩),
 (27,⟨.slice 124,1,24,.nil⟩),
 (30,⟨.slice 91,1,24,.nil⟩),
 (31,⟨.slice 110,1,24,.nil⟩),
 (32,⟨.struct [(0,30),(1,31)],2,48,.agg [.nil,.nil]⟩),
 (33,⟨.struct [(0,30),(1,31)],2,48,.agg [.nil,.nil]⟩),
 (38,⟨.slice 39,1,24,.nil⟩),
 (39,⟨.slice 4,1,24,.nil⟩),
 (47,⟨.slice 216,1,24,.nil⟩),
 (48,⟨.struct [(0,3),(1,23),(2,47),(3,23)],4,80,.agg [.int .i64 0,.nil,.nil,.nil]⟩),
 (49,⟨.struct [(0,3),(1,23),(2,47),(3,23)],4,80,.agg [.int .i64 0,.nil,.nil,.nil]⟩),
 (67,⟨.slice 72,1,24,.nil⟩),
 (70,⟨.slice 195,1,24,.nil⟩),
 (71,⟨.struct [(0,3),(1,3),(2,70)],3,40,.agg [.int .i64 0,.int .i64 0,.nil]⟩),
 (72,⟨.struct [(0,3),(1,3),(2,70)],3,40,.agg [.int .i64 0,.int .i64 0,.nil]⟩),
 (73,⟨.slice 76,1,24,.nil⟩),
 (75,⟨.struct [(0,3),(1,23),(2,3),(3,4)],4,48,.agg [.int .i64 0,.nil,.int .i64 0,.bool false]⟩),
 (76,⟨.struct [(0,3),(1,23),(2,3),(3,4)],4,48,.agg [.int .i64 0,.nil,.int .i64 0,.bool false]⟩),
 (82,⟨.slice 26,1,24,.nil⟩),
 (90,⟨.struct [(0,3),(1,23),(2,4),(3,23)],4,64,.agg [.int .i64 0,.nil,.bool false,.nil]⟩),
 (91,⟨.struct [(0,3),(1,23),(2,4),(3,23)],4,64,.agg [.int .i64 0,.nil,.bool false,.nil]⟩),
 (92,⟨.slice 171,1,24,.nil⟩),
 (98,⟨.ptr 176,1,8,.raw (.pointer none)⟩),
 (105,⟨.ptr 26,1,8,.raw (.pointer none)⟩),
 (109,⟨.struct [(0,3),(1,4)],2,16,.agg [.int .i64 0,.bool false]⟩),
 (110,⟨.struct [(0,3),(1,4)],2,16,.agg [.int .i64 0,.bool false]⟩),
 (112,⟨.struct [(0,39),(1,39)],2,48,.agg [.nil,.nil]⟩),
 (113,⟨.struct [(0,39),(1,39)],2,48,.agg [.nil,.nil]⟩),
 (115,⟨.struct [(0,39)],1,24,.agg [.nil]⟩),
 (116,⟨.struct [(0,39)],1,24,.agg [.nil]⟩),
 (118,⟨.struct [(0,39),(1,116)],2,48,.agg [.nil,.nil]⟩),
 (119,⟨.struct [(0,39),(1,116)],2,48,.agg [.nil,.nil]⟩),
 (121,⟨.ptr 33,1,8,.raw (.pointer none)⟩),
 (123,⟨.struct [(0,3),(1,3)],2,16,.agg [.int .i64 0,.int .i64 0]⟩),
 (124,⟨.struct [(0,3),(1,3)],2,16,.agg [.int .i64 0,.int .i64 0]⟩),
 (135,⟨.map 229 3,1,8,.raw (.map none)⟩),
 (136,⟨.struct [(0,73),(1,135),(2,23)],3,56,.agg [.nil,.raw (.map none),.nil]⟩),
 (137,⟨.struct [(0,73),(1,135),(2,23)],3,56,.agg [.nil,.raw (.map none),.nil]⟩),
 (141,⟨.slice 144,1,24,.nil⟩),
 (143,⟨.struct [(0,3),(1,23),(2,3)],3,40,.agg [.int .i64 0,.nil,.int .i64 0]⟩),
 (144,⟨.struct [(0,3),(1,23),(2,3)],3,40,.agg [.int .i64 0,.nil,.int .i64 0]⟩),
 (145,⟨.slice 23,1,24,.nil⟩),
 (150,⟨.ptr 155,1,8,.raw (.pointer none)⟩),
 (153,⟨.map 157 3,1,8,.raw (.map none)⟩),
 (154,⟨.struct [(0,3),(1,24),(2,23),(3,153)],4,64,.agg [.int .i64 0,.nil,.nil,.raw (.map none)]⟩),
 (155,⟨.struct [(0,3),(1,24),(2,23),(3,153)],4,64,.agg [.int .i64 0,.nil,.nil,.raw (.map none)]⟩),
 (156,⟨.struct [(0,3),(1,3)],2,16,.agg [.int .i64 0,.int .i64 0]⟩),
 (157,⟨.struct [(0,3),(1,3)],2,16,.agg [.int .i64 0,.int .i64 0]⟩),
 (165,⟨.map 168 3,1,8,.raw (.map none)⟩),
 (167,⟨.struct [(0,3),(1,3)],2,16,.agg [.int .i64 0,.int .i64 0]⟩),
 (168,⟨.struct [(0,3),(1,3)],2,16,.agg [.int .i64 0,.int .i64 0]⟩),
 (171,⟨.struct [(0,3),(1,3)],2,16,.agg [.int .i64 0,.int .i64 0]⟩),
 (175,⟨.struct [(0,22),(1,3)],2,32,.agg [.nil,.int .i64 0]⟩),
 (176,⟨.struct [(0,22),(1,3)],2,32,.agg [.nil,.int .i64 0]⟩),
 (179,⟨.slice 182,1,24,.nil⟩),
 (181,⟨.struct [(0,3),(1,3),(2,3),(3,23),(4,23)],5,72,.agg [.int .i64 0,.int .i64 0,.int .i64 0,.nil,.nil]⟩),
 (182,⟨.struct [(0,3),(1,3),(2,3),(3,23),(4,23)],5,72,.agg [.int .i64 0,.int .i64 0,.int .i64 0,.nil,.nil]⟩),
 (186,⟨.ptr 190,1,8,.raw (.pointer none)⟩),
 (187,⟨.array 8 4,8,8,.agg [.bool false,.bool false,.bool false,.bool false,.bool false,.bool false,.bool false,.bool false]⟩),
 (188,⟨.array 25 187,200,200,.agg (.replicate 200 (.bool false))⟩),
 (189,⟨.struct [(0,188)],200,200,.agg (.replicate 200 (.bool false))⟩),
 (190,⟨.struct [(0,188)],200,200,.agg (.replicate 200 (.bool false))⟩),
 (193,⟨.map 3 3,1,8,.raw (.map none)⟩),
 (194,⟨.struct [(0,3),(1,3)],2,16,.agg [.int .i64 0,.int .i64 0]⟩),
 (195,⟨.struct [(0,3),(1,3)],2,16,.agg [.int .i64 0,.int .i64 0]⟩),
 (197,⟨.ptr 91,1,8,.raw (.pointer none)⟩),
 (206,⟨.ptr 209,1,8,.raw (.pointer none)⟩),
 (207,⟨.map 168 4,1,8,.raw (.map none)⟩),
 (208,⟨.struct [(0,121),(1,39),(2,39),(3,207)],4,64,.agg [.raw (.pointer none),.nil,.nil,.raw (.map none)]⟩),
 (209,⟨.struct [(0,121),(1,39),(2,39),(3,207)],4,64,.agg [.raw (.pointer none),.nil,.nil,.raw (.map none)]⟩),
 (216,⟨.struct [(0,3),(1,3)],2,16,.agg [.int .i64 0,.int .i64 0]⟩),
 (218,⟨.int .u64,1,8,.int .u64 0⟩),
 (223,⟨.ptr 225,1,8,.raw (.pointer none)⟩),
 (224,⟨.struct [(0,22),(1,4)],2,32,.agg [.nil,.bool false]⟩),
 (225,⟨.struct [(0,22),(1,4)],2,32,.agg [.nil,.bool false]⟩),
 (229,⟨.array 2 3,2,16,.agg [.int .i64 0,.int .i64 0]⟩),
 (233,⟨.slice 145,1,24,.nil⟩),
 (238,⟨.slice 168,1,24,.nil⟩),
 (241,⟨.array 4 3,4,32,.agg [.int .i64 0,.int .i64 0,.int .i64 0,.int .i64 0]⟩),
 (244,⟨.map 3 4,1,8,.raw (.map none)⟩),
 (278,⟨.int .i64,1,8,.int .i64 0⟩),
 (285,⟨.int .u32,1,4,.int .u32 0⟩),
 (287,⟨.int .u64,1,8,.int .u64 0⟩),
 (288,⟨.int .u64,1,8,.int .u64 0⟩),
 (292,⟨.ptr 3,1,8,.raw (.pointer none)⟩),
 (294,⟨.ptr 288,1,8,.raw (.pointer none)⟩),
 (306,⟨.ptr 5,1,8,.raw (.pointer none)⟩)]
def tyT:Nat->Option TI:=fun t=>AG t Jd
def tok:bQ prog tyT:=fun t ti h=>Ms (P:=a0 prog) (l:=Jd) ⟨bg,bg,bg,bg,bg,bg,bg,bg,bg,bg,bg,bg,bg,bg,bg,bg,bg,bg,bg,bg,bg,bg,bg,bg,bg,bg,bg,bg,bg,bg,bg,bg,bg,bg,bg,bg,bg,bg,bg,bg,bg,bg,bg,bg,bg,bg,bg,bg,bg,bg,bg,bg,bg,bg,bg,bg,bg,bg,bg,bg,bg,bg,bg,bg,bg,bg,bg,bg,bg,bg,bg,bg,bg,bg,bg,bg,bg,bg,bg,bg,bg,bg,bg,bg,bg,bg,bg,bg,bg,bg,bg,bg,bg,bg,bg,bg,bg,bg,bg,trivial⟩ h
@[go_sem] def pV:tyT 2=some ⟨.int .i64,1,8,.int .i64 0⟩:=by kernel_rfl
@[go_sem] def yc:tyT 3=some ⟨.int .i64,1,8,.int .i64 0⟩:=by kernel_rfl
@[go_sem] def UP:tyT 4=some ⟨.bool,1,1,.bool false⟩:=by kernel_rfl
@[go_sem] def Mr:tyT 5=some ⟨.int .u8,1,1,.int .u8 0⟩:=by kernel_rfl
@[go_sem] def ty9:tyT 9=some ⟨.string,1,16,.raw (.string .empty)⟩:=by kernel_rfl
@[go_sem] def FU:tyT 22=some ⟨.slice 5,1,24,.nil⟩:=by kernel_rfl
@[go_sem] def F5:tyT 23=some ⟨.slice 3,1,24,.nil⟩:=by kernel_rfl
@[go_sem] def Sk:tyT 24=some ⟨.slice 157,1,24,.nil⟩:=by kernel_rfl
@[go_sem] def PA:tyT 26=some ⟨.struct [(0,3),(1,23),(2,24),(3,23)],4,80,.agg [.int .i64 0,.nil,.nil,.nil]⟩:=by kernel_rfl
@[go_sem] def RP:tyT 27=some ⟨.slice 124,1,24,.nil⟩:=by kernel_rfl
@[go_sem] def N3:tyT 30=some ⟨.slice 91,1,24,.nil⟩:=by kernel_rfl
@[go_sem] def P9:tyT 31=some ⟨.slice 110,1,24,.nil⟩:=by kernel_rfl
@[go_sem] def Qm:tyT 33=some ⟨.struct [(0,30),(1,31)],2,48,.agg [.nil,.nil]⟩:=by kernel_rfl
@[go_sem] def RO:tyT 38=some ⟨.slice 39,1,24,.nil⟩:=by kernel_rfl
@[go_sem] def Q5:tyT 39=some ⟨.slice 4,1,24,.nil⟩:=by kernel_rfl
@[go_sem] def Gh:tyT 47=some ⟨.slice 216,1,24,.nil⟩:=by kernel_rfl
@[go_sem] def Ge:tyT 49=some ⟨.struct [(0,3),(1,23),(2,47),(3,23)],4,80,.agg [.int .i64 0,.nil,.nil,.nil]⟩:=by kernel_rfl
@[go_sem] def RH:tyT 67=some ⟨.slice 72,1,24,.nil⟩:=by kernel_rfl
@[go_sem] def Qc:tyT 70=some ⟨.slice 195,1,24,.nil⟩:=by kernel_rfl
@[go_sem] def N0:tyT 72=some ⟨.struct [(0,3),(1,3),(2,70)],3,40,.agg [.int .i64 0,.int .i64 0,.nil]⟩:=by kernel_rfl
@[go_sem] def Sl:tyT 73=some ⟨.slice 76,1,24,.nil⟩:=by kernel_rfl
@[go_sem] def NX:tyT 76=some ⟨.struct [(0,3),(1,23),(2,3),(3,4)],4,48,.agg [.int .i64 0,.nil,.int .i64 0,.bool false]⟩:=by kernel_rfl
@[go_sem] def O2:tyT 91=some ⟨.struct [(0,3),(1,23),(2,4),(3,23)],4,64,.agg [.int .i64 0,.nil,.bool false,.nil]⟩:=by kernel_rfl
@[go_sem] def Er:tyT 92=some ⟨.slice 171,1,24,.nil⟩:=by kernel_rfl
@[go_sem] def Iz:tyT 110=some ⟨.struct [(0,3),(1,4)],2,16,.agg [.int .i64 0,.bool false]⟩:=by kernel_rfl
@[go_sem] def Mv:tyT 113=some ⟨.struct [(0,39),(1,39)],2,48,.agg [.nil,.nil]⟩:=by kernel_rfl
@[go_sem] def Jp:tyT 116=some ⟨.struct [(0,39)],1,24,.agg [.nil]⟩:=by kernel_rfl
@[go_sem] def Jt:tyT 119=some ⟨.struct [(0,39),(1,116)],2,48,.agg [.nil,.nil]⟩:=by kernel_rfl
@[go_sem] def Hm:tyT 121=some ⟨.ptr 33,1,8,.raw (.pointer none)⟩:=by kernel_rfl
@[go_sem] def HT:tyT 124=some ⟨.struct [(0,3),(1,3)],2,16,.agg [.int .i64 0,.int .i64 0]⟩:=by kernel_rfl
@[go_sem] def Jb:tyT 141=some ⟨.slice 144,1,24,.nil⟩:=by kernel_rfl
@[go_sem] def LA:tyT 144=some ⟨.struct [(0,3),(1,23),(2,3)],3,40,.agg [.int .i64 0,.nil,.int .i64 0]⟩:=by kernel_rfl
@[go_sem] def Kz:tyT 145=some ⟨.slice 23,1,24,.nil⟩:=by kernel_rfl
@[go_sem] def Ki:tyT 150=some ⟨.ptr 155,1,8,.raw (.pointer none)⟩:=by kernel_rfl
@[go_sem] def IF:tyT 153=some ⟨.map 157 3,1,8,.raw (.map none)⟩:=by kernel_rfl
@[go_sem] def Ha:tyT 155=some ⟨.struct [(0,3),(1,24),(2,23),(3,153)],4,64,.agg [.int .i64 0,.nil,.nil,.raw (.map none)]⟩:=by kernel_rfl
@[go_sem] def LQ:tyT 157=some ⟨.struct [(0,3),(1,3)],2,16,.agg [.int .i64 0,.int .i64 0]⟩:=by kernel_rfl
@[go_sem] def LS:tyT 165=some ⟨.map 168 3,1,8,.raw (.map none)⟩:=by kernel_rfl
@[go_sem] def Mb:tyT 168=some ⟨.struct [(0,3),(1,3)],2,16,.agg [.int .i64 0,.int .i64 0]⟩:=by kernel_rfl
@[go_sem] def ww:tyT 171=some ⟨.struct [(0,3),(1,3)],2,16,.agg [.int .i64 0,.int .i64 0]⟩:=by kernel_rfl
@[go_sem] def HJ:tyT 176=some ⟨.struct [(0,22),(1,3)],2,32,.agg [.nil,.int .i64 0]⟩:=by kernel_rfl
@[go_sem] def Ni:tyT 179=some ⟨.slice 182,1,24,.nil⟩:=by kernel_rfl
@[go_sem] def IA:tyT 182=some ⟨.struct [(0,3),(1,3),(2,3),(3,23),(4,23)],5,72,.agg [.int .i64 0,.int .i64 0,.int .i64 0,.nil,.nil]⟩:=by kernel_rfl
@[go_sem] def Ka:tyT 187=some ⟨.array 8 4,8,8,.agg [.bool false,.bool false,.bool false,.bool false,.bool false,.bool false,.bool false,.bool false]⟩:=by kernel_rfl
@[go_sem] def J8:tyT 188=some ⟨.array 25 187,200,200,.agg [.bool false,.bool false,.bool false,.bool false,.bool false,.bool false,.bool false,.bool false,.bool false,.bool false,.bool false,.bool false,.bool false,.bool false,.bool false,.bool false,.bool false,.bool false,.bool false,.bool false,.bool false,.bool false,.bool false,.bool false,.bool false,.bool false,.bool false,.bool false,.bool false,.bool false,.bool false,.bool false,.bool false,.bool false,.bool false,.bool false,.bool false,.bool false,.bool false,.bool false,.bool false,.bool false,.bool false,.bool false,.bool false,.bool false,.bool false,.bool false,.bool false,.bool false,.bool false,.bool false,.bool false,.bool false,.bool false,.bool false,.bool false,.bool false,.bool false,.bool false,.bool false,.bool false,.bool false,.bool false,.bool false,.bool false,.bool false,.bool false,.bool false,.bool false,.bool false,.bool false,.bool false,.bool false,.bool false,.bool false,.bool false,.bool false,.bool false,.bool false,.bool false,.bool false,.bool false,.bool false,.bool false,.bool false,.bool false,.bool false,.bool false,.bool false,.bool false,.bool false,.bool false,.bool false,.bool false,.bool false,.bool false,.bool false,.bool false,.bool false,.bool false,.bool false,.bool false,.bool false,.bool false,.bool false,.bool false,.bool false,.bool false,.bool false,.bool false,.bool false,.bool false,.bool false,.bool false,.bool false,.bool false,.bool false,.bool false,.bool false,.bool false,.bool false,.bool false,.bool false,.bool false,.bool false,.bool false,.bool false,.bool false,.bool false,.bool false,.bool false,.bool false,.bool false,.bool false,.bool false,.bool false,.bool false,.bool false,.bool false,.bool false,.bool false,.bool false,.bool false,.bool false,.bool false,.bool false,.bool false,.bool false,.bool false,.bool false,.bool false,.bool false,.bool false,.bool false,.bool false,.bool false,.bool false,.bool false,.bool false,.bool false,.bool false,.bool false,.bool false,.bool false,.bool false,.bool false,.bool false,.bool false,.bool false,.bool false,.bool false,.bool false,.bool false,.bool false,.bool false,.bool false,.bool false,.bool false,.bool false,.bool false,.bool false,.bool false,.bool false,.bool false,.bool false,.bool false,.bool false,.bool false,.bool false,.bool false,.bool false,.bool false,.bool false,.bool false,.bool false,.bool false,.bool false,.bool false,.bool false]⟩:=by kernel_rfl
@[go_sem] def Md:tyT 190=some ⟨.struct [(0,188)],200,200,.agg [.bool false,.bool false,.bool false,.bool false,.bool false,.bool false,.bool false,.bool false,.bool false,.bool false,.bool false,.bool false,.bool false,.bool false,.bool false,.bool false,.bool false,.bool false,.bool false,.bool false,.bool false,.bool false,.bool false,.bool false,.bool false,.bool false,.bool false,.bool false,.bool false,.bool false,.bool false,.bool false,.bool false,.bool false,.bool false,.bool false,.bool false,.bool false,.bool false,.bool false,.bool false,.bool false,.bool false,.bool false,.bool false,.bool false,.bool false,.bool false,.bool false,.bool false,.bool false,.bool false,.bool false,.bool false,.bool false,.bool false,.bool false,.bool false,.bool false,.bool false,.bool false,.bool false,.bool false,.bool false,.bool false,.bool false,.bool false,.bool false,.bool false,.bool false,.bool false,.bool false,.bool false,.bool false,.bool false,.bool false,.bool false,.bool false,.bool false,.bool false,.bool false,.bool false,.bool false,.bool false,.bool false,.bool false,.bool false,.bool false,.bool false,.bool false,.bool false,.bool false,.bool false,.bool false,.bool false,.bool false,.bool false,.bool false,.bool false,.bool false,.bool false,.bool false,.bool false,.bool false,.bool false,.bool false,.bool false,.bool false,.bool false,.bool false,.bool false,.bool false,.bool false,.bool false,.bool false,.bool false,.bool false,.bool false,.bool false,.bool false,.bool false,.bool false,.bool false,.bool false,.bool false,.bool false,.bool false,.bool false,.bool false,.bool false,.bool false,.bool false,.bool false,.bool false,.bool false,.bool false,.bool false,.bool false,.bool false,.bool false,.bool false,.bool false,.bool false,.bool false,.bool false,.bool false,.bool false,.bool false,.bool false,.bool false,.bool false,.bool false,.bool false,.bool false,.bool false,.bool false,.bool false,.bool false,.bool false,.bool false,.bool false,.bool false,.bool false,.bool false,.bool false,.bool false,.bool false,.bool false,.bool false,.bool false,.bool false,.bool false,.bool false,.bool false,.bool false,.bool false,.bool false,.bool false,.bool false,.bool false,.bool false,.bool false,.bool false,.bool false,.bool false,.bool false,.bool false,.bool false,.bool false,.bool false,.bool false,.bool false,.bool false,.bool false,.bool false,.bool false,.bool false,.bool false,.bool false,.bool false]⟩:=by kernel_rfl
@[go_sem] def L6:tyT 193=some ⟨.map 3 3,1,8,.raw (.map none)⟩:=by kernel_rfl
@[go_sem] def HV:tyT 195=some ⟨.struct [(0,3),(1,3)],2,16,.agg [.int .i64 0,.int .i64 0]⟩:=by kernel_rfl
@[go_sem] def L8:tyT 207=some ⟨.map 168 4,1,8,.raw (.map none)⟩:=by kernel_rfl
@[go_sem] def Kx:tyT 209=some ⟨.struct [(0,121),(1,39),(2,39),(3,207)],4,64,.agg [.raw (.pointer none),.nil,.nil,.raw (.map none)]⟩:=by kernel_rfl
@[go_sem] def vX:tyT 216=some ⟨.struct [(0,3),(1,3)],2,16,.agg [.int .i64 0,.int .i64 0]⟩:=by kernel_rfl
@[go_sem] def Jy:tyT 218=some ⟨.int .u64,1,8,.int .u64 0⟩:=by kernel_rfl
@[go_sem] def Ns:tyT 225=some ⟨.struct [(0,22),(1,4)],2,32,.agg [.nil,.bool false]⟩:=by kernel_rfl
@[go_sem] def NB:tyT 229=some ⟨.array 2 3,2,16,.agg [.int .i64 0,.int .i64 0]⟩:=by kernel_rfl
@[go_sem] def NQ:tyT 233=some ⟨.slice 145,1,24,.nil⟩:=by kernel_rfl
@[go_sem] def HR:tyT 238=some ⟨.slice 168,1,24,.nil⟩:=by kernel_rfl
@[go_sem] def M0:tyT 241=some ⟨.array 4 3,4,32,.agg [.int .i64 0,.int .i64 0,.int .i64 0,.int .i64 0]⟩:=by kernel_rfl
@[go_sem] def Nd:tyT 244=some ⟨.map 3 4,1,8,.raw (.map none)⟩:=by kernel_rfl
@[go_sem] def I4:tyT 285=some ⟨.int .u32,1,4,.int .u32 0⟩:=by kernel_rfl
@[go_sem] def JA:tyT 287=some ⟨.int .u64,1,8,.int .u64 0⟩:=by kernel_rfl
def pf:Nat->Kind
 | 18=>.proc
 | 19=>.proc
 | 29=>.proc
 | 30=>.proc
 | 34=>.proc
 | 53=>.proc
 | 63=>.proc
 | 65=>.proc
 | 66=>.proc
 | 67=>.proc
 | 92=>.proc
 | 93=>.proc
 | 94=>.proc
 | 98=>.proc
 | 102=>.proc
 | 105=>.proc
 | 106=>.proc
 | 107=>.proc
 | 112=>.proc
 | 113=>.proc
 | 116=>.proc
 | 117=>.proc
 | 125=>.proc
 | 126=>.proc
 | 127=>.proc
 | 132=>.proc
 | 141=>.proc
 | 147=>.proc
 | 149=>.proc
 | 159=>.proc
 | 163=>.proc
 | 165=>.proc
 | 166=>.proc
 | 167=>.proc
 | 169=>.proc
 | 170=>.proc
 | 175=>.proc
 | 183=>.proc
 | 188=>.proc
 | 195=>.proc
 | 199=>.proc
 | 201=>.proc
 | 208=>.proc
 | 209=>.proc
 | 211=>.proc
 | 216=>.proc
 | 217=>.proc
 | 218=>.proc
 | 219=>.proc
 | 226=>.proc
 | 227=>.proc
 | 230=>.proc
 | 12=>.fz
 | 32=>.fz
 | 35=>.fz
 | 40=>.fz
 | 55=>.fz
 | 56=>.fz
 | 69=>.fz
 | 75=>.fz
 | 76=>.fz
 | 85=>.fz
 | 96=>.fz
 | 97=>.fz
 | 99=>.fz
 | 101=>.fz
 | 109=>.fz
 | 137=>.fz
 | 152=>.fz
 | 176=>.fz
 | 189=>.fz
 | 190=>.fz
 | _=>.own
@[go_sem] def Sg:pf 13=.own:=rfl
@[go_sem] def Rl:pf 16=.own:=rfl
@[go_sem] def OQ:pf 18=.proc:=rfl
@[go_sem] def Rf:pf 19=.proc:=rfl
@[go_sem] def OL:pf 21=.own:=rfl
@[go_sem] def N4:pf 22=.own:=rfl
@[go_sem] def Pp:pf 24=.own:=rfl
@[go_sem] def Qo:pf 26=.own:=rfl
@[go_sem] def Ql:pf 32=.fz:=rfl
@[go_sem] def Q7:pf 33=.own:=rfl
@[go_sem] def Rc:pf 34=.proc:=rfl
@[go_sem] def Rh:pf 40=.fz:=rfl
@[go_sem] def Pw:pf 49=.own:=rfl
@[go_sem] def Qy:pf 50=.own:=rfl
@[go_sem] def PB:pf 51=.own:=rfl
@[go_sem] def Rg:pf 57=.own:=rfl
@[go_sem] def QS:pf 59=.own:=rfl
@[go_sem] def O7:pf 64=.own:=rfl
@[go_sem] def O3:pf 65=.proc:=rfl
@[go_sem] def R6:pf 66=.proc:=rfl
@[go_sem] def O4:pf 68=.own:=rfl
@[go_sem] def QY:pf 69=.fz:=rfl
@[go_sem] def Pc:pf 70=.own:=rfl
@[go_sem] def Sp:pf 71=.own:=rfl
@[go_sem] def Qf:pf 72=.own:=rfl
@[go_sem] def QP:pf 74=.own:=rfl
@[go_sem] def Rp:pf 75=.fz:=rfl
@[go_sem] def QZ:pf 77=.own:=rfl
@[go_sem] def Ru:pf 78=.own:=rfl
@[go_sem] def QF:pf 79=.own:=rfl
@[go_sem] def Ol:pf 80=.own:=rfl
@[go_sem] def Py:pf 81=.own:=rfl
@[go_sem] def SL:pf 85=.fz:=rfl
@[go_sem] def QR:pf 86=.own:=rfl
@[go_sem] def Qn:pf 89=.own:=rfl
@[go_sem] def Q6:pf 94=.proc:=rfl
@[go_sem] def Ro:pf 95=.own:=rfl
@[go_sem] def Sx:pf 96=.fz:=rfl
@[go_sem] def Nh:pf 101=.fz:=rfl
@[go_sem] def Kw:pf 102=.proc:=rfl
@[go_sem] def Hc:pf 103=.own:=rfl
@[go_sem] def Ih:pf 104=.own:=rfl
@[go_sem] def Ji:pf 105=.proc:=rfl
@[go_sem] def NN:pf 107=.proc:=rfl
@[go_sem] def Iq:pf 108=.own:=rfl
@[go_sem] def IY:pf 109=.fz:=rfl
@[go_sem] def ML:pf 117=.proc:=rfl
@[go_sem] def Jz:pf 118=.own:=rfl
@[go_sem] def Is:pf 120=.own:=rfl
@[go_sem] def Lm:pf 123=.own:=rfl
@[go_sem] def NK:pf 124=.own:=rfl
@[go_sem] def MF:pf 125=.proc:=rfl
@[go_sem] def J3:pf 126=.proc:=rfl
@[go_sem] def Mu:pf 127=.proc:=rfl
@[go_sem] def NG:pf 128=.own:=rfl
@[go_sem] def IJ:pf 129=.own:=rfl
@[go_sem] def KF:pf 130=.own:=rfl
@[go_sem] def ND:pf 131=.own:=rfl
@[go_sem] def NH:pf 132=.proc:=rfl
@[go_sem] def LH:pf 133=.own:=rfl
@[go_sem] def KI:pf 134=.own:=rfl
@[go_sem] def Kh:pf 135=.own:=rfl
@[go_sem] def Jr:pf 136=.own:=rfl
@[go_sem] def Hh:pf 137=.fz:=rfl
@[go_sem] def LF:pf 138=.own:=rfl
@[go_sem] def MY:pf 139=.own:=rfl
@[go_sem] def Kb:pf 140=.own:=rfl
@[go_sem] def Kg:pf 141=.proc:=rfl
@[go_sem] def K0:pf 142=.own:=rfl
@[go_sem] def JS:pf 143=.own:=rfl
@[go_sem] def IC:pf 144=.own:=rfl
@[go_sem] def HA:pf 145=.own:=rfl
@[go_sem] def Hx:pf 146=.own:=rfl
@[go_sem] def IQ:pf 147=.proc:=rfl
@[go_sem] def KG:pf 148=.own:=rfl
@[go_sem] def HO:pf 149=.proc:=rfl
@[go_sem] def Ju:pf 152=.fz:=rfl
@[go_sem] def L5:pf 153=.own:=rfl
@[go_sem] def KM:pf 154=.own:=rfl
@[go_sem] def Iw:pf 156=.own:=rfl
@[go_sem] def JL:pf 157=.own:=rfl
@[go_sem] def KN:pf 159=.proc:=rfl
@[go_sem] def MS:pf 160=.own:=rfl
@[go_sem] def NF:pf 161=.own:=rfl
@[go_sem] def KZ:pf 162=.own:=rfl
@[go_sem] def Nj:pf 163=.proc:=rfl
@[go_sem] def Mg:pf 164=.own:=rfl
@[go_sem] def MN:pf 165=.proc:=rfl
@[go_sem] def LJ:pf 166=.proc:=rfl
@[go_sem] def He:pf 167=.proc:=rfl
@[go_sem] def KT:pf 168=.own:=rfl
@[go_sem] def L4:pf 173=.own:=rfl
@[go_sem] def H5:pf 174=.own:=rfl
@[go_sem] def Mo:pf 175=.proc:=rfl
@[go_sem] def MJ:pf 176=.fz:=rfl
@[go_sem] def Mh:pf 180=.own:=rfl
@[go_sem] def JH:pf 181=.own:=rfl
@[go_sem] def Nc:pf 182=.own:=rfl
@[go_sem] def Kp:pf 184=.own:=rfl
@[go_sem] def G6:pf 185=.own:=rfl
@[go_sem] def Ir:pf 186=.own:=rfl
@[go_sem] def KE:pf 187=.own:=rfl
@[go_sem] def JJ:pf 188=.proc:=rfl
@[go_sem] def Jc:pf 189=.fz:=rfl
@[go_sem] def MW:pf 190=.fz:=rfl
@[go_sem] def Lj:pf 191=.own:=rfl
@[go_sem] def If:pf 192=.own:=rfl
@[go_sem] def ME:pf 193=.own:=rfl
@[go_sem] def In:pf 194=.own:=rfl
@[go_sem] def Iu:pf 195=.proc:=rfl
@[go_sem] def H8:pf 196=.own:=rfl
@[go_sem] def Kl:pf 197=.own:=rfl
@[go_sem] def NI:pf 198=.own:=rfl
@[go_sem] def Mn:pf 199=.proc:=rfl
@[go_sem] def JV:pf 200=.own:=rfl
@[go_sem] def Nz:pf 201=.proc:=rfl
@[go_sem] def NR:pf 202=.own:=rfl
@[go_sem] def M7:pf 203=.own:=rfl
@[go_sem] def M3:pf 208=.proc:=rfl
@[go_sem] def Js:pf 209=.proc:=rfl
@[go_sem] def JX:pf 210=.own:=rfl
@[go_sem] def MV:pf 211=.proc:=rfl
@[go_sem] def Mp:pf 212=.own:=rfl
@[go_sem] def JW:pf 213=.own:=rfl
@[go_sem] def Nv:pf 214=.own:=rfl
@[go_sem] def LD:pf 215=.own:=rfl
@[go_sem] def J1:pf 216=.proc:=rfl
@[go_sem] def MI:pf 217=.proc:=rfl
@[go_sem] def IN:pf 218=.proc:=rfl
@[go_sem] def Hl:pf 219=.proc:=rfl
@[go_sem] def LK:pf 220=.own:=rfl
@[go_sem] def KH:pf 221=.own:=rfl
@[go_sem] def IB:pf 222=.own:=rfl
@[go_sem] def Kj:pf 223=.own:=rfl
@[go_sem] def Hj:pf 224=.own:=rfl
@[go_sem] def Il:pf 225=.own:=rfl
@[go_sem] def Kt:pf 226=.proc:=rfl
@[go_sem] def Na:pf 227=.proc:=rfl
@[go_sem] def MO:pf 228=.own:=rfl
@[go_sem] def Nx:pf 229=.own:=rfl
@[go_sem] def K1:pf 230=.proc:=rfl
@[go_sem] def Hw:pf 236=.own:=rfl
@[go_sem] def IE:pf 240=.own:=rfl
@[go_sem] def Km:pf 246=.own:=rfl
noncomputable def env (n:Nat):Env:=⟨prog,tyT,pf,n,.low⟩
@[go_sem] def Bz (n:Nat):(env n).deep=.low:=rfl
noncomputable def kJ (n:Nat):Env:=⟨prog,tyT,pf,n,.both⟩
@[go_sem] def zN (n:Nat):(kJ n).deep=.both:=rfl
@[go_sem] def EH (n:Nat):(kJ n).T=tyT:=rfl
@[go_sem] def FG (n:Nat):(kJ n).n=n:=rfl
@[go_sem] def CC (n f:Nat):(kJ n).pf f=pf f:=rfl
@[go_sem] def ET (n:Nat):(kJ n).P=prog:=rfl
noncomputable def dM (n:Nat):Env:=⟨prog,tyT,pf,n,.s6⟩
@[go_sem] def y5 (n:Nat):(dM n).deep=.s6:=rfl
@[go_sem] def EQ (n:Nat):(dM n).T=tyT:=rfl
@[go_sem] def D4 (n:Nat):(dM n).n=n:=rfl
@[go_sem] def Dn (n f:Nat):(dM n).pf f=pf f:=rfl
@[go_sem] def Eg (n:Nat):(dM n).P=prog:=rfl
@[go_sem] def Ko (n:Nat):(env n).T=tyT:=rfl
@[go_sem] def NJ (n:Nat):(env n).n=n:=rfl
@[go_sem] def FP (n f:Nat):(env n).pf f=pf f:=rfl
@[go_sem] def ID (n:Nat):(env n).P=prog:=rfl
@[go_sem] def follows:prog.follows .mixedOrders=true:=by kernel_rfl
attribute [go_sem] results5 results11 results12 results13 results14 results15 results16 results17 results18 results19 results20 results21 results22 results23 results24 results25 results26 results28 results29 results32 results33 results34 results37 results39 results40 results45 results46 results47 results48 results49 results50 results51 results52 results53 results54 results55 results56 results57 results59 results60 results61 results62 results63 results64 results65 results66 results67 results68 results69 results70 results71 results72 results73 results74 results75 results76 results77 results78 results79 results80 results81 results82 results83 results84 results85 results86 results87 results88 results89 results90 results91 results92 results93 results94 results95 results96 results99 results101 results102 results103 results104 results105 results106 results107 results108 results109 results110 results111 results112 results113 results114 results115 results116 results117 results118 results120 results121 results122 results123 results124 results125 results126 results127 results128 results129 results130 results131 results132 results133 results134 results135 results136 results137 results138 results139 results140 results141 results142 results143 results144 results145 results146 results147 results148 results149 results150 results151 results152 results153 results154 results155 results156 results157 results158 results159 results160 results161 results162 results163 results164 results165 results166 results167 results168 results171 results173 results174 results175 results176 results177 results178 results179 results180 results181 results182 results184 results185 results186 results187 results188 results189 results190 results191 results192 results193 results194 results195 results196 results197 results198 results199 results200 results201 results202 results203 results204 results205 results208 results209 results210 results211 results212 results213 results214 results215 results216 results217 results218 results219 results220 results221 results222 results223 results224 results225 results226 results227 results228 results229 results230 results236 results240 results246
def bz {f : Nat} {fn : Func} {c : Code} {nt : Nat} {ds : ZD} {x : D} (hf : prog.funcs[f]? = some fn) (hb : fn.body = some c) (hnt : fn.ntmps = nt) (h : eq ds -> cw (env 0) 1000 c [] (endsWith (env 0).T fn (fun fr r H' => qG x (pk H' 3 r))) ⟨nt, jF 0 (ds.map .d)⟩ []) (hnm : (fn.name == "runtime.NumGoroutine") = false := by rfl) (hl : ds.length <= nt := by simp) : Pure prog f ds x :=
 OA (E:=env 0) tok rfl 1000 hf hb hnm hnt hl h
def co {n:Nat}{fr:Fr}{H:ZF}{Q:aT}{id:Nat}{l:List Oper}{ks:List VL.Item}(tails:ZC) (t:eR) (h:b7 (env n) 1000 l tails (ve (env n) 1000 ks Q) t fr H) (hc:yw l.toArray tails t=true:=by kernel_rfl):cK (env n).P (env n).n (.region id l.toArray true) (dZ (env n) ks Q) fr H:=
 z2 (E:=env n) tok follows 1000 1000 tails t hc h
def xx:=@D6 (env 0) tok
def i9:=@D6 (env 1) tok
def xN:=@D6 (env 2) tok
def cQ {Q:aT}{fr:Fr}{H:ZF}:=@B5 (env 0) Q fr H tok
def pA {Q:aT}{fr:Fr}{H:ZF}:=@B5 (env 1) Q fr H tok
def SA {Q:aT}{fr:Fr}{H:ZF}:=@B5 (env 2) Q fr H tok
def zO {Q:aT}{fr:Fr}{H:ZF}:=@J5 (env 0) Q fr H tok
def Gs {Q:aT}{fr:Fr}{H:ZF}:=@J5 (env 1) Q fr H tok
def BJ {Q:aT}{fr:Fr}{H:ZF}:=@RL (env 0) Q fr H tok
def cD {Q:aT}{fr:Fr}{H:ZF}:=@om (env 0) Q fr H tok
def nl {Q:aT}{fr:Fr}{H:ZF}:=@om (env 1) Q fr H tok
def A4 {Q:aT}{fr:Fr}{H:ZF}:=@om (env 2) Q fr H tok
def wD:=@BE (env 0) tok
def l9:=@SC (env 0) tok
def Eh {Q:aT}{fr:Fr}{H:ZF}:=@Ja (env 0) Q fr H tok
def Rm {Q:aT}{fr:Fr}{H:ZF}:=@Ja (env 1) Q fr H tok
end Go.Proofs.Tryz
