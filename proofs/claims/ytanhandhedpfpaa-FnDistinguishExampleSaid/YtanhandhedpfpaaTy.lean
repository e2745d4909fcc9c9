/- The table of the types of a translation, and that it is right. Made by a program. Conditions: none. -/
import Derived.Test.YtanhandhedpfpaaProg
import Derived.Test.YtanhandhedpfpaaVM8
import Derived.KernelRfl
set_option linter.unusedVariables false
set_option maxRecDepth 20000
namespace Go.Proofs
open Go.VL
theorem qas {P:Program}{t:Nat}{ti:TI}(h1:(P.info? t).map (fun i=>(i.size,i.bytes,i.zero))=some (ti.size,ti.bytes,some (qac ti.zero)):=by kernel_rfl) (h2:(P.underlying t).map tyOf=some ti.ty:=by kernel_rfl) (h3:qdF ti.zero=true:=by kernel_rfl) (h4:ti.zero.cells.length=ti.size:=by kernel_rfl) (h5:(match ti.zero with|.agg _=>true|_=>false)=ti.ty.agg:=by kernel_rfl) (h6:qi4 P t=true:=by kernel_rfl):TIOK P t ti:=tiok_of h1 h2 h3 h4 h5 h6
def Try.tyT:Nat→Option TI
 | 1=>some ⟨.func,1,8,.raw .nilFunc⟩
 | 2=>some ⟨.int .i64,1,8,.int .i64 0⟩
 | 3=>some ⟨.int .i64,1,8,.int .i64 0⟩
 | 4=>some ⟨.bool,1,1,.bool false⟩
 | 5=>some ⟨.int .u8,1,1,.int .u8 0⟩
 | 6=>some ⟨.int .u8,1,1,.int .u8 0⟩
 | 7=>some ⟨.struct [(0,2),(1,3),(2,4),(3,6)],4,24,.agg [.int .i64 0,.int .i64 0,.bool false,.int .u8 0]⟩
 | 8=>some ⟨.struct [(0,2),(1,3),(2,4),(3,6)],4,24,.agg [.int .i64 0,.int .i64 0,.bool false,.int .u8 0]⟩
 | 9=>some ⟨.string,1,16,.raw (.string .empty)⟩
 | 10=>some ⟨.string,1,16,.raw (.string .empty)⟩
 | 11=>some ⟨.string,1,16,.raw (.string .empty)⟩
 | 12=>some ⟨.int .u64,1,8,.int .u64 0⟩
 | 13=>some ⟨.struct [(0,9),(1,12)],2,24,.agg [.raw (.string .empty),.int .u64 0]⟩
 | 14=>some ⟨.struct [(0,9),(1,12)],2,24,.agg [.raw (.string .empty),.int .u64 0]⟩
 | 15=>some ⟨.ptr 78,1,8,.raw (.pointer none)⟩
 | 16=>some ⟨.ptr 81,1,8,.raw (.pointer none)⟩
 | 17=>some ⟨.ptr 91,1,8,.raw (.pointer none)⟩
 | 18=>some ⟨.struct [(0,17)],1,8,.agg [.raw (.pointer none)]⟩
 | 19=>some ⟨.struct [(0,17)],1,8,.agg [.raw (.pointer none)]⟩
 | 21=>some ⟨.int .i32,1,4,.int .i32 0⟩
 | 22=>some ⟨.slice 5,1,24,.nil⟩
 | 23=>some ⟨.slice 3,1,24,.nil⟩
 | 24=>some ⟨.slice 56,1,24,.nil⟩
 | 25=>some ⟨.struct [(0,3),(1,23),(2,24),(3,23)],4,80,.agg [.int .i64 0,.nil,.nil,.nil]⟩
 | 26=>some ⟨.struct [(0,3),(1,23),(2,24),(3,23)],4,80,.agg [.int .i64 0,.nil,.nil,.nil]⟩
 | 27=>some ⟨.func,1,8,.raw .nilFunc⟩
 | 28=>some ⟨.slice 50,1,24,.nil⟩
 | 29=>some ⟨.struct [(0,4),(1,28)],2,32,.agg [.bool false,.nil]⟩
 | 30=>some ⟨.struct [(0,4),(1,28)],2,32,.agg [.bool false,.nil]⟩
 | 31=>some ⟨.func,1,8,.raw .nilFunc⟩
 | 32=>some ⟨.func,1,8,.raw .nilFunc⟩
 | 33=>some ⟨.func,1,8,.raw .nilFunc⟩
 | 34=>some ⟨.func,1,8,.raw .nilFunc⟩
 | 35=>some ⟨.func,1,8,.raw .nilFunc⟩
 | 36=>some ⟨.ptr 41,1,8,.raw (.pointer none)⟩
 | 37=>some ⟨.func,1,8,.raw .nilFunc⟩
 | 38=>some ⟨.func,1,8,.raw .nilFunc⟩
 | 39=>some ⟨.map 56 3,1,8,.raw (.map none)⟩
 | 40=>some ⟨.struct [(0,3),(1,24),(2,23),(3,39)],4,64,.agg [.int .i64 0,.nil,.nil,.raw (.map none)]⟩
 | 41=>some ⟨.struct [(0,3),(1,24),(2,23),(3,39)],4,64,.agg [.int .i64 0,.nil,.nil,.raw (.map none)]⟩
 | 42=>some ⟨.func,1,8,.raw .nilFunc⟩
 | 43=>some ⟨.array 2 3,2,16,.agg [.int .i64 0,.int .i64 0]⟩
 | 45=>some ⟨.func,1,8,.raw .nilFunc⟩
 | 46=>some ⟨.ptr 26,1,8,.raw (.pointer none)⟩
 | 47=>some ⟨.func,1,8,.raw .nilFunc⟩
 | 49=>some ⟨.func,1,8,.raw .nilFunc⟩
 | 50=>some ⟨.slice 4,1,24,.nil⟩
 | 51=>some ⟨.func,1,8,.raw .nilFunc⟩
 | 52=>some ⟨.func,1,8,.raw .nilFunc⟩
 | 53=>some ⟨.func,1,8,.raw .nilFunc⟩
 | 54=>some ⟨.func,1,8,.raw .nilFunc⟩
 | 55=>some ⟨.struct [(0,3),(1,3)],2,16,.agg [.int .i64 0,.int .i64 0]⟩
 | 56=>some ⟨.struct [(0,3),(1,3)],2,16,.agg [.int .i64 0,.int .i64 0]⟩
 | 57=>some ⟨.func,1,8,.raw .nilFunc⟩
 | 58=>some ⟨.map 3 4,1,8,.raw (.map none)⟩
 | 60=>some ⟨.func,1,8,.raw .nilFunc⟩
 | 61=>some ⟨.func,1,8,.raw .nilFunc⟩
 | 62=>some ⟨.func,1,8,.raw .nilFunc⟩
 | 63=>some ⟨.func,1,8,.raw .nilFunc⟩
 | 64=>some ⟨.func,1,8,.raw .nilFunc⟩
 | 65=>some ⟨.func,1,8,.raw .nilFunc⟩
 | 66=>some ⟨.slice 43,1,24,.nil⟩
 | 67=>some ⟨.slice 28,1,24,.nil⟩
 | 68=>some ⟨.map 43 4,1,8,.raw (.map none)⟩
 | 70=>some ⟨.func,1,8,.raw .nilFunc⟩
 | 71=>some ⟨.func,1,8,.raw .nilFunc⟩
 | 72=>some ⟨.func,1,8,.raw .nilFunc⟩
 | 73=>some ⟨.func,1,8,.raw .nilFunc⟩
 | 74=>some ⟨.func,1,8,.raw .nilFunc⟩
 | 75=>some ⟨.func,1,8,.raw .nilFunc⟩
 | 76=>some ⟨.func,1,8,.raw .nilFunc⟩
 | 77=>some ⟨.struct [(0,17),(1,17),(2,17),(3,9)],4,40,.agg [.raw (.pointer none),.raw (.pointer none),.raw (.pointer none),.raw (.string .empty)]⟩
 | 78=>some ⟨.struct [(0,17),(1,17),(2,17),(3,9)],4,40,.agg [.raw (.pointer none),.raw (.pointer none),.raw (.pointer none),.raw (.string .empty)]⟩
 | 82=>some ⟨.func,1,8,.raw .nilFunc⟩
 | 83=>some ⟨.int .u32,1,4,.int .u32 0⟩
 | 84=>some ⟨.int .u8,1,1,.int .u8 0⟩
 | 85=>some ⟨.int .u8,1,1,.int .u8 0⟩
 | 86=>some ⟨.func,1,8,.raw .nilFunc⟩
 | 87=>some ⟨.ptr 5,1,8,.raw (.pointer none)⟩
 | 88=>some ⟨.int .i32,1,4,.int .i32 0⟩
 | 89=>some ⟨.int .i32,1,4,.int .i32 0⟩
 | 90=>some ⟨.struct [(0,12),(1,12),(2,83),(3,84),(4,5),(5,5),(6,85),(7,86),(8,87),(9,88),(10,89)],11,48,.agg [.int .u64 0,.int .u64 0,.int .u32 0,.int .u8 0,.int .u8 0,.int .u8 0,.int .u8 0,.raw .nilFunc,.raw (.pointer none),.int .i32 0,.int .i32 0]⟩
 | 91=>some ⟨.struct [(0,12),(1,12),(2,83),(3,84),(4,5),(5,5),(6,85),(7,86),(8,87),(9,88),(10,89)],11,48,.agg [.int .u64 0,.int .u64 0,.int .u32 0,.int .u8 0,.int .u8 0,.int .u8 0,.int .u8 0,.raw .nilFunc,.raw (.pointer none),.int .i32 0,.int .i32 0]⟩
 | _=>none
theorem Try.tok1:TIOK Try.prog 1 ⟨.func,1,8,.raw .nilFunc⟩:=qas
theorem Try.tok2:TIOK Try.prog 2 ⟨.int .i64,1,8,.int .i64 0⟩:=qas
theorem Try.tok3:TIOK Try.prog 3 ⟨.int .i64,1,8,.int .i64 0⟩:=qas
theorem Try.tok4:TIOK Try.prog 4 ⟨.bool,1,1,.bool false⟩:=qas
theorem Try.tok5:TIOK Try.prog 5 ⟨.int .u8,1,1,.int .u8 0⟩:=qas
theorem Try.tok6:TIOK Try.prog 6 ⟨.int .u8,1,1,.int .u8 0⟩:=qas
theorem Try.tok7:TIOK Try.prog 7 ⟨.struct [(0,2),(1,3),(2,4),(3,6)],4,24,.agg [.int .i64 0,.int .i64 0,.bool false,.int .u8 0]⟩:=qas
theorem Try.tok8:TIOK Try.prog 8 ⟨.struct [(0,2),(1,3),(2,4),(3,6)],4,24,.agg [.int .i64 0,.int .i64 0,.bool false,.int .u8 0]⟩:=qas
theorem Try.tok9:TIOK Try.prog 9 ⟨.string,1,16,.raw (.string .empty)⟩:=qas
theorem Try.tok10:TIOK Try.prog 10 ⟨.string,1,16,.raw (.string .empty)⟩:=qas
theorem Try.tok11:TIOK Try.prog 11 ⟨.string,1,16,.raw (.string .empty)⟩:=qas
theorem Try.tok12:TIOK Try.prog 12 ⟨.int .u64,1,8,.int .u64 0⟩:=qas
theorem Try.tok13:TIOK Try.prog 13 ⟨.struct [(0,9),(1,12)],2,24,.agg [.raw (.string .empty),.int .u64 0]⟩:=qas
theorem Try.tok14:TIOK Try.prog 14 ⟨.struct [(0,9),(1,12)],2,24,.agg [.raw (.string .empty),.int .u64 0]⟩:=qas
theorem Try.tok15:TIOK Try.prog 15 ⟨.ptr 78,1,8,.raw (.pointer none)⟩:=qas
theorem Try.tok16:TIOK Try.prog 16 ⟨.ptr 81,1,8,.raw (.pointer none)⟩:=qas
theorem Try.tok17:TIOK Try.prog 17 ⟨.ptr 91,1,8,.raw (.pointer none)⟩:=qas
theorem Try.tok18:TIOK Try.prog 18 ⟨.struct [(0,17)],1,8,.agg [.raw (.pointer none)]⟩:=qas
theorem Try.tok19:TIOK Try.prog 19 ⟨.struct [(0,17)],1,8,.agg [.raw (.pointer none)]⟩:=qas
theorem Try.tok21:TIOK Try.prog 21 ⟨.int .i32,1,4,.int .i32 0⟩:=qas
theorem Try.tok22:TIOK Try.prog 22 ⟨.slice 5,1,24,.nil⟩:=qas
theorem Try.tok23:TIOK Try.prog 23 ⟨.slice 3,1,24,.nil⟩:=qas
theorem Try.tok24:TIOK Try.prog 24 ⟨.slice 56,1,24,.nil⟩:=qas
theorem Try.tok25:TIOK Try.prog 25 ⟨.struct [(0,3),(1,23),(2,24),(3,23)],4,80,.agg [.int .i64 0,.nil,.nil,.nil]⟩:=qas
theorem Try.tok26:TIOK Try.prog 26 ⟨.struct [(0,3),(1,23),(2,24),(3,23)],4,80,.agg [.int .i64 0,.nil,.nil,.nil]⟩:=qas
theorem Try.tok27:TIOK Try.prog 27 ⟨.func,1,8,.raw .nilFunc⟩:=qas
theorem Try.tok28:TIOK Try.prog 28 ⟨.slice 50,1,24,.nil⟩:=qas
theorem Try.tok29:TIOK Try.prog 29 ⟨.struct [(0,4),(1,28)],2,32,.agg [.bool false,.nil]⟩:=qas
theorem Try.tok30:TIOK Try.prog 30 ⟨.struct [(0,4),(1,28)],2,32,.agg [.bool false,.nil]⟩:=qas
theorem Try.tok31:TIOK Try.prog 31 ⟨.func,1,8,.raw .nilFunc⟩:=qas
theorem Try.tok32:TIOK Try.prog 32 ⟨.func,1,8,.raw .nilFunc⟩:=qas
theorem Try.tok33:TIOK Try.prog 33 ⟨.func,1,8,.raw .nilFunc⟩:=qas
theorem Try.tok34:TIOK Try.prog 34 ⟨.func,1,8,.raw .nilFunc⟩:=qas
theorem Try.tok35:TIOK Try.prog 35 ⟨.func,1,8,.raw .nilFunc⟩:=qas
theorem Try.tok36:TIOK Try.prog 36 ⟨.ptr 41,1,8,.raw (.pointer none)⟩:=qas
theorem Try.tok37:TIOK Try.prog 37 ⟨.func,1,8,.raw .nilFunc⟩:=qas
theorem Try.tok38:TIOK Try.prog 38 ⟨.func,1,8,.raw .nilFunc⟩:=qas
theorem Try.tok39:TIOK Try.prog 39 ⟨.map 56 3,1,8,.raw (.map none)⟩:=qas
theorem Try.tok40:TIOK Try.prog 40 ⟨.struct [(0,3),(1,24),(2,23),(3,39)],4,64,.agg [.int .i64 0,.nil,.nil,.raw (.map none)]⟩:=qas
theorem Try.tok41:TIOK Try.prog 41 ⟨.struct [(0,3),(1,24),(2,23),(3,39)],4,64,.agg [.int .i64 0,.nil,.nil,.raw (.map none)]⟩:=qas
theorem Try.tok42:TIOK Try.prog 42 ⟨.func,1,8,.raw .nilFunc⟩:=qas
theorem Try.tok43:TIOK Try.prog 43 ⟨.array 2 3,2,16,.agg [.int .i64 0,.int .i64 0]⟩:=qas
theorem Try.tok45:TIOK Try.prog 45 ⟨.func,1,8,.raw .nilFunc⟩:=qas
theorem Try.tok46:TIOK Try.prog 46 ⟨.ptr 26,1,8,.raw (.pointer none)⟩:=qas
theorem Try.tok47:TIOK Try.prog 47 ⟨.func,1,8,.raw .nilFunc⟩:=qas
theorem Try.tok49:TIOK Try.prog 49 ⟨.func,1,8,.raw .nilFunc⟩:=qas
theorem Try.tok50:TIOK Try.prog 50 ⟨.slice 4,1,24,.nil⟩:=qas
theorem Try.tok51:TIOK Try.prog 51 ⟨.func,1,8,.raw .nilFunc⟩:=qas
theorem Try.tok52:TIOK Try.prog 52 ⟨.func,1,8,.raw .nilFunc⟩:=qas
theorem Try.tok53:TIOK Try.prog 53 ⟨.func,1,8,.raw .nilFunc⟩:=qas
theorem Try.tok54:TIOK Try.prog 54 ⟨.func,1,8,.raw .nilFunc⟩:=qas
theorem Try.tok55:TIOK Try.prog 55 ⟨.struct [(0,3),(1,3)],2,16,.agg [.int .i64 0,.int .i64 0]⟩:=qas
theorem Try.tok56:TIOK Try.prog 56 ⟨.struct [(0,3),(1,3)],2,16,.agg [.int .i64 0,.int .i64 0]⟩:=qas
theorem Try.tok57:TIOK Try.prog 57 ⟨.func,1,8,.raw .nilFunc⟩:=qas
theorem Try.tok58:TIOK Try.prog 58 ⟨.map 3 4,1,8,.raw (.map none)⟩:=qas
theorem Try.tok60:TIOK Try.prog 60 ⟨.func,1,8,.raw .nilFunc⟩:=qas
theorem Try.tok61:TIOK Try.prog 61 ⟨.func,1,8,.raw .nilFunc⟩:=qas
theorem Try.tok62:TIOK Try.prog 62 ⟨.func,1,8,.raw .nilFunc⟩:=qas
theorem Try.tok63:TIOK Try.prog 63 ⟨.func,1,8,.raw .nilFunc⟩:=qas
theorem Try.tok64:TIOK Try.prog 64 ⟨.func,1,8,.raw .nilFunc⟩:=qas
theorem Try.tok65:TIOK Try.prog 65 ⟨.func,1,8,.raw .nilFunc⟩:=qas
theorem Try.tok66:TIOK Try.prog 66 ⟨.slice 43,1,24,.nil⟩:=qas
theorem Try.tok67:TIOK Try.prog 67 ⟨.slice 28,1,24,.nil⟩:=qas
theorem Try.tok68:TIOK Try.prog 68 ⟨.map 43 4,1,8,.raw (.map none)⟩:=qas
theorem Try.tok70:TIOK Try.prog 70 ⟨.func,1,8,.raw .nilFunc⟩:=qas
theorem Try.tok71:TIOK Try.prog 71 ⟨.func,1,8,.raw .nilFunc⟩:=qas
theorem Try.tok72:TIOK Try.prog 72 ⟨.func,1,8,.raw .nilFunc⟩:=qas
theorem Try.tok73:TIOK Try.prog 73 ⟨.func,1,8,.raw .nilFunc⟩:=qas
theorem Try.tok74:TIOK Try.prog 74 ⟨.func,1,8,.raw .nilFunc⟩:=qas
theorem Try.tok75:TIOK Try.prog 75 ⟨.func,1,8,.raw .nilFunc⟩:=qas
theorem Try.tok76:TIOK Try.prog 76 ⟨.func,1,8,.raw .nilFunc⟩:=qas
theorem Try.tok77:TIOK Try.prog 77 ⟨.struct [(0,17),(1,17),(2,17),(3,9)],4,40,.agg [.raw (.pointer none),.raw (.pointer none),.raw (.pointer none),.raw (.string .empty)]⟩:=qas
theorem Try.tok78:TIOK Try.prog 78 ⟨.struct [(0,17),(1,17),(2,17),(3,9)],4,40,.agg [.raw (.pointer none),.raw (.pointer none),.raw (.pointer none),.raw (.string .empty)]⟩:=qas
theorem Try.tok82:TIOK Try.prog 82 ⟨.func,1,8,.raw .nilFunc⟩:=qas
theorem Try.tok83:TIOK Try.prog 83 ⟨.int .u32,1,4,.int .u32 0⟩:=qas
theorem Try.tok84:TIOK Try.prog 84 ⟨.int .u8,1,1,.int .u8 0⟩:=qas
theorem Try.tok85:TIOK Try.prog 85 ⟨.int .u8,1,1,.int .u8 0⟩:=qas
theorem Try.tok86:TIOK Try.prog 86 ⟨.func,1,8,.raw .nilFunc⟩:=qas
theorem Try.tok87:TIOK Try.prog 87 ⟨.ptr 5,1,8,.raw (.pointer none)⟩:=qas
theorem Try.tok88:TIOK Try.prog 88 ⟨.int .i32,1,4,.int .i32 0⟩:=qas
theorem Try.tok89:TIOK Try.prog 89 ⟨.int .i32,1,4,.int .i32 0⟩:=qas
theorem Try.tok90:TIOK Try.prog 90 ⟨.struct [(0,12),(1,12),(2,83),(3,84),(4,5),(5,5),(6,85),(7,86),(8,87),(9,88),(10,89)],11,48,.agg [.int .u64 0,.int .u64 0,.int .u32 0,.int .u8 0,.int .u8 0,.int .u8 0,.int .u8 0,.raw .nilFunc,.raw (.pointer none),.int .i32 0,.int .i32 0]⟩:=qas
theorem Try.tok91:TIOK Try.prog 91 ⟨.struct [(0,12),(1,12),(2,83),(3,84),(4,5),(5,5),(6,85),(7,86),(8,87),(9,88),(10,89)],11,48,.agg [.int .u64 0,.int .u64 0,.int .u32 0,.int .u8 0,.int .u8 0,.int .u8 0,.int .u8 0,.raw .nilFunc,.raw (.pointer none),.int .i32 0,.int .i32 0]⟩:=qas
theorem Try.tok:TOK Try.prog Try.tyT:=by
 intro t ti h
 unfold Try.tyT at h
 split at h
 ·cases h;exact Try.tok1
 ·cases h;exact Try.tok2
 ·cases h;exact Try.tok3
 ·cases h;exact Try.tok4
 ·cases h;exact Try.tok5
 ·cases h;exact Try.tok6
 ·cases h;exact Try.tok7
 ·cases h;exact Try.tok8
 ·cases h;exact Try.tok9
 ·cases h;exact Try.tok10
 ·cases h;exact Try.tok11
 ·cases h;exact Try.tok12
 ·cases h;exact Try.tok13
 ·cases h;exact Try.tok14
 ·cases h;exact Try.tok15
 ·cases h;exact Try.tok16
 ·cases h;exact Try.tok17
 ·cases h;exact Try.tok18
 ·cases h;exact Try.tok19
 ·cases h;exact Try.tok21
 ·cases h;exact Try.tok22
 ·cases h;exact Try.tok23
 ·cases h;exact Try.tok24
 ·cases h;exact Try.tok25
 ·cases h;exact Try.tok26
 ·cases h;exact Try.tok27
 ·cases h;exact Try.tok28
 ·cases h;exact Try.tok29
 ·cases h;exact Try.tok30
 ·cases h;exact Try.tok31
 ·cases h;exact Try.tok32
 ·cases h;exact Try.tok33
 ·cases h;exact Try.tok34
 ·cases h;exact Try.tok35
 ·cases h;exact Try.tok36
 ·cases h;exact Try.tok37
 ·cases h;exact Try.tok38
 ·cases h;exact Try.tok39
 ·cases h;exact Try.tok40
 ·cases h;exact Try.tok41
 ·cases h;exact Try.tok42
 ·cases h;exact Try.tok43
 ·cases h;exact Try.tok45
 ·cases h;exact Try.tok46
 ·cases h;exact Try.tok47
 ·cases h;exact Try.tok49
 ·cases h;exact Try.tok50
 ·cases h;exact Try.tok51
 ·cases h;exact Try.tok52
 ·cases h;exact Try.tok53
 ·cases h;exact Try.tok54
 ·cases h;exact Try.tok55
 ·cases h;exact Try.tok56
 ·cases h;exact Try.tok57
 ·cases h;exact Try.tok58
 ·cases h;exact Try.tok60
 ·cases h;exact Try.tok61
 ·cases h;exact Try.tok62
 ·cases h;exact Try.tok63
 ·cases h;exact Try.tok64
 ·cases h;exact Try.tok65
 ·cases h;exact Try.tok66
 ·cases h;exact Try.tok67
 ·cases h;exact Try.tok68
 ·cases h;exact Try.tok70
 ·cases h;exact Try.tok71
 ·cases h;exact Try.tok72
 ·cases h;exact Try.tok73
 ·cases h;exact Try.tok74
 ·cases h;exact Try.tok75
 ·cases h;exact Try.tok76
 ·cases h;exact Try.tok77
 ·cases h;exact Try.tok78
 ·cases h;exact Try.tok82
 ·cases h;exact Try.tok83
 ·cases h;exact Try.tok84
 ·cases h;exact Try.tok85
 ·cases h;exact Try.tok86
 ·cases h;exact Try.tok87
 ·cases h;exact Try.tok88
 ·cases h;exact Try.tok89
 ·cases h;exact Try.tok90
 ·cases h;exact Try.tok91
 ·cases h
@[go_sem] theorem Try.ty1:Try.tyT 1=some ⟨.func,1,8,.raw .nilFunc⟩:=rfl
@[go_sem] theorem Try.ty2:Try.tyT 2=some ⟨.int .i64,1,8,.int .i64 0⟩:=rfl
@[go_sem] theorem Try.ty3:Try.tyT 3=some ⟨.int .i64,1,8,.int .i64 0⟩:=rfl
@[go_sem] theorem Try.ty4:Try.tyT 4=some ⟨.bool,1,1,.bool false⟩:=rfl
@[go_sem] theorem Try.ty5:Try.tyT 5=some ⟨.int .u8,1,1,.int .u8 0⟩:=rfl
@[go_sem] theorem Try.ty6:Try.tyT 6=some ⟨.int .u8,1,1,.int .u8 0⟩:=rfl
@[go_sem] theorem Try.ty7:Try.tyT 7=some ⟨.struct [(0,2),(1,3),(2,4),(3,6)],4,24,.agg [.int .i64 0,.int .i64 0,.bool false,.int .u8 0]⟩:=rfl
@[go_sem] theorem Try.ty8:Try.tyT 8=some ⟨.struct [(0,2),(1,3),(2,4),(3,6)],4,24,.agg [.int .i64 0,.int .i64 0,.bool false,.int .u8 0]⟩:=rfl
@[go_sem] theorem Try.ty9:Try.tyT 9=some ⟨.string,1,16,.raw (.string .empty)⟩:=rfl
@[go_sem] theorem Try.ty10:Try.tyT 10=some ⟨.string,1,16,.raw (.string .empty)⟩:=rfl
@[go_sem] theorem Try.ty11:Try.tyT 11=some ⟨.string,1,16,.raw (.string .empty)⟩:=rfl
@[go_sem] theorem Try.ty12:Try.tyT 12=some ⟨.int .u64,1,8,.int .u64 0⟩:=rfl
@[go_sem] theorem Try.ty13:Try.tyT 13=some ⟨.struct [(0,9),(1,12)],2,24,.agg [.raw (.string .empty),.int .u64 0]⟩:=rfl
@[go_sem] theorem Try.ty14:Try.tyT 14=some ⟨.struct [(0,9),(1,12)],2,24,.agg [.raw (.string .empty),.int .u64 0]⟩:=rfl
@[go_sem] theorem Try.ty15:Try.tyT 15=some ⟨.ptr 78,1,8,.raw (.pointer none)⟩:=rfl
@[go_sem] theorem Try.ty16:Try.tyT 16=some ⟨.ptr 81,1,8,.raw (.pointer none)⟩:=rfl
@[go_sem] theorem Try.ty17:Try.tyT 17=some ⟨.ptr 91,1,8,.raw (.pointer none)⟩:=rfl
@[go_sem] theorem Try.ty18:Try.tyT 18=some ⟨.struct [(0,17)],1,8,.agg [.raw (.pointer none)]⟩:=rfl
@[go_sem] theorem Try.ty19:Try.tyT 19=some ⟨.struct [(0,17)],1,8,.agg [.raw (.pointer none)]⟩:=rfl
@[go_sem] theorem Try.ty21:Try.tyT 21=some ⟨.int .i32,1,4,.int .i32 0⟩:=rfl
@[go_sem] theorem Try.ty22:Try.tyT 22=some ⟨.slice 5,1,24,.nil⟩:=rfl
@[go_sem] theorem Try.ty23:Try.tyT 23=some ⟨.slice 3,1,24,.nil⟩:=rfl
@[go_sem] theorem Try.ty24:Try.tyT 24=some ⟨.slice 56,1,24,.nil⟩:=rfl
@[go_sem] theorem Try.ty25:Try.tyT 25=some ⟨.struct [(0,3),(1,23),(2,24),(3,23)],4,80,.agg [.int .i64 0,.nil,.nil,.nil]⟩:=rfl
@[go_sem] theorem Try.ty26:Try.tyT 26=some ⟨.struct [(0,3),(1,23),(2,24),(3,23)],4,80,.agg [.int .i64 0,.nil,.nil,.nil]⟩:=rfl
@[go_sem] theorem Try.ty27:Try.tyT 27=some ⟨.func,1,8,.raw .nilFunc⟩:=rfl
@[go_sem] theorem Try.ty28:Try.tyT 28=some ⟨.slice 50,1,24,.nil⟩:=rfl
@[go_sem] theorem Try.ty29:Try.tyT 29=some ⟨.struct [(0,4),(1,28)],2,32,.agg [.bool false,.nil]⟩:=rfl
@[go_sem] theorem Try.ty30:Try.tyT 30=some ⟨.struct [(0,4),(1,28)],2,32,.agg [.bool false,.nil]⟩:=rfl
@[go_sem] theorem Try.ty31:Try.tyT 31=some ⟨.func,1,8,.raw .nilFunc⟩:=rfl
@[go_sem] theorem Try.ty32:Try.tyT 32=some ⟨.func,1,8,.raw .nilFunc⟩:=rfl
@[go_sem] theorem Try.ty33:Try.tyT 33=some ⟨.func,1,8,.raw .nilFunc⟩:=rfl
@[go_sem] theorem Try.ty34:Try.tyT 34=some ⟨.func,1,8,.raw .nilFunc⟩:=rfl
@[go_sem] theorem Try.ty35:Try.tyT 35=some ⟨.func,1,8,.raw .nilFunc⟩:=rfl
@[go_sem] theorem Try.ty36:Try.tyT 36=some ⟨.ptr 41,1,8,.raw (.pointer none)⟩:=rfl
@[go_sem] theorem Try.ty37:Try.tyT 37=some ⟨.func,1,8,.raw .nilFunc⟩:=rfl
@[go_sem] theorem Try.ty38:Try.tyT 38=some ⟨.func,1,8,.raw .nilFunc⟩:=rfl
@[go_sem] theorem Try.ty39:Try.tyT 39=some ⟨.map 56 3,1,8,.raw (.map none)⟩:=rfl
@[go_sem] theorem Try.ty40:Try.tyT 40=some ⟨.struct [(0,3),(1,24),(2,23),(3,39)],4,64,.agg [.int .i64 0,.nil,.nil,.raw (.map none)]⟩:=rfl
@[go_sem] theorem Try.ty41:Try.tyT 41=some ⟨.struct [(0,3),(1,24),(2,23),(3,39)],4,64,.agg [.int .i64 0,.nil,.nil,.raw (.map none)]⟩:=rfl
@[go_sem] theorem Try.ty42:Try.tyT 42=some ⟨.func,1,8,.raw .nilFunc⟩:=rfl
@[go_sem] theorem Try.ty43:Try.tyT 43=some ⟨.array 2 3,2,16,.agg [.int .i64 0,.int .i64 0]⟩:=rfl
@[go_sem] theorem Try.ty45:Try.tyT 45=some ⟨.func,1,8,.raw .nilFunc⟩:=rfl
@[go_sem] theorem Try.ty46:Try.tyT 46=some ⟨.ptr 26,1,8,.raw (.pointer none)⟩:=rfl
@[go_sem] theorem Try.ty47:Try.tyT 47=some ⟨.func,1,8,.raw .nilFunc⟩:=rfl
@[go_sem] theorem Try.ty49:Try.tyT 49=some ⟨.func,1,8,.raw .nilFunc⟩:=rfl
@[go_sem] theorem Try.ty50:Try.tyT 50=some ⟨.slice 4,1,24,.nil⟩:=rfl
@[go_sem] theorem Try.ty51:Try.tyT 51=some ⟨.func,1,8,.raw .nilFunc⟩:=rfl
@[go_sem] theorem Try.ty52:Try.tyT 52=some ⟨.func,1,8,.raw .nilFunc⟩:=rfl
@[go_sem] theorem Try.ty53:Try.tyT 53=some ⟨.func,1,8,.raw .nilFunc⟩:=rfl
@[go_sem] theorem Try.ty54:Try.tyT 54=some ⟨.func,1,8,.raw .nilFunc⟩:=rfl
@[go_sem] theorem Try.ty55:Try.tyT 55=some ⟨.struct [(0,3),(1,3)],2,16,.agg [.int .i64 0,.int .i64 0]⟩:=rfl
@[go_sem] theorem Try.ty56:Try.tyT 56=some ⟨.struct [(0,3),(1,3)],2,16,.agg [.int .i64 0,.int .i64 0]⟩:=rfl
@[go_sem] theorem Try.ty57:Try.tyT 57=some ⟨.func,1,8,.raw .nilFunc⟩:=rfl
@[go_sem] theorem Try.ty58:Try.tyT 58=some ⟨.map 3 4,1,8,.raw (.map none)⟩:=rfl
@[go_sem] theorem Try.ty60:Try.tyT 60=some ⟨.func,1,8,.raw .nilFunc⟩:=rfl
@[go_sem] theorem Try.ty61:Try.tyT 61=some ⟨.func,1,8,.raw .nilFunc⟩:=rfl
@[go_sem] theorem Try.ty62:Try.tyT 62=some ⟨.func,1,8,.raw .nilFunc⟩:=rfl
@[go_sem] theorem Try.ty63:Try.tyT 63=some ⟨.func,1,8,.raw .nilFunc⟩:=rfl
@[go_sem] theorem Try.ty64:Try.tyT 64=some ⟨.func,1,8,.raw .nilFunc⟩:=rfl
@[go_sem] theorem Try.ty65:Try.tyT 65=some ⟨.func,1,8,.raw .nilFunc⟩:=rfl
@[go_sem] theorem Try.ty66:Try.tyT 66=some ⟨.slice 43,1,24,.nil⟩:=rfl
@[go_sem] theorem Try.ty67:Try.tyT 67=some ⟨.slice 28,1,24,.nil⟩:=rfl
@[go_sem] theorem Try.ty68:Try.tyT 68=some ⟨.map 43 4,1,8,.raw (.map none)⟩:=rfl
@[go_sem] theorem Try.ty70:Try.tyT 70=some ⟨.func,1,8,.raw .nilFunc⟩:=rfl
@[go_sem] theorem Try.ty71:Try.tyT 71=some ⟨.func,1,8,.raw .nilFunc⟩:=rfl
@[go_sem] theorem Try.ty72:Try.tyT 72=some ⟨.func,1,8,.raw .nilFunc⟩:=rfl
@[go_sem] theorem Try.ty73:Try.tyT 73=some ⟨.func,1,8,.raw .nilFunc⟩:=rfl
@[go_sem] theorem Try.ty74:Try.tyT 74=some ⟨.func,1,8,.raw .nilFunc⟩:=rfl
@[go_sem] theorem Try.ty75:Try.tyT 75=some ⟨.func,1,8,.raw .nilFunc⟩:=rfl
@[go_sem] theorem Try.ty76:Try.tyT 76=some ⟨.func,1,8,.raw .nilFunc⟩:=rfl
@[go_sem] theorem Try.ty77:Try.tyT 77=some ⟨.struct [(0,17),(1,17),(2,17),(3,9)],4,40,.agg [.raw (.pointer none),.raw (.pointer none),.raw (.pointer none),.raw (.string .empty)]⟩:=rfl
@[go_sem] theorem Try.ty78:Try.tyT 78=some ⟨.struct [(0,17),(1,17),(2,17),(3,9)],4,40,.agg [.raw (.pointer none),.raw (.pointer none),.raw (.pointer none),.raw (.string .empty)]⟩:=rfl
@[go_sem] theorem Try.ty82:Try.tyT 82=some ⟨.func,1,8,.raw .nilFunc⟩:=rfl
@[go_sem] theorem Try.ty83:Try.tyT 83=some ⟨.int .u32,1,4,.int .u32 0⟩:=rfl
@[go_sem] theorem Try.ty84:Try.tyT 84=some ⟨.int .u8,1,1,.int .u8 0⟩:=rfl
@[go_sem] theorem Try.ty85:Try.tyT 85=some ⟨.int .u8,1,1,.int .u8 0⟩:=rfl
@[go_sem] theorem Try.ty86:Try.tyT 86=some ⟨.func,1,8,.raw .nilFunc⟩:=rfl
@[go_sem] theorem Try.ty87:Try.tyT 87=some ⟨.ptr 5,1,8,.raw (.pointer none)⟩:=rfl
@[go_sem] theorem Try.ty88:Try.tyT 88=some ⟨.int .i32,1,4,.int .i32 0⟩:=rfl
@[go_sem] theorem Try.ty89:Try.tyT 89=some ⟨.int .i32,1,4,.int .i32 0⟩:=rfl
@[go_sem] theorem Try.ty90:Try.tyT 90=some ⟨.struct [(0,12),(1,12),(2,83),(3,84),(4,5),(5,5),(6,85),(7,86),(8,87),(9,88),(10,89)],11,48,.agg [.int .u64 0,.int .u64 0,.int .u32 0,.int .u8 0,.int .u8 0,.int .u8 0,.int .u8 0,.raw .nilFunc,.raw (.pointer none),.int .i32 0,.int .i32 0]⟩:=rfl
@[go_sem] theorem Try.ty91:Try.tyT 91=some ⟨.struct [(0,12),(1,12),(2,83),(3,84),(4,5),(5,5),(6,85),(7,86),(8,87),(9,88),(10,89)],11,48,.agg [.int .u64 0,.int .u64 0,.int .u32 0,.int .u8 0,.int .u8 0,.int .u8 0,.int .u8 0,.raw .nilFunc,.raw (.pointer none),.int .i32 0,.int .i32 0]⟩:=rfl
def Try.pf:Nat→Kind
 | 10=>.proc
 | 11=>.proc
 | 12=>.proc
 | 16=>.proc
 | 29=>.proc
 | 31=>.proc
 | 34=>.proc
 | 5=>.fz
 | _=>.own
@[go_sem] theorem Try.pf0:Try.pf 0=.own:=rfl
@[go_sem] theorem Try.pf1:Try.pf 1=.own:=rfl
@[go_sem] theorem Try.pf2:Try.pf 2=.own:=rfl
@[go_sem] theorem Try.pf3:Try.pf 3=.own:=rfl
@[go_sem] theorem Try.pf4:Try.pf 4=.own:=rfl
@[go_sem] theorem Try.pf5:Try.pf 5=.fz:=rfl
@[go_sem] theorem Try.pf6:Try.pf 6=.own:=rfl
@[go_sem] theorem Try.pf7:Try.pf 7=.own:=rfl
@[go_sem] theorem Try.pf8:Try.pf 8=.own:=rfl
@[go_sem] theorem Try.pf9:Try.pf 9=.own:=rfl
@[go_sem] theorem Try.pf10:Try.pf 10=.proc:=rfl
@[go_sem] theorem Try.pf11:Try.pf 11=.proc:=rfl
@[go_sem] theorem Try.pf12:Try.pf 12=.proc:=rfl
@[go_sem] theorem Try.pf13:Try.pf 13=.own:=rfl
@[go_sem] theorem Try.pf14:Try.pf 14=.own:=rfl
@[go_sem] theorem Try.pf15:Try.pf 15=.own:=rfl
@[go_sem] theorem Try.pf16:Try.pf 16=.proc:=rfl
@[go_sem] theorem Try.pf17:Try.pf 17=.own:=rfl
@[go_sem] theorem Try.pf18:Try.pf 18=.own:=rfl
@[go_sem] theorem Try.pf19:Try.pf 19=.own:=rfl
@[go_sem] theorem Try.pf20:Try.pf 20=.own:=rfl
@[go_sem] theorem Try.pf21:Try.pf 21=.own:=rfl
@[go_sem] theorem Try.pf22:Try.pf 22=.own:=rfl
@[go_sem] theorem Try.pf23:Try.pf 23=.own:=rfl
@[go_sem] theorem Try.pf24:Try.pf 24=.own:=rfl
@[go_sem] theorem Try.pf25:Try.pf 25=.own:=rfl
@[go_sem] theorem Try.pf26:Try.pf 26=.own:=rfl
@[go_sem] theorem Try.pf27:Try.pf 27=.own:=rfl
@[go_sem] theorem Try.pf28:Try.pf 28=.own:=rfl
@[go_sem] theorem Try.pf29:Try.pf 29=.proc:=rfl
@[go_sem] theorem Try.pf30:Try.pf 30=.own:=rfl
@[go_sem] theorem Try.pf31:Try.pf 31=.proc:=rfl
@[go_sem] theorem Try.pf32:Try.pf 32=.own:=rfl
@[go_sem] theorem Try.pf33:Try.pf 33=.own:=rfl
@[go_sem] theorem Try.pf34:Try.pf 34=.proc:=rfl
@[go_sem] theorem Try.pf35:Try.pf 35=.own:=rfl
@[go_sem] theorem Try.pf36:Try.pf 36=.own:=rfl
@[go_sem] theorem Try.pf37:Try.pf 37=.own:=rfl
@[go_sem] theorem Try.pf38:Try.pf 38=.own:=rfl
@[go_sem] theorem Try.pf39:Try.pf 39=.own:=rfl
@[go_sem] theorem Try.pf40:Try.pf 40=.own:=rfl
@[go_sem] theorem Try.pf41:Try.pf 41=.own:=rfl
@[go_sem] theorem Try.pf42:Try.pf 42=.own:=rfl
@[go_sem] theorem Try.pf43:Try.pf 43=.own:=rfl
@[go_sem] theorem Try.pf44:Try.pf 44=.own:=rfl
@[go_sem] theorem Try.pf45:Try.pf 45=.own:=rfl
@[go_sem] theorem Try.pf46:Try.pf 46=.own:=rfl
@[go_sem] theorem Try.pf47:Try.pf 47=.own:=rfl
@[go_sem] theorem Try.pf48:Try.pf 48=.own:=rfl
@[go_sem] theorem Try.pf49:Try.pf 49=.own:=rfl
@[go_sem] theorem Try.pf50:Try.pf 50=.own:=rfl
@[go_sem] theorem Try.pf51:Try.pf 51=.own:=rfl
@[go_sem] theorem Try.pf52:Try.pf 52=.own:=rfl
@[go_sem] theorem Try.pf53:Try.pf 53=.own:=rfl
@[go_sem] theorem Try.pf54:Try.pf 54=.own:=rfl
@[go_sem] theorem Try.pf55:Try.pf 55=.own:=rfl
noncomputable def Try.env (n:Nat):Env:=⟨Try.prog,Try.tyT,Try.pf,n,.low⟩
@[go_sem] theorem Try.env_deep (n:Nat):(Try.env n).deep=.low:=rfl
noncomputable def Try.envd (n:Nat):Env:=⟨Try.prog,Try.tyT,Try.pf,n,.both⟩
@[go_sem] theorem Try.envd_deep (n:Nat):(Try.envd n).deep=.both:=rfl
@[go_sem] theorem Try.envd_T (n:Nat):(Try.envd n).T=Try.tyT:=rfl
@[go_sem] theorem Try.envd_n (n:Nat):(Try.envd n).n=n:=rfl
@[go_sem] theorem Try.envd_pf (n f:Nat):(Try.envd n).pf f=Try.pf f:=rfl
@[go_sem] theorem Try.envd_P (n:Nat):(Try.envd n).P=Try.prog:=rfl
noncomputable def Try.envf (n:Nat):Env:=⟨Try.prog,Try.tyT,Try.pf,n,.frz⟩
@[go_sem] theorem Try.envf_deep (n:Nat):(Try.envf n).deep=.frz:=rfl
@[go_sem] theorem Try.envf_T (n:Nat):(Try.envf n).T=Try.tyT:=rfl
@[go_sem] theorem Try.envf_n (n:Nat):(Try.envf n).n=n:=rfl
@[go_sem] theorem Try.envf_pf (n f:Nat):(Try.envf n).pf f=Try.pf f:=rfl
@[go_sem] theorem Try.envf_P (n:Nat):(Try.envf n).P=Try.prog:=rfl
@[go_sem] theorem Try.env_T (n:Nat):(Try.env n).T=Try.tyT:=rfl
@[go_sem] theorem Try.env_n (n:Nat):(Try.env n).n=n:=rfl
@[go_sem] theorem Try.env_pf (n f:Nat):(Try.env n).pf f=Try.pf f:=rfl
@[go_sem] theorem Try.env_P (n:Nat):(Try.env n).P=Try.prog:=rfl
@[go_sem] theorem Try.follows:Try.prog.follows .mixedOrders=true:=by kernel_rfl
end Go.Proofs
