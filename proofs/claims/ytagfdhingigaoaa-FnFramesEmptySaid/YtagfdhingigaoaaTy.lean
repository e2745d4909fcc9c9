/- The table of the types of a translation, and that it is right. Made by a program. Conditions: none. -/
import Derived.Test.YtagfdhingigaoaaProg
import Derived.Test.YtagfdhingigaoaaVM8
import Derived.KernelRfl
set_option linter.unusedVariables false
set_option maxRecDepth 20000
namespace Go.Proofs
open Go.VL
theorem qap {P:Program}{t:Nat}{ti:TI}(h1:(P.info? t).map (fun i=>(i.size,i.bytes,i.zero))=some (ti.size,ti.bytes,some (qah ti.zero)):=by kernel_rfl) (h2:(P.underlying t).map tyOf=some ti.ty:=by kernel_rfl) (h3:qeI ti.zero=true:=by kernel_rfl) (h4:ti.zero.cells.length=ti.size:=by kernel_rfl) (h5:(match ti.zero with|.agg _=>true|_=>false)=ti.ty.agg:=by kernel_rfl) (h6:qlF P t=true:=by kernel_rfl):TIOK P t ti:=tiok_of h1 h2 h3 h4 h5 h6
def Try.tyT:Nat→Option TI
 | 1=>some ⟨.func,1,8,.raw .nilFunc⟩
 | 2=>some ⟨.int .i64,1,8,.int .i64 0⟩
 | 3=>some ⟨.int .i64,1,8,.int .i64 0⟩
 | 4=>some ⟨.bool,1,1,.bool false⟩
 | 5=>some ⟨.int .u8,1,1,.int .u8 0⟩
 | 6=>some ⟨.int .u8,1,1,.int .u8 0⟩
 | 7=>some ⟨.struct [(0,2),(1,3),(2,4),(3,6)],4,24,.agg [.int .i64 0,.int .i64 0,.bool false,.int .u8 0]⟩
 | 8=>some ⟨.struct [(0,2),(1,3),(2,4),(3,6)],4,24,.agg [.int .i64 0,.int .i64 0,.bool false,.int .u8 0]⟩
 | 9=>some ⟨.string,1,16,.raw (.string .empty)⟩
 | 10=>some ⟨.string,1,16,.raw (.string .empty)⟩
 | 11=>some ⟨.string,1,16,.raw (.string .empty)⟩
 | 12=>some ⟨.int .u64,1,8,.int .u64 0⟩
 | 13=>some ⟨.struct [(0,9),(1,12)],2,24,.agg [.raw (.string .empty),.int .u64 0]⟩
 | 14=>some ⟨.struct [(0,9),(1,12)],2,24,.agg [.raw (.string .empty),.int .u64 0]⟩
 | 15=>some ⟨.ptr 124,1,8,.raw (.pointer none)⟩
 | 16=>some ⟨.ptr 127,1,8,.raw (.pointer none)⟩
 | 17=>some ⟨.ptr 137,1,8,.raw (.pointer none)⟩
 | 18=>some ⟨.struct [(0,17)],1,8,.agg [.raw (.pointer none)]⟩
 | 19=>some ⟨.struct [(0,17)],1,8,.agg [.raw (.pointer none)]⟩
 | 21=>some ⟨.int .i32,1,4,.int .i32 0⟩
 | 22=>some ⟨.slice 5,1,24,.nil⟩
 | 23=>some ⟨.slice 44,1,24,.nil⟩
 | 24=>some ⟨.slice 34,1,24,.nil⟩
 | 25=>some ⟨.struct [(0,23),(1,24)],2,48,.agg [.nil,.nil]⟩
 | 26=>some ⟨.struct [(0,23),(1,24)],2,48,.agg [.nil,.nil]⟩
 | 28=>some ⟨.func,1,8,.raw .nilFunc⟩
 | 29=>some ⟨.slice 47,1,24,.nil⟩
 | 30=>some ⟨.func,1,8,.raw .nilFunc⟩
 | 31=>some ⟨.func,1,8,.raw .nilFunc⟩
 | 32=>some ⟨.func,1,8,.raw .nilFunc⟩
 | 33=>some ⟨.struct [(0,3),(1,4)],2,16,.agg [.int .i64 0,.bool false]⟩
 | 34=>some ⟨.struct [(0,3),(1,4)],2,16,.agg [.int .i64 0,.bool false]⟩
 | 35=>some ⟨.func,1,8,.raw .nilFunc⟩
 | 36=>some ⟨.func,1,8,.raw .nilFunc⟩
 | 37=>some ⟨.ptr 58,1,8,.raw (.pointer none)⟩
 | 38=>some ⟨.func,1,8,.raw .nilFunc⟩
 | 39=>some ⟨.func,1,8,.raw .nilFunc⟩
 | 40=>some ⟨.func,1,8,.raw .nilFunc⟩
 | 41=>some ⟨.func,1,8,.raw .nilFunc⟩
 | 42=>some ⟨.slice 3,1,24,.nil⟩
 | 43=>some ⟨.struct [(0,3),(1,42),(2,4),(3,42)],4,64,.agg [.int .i64 0,.nil,.bool false,.nil]⟩
 | 44=>some ⟨.struct [(0,3),(1,42),(2,4),(3,42)],4,64,.agg [.int .i64 0,.nil,.bool false,.nil]⟩
 | 45=>some ⟨.func,1,8,.raw .nilFunc⟩
 | 46=>some ⟨.struct [(0,3),(1,44)],5,72,.agg [.int .i64 0,.int .i64 0,.nil,.bool false,.nil]⟩
 | 47=>some ⟨.struct [(0,3),(1,44)],5,72,.agg [.int .i64 0,.int .i64 0,.nil,.bool false,.nil]⟩
 | 48=>some ⟨.func,1,8,.raw .nilFunc⟩
 | 49=>some ⟨.func,1,8,.raw .nilFunc⟩
 | 50=>some ⟨.func,1,8,.raw .nilFunc⟩
 | 51=>some ⟨.slice 69,1,24,.nil⟩
 | 52=>some ⟨.struct [(0,3),(1,42),(2,51),(3,42)],4,80,.agg [.int .i64 0,.nil,.nil,.nil]⟩
 | 53=>some ⟨.struct [(0,3),(1,42),(2,51),(3,42)],4,80,.agg [.int .i64 0,.nil,.nil,.nil]⟩
 | 54=>some ⟨.func,1,8,.raw .nilFunc⟩
 | 55=>some ⟨.func,1,8,.raw .nilFunc⟩
 | 56=>some ⟨.int .u64,1,8,.int .u64 0⟩
 | 57=>some ⟨.struct [(0,22),(1,3)],2,32,.agg [.nil,.int .i64 0]⟩
 | 58=>some ⟨.struct [(0,22),(1,3)],2,32,.agg [.nil,.int .i64 0]⟩
 | 60=>some ⟨.func,1,8,.raw .nilFunc⟩
 | 61=>some ⟨.func,1,8,.raw .nilFunc⟩
 | 62=>some ⟨.func,1,8,.raw .nilFunc⟩
 | 63=>some ⟨.func,1,8,.raw .nilFunc⟩
 | 64=>some ⟨.func,1,8,.raw .nilFunc⟩
 | 65=>some ⟨.func,1,8,.raw .nilFunc⟩
 | 66=>some ⟨.func,1,8,.raw .nilFunc⟩
 | 67=>some ⟨.func,1,8,.raw .nilFunc⟩
 | 68=>some ⟨.struct [(0,3),(1,3)],2,16,.agg [.int .i64 0,.int .i64 0]⟩
 | 69=>some ⟨.struct [(0,3),(1,3)],2,16,.agg [.int .i64 0,.int .i64 0]⟩
 | 70=>some ⟨.func,1,8,.raw .nilFunc⟩
 | 71=>some ⟨.func,1,8,.raw .nilFunc⟩
 | 72=>some ⟨.ptr 53,1,8,.raw (.pointer none)⟩
 | 73=>some ⟨.func,1,8,.raw .nilFunc⟩
 | 74=>some ⟨.slice 86,1,24,.nil⟩
 | 75=>some ⟨.func,1,8,.raw .nilFunc⟩
 | 76=>some ⟨.func,1,8,.raw .nilFunc⟩
 | 77=>some ⟨.slice 98,1,24,.nil⟩
 | 79=>some ⟨.func,1,8,.raw .nilFunc⟩
 | 80=>some ⟨.func,1,8,.raw .nilFunc⟩
 | 81=>some ⟨.array 4 3,4,32,.agg [.int .i64 0,.int .i64 0,.int .i64 0,.int .i64 0]⟩
 | 82=>some ⟨.func,1,8,.raw .nilFunc⟩
 | 83=>some ⟨.func,1,8,.raw .nilFunc⟩
 | 84=>some ⟨.func,1,8,.raw .nilFunc⟩
 | 85=>some ⟨.struct [(0,3),(1,42),(2,3),(3,4)],4,48,.agg [.int .i64 0,.nil,.int .i64 0,.bool false]⟩
 | 86=>some ⟨.struct [(0,3),(1,42),(2,3),(3,4)],4,48,.agg [.int .i64 0,.nil,.int .i64 0,.bool false]⟩
 | 87=>some ⟨.slice 90,1,24,.nil⟩
 | 88=>some ⟨.func,1,8,.raw .nilFunc⟩
 | 89=>some ⟨.struct [(0,3),(1,42),(2,3)],3,40,.agg [.int .i64 0,.nil,.int .i64 0]⟩
 | 90=>some ⟨.struct [(0,3),(1,42),(2,3)],3,40,.agg [.int .i64 0,.nil,.int .i64 0]⟩
 | 91=>some ⟨.func,1,8,.raw .nilFunc⟩
 | 92=>some ⟨.func,1,8,.raw .nilFunc⟩
 | 93=>some ⟨.slice 94,1,24,.nil⟩
 | 94=>some ⟨.slice 4,1,24,.nil⟩
 | 95=>some ⟨.func,1,8,.raw .nilFunc⟩
 | 96=>some ⟨.slice 102,1,24,.nil⟩
 | 97=>some ⟨.struct [(0,3),(1,3),(2,96)],3,40,.agg [.int .i64 0,.int .i64 0,.nil]⟩
 | 98=>some ⟨.struct [(0,3),(1,3),(2,96)],3,40,.agg [.int .i64 0,.int .i64 0,.nil]⟩
 | 100=>some ⟨.func,1,8,.raw .nilFunc⟩
 | 101=>some ⟨.struct [(0,3),(1,3)],2,16,.agg [.int .i64 0,.int .i64 0]⟩
 | 102=>some ⟨.struct [(0,3),(1,3)],2,16,.agg [.int .i64 0,.int .i64 0]⟩
 | 103=>some ⟨.func,1,8,.raw .nilFunc⟩
 | 104=>some ⟨.func,1,8,.raw .nilFunc⟩
 | 105=>some ⟨.slice 42,1,24,.nil⟩
 | 107=>some ⟨.func,1,8,.raw .nilFunc⟩
 | 108=>some ⟨.slice 105,1,24,.nil⟩
 | 109=>some ⟨.func,1,8,.raw .nilFunc⟩
 | 110=>some ⟨.func,1,8,.raw .nilFunc⟩
 | 111=>some ⟨.func,1,8,.raw .nilFunc⟩
 | 112=>some ⟨.func,1,8,.raw .nilFunc⟩
 | 114=>some ⟨.func,1,8,.raw .nilFunc⟩
 | 115=>some ⟨.func,1,8,.raw .nilFunc⟩
 | 116=>some ⟨.func,1,8,.raw .nilFunc⟩
 | 117=>some ⟨.func,1,8,.raw .nilFunc⟩
 | 118=>some ⟨.func,1,8,.raw .nilFunc⟩
 | 119=>some ⟨.func,1,8,.raw .nilFunc⟩
 | 120=>some ⟨.func,1,8,.raw .nilFunc⟩
 | 121=>some ⟨.func,1,8,.raw .nilFunc⟩
 | 122=>some ⟨.func,1,8,.raw .nilFunc⟩
 | 123=>some ⟨.struct [(0,17),(1,17),(2,17),(3,9)],4,40,.agg [.raw (.pointer none),.raw (.pointer none),.raw (.pointer none),.raw (.string .empty)]⟩
 | 124=>some ⟨.struct [(0,17),(1,17),(2,17),(3,9)],4,40,.agg [.raw (.pointer none),.raw (.pointer none),.raw (.pointer none),.raw (.string .empty)]⟩
 | 128=>some ⟨.func,1,8,.raw .nilFunc⟩
 | 129=>some ⟨.int .u32,1,4,.int .u32 0⟩
 | 130=>some ⟨.int .u8,1,1,.int .u8 0⟩
 | 131=>some ⟨.int .u8,1,1,.int .u8 0⟩
 | 132=>some ⟨.func,1,8,.raw .nilFunc⟩
 | 133=>some ⟨.ptr 5,1,8,.raw (.pointer none)⟩
 | 134=>some ⟨.int .i32,1,4,.int .i32 0⟩
 | 135=>some ⟨.int .i32,1,4,.int .i32 0⟩
 | 136=>some ⟨.struct [(0,12),(1,12),(2,129),(3,130),(4,5),(5,5),(6,131),(7,132),(8,133),(9,134),(10,135)],11,48,.agg [.int .u64 0,.int .u64 0,.int .u32 0,.int .u8 0,.int .u8 0,.int .u8 0,.int .u8 0,.raw .nilFunc,.raw (.pointer none),.int .i32 0,.int .i32 0]⟩
 | 137=>some ⟨.struct [(0,12),(1,12),(2,129),(3,130),(4,5),(5,5),(6,131),(7,132),(8,133),(9,134),(10,135)],11,48,.agg [.int .u64 0,.int .u64 0,.int .u32 0,.int .u8 0,.int .u8 0,.int .u8 0,.int .u8 0,.raw .nilFunc,.raw (.pointer none),.int .i32 0,.int .i32 0]⟩
 | _=>none
theorem Try.tok1:TIOK Try.prog 1 ⟨.func,1,8,.raw .nilFunc⟩:=qap
theorem Try.tok2:TIOK Try.prog 2 ⟨.int .i64,1,8,.int .i64 0⟩:=qap
theorem Try.tok3:TIOK Try.prog 3 ⟨.int .i64,1,8,.int .i64 0⟩:=qap
theorem Try.tok4:TIOK Try.prog 4 ⟨.bool,1,1,.bool false⟩:=qap
theorem Try.tok5:TIOK Try.prog 5 ⟨.int .u8,1,1,.int .u8 0⟩:=qap
theorem Try.tok6:TIOK Try.prog 6 ⟨.int .u8,1,1,.int .u8 0⟩:=qap
theorem Try.tok7:TIOK Try.prog 7 ⟨.struct [(0,2),(1,3),(2,4),(3,6)],4,24,.agg [.int .i64 0,.int .i64 0,.bool false,.int .u8 0]⟩:=qap
theorem Try.tok8:TIOK Try.prog 8 ⟨.struct [(0,2),(1,3),(2,4),(3,6)],4,24,.agg [.int .i64 0,.int .i64 0,.bool false,.int .u8 0]⟩:=qap
theorem Try.tok9:TIOK Try.prog 9 ⟨.string,1,16,.raw (.string .empty)⟩:=qap
theorem Try.tok10:TIOK Try.prog 10 ⟨.string,1,16,.raw (.string .empty)⟩:=qap
theorem Try.tok11:TIOK Try.prog 11 ⟨.string,1,16,.raw (.string .empty)⟩:=qap
theorem Try.tok12:TIOK Try.prog 12 ⟨.int .u64,1,8,.int .u64 0⟩:=qap
theorem Try.tok13:TIOK Try.prog 13 ⟨.struct [(0,9),(1,12)],2,24,.agg [.raw (.string .empty),.int .u64 0]⟩:=qap
theorem Try.tok14:TIOK Try.prog 14 ⟨.struct [(0,9),(1,12)],2,24,.agg [.raw (.string .empty),.int .u64 0]⟩:=qap
theorem Try.tok15:TIOK Try.prog 15 ⟨.ptr 124,1,8,.raw (.pointer none)⟩:=qap
theorem Try.tok16:TIOK Try.prog 16 ⟨.ptr 127,1,8,.raw (.pointer none)⟩:=qap
theorem Try.tok17:TIOK Try.prog 17 ⟨.ptr 137,1,8,.raw (.pointer none)⟩:=qap
theorem Try.tok18:TIOK Try.prog 18 ⟨.struct [(0,17)],1,8,.agg [.raw (.pointer none)]⟩:=qap
theorem Try.tok19:TIOK Try.prog 19 ⟨.struct [(0,17)],1,8,.agg [.raw (.pointer none)]⟩:=qap
theorem Try.tok21:TIOK Try.prog 21 ⟨.int .i32,1,4,.int .i32 0⟩:=qap
theorem Try.tok22:TIOK Try.prog 22 ⟨.slice 5,1,24,.nil⟩:=qap
theorem Try.tok23:TIOK Try.prog 23 ⟨.slice 44,1,24,.nil⟩:=qap
theorem Try.tok24:TIOK Try.prog 24 ⟨.slice 34,1,24,.nil⟩:=qap
theorem Try.tok25:TIOK Try.prog 25 ⟨.struct [(0,23),(1,24)],2,48,.agg [.nil,.nil]⟩:=qap
theorem Try.tok26:TIOK Try.prog 26 ⟨.struct [(0,23),(1,24)],2,48,.agg [.nil,.nil]⟩:=qap
theorem Try.tok28:TIOK Try.prog 28 ⟨.func,1,8,.raw .nilFunc⟩:=qap
theorem Try.tok29:TIOK Try.prog 29 ⟨.slice 47,1,24,.nil⟩:=qap
theorem Try.tok30:TIOK Try.prog 30 ⟨.func,1,8,.raw .nilFunc⟩:=qap
theorem Try.tok31:TIOK Try.prog 31 ⟨.func,1,8,.raw .nilFunc⟩:=qap
theorem Try.tok32:TIOK Try.prog 32 ⟨.func,1,8,.raw .nilFunc⟩:=qap
theorem Try.tok33:TIOK Try.prog 33 ⟨.struct [(0,3),(1,4)],2,16,.agg [.int .i64 0,.bool false]⟩:=qap
theorem Try.tok34:TIOK Try.prog 34 ⟨.struct [(0,3),(1,4)],2,16,.agg [.int .i64 0,.bool false]⟩:=qap
theorem Try.tok35:TIOK Try.prog 35 ⟨.func,1,8,.raw .nilFunc⟩:=qap
theorem Try.tok36:TIOK Try.prog 36 ⟨.func,1,8,.raw .nilFunc⟩:=qap
theorem Try.tok37:TIOK Try.prog 37 ⟨.ptr 58,1,8,.raw (.pointer none)⟩:=qap
theorem Try.tok38:TIOK Try.prog 38 ⟨.func,1,8,.raw .nilFunc⟩:=qap
theorem Try.tok39:TIOK Try.prog 39 ⟨.func,1,8,.raw .nilFunc⟩:=qap
theorem Try.tok40:TIOK Try.prog 40 ⟨.func,1,8,.raw .nilFunc⟩:=qap
theorem Try.tok41:TIOK Try.prog 41 ⟨.func,1,8,.raw .nilFunc⟩:=qap
theorem Try.tok42:TIOK Try.prog 42 ⟨.slice 3,1,24,.nil⟩:=qap
theorem Try.tok43:TIOK Try.prog 43 ⟨.struct [(0,3),(1,42),(2,4),(3,42)],4,64,.agg [.int .i64 0,.nil,.bool false,.nil]⟩:=qap
theorem Try.tok44:TIOK Try.prog 44 ⟨.struct [(0,3),(1,42),(2,4),(3,42)],4,64,.agg [.int .i64 0,.nil,.bool false,.nil]⟩:=qap
theorem Try.tok45:TIOK Try.prog 45 ⟨.func,1,8,.raw .nilFunc⟩:=qap
theorem Try.tok46:TIOK Try.prog 46 ⟨.struct [(0,3),(1,44)],5,72,.agg [.int .i64 0,.int .i64 0,.nil,.bool false,.nil]⟩:=qap
theorem Try.tok47:TIOK Try.prog 47 ⟨.struct [(0,3),(1,44)],5,72,.agg [.int .i64 0,.int .i64 0,.nil,.bool false,.nil]⟩:=qap
theorem Try.tok48:TIOK Try.prog 48 ⟨.func,1,8,.raw .nilFunc⟩:=qap
theorem Try.tok49:TIOK Try.prog 49 ⟨.func,1,8,.raw .nilFunc⟩:=qap
theorem Try.tok50:TIOK Try.prog 50 ⟨.func,1,8,.raw .nilFunc⟩:=qap
theorem Try.tok51:TIOK Try.prog 51 ⟨.slice 69,1,24,.nil⟩:=qap
theorem Try.tok52:TIOK Try.prog 52 ⟨.struct [(0,3),(1,42),(2,51),(3,42)],4,80,.agg [.int .i64 0,.nil,.nil,.nil]⟩:=qap
theorem Try.tok53:TIOK Try.prog 53 ⟨.struct [(0,3),(1,42),(2,51),(3,42)],4,80,.agg [.int .i64 0,.nil,.nil,.nil]⟩:=qap
theorem Try.tok54:TIOK Try.prog 54 ⟨.func,1,8,.raw .nilFunc⟩:=qap
theorem Try.tok55:TIOK Try.prog 55 ⟨.func,1,8,.raw .nilFunc⟩:=qap
theorem Try.tok56:TIOK Try.prog 56 ⟨.int .u64,1,8,.int .u64 0⟩:=qap
theorem Try.tok57:TIOK Try.prog 57 ⟨.struct [(0,22),(1,3)],2,32,.agg [.nil,.int .i64 0]⟩:=qap
theorem Try.tok58:TIOK Try.prog 58 ⟨.struct [(0,22),(1,3)],2,32,.agg [.nil,.int .i64 0]⟩:=qap
theorem Try.tok60:TIOK Try.prog 60 ⟨.func,1,8,.raw .nilFunc⟩:=qap
theorem Try.tok61:TIOK Try.prog 61 ⟨.func,1,8,.raw .nilFunc⟩:=qap
theorem Try.tok62:TIOK Try.prog 62 ⟨.func,1,8,.raw .nilFunc⟩:=qap
theorem Try.tok63:TIOK Try.prog 63 ⟨.func,1,8,.raw .nilFunc⟩:=qap
theorem Try.tok64:TIOK Try.prog 64 ⟨.func,1,8,.raw .nilFunc⟩:=qap
theorem Try.tok65:TIOK Try.prog 65 ⟨.func,1,8,.raw .nilFunc⟩:=qap
theorem Try.tok66:TIOK Try.prog 66 ⟨.func,1,8,.raw .nilFunc⟩:=qap
theorem Try.tok67:TIOK Try.prog 67 ⟨.func,1,8,.raw .nilFunc⟩:=qap
theorem Try.tok68:TIOK Try.prog 68 ⟨.struct [(0,3),(1,3)],2,16,.agg [.int .i64 0,.int .i64 0]⟩:=qap
theorem Try.tok69:TIOK Try.prog 69 ⟨.struct [(0,3),(1,3)],2,16,.agg [.int .i64 0,.int .i64 0]⟩:=qap
theorem Try.tok70:TIOK Try.prog 70 ⟨.func,1,8,.raw .nilFunc⟩:=qap
theorem Try.tok71:TIOK Try.prog 71 ⟨.func,1,8,.raw .nilFunc⟩:=qap
theorem Try.tok72:TIOK Try.prog 72 ⟨.ptr 53,1,8,.raw (.pointer none)⟩:=qap
theorem Try.tok73:TIOK Try.prog 73 ⟨.func,1,8,.raw .nilFunc⟩:=qap
theorem Try.tok74:TIOK Try.prog 74 ⟨.slice 86,1,24,.nil⟩:=qap
theorem Try.tok75:TIOK Try.prog 75 ⟨.func,1,8,.raw .nilFunc⟩:=qap
theorem Try.tok76:TIOK Try.prog 76 ⟨.func,1,8,.raw .nilFunc⟩:=qap
theorem Try.tok77:TIOK Try.prog 77 ⟨.slice 98,1,24,.nil⟩:=qap
theorem Try.tok79:TIOK Try.prog 79 ⟨.func,1,8,.raw .nilFunc⟩:=qap
theorem Try.tok80:TIOK Try.prog 80 ⟨.func,1,8,.raw .nilFunc⟩:=qap
theorem Try.tok81:TIOK Try.prog 81 ⟨.array 4 3,4,32,.agg [.int .i64 0,.int .i64 0,.int .i64 0,.int .i64 0]⟩:=qap
theorem Try.tok82:TIOK Try.prog 82 ⟨.func,1,8,.raw .nilFunc⟩:=qap
theorem Try.tok83:TIOK Try.prog 83 ⟨.func,1,8,.raw .nilFunc⟩:=qap
theorem Try.tok84:TIOK Try.prog 84 ⟨.func,1,8,.raw .nilFunc⟩:=qap
theorem Try.tok85:TIOK Try.prog 85 ⟨.struct [(0,3),(1,42),(2,3),(3,4)],4,48,.agg [.int .i64 0,.nil,.int .i64 0,.bool false]⟩:=qap
theorem Try.tok86:TIOK Try.prog 86 ⟨.struct [(0,3),(1,42),(2,3),(3,4)],4,48,.agg [.int .i64 0,.nil,.int .i64 0,.bool false]⟩:=qap
theorem Try.tok87:TIOK Try.prog 87 ⟨.slice 90,1,24,.nil⟩:=qap
theorem Try.tok88:TIOK Try.prog 88 ⟨.func,1,8,.raw .nilFunc⟩:=qap
theorem Try.tok89:TIOK Try.prog 89 ⟨.struct [(0,3),(1,42),(2,3)],3,40,.agg [.int .i64 0,.nil,.int .i64 0]⟩:=qap
theorem Try.tok90:TIOK Try.prog 90 ⟨.struct [(0,3),(1,42),(2,3)],3,40,.agg [.int .i64 0,.nil,.int .i64 0]⟩:=qap
theorem Try.tok91:TIOK Try.prog 91 ⟨.func,1,8,.raw .nilFunc⟩:=qap
theorem Try.tok92:TIOK Try.prog 92 ⟨.func,1,8,.raw .nilFunc⟩:=qap
theorem Try.tok93:TIOK Try.prog 93 ⟨.slice 94,1,24,.nil⟩:=qap
theorem Try.tok94:TIOK Try.prog 94 ⟨.slice 4,1,24,.nil⟩:=qap
theorem Try.tok95:TIOK Try.prog 95 ⟨.func,1,8,.raw .nilFunc⟩:=qap
theorem Try.tok96:TIOK Try.prog 96 ⟨.slice 102,1,24,.nil⟩:=qap
theorem Try.tok97:TIOK Try.prog 97 ⟨.struct [(0,3),(1,3),(2,96)],3,40,.agg [.int .i64 0,.int .i64 0,.nil]⟩:=qap
theorem Try.tok98:TIOK Try.prog 98 ⟨.struct [(0,3),(1,3),(2,96)],3,40,.agg [.int .i64 0,.int .i64 0,.nil]⟩:=qap
theorem Try.tok100:TIOK Try.prog 100 ⟨.func,1,8,.raw .nilFunc⟩:=qap
theorem Try.tok101:TIOK Try.prog 101 ⟨.struct [(0,3),(1,3)],2,16,.agg [.int .i64 0,.int .i64 0]⟩:=qap
theorem Try.tok102:TIOK Try.prog 102 ⟨.struct [(0,3),(1,3)],2,16,.agg [.int .i64 0,.int .i64 0]⟩:=qap
theorem Try.tok103:TIOK Try.prog 103 ⟨.func,1,8,.raw .nilFunc⟩:=qap
theorem Try.tok104:TIOK Try.prog 104 ⟨.func,1,8,.raw .nilFunc⟩:=qap
theorem Try.tok105:TIOK Try.prog 105 ⟨.slice 42,1,24,.nil⟩:=qap
theorem Try.tok107:TIOK Try.prog 107 ⟨.func,1,8,.raw .nilFunc⟩:=qap
theorem Try.tok108:TIOK Try.prog 108 ⟨.slice 105,1,24,.nil⟩:=qap
theorem Try.tok109:TIOK Try.prog 109 ⟨.func,1,8,.raw .nilFunc⟩:=qap
theorem Try.tok110:TIOK Try.prog 110 ⟨.func,1,8,.raw .nilFunc⟩:=qap
theorem Try.tok111:TIOK Try.prog 111 ⟨.func,1,8,.raw .nilFunc⟩:=qap
theorem Try.tok112:TIOK Try.prog 112 ⟨.func,1,8,.raw .nilFunc⟩:=qap
theorem Try.tok114:TIOK Try.prog 114 ⟨.func,1,8,.raw .nilFunc⟩:=qap
theorem Try.tok115:TIOK Try.prog 115 ⟨.func,1,8,.raw .nilFunc⟩:=qap
theorem Try.tok116:TIOK Try.prog 116 ⟨.func,1,8,.raw .nilFunc⟩:=qap
theorem Try.tok117:TIOK Try.prog 117 ⟨.func,1,8,.raw .nilFunc⟩:=qap
theorem Try.tok118:TIOK Try.prog 118 ⟨.func,1,8,.raw .nilFunc⟩:=qap
theorem Try.tok119:TIOK Try.prog 119 ⟨.func,1,8,.raw .nilFunc⟩:=qap
theorem Try.tok120:TIOK Try.prog 120 ⟨.func,1,8,.raw .nilFunc⟩:=qap
theorem Try.tok121:TIOK Try.prog 121 ⟨.func,1,8,.raw .nilFunc⟩:=qap
theorem Try.tok122:TIOK Try.prog 122 ⟨.func,1,8,.raw .nilFunc⟩:=qap
theorem Try.tok123:TIOK Try.prog 123 ⟨.struct [(0,17),(1,17),(2,17),(3,9)],4,40,.agg [.raw (.pointer none),.raw (.pointer none),.raw (.pointer none),.raw (.string .empty)]⟩:=qap
theorem Try.tok124:TIOK Try.prog 124 ⟨.struct [(0,17),(1,17),(2,17),(3,9)],4,40,.agg [.raw (.pointer none),.raw (.pointer none),.raw (.pointer none),.raw (.string .empty)]⟩:=qap
theorem Try.tok128:TIOK Try.prog 128 ⟨.func,1,8,.raw .nilFunc⟩:=qap
theorem Try.tok129:TIOK Try.prog 129 ⟨.int .u32,1,4,.int .u32 0⟩:=qap
theorem Try.tok130:TIOK Try.prog 130 ⟨.int .u8,1,1,.int .u8 0⟩:=qap
theorem Try.tok131:TIOK Try.prog 131 ⟨.int .u8,1,1,.int .u8 0⟩:=qap
theorem Try.tok132:TIOK Try.prog 132 ⟨.func,1,8,.raw .nilFunc⟩:=qap
theorem Try.tok133:TIOK Try.prog 133 ⟨.ptr 5,1,8,.raw (.pointer none)⟩:=qap
theorem Try.tok134:TIOK Try.prog 134 ⟨.int .i32,1,4,.int .i32 0⟩:=qap
theorem Try.tok135:TIOK Try.prog 135 ⟨.int .i32,1,4,.int .i32 0⟩:=qap
theorem Try.tok136:TIOK Try.prog 136 ⟨.struct [(0,12),(1,12),(2,129),(3,130),(4,5),(5,5),(6,131),(7,132),(8,133),(9,134),(10,135)],11,48,.agg [.int .u64 0,.int .u64 0,.int .u32 0,.int .u8 0,.int .u8 0,.int .u8 0,.int .u8 0,.raw .nilFunc,.raw (.pointer none),.int .i32 0,.int .i32 0]⟩:=qap
theorem Try.tok137:TIOK Try.prog 137 ⟨.struct [(0,12),(1,12),(2,129),(3,130),(4,5),(5,5),(6,131),(7,132),(8,133),(9,134),(10,135)],11,48,.agg [.int .u64 0,.int .u64 0,.int .u32 0,.int .u8 0,.int .u8 0,.int .u8 0,.int .u8 0,.raw .nilFunc,.raw (.pointer none),.int .i32 0,.int .i32 0]⟩:=qap
theorem Try.tok:TOK Try.prog Try.tyT:=by
 intro t ti h
 unfold Try.tyT at h
 split at h
 ·cases h;exact Try.tok1
 ·cases h;exact Try.tok2
 ·cases h;exact Try.tok3
 ·cases h;exact Try.tok4
 ·cases h;exact Try.tok5
 ·cases h;exact Try.tok6
 ·cases h;exact Try.tok7
 ·cases h;exact Try.tok8
 ·cases h;exact Try.tok9
 ·cases h;exact Try.tok10
 ·cases h;exact Try.tok11
 ·cases h;exact Try.tok12
 ·cases h;exact Try.tok13
 ·cases h;exact Try.tok14
 ·cases h;exact Try.tok15
 ·cases h;exact Try.tok16
 ·cases h;exact Try.tok17
 ·cases h;exact Try.tok18
 ·cases h;exact Try.tok19
 ·cases h;exact Try.tok21
 ·cases h;exact Try.tok22
 ·cases h;exact Try.tok23
 ·cases h;exact Try.tok24
 ·cases h;exact Try.tok25
 ·cases h;exact Try.tok26
 ·cases h;exact Try.tok28
 ·cases h;exact Try.tok29
 ·cases h;exact Try.tok30
 ·cases h;exact Try.tok31
 ·cases h;exact Try.tok32
 ·cases h;exact Try.tok33
 ·cases h;exact Try.tok34
 ·cases h;exact Try.tok35
 ·cases h;exact Try.tok36
 ·cases h;exact Try.tok37
 ·cases h;exact Try.tok38
 ·cases h;exact Try.tok39
 ·cases h;exact Try.tok40
 ·cases h;exact Try.tok41
 ·cases h;exact Try.tok42
 ·cases h;exact Try.tok43
 ·cases h;exact Try.tok44
 ·cases h;exact Try.tok45
 ·cases h;exact Try.tok46
 ·cases h;exact Try.tok47
 ·cases h;exact Try.tok48
 ·cases h;exact Try.tok49
 ·cases h;exact Try.tok50
 ·cases h;exact Try.tok51
 ·cases h;exact Try.tok52
 ·cases h;exact Try.tok53
 ·cases h;exact Try.tok54
 ·cases h;exact Try.tok55
 ·cases h;exact Try.tok56
 ·cases h;exact Try.tok57
 ·cases h;exact Try.tok58
 ·cases h;exact Try.tok60
 ·cases h;exact Try.tok61
 ·cases h;exact Try.tok62
 ·cases h;exact Try.tok63
 ·cases h;exact Try.tok64
 ·cases h;exact Try.tok65
 ·cases h;exact Try.tok66
 ·cases h;exact Try.tok67
 ·cases h;exact Try.tok68
 ·cases h;exact Try.tok69
 ·cases h;exact Try.tok70
 ·cases h;exact Try.tok71
 ·cases h;exact Try.tok72
 ·cases h;exact Try.tok73
 ·cases h;exact Try.tok74
 ·cases h;exact Try.tok75
 ·cases h;exact Try.tok76
 ·cases h;exact Try.tok77
 ·cases h;exact Try.tok79
 ·cases h;exact Try.tok80
 ·cases h;exact Try.tok81
 ·cases h;exact Try.tok82
 ·cases h;exact Try.tok83
 ·cases h;exact Try.tok84
 ·cases h;exact Try.tok85
 ·cases h;exact Try.tok86
 ·cases h;exact Try.tok87
 ·cases h;exact Try.tok88
 ·cases h;exact Try.tok89
 ·cases h;exact Try.tok90
 ·cases h;exact Try.tok91
 ·cases h;exact Try.tok92
 ·cases h;exact Try.tok93
 ·cases h;exact Try.tok94
 ·cases h;exact Try.tok95
 ·cases h;exact Try.tok96
 ·cases h;exact Try.tok97
 ·cases h;exact Try.tok98
 ·cases h;exact Try.tok100
 ·cases h;exact Try.tok101
 ·cases h;exact Try.tok102
 ·cases h;exact Try.tok103
 ·cases h;exact Try.tok104
 ·cases h;exact Try.tok105
 ·cases h;exact Try.tok107
 ·cases h;exact Try.tok108
 ·cases h;exact Try.tok109
 ·cases h;exact Try.tok110
 ·cases h;exact Try.tok111
 ·cases h;exact Try.tok112
 ·cases h;exact Try.tok114
 ·cases h;exact Try.tok115
 ·cases h;exact Try.tok116
 ·cases h;exact Try.tok117
 ·cases h;exact Try.tok118
 ·cases h;exact Try.tok119
 ·cases h;exact Try.tok120
 ·cases h;exact Try.tok121
 ·cases h;exact Try.tok122
 ·cases h;exact Try.tok123
 ·cases h;exact Try.tok124
 ·cases h;exact Try.tok128
 ·cases h;exact Try.tok129
 ·cases h;exact Try.tok130
 ·cases h;exact Try.tok131
 ·cases h;exact Try.tok132
 ·cases h;exact Try.tok133
 ·cases h;exact Try.tok134
 ·cases h;exact Try.tok135
 ·cases h;exact Try.tok136
 ·cases h;exact Try.tok137
 ·cases h
@[go_sem] theorem Try.ty2:Try.tyT 2=some ⟨.int .i64,1,8,.int .i64 0⟩:=rfl
@[go_sem] theorem Try.ty3:Try.tyT 3=some ⟨.int .i64,1,8,.int .i64 0⟩:=rfl
@[go_sem] theorem Try.ty4:Try.tyT 4=some ⟨.bool,1,1,.bool false⟩:=rfl
@[go_sem] theorem Try.ty5:Try.tyT 5=some ⟨.int .u8,1,1,.int .u8 0⟩:=rfl
@[go_sem] theorem Try.ty9:Try.tyT 9=some ⟨.string,1,16,.raw (.string .empty)⟩:=rfl
@[go_sem] theorem Try.ty22:Try.tyT 22=some ⟨.slice 5,1,24,.nil⟩:=rfl
@[go_sem] theorem Try.ty23:Try.tyT 23=some ⟨.slice 44,1,24,.nil⟩:=rfl
@[go_sem] theorem Try.ty24:Try.tyT 24=some ⟨.slice 34,1,24,.nil⟩:=rfl
@[go_sem] theorem Try.ty26:Try.tyT 26=some ⟨.struct [(0,23),(1,24)],2,48,.agg [.nil,.nil]⟩:=rfl
@[go_sem] theorem Try.ty29:Try.tyT 29=some ⟨.slice 47,1,24,.nil⟩:=rfl
@[go_sem] theorem Try.ty34:Try.tyT 34=some ⟨.struct [(0,3),(1,4)],2,16,.agg [.int .i64 0,.bool false]⟩:=rfl
@[go_sem] theorem Try.ty42:Try.tyT 42=some ⟨.slice 3,1,24,.nil⟩:=rfl
@[go_sem] theorem Try.ty44:Try.tyT 44=some ⟨.struct [(0,3),(1,42),(2,4),(3,42)],4,64,.agg [.int .i64 0,.nil,.bool false,.nil]⟩:=rfl
@[go_sem] theorem Try.ty47:Try.tyT 47=some ⟨.struct [(0,3),(1,44)],5,72,.agg [.int .i64 0,.int .i64 0,.nil,.bool false,.nil]⟩:=rfl
@[go_sem] theorem Try.ty51:Try.tyT 51=some ⟨.slice 69,1,24,.nil⟩:=rfl
@[go_sem] theorem Try.ty53:Try.tyT 53=some ⟨.struct [(0,3),(1,42),(2,51),(3,42)],4,80,.agg [.int .i64 0,.nil,.nil,.nil]⟩:=rfl
@[go_sem] theorem Try.ty58:Try.tyT 58=some ⟨.struct [(0,22),(1,3)],2,32,.agg [.nil,.int .i64 0]⟩:=rfl
@[go_sem] theorem Try.ty69:Try.tyT 69=some ⟨.struct [(0,3),(1,3)],2,16,.agg [.int .i64 0,.int .i64 0]⟩:=rfl
@[go_sem] theorem Try.ty74:Try.tyT 74=some ⟨.slice 86,1,24,.nil⟩:=rfl
@[go_sem] theorem Try.ty77:Try.tyT 77=some ⟨.slice 98,1,24,.nil⟩:=rfl
@[go_sem] theorem Try.ty81:Try.tyT 81=some ⟨.array 4 3,4,32,.agg [.int .i64 0,.int .i64 0,.int .i64 0,.int .i64 0]⟩:=rfl
@[go_sem] theorem Try.ty86:Try.tyT 86=some ⟨.struct [(0,3),(1,42),(2,3),(3,4)],4,48,.agg [.int .i64 0,.nil,.int .i64 0,.bool false]⟩:=rfl
@[go_sem] theorem Try.ty87:Try.tyT 87=some ⟨.slice 90,1,24,.nil⟩:=rfl
@[go_sem] theorem Try.ty90:Try.tyT 90=some ⟨.struct [(0,3),(1,42),(2,3)],3,40,.agg [.int .i64 0,.nil,.int .i64 0]⟩:=rfl
@[go_sem] theorem Try.ty93:Try.tyT 93=some ⟨.slice 94,1,24,.nil⟩:=rfl
@[go_sem] theorem Try.ty94:Try.tyT 94=some ⟨.slice 4,1,24,.nil⟩:=rfl
@[go_sem] theorem Try.ty96:Try.tyT 96=some ⟨.slice 102,1,24,.nil⟩:=rfl
@[go_sem] theorem Try.ty98:Try.tyT 98=some ⟨.struct [(0,3),(1,3),(2,96)],3,40,.agg [.int .i64 0,.int .i64 0,.nil]⟩:=rfl
@[go_sem] theorem Try.ty102:Try.tyT 102=some ⟨.struct [(0,3),(1,3)],2,16,.agg [.int .i64 0,.int .i64 0]⟩:=rfl
@[go_sem] theorem Try.ty105:Try.tyT 105=some ⟨.slice 42,1,24,.nil⟩:=rfl
@[go_sem] theorem Try.ty108:Try.tyT 108=some ⟨.slice 105,1,24,.nil⟩:=rfl
def Try.pf:Nat→Kind
 | 10=>.proc
 | 11=>.proc
 | 12=>.proc
 | 24=>.proc
 | 26=>.proc
 | 50=>.proc
 | 59=>.proc
 | 64=>.proc
 | 4=>.fz
 | 6=>.fz
 | 38=>.fz
 | 39=>.fz
 | 46=>.fz
 | 53=>.fz
 | 54=>.fz
 | _=>.own
@[go_sem] theorem Try.pf4:Try.pf 4=.fz:=rfl
@[go_sem] theorem Try.pf5:Try.pf 5=.own:=rfl
@[go_sem] theorem Try.pf6:Try.pf 6=.fz:=rfl
@[go_sem] theorem Try.pf7:Try.pf 7=.own:=rfl
@[go_sem] theorem Try.pf8:Try.pf 8=.own:=rfl
@[go_sem] theorem Try.pf9:Try.pf 9=.own:=rfl
@[go_sem] theorem Try.pf10:Try.pf 10=.proc:=rfl
@[go_sem] theorem Try.pf11:Try.pf 11=.proc:=rfl
@[go_sem] theorem Try.pf12:Try.pf 12=.proc:=rfl
@[go_sem] theorem Try.pf13:Try.pf 13=.own:=rfl
@[go_sem] theorem Try.pf14:Try.pf 14=.own:=rfl
@[go_sem] theorem Try.pf15:Try.pf 15=.own:=rfl
@[go_sem] theorem Try.pf16:Try.pf 16=.own:=rfl
@[go_sem] theorem Try.pf17:Try.pf 17=.own:=rfl
@[go_sem] theorem Try.pf18:Try.pf 18=.own:=rfl
@[go_sem] theorem Try.pf19:Try.pf 19=.own:=rfl
@[go_sem] theorem Try.pf20:Try.pf 20=.own:=rfl
@[go_sem] theorem Try.pf21:Try.pf 21=.own:=rfl
@[go_sem] theorem Try.pf22:Try.pf 22=.own:=rfl
@[go_sem] theorem Try.pf23:Try.pf 23=.own:=rfl
@[go_sem] theorem Try.pf24:Try.pf 24=.proc:=rfl
@[go_sem] theorem Try.pf25:Try.pf 25=.own:=rfl
@[go_sem] theorem Try.pf26:Try.pf 26=.proc:=rfl
@[go_sem] theorem Try.pf27:Try.pf 27=.own:=rfl
@[go_sem] theorem Try.pf28:Try.pf 28=.own:=rfl
@[go_sem] theorem Try.pf29:Try.pf 29=.own:=rfl
@[go_sem] theorem Try.pf30:Try.pf 30=.own:=rfl
@[go_sem] theorem Try.pf31:Try.pf 31=.own:=rfl
@[go_sem] theorem Try.pf32:Try.pf 32=.own:=rfl
@[go_sem] theorem Try.pf33:Try.pf 33=.own:=rfl
@[go_sem] theorem Try.pf34:Try.pf 34=.own:=rfl
@[go_sem] theorem Try.pf35:Try.pf 35=.own:=rfl
@[go_sem] theorem Try.pf36:Try.pf 36=.own:=rfl
@[go_sem] theorem Try.pf37:Try.pf 37=.own:=rfl
@[go_sem] theorem Try.pf38:Try.pf 38=.fz:=rfl
@[go_sem] theorem Try.pf39:Try.pf 39=.fz:=rfl
@[go_sem] theorem Try.pf40:Try.pf 40=.own:=rfl
@[go_sem] theorem Try.pf41:Try.pf 41=.own:=rfl
@[go_sem] theorem Try.pf42:Try.pf 42=.own:=rfl
@[go_sem] theorem Try.pf43:Try.pf 43=.own:=rfl
@[go_sem] theorem Try.pf44:Try.pf 44=.own:=rfl
@[go_sem] theorem Try.pf45:Try.pf 45=.own:=rfl
@[go_sem] theorem Try.pf46:Try.pf 46=.fz:=rfl
@[go_sem] theorem Try.pf47:Try.pf 47=.own:=rfl
@[go_sem] theorem Try.pf48:Try.pf 48=.own:=rfl
@[go_sem] theorem Try.pf49:Try.pf 49=.own:=rfl
@[go_sem] theorem Try.pf50:Try.pf 50=.proc:=rfl
@[go_sem] theorem Try.pf51:Try.pf 51=.own:=rfl
@[go_sem] theorem Try.pf52:Try.pf 52=.own:=rfl
@[go_sem] theorem Try.pf53:Try.pf 53=.fz:=rfl
@[go_sem] theorem Try.pf54:Try.pf 54=.fz:=rfl
@[go_sem] theorem Try.pf55:Try.pf 55=.own:=rfl
@[go_sem] theorem Try.pf56:Try.pf 56=.own:=rfl
@[go_sem] theorem Try.pf57:Try.pf 57=.own:=rfl
@[go_sem] theorem Try.pf58:Try.pf 58=.own:=rfl
@[go_sem] theorem Try.pf59:Try.pf 59=.proc:=rfl
@[go_sem] theorem Try.pf60:Try.pf 60=.own:=rfl
@[go_sem] theorem Try.pf61:Try.pf 61=.own:=rfl
@[go_sem] theorem Try.pf62:Try.pf 62=.own:=rfl
@[go_sem] theorem Try.pf63:Try.pf 63=.own:=rfl
@[go_sem] theorem Try.pf64:Try.pf 64=.proc:=rfl
@[go_sem] theorem Try.pf65:Try.pf 65=.own:=rfl
@[go_sem] theorem Try.pf66:Try.pf 66=.own:=rfl
noncomputable def Try.env (n:Nat):Env:=⟨Try.prog,Try.tyT,Try.pf,n,.low⟩
@[go_sem] theorem Try.env_deep (n:Nat):(Try.env n).deep=.low:=rfl
noncomputable def Try.envd (n:Nat):Env:=⟨Try.prog,Try.tyT,Try.pf,n,.both⟩
@[go_sem] theorem Try.envd_deep (n:Nat):(Try.envd n).deep=.both:=rfl
@[go_sem] theorem Try.envd_T (n:Nat):(Try.envd n).T=Try.tyT:=rfl
@[go_sem] theorem Try.envd_n (n:Nat):(Try.envd n).n=n:=rfl
@[go_sem] theorem Try.envd_pf (n f:Nat):(Try.envd n).pf f=Try.pf f:=rfl
@[go_sem] theorem Try.envd_P (n:Nat):(Try.envd n).P=Try.prog:=rfl
noncomputable def Try.envf (n:Nat):Env:=⟨Try.prog,Try.tyT,Try.pf,n,.frz⟩
@[go_sem] theorem Try.envf_deep (n:Nat):(Try.envf n).deep=.frz:=rfl
@[go_sem] theorem Try.envf_T (n:Nat):(Try.envf n).T=Try.tyT:=rfl
@[go_sem] theorem Try.envf_n (n:Nat):(Try.envf n).n=n:=rfl
@[go_sem] theorem Try.envf_pf (n f:Nat):(Try.envf n).pf f=Try.pf f:=rfl
@[go_sem] theorem Try.envf_P (n:Nat):(Try.envf n).P=Try.prog:=rfl
@[go_sem] theorem Try.env_T (n:Nat):(Try.env n).T=Try.tyT:=rfl
@[go_sem] theorem Try.env_n (n:Nat):(Try.env n).n=n:=rfl
@[go_sem] theorem Try.env_pf (n f:Nat):(Try.env n).pf f=Try.pf f:=rfl
@[go_sem] theorem Try.env_P (n:Nat):(Try.env n).P=Try.prog:=rfl
@[go_sem] theorem Try.follows:Try.prog.follows .mixedOrders=true:=by kernel_rfl
end Go.Proofs
