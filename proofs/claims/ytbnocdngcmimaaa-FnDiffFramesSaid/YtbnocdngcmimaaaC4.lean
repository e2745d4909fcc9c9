/- Contracts: the reader that draws. Conditions: none; lemmas. -/
import Derived.Test.YtbnocdngcmimaaaC3
set_option maxRecDepth 20000
set_option linter.unusedVariables false
set_option linter.unusedSimpArgs false
namespace Go.Proofs
open Go Go.VL
abbrev Try.rd (b:List Int) (p:Int):R:=.box [.d (dUs b),.d (dI p)]
def Try.Bytes (b:List Int):Prop:=∀ x∈b,0≤x∧x≤255
theorem Try.shp_Bytes {f:Nat}(y:D) (h:shp Try.tyT (f+2) 60 y) : ∃ l:List Int,y=dUs l:=
 shp_slice Try.ty60 Try.ty5 (g:=D.int .u8) (fun y h=>shp_int Try.ty5 h) h
theorem Try.c_l20Open (code:List Int):Proc Try.prog 87 [.d (dUs code)] [] (.ptr 0 0) [Try.rd (code.take 2000) 0]:=by
 refine proc_of (E:=Try.env 0) Try.tok rfl 1000 Try.func87 rfl rfl Try.ntmps87 (by simp) ?_
 simp only[go_sem,seval,Try.results87]
 refine⟨fun h=>by omega,fun h=>?_⟩
 rw[List.take_of_length_le (by omega)]
theorem Try.byte_get {b:List Int}(hb:Try.Bytes b) (k:Nat):0≤b.getD k 0∧b.getD k 0≤255:=by
 by_cases h:k<b.length
 ·have:=hb (b.getD k 0) (by simp[List.getD,h])
  exact this
 ·simp[List.getD,h]
theorem qi9 {x n:Int}(h0:0≤x) (hn:0<n):0≤x%n∧x%n<n:=⟨Int.emod_nonneg _ (by omega),Int.emod_lt_of_pos _ hn⟩
set_option maxRecDepth 100000 in
theorem Try.c_pick (b:List Int) (p n:Int) (hb:Try.Bytes b) (hp:0≤p∧p≤1000000000) :
  ICall Try.prog 94 [.ptr 0 0,.d (dI n)] [Try.rd b p] (fun r H'=>∃ x,(0≤x∧(x<n∨x=0))∧r=.d (dI x)∧H'=[Try.rd b (p+1)]):=by
 refine qbV (E:=Try.env 1) Try.tok rfl 1000 Try.func94 rfl rfl Try.ntmps94 (by simp) ?_
 simp only[go_sem,seval,Try.results94]
 simp only[qae]
 refine⟨by omega,fun h1=>?_,fun h1=>⟨by omega,fun h2=>?_,fun h2=>?_⟩⟩
 ·exact qeA ⟨0,by omega,rfl,rfl⟩
 ·have hx:=Try.byte_get hb (p+1-1).toNat
  refine⟨by omega,by omega,by omega,qeA ⟨_,?_,rfl,rfl⟩⟩
  rw[qac hx.1]
  have:=qi9 hx.1 (show 0<n by omega)
  omega
 ·simp only[Int.add_sub_cancel] at *
  simp only[qac (x:=p) (by omega),qac (x:=p*7+3) (by omega)]
  have m1:=qi9 (x:=p) (n:=(b.length:Int)) (by omega) (by omega)
  have m2:=qi9 (x:=p*7+3) (n:=(b.length:Int)) (by omega) (by omega)
  have d1:0≤p/(b.length:Int)∧p/(b.length:Int)≤p:=⟨Int.ediv_nonneg (by omega) (by omega),Int.ediv_le_self _ (by omega)⟩
  have b1:=Try.byte_get hb (p%(b.length:Int)).toNat
  have b2:=Try.byte_get hb ((p*7+3)%(b.length:Int)).toNat
  generalize b.getD (p%(b.length:Int)).toNat 0=x1 at *
  generalize b.getD ((p*7+3)%(b.length:Int)).toNat 0=x2 at *
  generalize p/(b.length:Int)=x3 at *
  refine⟨by kernel_rfl,by omega,by omega,by omega,by omega,by omega,by omega,by omega,by omega,by omega,by omega,by omega,by omega,by omega,by omega,by omega,by omega,by omega,by omega,by omega,qeA ⟨_,?_,rfl,rfl⟩⟩
  rw[qac (by omega)]
  have:=qi9 (x:=(((x1*131+x2*1117+p*29+x3*53).toNat ^^^ ((x1*131+x2*1117+p*29+x3*53)/64).toNat:Nat):Int)) (n:=n) (by omega) (by omega)
  omega
end Go.Proofs
