/- Contracts, plain definitions and lemmas. Conditions: none; lemmas. -/
import Derived.Test.YtoanmdnkgjdinaaGreatC60
import Derived.Test.YtoanmdnkgjdinaaGreatC10
import Derived.Test.YtoanmdnkgjdinaaGreatE4
import Derived.Test.YtoanmdnkgjdinaaGreatE7
set_option maxRecDepth 20000
set_option linter.unusedVariables false
set_option linter.unusedSimpArgs false
namespace Go.Proofs
open Go Go.VL
theorem Tryz.shp_ints {f:Nat}(y:D) (h:shp Tryz.tyT (f+2) 22 y) : ∃ l:List Int,y=dIs l:=
 shp_slice Tryz.ty22 Tryz.ty3 (fun y h=>shp_int Tryz.ty3 h) h
theorem Tryz.shp_Gate {f:Nat}(y:D) (h:shp Tryz.tyT (f+2) 113 y) : ∃ a:Int×Int,y=dP a:=by
 obtain⟨ys,rfl,k0⟩:=shp_struct Tryz.ty113 h
 obtain⟨y1,r1,rfl,h1,k1⟩:=qgJ k0
 obtain⟨y2,r2,rfl,h2,k2⟩:=qgJ k1
 obtain rfl:=qnr k2
 obtain⟨n,rfl⟩:=shp_int Tryz.ty3 h1
 obtain⟨m,rfl⟩:=shp_int Tryz.ty3 h2
 exact⟨(n,m),rfl⟩
theorem Tryz.shp_Gates {f:Nat}(y:D) (h:shp Tryz.tyT (f+3) 23 y) : ∃ l:List (Int×Int),y=dPs l:=
 shp_slice Tryz.ty23 Tryz.ty113 Tryz.shp_Gate h
theorem Tryz.shp_Circuit {f:Nat}(y:D) (h:shp Tryz.tyT (f+4) 25 y) : ∃ c:Circ,y=dC c:=by
 obtain⟨ys,rfl,k0⟩:=shp_struct Tryz.ty25 h
 obtain⟨y1,r1,rfl,h1,k1⟩:=qgJ k0
 obtain⟨y2,r2,rfl,h2,k2⟩:=qgJ k1
 obtain⟨y3,r3,rfl,h3,k3⟩:=qgJ k2
 obtain⟨y4,r4,rfl,h4,k4⟩:=qgJ k3
 obtain rfl:=qnr k4
 obtain⟨n,rfl⟩:=shp_int Tryz.ty3 h1
 obtain⟨a,rfl⟩:=Tryz.shp_ints _ h2
 obtain⟨b,rfl⟩:=Tryz.shp_Gates _ h3
 obtain⟨d,rfl⟩:=Tryz.shp_ints _ h4
 exact⟨⟨n,a,b,d⟩,rfl⟩
theorem Tryz.c_szCircuit (c:Circ) (k:Int) (hk:0≤k∧k≤1048576):Pure Tryz.prog 7 [dC c,dI k] (dI (if k<c.next.length+c.gates.length+c.outs.length then -1 else k-(c.next.length:Int)-(c.gates.length:Int)-(c.outs.length:Int))):=by
 refine qam (E:=Tryz.env 0) Tryz.tok rfl 1000 Tryz.func7 rfl rfl Tryz.ntmps7 (by simp) fun ok=>?_
 simp only[go_sem,seval] at ok
 simp only[go_sem,seval,Tryz.results7]
 refine qai (Tryz.c_szIntS _ k hk) ?_
 by_cases h1:k<c.next.length
 ·rw[if_pos h1,if_pos (by omega)]
  simp only[go_sem,seval,Tryz.results7]
 rw[if_neg h1]
 simp only[go_sem,seval,Tryz.results7]
 refine⟨fun h=>by omega,fun _=>?_⟩
 refine qai (Tryz.c_szGateS _ _ (by omega)) ?_
 by_cases h2:k-c.next.length<c.gates.length
 ·rw[if_pos h2,if_pos (by omega)]
  simp only[go_sem,seval,Tryz.results7]
 rw[if_neg h2]
 simp only[go_sem,seval,Tryz.results7]
 refine⟨fun h=>by omega,fun _=>?_⟩
 refine qai (Tryz.c_szIntS _ _ (by omega)) ?_
 by_cases h3:k-c.next.length-c.gates.length<c.outs.length
 ·rw[if_pos h3,if_pos (by omega)]
  simp only[go_sem,seval,Tryz.results7]
 rw[if_neg h3,if_neg (by omega)]
 simp only[go_sem,seval,Tryz.results7]
 omega
end Go.Proofs

set_option maxRecDepth 20000
set_option linter.unusedVariables false
set_option linter.unusedSimpArgs false
namespace Go.Proofs
open Go Go.VL
def tern (x:Int):Prop:=0≤x∧x≤2
instance (x:Int):Decidable (tern x):=by unfold tern;infer_instance
def ternL (l:List Int):Prop:=∀ x∈l,tern x
noncomputable instance (l:List Int):Decidable (ternL l):=Classical.propDecidable _
theorem ternL.get {l:List Int}(h:ternL l) (i:Nat):tern (l.getD i 0):=by
 by_cases hi:i<l.length
 ·exact h _ (qak hi)
 ·rw[List.getD_eq_getElem?_getD,List.getElem?_eq_none (by omega)]
  exact⟨by simp,by simp⟩
def evOk (c:Circ) (st ins:List Int):Prop:=c.Valid∧st.length=c.next.length∧(ins.length:Int)=c.inputs∧ternL st∧ternL ins
noncomputable instance (c:Circ) (st ins:List Int):Decidable (evOk c st ins):=Classical.propDecidable _
end Go.Proofs

set_option maxRecDepth 20000
set_option linter.unusedVariables false
set_option linter.unusedSimpArgs false
namespace Go.Proofs
open Go Go.VL
@[go_sem] theorem two_get {k:IntKind}{a b z:Int}{m:Nat}:[D.int k a,D.int k b].getD m (D.int k z)=D.int k ([a,b].getD m z):=by
 rcases m with _|_|m <;> rfl
end Go.Proofs

set_option maxRecDepth 20000
set_option linter.unusedVariables false
set_option linter.unusedSimpArgs false
namespace Go.Proofs
open Go Go.VL
theorem getD_p3 {a b c:Int}{n:Nat}:([D.int .i64 a,D.int .i64 b,D.int .i64 c]:List D).getD n (D.int .i64 0)=D.int .i64 (([a,b,c]:List Int).getD n 0):=by
 match n with
 | 0|1|2|_+3=>rfl
end Go.Proofs

set_option maxRecDepth 20000
set_option linter.unusedVariables false
set_option linter.unusedSimpArgs false
namespace Go.Proofs
open Go Go.VL
theorem qfx {c:Circ}{place:List Int}{list:List (Int×Int)}{routes:List Rt}(h:qaw c place list=some routes):c.Valid∧PlaceOk (qan c).length place∧qky list∧∃ busy,RoutesOk c (qan c) place (qcS list) (c.vars.toNat-1) busy routes:=by
 classical
 rw[qaw] at h
 split at h
 ·rename_i hv
  obtain⟨busy,hR⟩:=qkt hv.1.1 hv.1.2 (qg3 list) h
  exact⟨hv.1.1,hv.1.2,hv.2,busy,hR⟩
 ·cases h
theorem qee {c:Circ}{place:List Int}{list:List (Int×Int)}{routes:List Rt}(h:qaw c place list=some routes):RtsOk routes:=by
 classical
 rw[qaw] at h
 split at h
 ·rename_i hv
  exact qmn hv.1.1 hv.1.2 (qg3 list) h
 ·cases h
end Go.Proofs
