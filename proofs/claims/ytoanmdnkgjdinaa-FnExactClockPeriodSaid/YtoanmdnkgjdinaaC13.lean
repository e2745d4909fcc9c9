/- Contracts: the exact laws of simulation. Conditions: none; lemmas. -/
import Derived.Test.YtoanmdnkgjdinaaC11
set_option maxRecDepth 20000
set_option linter.unusedVariables false
set_option linter.unusedSimpArgs false
namespace Go.Proofs
open Go Go.VL
theorem Try.shp_ints {f:Nat}(y:D) (h:shp Try.tyT (f+2) 23 y) : ∃ l:List Int,y=dIs l:=
 shp_slice Try.ty23 Try.ty3 (fun y h=>shp_int Try.ty3 h) h
theorem Try.shp_Gate {f:Nat}(y:D) (h:shp Try.tyT (f+2) 132 y) : ∃ a:Int×Int,y=dP a:=by
 obtain⟨ys,rfl,k0⟩:=shp_struct Try.ty132 h
 obtain⟨y1,r1,rfl,h1,k1⟩:=qiN k0
 obtain⟨y2,r2,rfl,h2,k2⟩:=qiN k1
 obtain rfl:=qry k2
 obtain⟨n,rfl⟩:=shp_int Try.ty3 h1
 obtain⟨m,rfl⟩:=shp_int Try.ty3 h2
 exact⟨(n,m),rfl⟩
theorem Try.shp_Gates {f:Nat}(y:D) (h:shp Try.tyT (f+3) 55 y) : ∃ l:List (Int×Int),y=dPs l:=
 shp_slice Try.ty55 Try.ty132 Try.shp_Gate h
theorem Try.shp_Circuit {f:Nat}(y:D) (h:shp Try.tyT (f+4) 57 y) : ∃ c:Circ,y=dC c:=by
 obtain⟨ys,rfl,k0⟩:=shp_struct Try.ty57 h
 obtain⟨y1,r1,rfl,h1,k1⟩:=qiN k0
 obtain⟨y2,r2,rfl,h2,k2⟩:=qiN k1
 obtain⟨y3,r3,rfl,h3,k3⟩:=qiN k2
 obtain⟨y4,r4,rfl,h4,k4⟩:=qiN k3
 obtain rfl:=qry k4
 obtain⟨n,rfl⟩:=shp_int Try.ty3 h1
 obtain⟨a,rfl⟩:=Try.shp_ints _ h2
 obtain⟨b,rfl⟩:=Try.shp_Gates _ h3
 obtain⟨d,rfl⟩:=Try.shp_ints _ h4
 exact⟨⟨n,a,b,d⟩,rfl⟩
theorem Try.c_szCircuit (c:Circ) (k:Int) (hk:0≤k∧k≤1048576):Pure Try.prog 25 [dC c,dI k] (dI (if k<c.next.length+c.gates.length+c.outs.length then -1 else k-(c.next.length:Int)-(c.gates.length:Int)-(c.outs.length:Int))):=by
 refine qan (E:=Try.env 0) Try.tok rfl 1000 Try.func25 rfl rfl Try.ntmps25 (by simp) fun ok=>?_
 simp only[go_sem,seval] at ok
 simp only[go_sem,seval,Try.results25]
 refine qai (Try.c_szIntS _ k hk) ?_
 by_cases h1:k<c.next.length
 ·rw[if_pos h1,if_pos (by omega)]
  simp only[go_sem,seval,Try.results25]
 rw[if_neg h1]
 simp only[go_sem,seval,Try.results25]
 refine⟨fun h=>by omega,fun _=>?_⟩
 refine qai (Try.c_szGateS _ _ (by omega)) ?_
 by_cases h2:k-c.next.length<c.gates.length
 ·rw[if_pos h2,if_pos (by omega)]
  simp only[go_sem,seval,Try.results25]
 rw[if_neg h2]
 simp only[go_sem,seval,Try.results25]
 refine⟨fun h=>by omega,fun _=>?_⟩
 refine qai (Try.c_szIntS _ _ (by omega)) ?_
 by_cases h3:k-c.next.length-c.gates.length<c.outs.length
 ·rw[if_pos h3,if_pos (by omega)]
  simp only[go_sem,seval,Try.results25]
 rw[if_neg h3,if_neg (by omega)]
 simp only[go_sem,seval,Try.results25]
 omega
end Go.Proofs
