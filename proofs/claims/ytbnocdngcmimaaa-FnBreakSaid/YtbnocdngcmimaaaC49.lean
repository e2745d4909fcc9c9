/- Contracts: the shapes of arguments that are configurations, frames and defects. Conditions: none; lemmas. -/
import Derived.Test.YtbnocdngcmimaaaC45
set_option maxRecDepth 20000
set_option linter.unusedVariables false
set_option linter.unusedSimpArgs false
namespace Go.Proofs
open Go Go.VL
theorem Try.shp_KTile {f:Nat}(y:D) (h:shp Try.tyT (f+3) 98 y) : ∃ a:Tcfg,y=dTc a:=by
 obtain⟨ys,rfl,k0⟩:=shp_struct Try.ty98 h
 obtain⟨y1,r1,rfl,h1,k1⟩:=qee k0
 obtain⟨y2,r2,rfl,h2,k2⟩:=qee k1
 obtain⟨y3,r3,rfl,h3,k3⟩:=qee k2
 obtain⟨y4,r4,rfl,h4,k4⟩:=qee k3
 obtain rfl:=qjT k4
 obtain⟨n,rfl⟩:=shp_int Try.ty3 h1
 obtain⟨a,rfl⟩:=shp_slice Try.ty61 Try.ty3 (fun y h=>shp_int Try.ty3 h) h2
 obtain⟨b,rfl⟩:=shp_bool Try.ty4 h3
 obtain⟨d,rfl⟩:=shp_slice Try.ty61 Try.ty3 (fun y h=>shp_int Try.ty3 h) h4
 exact⟨⟨n,a,b,d⟩,rfl⟩
theorem Try.shp_KPad {f:Nat}(y:D) (h:shp Try.tyT (f+2) 103 y) : ∃ a:Int×Bool,y=dQ a:=by
 obtain⟨ys,rfl,k0⟩:=shp_struct Try.ty103 h
 obtain⟨y1,r1,rfl,h1,k1⟩:=qee k0
 obtain⟨y2,r2,rfl,h2,k2⟩:=qee k1
 obtain rfl:=qjT k2
 obtain⟨n,rfl⟩:=shp_int Try.ty3 h1
 obtain⟨b,rfl⟩:=shp_bool Try.ty4 h2
 exact⟨(n,b),rfl⟩
theorem Try.shp_KTiles {f:Nat}(y:D) (h:shp Try.tyT (f+4) 22 y) : ∃ l:List Tcfg,y=dTcs l:=
 shp_slice Try.ty22 Try.ty98 Try.shp_KTile h
theorem Try.shp_KPads {f:Nat}(y:D) (h:shp Try.tyT (f+3) 23 y) : ∃ l:List (Int×Bool),y=dQs l:=
 shp_slice Try.ty23 Try.ty103 Try.shp_KPad h
theorem Try.shp_Config {f:Nat}(y:D) (h:shp Try.tyT (f+5) 25 y) : ∃ c:Kcfg,y=dK c:=by
 obtain⟨ys,rfl,k0⟩:=shp_struct Try.ty25 h
 obtain⟨y1,r1,rfl,h1,k1⟩:=qee k0
 obtain⟨y2,r2,rfl,h2,k2⟩:=qee k1
 obtain rfl:=qjT k2
 obtain⟨a,rfl⟩:=Try.shp_KTiles _ h1
 obtain⟨b,rfl⟩:=Try.shp_KPads _ h2
 exact⟨⟨a,b⟩,rfl⟩
theorem Try.shp_KFrame {f:Nat}(y:D) (h:shp Try.tyT (f+4) 100 y) : ∃ p:Int×Tcfg,y=dFp p:=by
 obtain⟨ys,rfl,k0⟩:=shp_struct Try.ty100 h
 obtain⟨y1,r1,rfl,h1,k1⟩:=qee k0
 obtain⟨y2,r2,rfl,h2,k2⟩:=qee k1
 obtain rfl:=qjT k2
 obtain⟨n,rfl⟩:=shp_int Try.ty3 h1
 obtain⟨a,rfl⟩:=Try.shp_KTile _ h2
 exact⟨(n,a),rfl⟩
theorem Try.shp_KFrames {f:Nat}(y:D) (h:shp Try.tyT (f+5) 47 y) : ∃ l:List (Int×Tcfg),y=dFrs l:=
 shp_slice Try.ty47 Try.ty100 Try.shp_KFrame h
theorem Try.shp_KDefect {f:Nat}(y:D) (h:shp Try.tyT (f+2) 95 y) : ∃ a:Int×Int,y=dP a:=by
 obtain⟨ys,rfl,k0⟩:=shp_struct Try.ty95 h
 obtain⟨y1,r1,rfl,h1,k1⟩:=qee k0
 obtain⟨y2,r2,rfl,h2,k2⟩:=qee k1
 obtain rfl:=qjT k2
 obtain⟨n,rfl⟩:=shp_int Try.ty3 h1
 obtain⟨m,rfl⟩:=shp_int Try.ty3 h2
 exact⟨(n,m),rfl⟩
theorem Try.shp_KDefects {f:Nat}(y:D) (h:shp Try.tyT (f+3) 39 y) : ∃ l:List (Int×Int),y=dPs l:=
 shp_slice Try.ty39 Try.ty95 Try.shp_KDefect h
end Go.Proofs
