/- Contracts: pairs of configurations that are drawn, frames that are drawn. Conditions: none; lemmas. -/
import Derived.Test.YtbnocdngcmimaaaC80
set_option maxRecDepth 20000
set_option linter.unusedVariables false
set_option linter.unusedSimpArgs false
namespace Go.Proofs
open Go Go.VL
theorem qba {a b c d e:Int}{n:Nat}:([D.int .i64 a,D.int .i64 b,D.int .i64 c,D.int .i64 d,D.int .i64 e]:List D).getD n (D.int .i64 0)=D.int .i64 (([a,b,c,d,e]:List Int).getD n 0):=by
 match n with
 | 0|1|2|3|4|_+5=>rfl
theorem l5_bd (n:Nat):0≤([0,1,1,0,2]:List Int).getD n 0∧([0,1,1,0,2]:List Int).getD n 0<3∧(([0,1,1,0,2]:List Int).getD n 0).toNat<3:=by
 match n with
 | 0|1|2|3|4=>decide
 | _+5=>exact⟨Int.le_refl 0,show(0:Int)<3 by decide,show(0:Nat)<3 by decide⟩
theorem exPad {ps:List (Int×Bool)}{x:I}{q3 e v:Int}{b:Bool}(hps:ps.length<3) (he:q3≤e∧e≤q3+10) (h0:0≤q3) (hq:q3≤5000+10*(ps.length:Int)) :
  ∃ s':List (Int×Bool)×Int,(s'.1.length≤3∧0≤s'.2∧s'.2≤5000+10*(s'.1.length:Int))∧3-s'.1.length<3-ps.length∧ps.length+1=s'.1.length∧[x,I.d (dI e)]=[x,I.d (dI s'.2)]∧ps.length+1=s'.1.length∧ps.map dQ ++ [D.agg [D.int .i64 v,D.bool b]]=s'.1.map dQ:=
 ⟨(ps ++ [(v,b)],e),⟨by simp;omega,by simp only;omega,by simp;omega⟩,by simp;omega,by simp,rfl,by simp,by simp⟩
theorem Try.cfg_at {b:List Int}(hb:Try.Bytes b) {p n:Int}(hp:0≤p∧p≤10000000) (hn:0≤n∧n≤1000) {T:List R}{K:I→List R→Prop}(hk : ∀ k q,p≤q∧q≤p+400→Ksh n k→K (.d (dK k)) (Try.rd b q::T)) :
  ICall Try.prog 88 [.ptr 0 0,.d (dI n)] (Try.rd b p::T) K:=by
 refine qaD (Try.c_l20Config b p n hb hp hn) [0] (by simp only[go_sem,seval]) ?_
 rintro r0 H1 ⟨k,q,hq,hl,rfl,rfl⟩
 have:=hk k q hq hl
 simp only[go_sem,seval]
 simpa using this
theorem Try.cfg_at1 {b:List Int}(hb:Try.Bytes b) {p n:Int}(hp:0≤p∧p≤10000000) (hn:0≤n∧n≤1000) {A0:R}{T:List R}{K:I→List R→Prop}(hk : ∀ k q,p≤q∧q≤p+400→Ksh n k→K (.d (dK k)) (A0::Try.rd b q::T)) :
  ICall Try.prog 88 [.ptr 1 0,.d (dI n)] (A0::Try.rd b p::T) K:=by
 refine qaD (Try.c_l20Config b p n hb hp hn) [1] (by simp only[go_sem,seval]) ?_
 rintro r0 H1 ⟨k,q,hq,hl,rfl,rfl⟩
 have:=hk k q hq hl
 simp only[go_sem,seval]
 simpa using this
theorem Try.pick_at1 {b:List Int}(hb:Try.Bytes b) {p n:Int}(hp:0≤p∧p≤1000000000) {A0:R}{T:List R}{K:I→List R→Prop}(hk : ∀ x,0≤x∧(x<n∨x=0)→K (.d (dI x)) (A0::Try.rd b (p+1)::T)) :
  ICall Try.prog 94 [.ptr 1 0,.d (dI n)] (A0::Try.rd b p::T) K:=by
 refine qaD (Try.c_pick b p n hb hp) [1] (by simp only[go_sem,seval]) ?_
 rintro r0 H1 ⟨x,hx,rfl,rfl⟩
 have:=hk x hx
 simp only[go_sem,seval]
 simpa using this
theorem Try.cfg_at2 {b:List Int}(hb:Try.Bytes b) {p n:Int}(hp:0≤p∧p≤10000000) (hn:0≤n∧n≤1000) {A0 A1:R}{T:List R}{K:I→List R→Prop}(hk : ∀ k q,p≤q∧q≤p+400→Ksh n k→K (.d (dK k)) (A0::A1::Try.rd b q::T)) :
  ICall Try.prog 88 [.ptr 2 0,.d (dI n)] (A0::A1::Try.rd b p::T) K:=by
 refine qaD (Try.c_l20Config b p n hb hp hn) [2] (by simp only[go_sem,seval]) ?_
 rintro r0 H1 ⟨k,q,hq,hl,rfl,rfl⟩
 have:=hk k q hq hl
 simp only[go_sem,seval]
 simpa using this
theorem Try.pick_at2 {b:List Int}(hb:Try.Bytes b) {p n:Int}(hp:0≤p∧p≤1000000000) {A0 A1:R}{T:List R}{K:I→List R→Prop}(hk : ∀ x,0≤x∧(x<n∨x=0)→K (.d (dI x)) (A0::A1::Try.rd b (p+1)::T)) :
  ICall Try.prog 94 [.ptr 2 0,.d (dI n)] (A0::A1::Try.rd b p::T) K:=by
 refine qaD (Try.c_pick b p n hb hp) [2] (by simp only[go_sem,seval]) ?_
 rintro r0 H1 ⟨x,hx,rfl,rfl⟩
 have:=hk x hx
 simp only[go_sem,seval]
 simpa using this
theorem Try.c_l20Frame (b:List Int) (p n:Int) (hb:Try.Bytes b) (hp:0≤p∧p≤1000000) (hn:0≤n∧n≤1000) :
  ICall Try.prog 86 [.ptr 0 0,.d (dI n)] [Try.rd b p] (fun r H'=>∃ (f:Int×Tcfg) (q:Int),(p≤q∧q≤p+410)∧(f.2.select.length=3∧f.2.drive.length≤8)∧r=.d (dFp f)∧H'=[Try.rd b q]):=by
 refine qbV (E:=Try.env 1) Try.tok rfl 1000 Try.func86 rfl rfl Try.ntmps86 (by simp) ?_
 simp only[go_sem,seval,Try.results86]
 refine Try.cfg_at (p:=p) (n:=0) hb (by omega) (by omega) fun k q hq hk=>?_
 simp only[go_sem,seval,Try.results86]
 repeat' first|assumption|(simp (disch:=first|assumption|omega|(simp;done)|(simp;omega)) only[qab,qad,List.take_of_length_le,qac,qaf,qag,qas,qba,qah,qai,qaa];try simp only[go_sem,seval,Try.results86])|(with_reducible refine And.intro ?_ ?_)|(with_reducible intro _)|(refine @Exists.intro I _ (I.d D.nil) ?_;simp only[go_sem,seval,Try.results86])|((with_reducible (show Region.lexB _ _=true));kernel_rfl)|((try rw[qae]);omega)
 refine Try.pick_at (p:=q) (n:=25) hb (by omega) fun i hi=>?_
 have hT:=hk.2.2.2 rfl
 have hti:=hT.get (i:=i.toNat) (by omega)
 have hl:=hT.1
 have gx : ∀ z,(k.tiles.map fun x=>dTc x).getD i.toNat z=dTc (k.tiles.getD i.toNat tc0):=fun z=>qah (by omega)
 generalize k.tiles.getD i.toNat tc0=t at *
 obtain⟨t1,t2,t3,t4⟩:=t
 simp only[go_sem,seval,Try.results86,gx]
 repeat' first|assumption|(simp (disch:=first|assumption|omega|(simp;done)|(simp;omega)) only[qab,qad,List.take_of_length_le,qac,qaf,qag,qas,qba,qah,qai,qaa];try simp only[go_sem,seval,Try.results86,gx])|(with_reducible refine And.intro ?_ ?_)|(with_reducible intro _)|(refine @Exists.intro I _ (I.d D.nil) ?_;simp only[go_sem,seval,Try.results86,gx])|((with_reducible (show Region.lexB _ _=true));kernel_rfl)|((try rw[qae]);omega)
 refine Try.odd_at (p:=q+1) hb (by omega) hn fun x2 q2 hq2 hx2=>?_
 simp only[go_sem,seval,Try.results86]
 repeat' first|assumption|(simp (disch:=first|assumption|omega|(simp;done)|(simp;omega)) only[qab,qad,List.take_of_length_le,qac,qaf,qag,qas,qba,qah,qai,qaa];try simp only[go_sem,seval,Try.results86])|(with_reducible refine And.intro ?_ ?_)|(with_reducible intro _)|(refine @Exists.intro I _ (I.d D.nil) ?_;simp only[go_sem,seval,Try.results86])|((with_reducible (show Region.lexB _ _=true));kernel_rfl)|((try rw[qae]);omega)
 ·refine Try.pick_at (p:=q2) (n:=3) hb (by omega) fun x3 hx3=>?_
  obtain rfl|rfl|rfl:x3=0∨x3=1∨x3=2:=by omega
  ·simp only[go_sem,seval,Try.results86]
   repeat' first|assumption|(simp (disch:=first|assumption|omega|(simp;done)|(simp;omega)) only[qab,qad,List.take_of_length_le,qac,qaf,qag,qas,qba,qah,qai,qaa];try simp only[go_sem,seval,Try.results86])|(with_reducible refine And.intro ?_ ?_)|(with_reducible intro _)|(refine @Exists.intro I _ (I.d D.nil) ?_;simp only[go_sem,seval,Try.results86])|((with_reducible (show Region.lexB _ _=true));kernel_rfl)|((try rw[qae]);omega)
   refine Try.pick_at (p:=q2+1) (n:=2) hb (by omega) fun x4 hx4=>?_
   simp only[go_sem,seval,Try.results86]
   repeat' first|assumption|(simp (disch:=first|assumption|omega|(simp;done)|(simp;omega)) only[qab,qad,List.take_of_length_le,qac,qaf,qag,qas,qba,qah,qai,qaa];try simp only[go_sem,seval,Try.results86])|(with_reducible refine And.intro ?_ ?_)|(with_reducible intro _)|(refine @Exists.intro I _ (I.d D.nil) ?_;simp only[go_sem,seval,Try.results86])|((with_reducible (show Region.lexB _ _=true));kernel_rfl)|((try rw[qae]);omega)
   refine qa9 (r0:=.d (dFp (([-1,25]:List Int).getD x4.toNat 0,⟨t1,t2,t3,t4⟩))) (H1:=[Try.rd b (q2+1+1)]) ?_ ⟨(_,⟨t1,t2,t3,t4⟩),_,by omega,⟨hti.1,by have:=hti.2;simp only at *;omega⟩,rfl,rfl⟩
   simp only[go_sem,seval]
  ·simp only[go_sem,seval,Try.results86]
   repeat' first|assumption|(simp (disch:=first|assumption|omega|(simp;done)|(simp;omega)) only[qab,qad,List.take_of_length_le,qac,qaf,qag,qas,qba,qah,qai,qaa];try simp only[go_sem,seval,Try.results86])|(with_reducible refine And.intro ?_ ?_)|(with_reducible intro _)|(refine @Exists.intro I _ (I.d D.nil) ?_;simp only[go_sem,seval,Try.results86])|((with_reducible (show Region.lexB _ _=true));kernel_rfl)|((try rw[qae]);omega)
   refine qa9 (r0:=.d (dFp (i,⟨256,t2,t3,t4⟩))) (H1:=[Try.rd b (q2+1)]) ?_ ⟨(_,⟨256,t2,t3,t4⟩),_,by omega,⟨hti.1,by have:=hti.2;simp only at *;omega⟩,rfl,rfl⟩
   simp only[go_sem,seval]
  ·simp only[go_sem,seval,Try.results86]
   repeat' first|assumption|(simp (disch:=first|assumption|omega|(simp;done)|(simp;omega)) only[qab,qad,List.take_of_length_le,qac,qaf,qag,qas,qba,qah,qai,qaa];try simp only[go_sem,seval,Try.results86])|(with_reducible refine And.intro ?_ ?_)|(with_reducible intro _)|(refine @Exists.intro I _ (I.d D.nil) ?_;simp only[go_sem,seval,Try.results86])|((with_reducible (show Region.lexB _ _=true));kernel_rfl)|((try rw[qae]);omega)
   ·have:=hti.2;simp only at this;omega
   ·refine qa9 (r0:=.d (dFp (i,⟨t1,t2,t3,t4.drop 1⟩))) (H1:=[Try.rd b (q2+1)]) ?_ ⟨(_,⟨t1,t2,t3,t4.drop 1⟩),_,by omega,⟨hti.1,by have:=hti.2;simp only[List.length_drop] at *;omega⟩,rfl,rfl⟩
    simp only[go_sem,seval]
 ·refine qa9 (r0:=.d (dFp (i,⟨t1,t2,t3,t4⟩))) (H1:=[Try.rd b q2]) ?_ ⟨(_,⟨t1,t2,t3,t4⟩),_,by omega,⟨hti.1,by have:=hti.2;simp only at *;omega⟩,rfl,rfl⟩
  simp only[go_sem,seval]
theorem Try.c_DrawDiffFrames (code:List Int):PureFE Try.prog 50 [dUs code] (fun x=>∃ a b:Kcfg,x=.tup [dK a,dK b]∧Ksh 12 a∧Ksh 12 b):=by
 refine qdb (E:=Try.env 0) Try.tok rfl 1000 Try.func50 rfl rfl Try.ntmps50 (by simp) fun ok=>?_
 simp only[go_sem,seval] at ok
 simp only[go_sem,seval,Try.results50]
 have hb:=Try.bytes_of ok.2 2000
 refine qez (Try.c_l20Open code) [] (by simp only[go_sem,seval]) ?_
 simp only[go_sem,seval,Try.results50]
 refine Try.cfg_at2 (p:=0) (n:=12) hb (by omega) (by omega) fun a q hq ha=>?_
 simp only[go_sem,seval,Try.results50]
 repeat' first|assumption|(simp (disch:=first|assumption|omega|(simp;done)|(simp;omega)) only[qab,qad,List.take_of_length_le,qac,qaf,qag,qas,qba,qah,qai,qaa];try simp only[go_sem,seval,Try.results50])|(with_reducible refine And.intro ?_ ?_)|(with_reducible intro _)|(refine @Exists.intro I _ (I.d D.nil) ?_;simp only[go_sem,seval,Try.results50])|((with_reducible (show Region.lexB _ _=true));kernel_rfl)|((try rw[qae]);omega)
 refine Try.pick_at2 hb (by omega) fun x hx=>?_
 simp only[go_sem,seval,Try.results50]
 repeat' first|assumption|(simp (disch:=first|assumption|omega|(simp;done)|(simp;omega)) only[qab,qad,List.take_of_length_le,qac,qaf,qag,qas,qba,qah,qai,qaa];try simp only[go_sem,seval,Try.results50])|(with_reducible refine And.intro ?_ ?_)|(with_reducible intro _)|(refine @Exists.intro I _ (I.d D.nil) ?_;simp only[go_sem,seval,Try.results50])|((with_reducible (show Region.lexB _ _=true));kernel_rfl)|((try rw[qae]);omega)
 ·refine qaz (E:=Try.env 0) Try.tok Try.follows 1000 1000 [2,3] (.fst 0 (.two 1 (.one 2 (.one 3 (.done))) 2 (.one 1 (.one 3 (.done))))) (by kernel_rfl) ?_
  simp only[go_sem,seval,Try.results50]
  repeat' first|assumption|(simp (disch:=first|assumption|omega|(simp;done)|(simp;omega)) only[qab,qad,List.take_of_length_le,qac,qaf,qag,qas,qba,qah,qai,qaa];try simp only[go_sem,seval,Try.results50])|(with_reducible refine And.intro ?_ ?_)|(with_reducible intro _)|(refine @Exists.intro I _ (I.d D.nil) ?_;simp only[go_sem,seval,Try.results50])|((with_reducible (show Region.lexB _ _=true));kernel_rfl)|((try rw[qae]);omega)
  exact⟨_,of_eq_true qfq,_,_,rfl,ha,ha⟩
 ·refine qaz (E:=Try.env 0) Try.tok Try.follows 1000 1000 [2,3,4] (.fst 1 (.two 0 (.one 2 (.one 3 (.one 4 (.done)))) 2 (.one 0 (.one 3 (.one 4 (.done)))))) (by kernel_rfl) ?_
  simp only[go_sem,seval,Try.results50]
  repeat' first|assumption|(simp (disch:=first|assumption|omega|(simp;done)|(simp;omega)) only[qab,qad,List.take_of_length_le,qac,qaf,qag,qas,qba,qah,qai,qaa];try simp only[go_sem,seval,Try.results50])|(with_reducible refine And.intro ?_ ?_)|(with_reducible intro _)|(refine @Exists.intro I _ (I.d D.nil) ?_;simp only[go_sem,seval,Try.results50])|((with_reducible (show Region.lexB _ _=true));kernel_rfl)|((try rw[qae]);omega)
  all_goals (
   refine Try.cfg_at2 (p:=q+1) (n:=12) hb (by omega) (by omega) fun b q2 hq2 hb2=>?_
   simp only[go_sem,seval,Try.results50]
   repeat' first|assumption|(simp (disch:=first|assumption|omega|(simp;done)|(simp;omega)) only[qab,qad,List.take_of_length_le,qac,qaf,qag,qas,qba,qah,qai,qaa];try simp only[go_sem,seval,Try.results50])|(with_reducible refine And.intro ?_ ?_)|(with_reducible intro _)|(refine @Exists.intro I _ (I.d D.nil) ?_;simp only[go_sem,seval,Try.results50])|((with_reducible (show Region.lexB _ _=true));kernel_rfl)|((try rw[qae]);omega)
   exact⟨_,of_eq_true qfq,_,_,rfl,ha,hb2⟩)
theorem Try.c_DrawSwitchConfig (code:List Int):PureFE Try.prog 59 [dUs code] (fun x=>∃ a b:Kcfg,x=.tup [dK a,dK b]∧Ksh 12 a∧Ksh 12 b):=by
 refine qdb (E:=Try.env 0) Try.tok rfl 1000 Try.func59 rfl rfl Try.ntmps59 (by simp) fun ok=>?_
 simp only[go_sem,seval] at ok
 simp only[go_sem,seval,Try.results59]
 refine qcx (Try.c_DrawDiffFrames code) ?_
 rintro x ⟨a,b,rfl,ha,hb⟩
 simp only[go_sem,seval,Try.results59]
 repeat' first|assumption|(simp (disch:=first|assumption|omega|(simp;done)|(simp;omega)) only[qab,qad,List.take_of_length_le,qac,qaf,qag,qas,qba,qah,qai,qaa];try simp only[go_sem,seval,Try.results59])|(with_reducible refine And.intro ?_ ?_)|(with_reducible intro _)|(refine @Exists.intro I _ (I.d D.nil) ?_;simp only[go_sem,seval,Try.results59])|((with_reducible (show Region.lexB _ _=true));kernel_rfl)|((try rw[qae]);omega)
 exact⟨_,of_eq_true qfq,_,_,rfl,ha,hb⟩
theorem Try.c_DrawEncodeConfig (code:List Int):PureFE Try.prog 45 [dUs code] (fun x=>∃ a:Kcfg,x=dK a∧Ksh 9 a):=by
 refine qdb (E:=Try.env 0) Try.tok rfl 1000 Try.func45 rfl rfl Try.ntmps45 (by simp) fun ok=>?_
 simp only[go_sem,seval] at ok
 simp only[go_sem,seval,Try.results45]
 have hb:=Try.bytes_of ok.2 2000
 refine qez (Try.c_l20Open code) [] (by simp only[go_sem,seval]) ?_
 simp only[go_sem,seval,Try.results45]
 refine Try.cfg_at1 (p:=0) (n:=9) hb (by omega) (by omega) fun a q hq ha=>?_
 simp only[go_sem,seval,Try.results45]
 repeat' first|assumption|(simp (disch:=first|assumption|omega|(simp;done)|(simp;omega)) only[qab,qad,List.take_of_length_le,qac,qaf,qag,qas,qba,qah,qai,qaa];try simp only[go_sem,seval,Try.results45])|(with_reducible refine And.intro ?_ ?_)|(with_reducible intro _)|(refine @Exists.intro I _ (I.d D.nil) ?_;simp only[go_sem,seval,Try.results45])|((with_reducible (show Region.lexB _ _=true));kernel_rfl)|((try rw[qae]);omega)
 exact⟨_,of_eq_true qfq,_,rfl,ha⟩
theorem Try.c_DrawFrameValid (code:List Int):PureFE Try.prog 44 [dUs code] (fun x=>∃ f:Int×Tcfg,x=dFp f∧f.2.select.length=3∧f.2.drive.length≤8):=by
 refine qdb (E:=Try.env 0) Try.tok rfl 1000 Try.func44 rfl rfl Try.ntmps44 (by simp) fun ok=>?_
 simp only[go_sem,seval] at ok
 simp only[go_sem,seval,Try.results44]
 have hb:=Try.bytes_of ok.2 2000
 refine qez (Try.c_l20Open code) [] (by simp only[go_sem,seval]) ?_
 simp only[go_sem,seval,Try.results44]
 refine qaD (Try.c_l20Frame _ 0 2 hb (by omega) (by omega)) [1] (by simp only[go_sem,seval]) ?_
 rintro r0 H1 ⟨fr,q,hq,hf,rfl,rfl⟩
 simp only[go_sem,seval,Try.results44]
 repeat' first|assumption|(simp (disch:=first|assumption|omega|(simp;done)|(simp;omega)) only[qab,qad,List.take_of_length_le,qac,qaf,qag,qas,qba,qah,qai,qaa];try simp only[go_sem,seval,Try.results44])|(with_reducible refine And.intro ?_ ?_)|(with_reducible intro _)|(refine @Exists.intro I _ (I.d D.nil) ?_;simp only[go_sem,seval,Try.results44])|((with_reducible (show Region.lexB _ _=true));kernel_rfl)|((try rw[qae]);omega)
 exact⟨_,of_eq_true qfq,fr,rfl,hf⟩
theorem Try.c_DrawBreak (code:List Int):PureFE Try.prog 52 [dUs code] (fun x=>∃ (a:Kcfg) (l:List (Int×Int)),x=.tup [dK a,dPs l]∧Ksh 12 a∧l.length≤14):=by
 refine qdb (E:=Try.env 0) Try.tok rfl 1000 Try.func52 rfl rfl Try.ntmps52 (by simp) fun ok=>?_
 simp only[go_sem,seval] at ok
 simp only[go_sem,seval,Try.results52]
 have hb:=Try.bytes_of ok.2 2000
 refine qez (Try.c_l20Open code) [] (by simp only[go_sem,seval]) ?_
 simp only[go_sem,seval,Try.results52]
 refine Try.cfg_at1 (p:=0) (n:=12) hb (by omega) (by omega) fun a q hq ha=>?_
 simp only[go_sem,seval,Try.results52]
 repeat' first|assumption|(simp (disch:=first|assumption|omega|(simp;done)|(simp;omega)) only[qab,qad,List.take_of_length_le,qac,qaf,qag,qas,qba,qah,qai,qaa];try simp only[go_sem,seval,Try.results52])|(with_reducible refine And.intro ?_ ?_)|(with_reducible intro _)|(refine @Exists.intro I _ (I.d D.nil) ?_;simp only[go_sem,seval,Try.results52])|((with_reducible (show Region.lexB _ _=true));kernel_rfl)|((try rw[qae]);omega)
 refine qaD (Try.c_l20Defects _ q 12 hb (by omega) (by omega)) [1] (by simp only[go_sem,seval]) ?_
 rintro r0 H1 ⟨l,q2,hq2,hl,rfl,rfl⟩
 simp only[go_sem,seval,Try.results52]
 repeat' first|assumption|(simp (disch:=first|assumption|omega|(simp;done)|(simp;omega)) only[qab,qad,List.take_of_length_le,qac,qaf,qag,qas,qba,qah,qai,qaa];try simp only[go_sem,seval,Try.results52])|(with_reducible refine And.intro ?_ ?_)|(with_reducible intro _)|(refine @Exists.intro I _ (I.d D.nil) ?_;simp only[go_sem,seval,Try.results52])|((with_reducible (show Region.lexB _ _=true));kernel_rfl)|((try rw[qae]);omega)
 exact⟨_,of_eq_true qfq,_,_,rfl,ha,hl⟩
set_option maxHeartbeats 8000000 in
theorem Try.c_DrawApplyFrames (code:List Int):PureFE Try.prog 55 [dUs code] (fun x=>∃ (a:Kcfg) (l:List (Int×Tcfg)) (ps:List (Int×Bool)),x=.tup [dK a,dFrs l,dQs ps]∧Ksh 12 a∧l.length≤3∧ps.length≤3):=by
 refine qdb (E:=Try.env 0) Try.tok rfl 1000 Try.func55 rfl rfl Try.ntmps55 (by simp) fun ok=>?_
 simp only[go_sem,seval] at ok
 simp only[go_sem,seval,Try.results55]
 have hb:=Try.bytes_of ok.2 2000
 refine qez (Try.c_l20Open code) [] (by simp only[go_sem,seval]) ?_
 simp only[go_sem,seval,Try.results55]
 refine Try.cfg_at1 (p:=0) (n:=12) hb (by omega) (by omega) fun a q hq ha=>?_
 simp only[go_sem,seval,Try.results55]
 repeat' first|assumption|(simp (disch:=first|assumption|omega|(simp;done)|(simp;omega)) only[qab,qad,List.take_of_length_le,qac,qaf,qag,qas,qba,qah,qai,qaa];try simp only[go_sem,seval,Try.results55])|(with_reducible refine And.intro ?_ ?_)|(with_reducible intro _)|(refine @Exists.intro I _ (I.d D.nil) ?_;simp only[go_sem,seval,Try.results55])|((with_reducible (show Region.lexB _ _=true));kernel_rfl)|((try rw[qae]);omega)
 refine Try.pick_at1 (p:=q) (n:=4) hb (by omega) fun x hx=>?_
 simp only[go_sem,seval,Try.results55]
 repeat' first|assumption|(simp (disch:=first|assumption|omega|(simp;done)|(simp;omega)) only[qab,qad,List.take_of_length_le,qac,qaf,qag,qas,qba,qah,qai,qaa];try simp only[go_sem,seval,Try.results55])|(with_reducible refine And.intro ?_ ?_)|(with_reducible intro _)|(refine @Exists.intro I _ (I.d D.nil) ?_;simp only[go_sem,seval,Try.results55])|((with_reducible (show Region.lexB _ _=true));kernel_rfl)|((try rw[qae]);omega)
 refine qaB (E:=Try.env 0) Try.tok (σ:=List (Int×Tcfg)×Int×Int) (fun s=>[(2,.ptr 0 0),(3,.d .nil),(4,.d .nil),(5,.ptr 1 0),(6,.ptr 2 0),(7,.sl 3 s.1.length 5 0 s.1.length),(8,.d (dI s.2.1))])
  (fun s=>[.box [.d .nil,.d .nil],Try.rd (code.take 2000) s.2.2,.box [.d (dTcs a.tiles),.d (dQs a.pads)],.row s.1.length 5 false (s.1.map fun x=>dFp x)])
  (fun s=>(s.1.length≤3-s.2.1∧s.2.1≤3)∧(0≤s.2.1∧0≤s.2.2∧s.2.2≤410+410*(s.1.length:Int))) (fun s=>s.2.1.toNat) [] 1000 1000 ?_ ?_ ?_
 ·simp only[go_sem,seval]
 ·simp only[go_sem,seval]
  exact⟨([],x,q+1),⟨⟨by simp only[List.length_nil];omega,by simp only;omega⟩,by simp only;omega,by simp only;omega,by simp only[List.length_nil];omega⟩,⟨rfl,rfl⟩,rfl,rfl,rfl⟩
 ·rintro⟨l,j,p⟩ ⟨⟨hl,hj⟩,hj0,hp0,hp⟩
  simp only at hl hj hj0 hp0 hp
  simp only[go_sem,seval,Try.results55]
  repeat' first|assumption|(simp (disch:=first|assumption|omega|(simp;done)|(simp;omega)) only[qab,qad,List.take_of_length_le,qac,qaf,qag,qas,qba,qah,qai,qaa];try simp only[go_sem,seval,Try.results55])|(with_reducible refine And.intro ?_ ?_)|(with_reducible intro _)|(refine @Exists.intro I _ (I.d D.nil) ?_;simp only[go_sem,seval,Try.results55])|((with_reducible (show Region.lexB _ _=true));kernel_rfl)|((try rw[qae]);omega)
  ·refine qaD (Try.c_l20Frame _ p 12 hb (by omega) (by omega)) [1] (by simp only[go_sem,seval]) ?_
   rintro r0 H1 ⟨fr,q2,hq2,hf,rfl,rfl⟩
   simp only[go_sem,seval,Try.results55]
   repeat' first|assumption|(simp (disch:=first|assumption|omega|(simp;done)|(simp;omega)) only[qab,qad,List.take_of_length_le,qac,qaf,qag,qas,qba,qah,qai,qaa];try simp only[go_sem,seval,Try.results55])|(with_reducible refine And.intro ?_ ?_)|(with_reducible intro _)|(refine @Exists.intro I _ (I.d D.nil) ?_;simp only[go_sem,seval,Try.results55])|((with_reducible (show Region.lexB _ _=true));kernel_rfl)|((try rw[qae]);omega)
   exact⟨(l ++ [fr],j-1,q2),⟨⟨by simp;omega,by simp only;omega⟩,by simp only;omega,by simp only;omega,by simp;omega⟩,by simp only;omega,⟨by simp,rfl⟩,rfl,by simp,by simp⟩
  ·have hj00:j=0:=by omega
   refine qaB (E:=Try.env 0) Try.tok (σ:=List (Int×Bool)×Int) (fun s=>[(2,.ptr 0 0),(3,.d .nil),(4,.d .nil),(5,.ptr 1 0),(6,.ptr 2 0),(7,.sl 3 l.length 5 0 l.length),(9,.sl 4 s.1.length 2 0 s.1.length),(10,.d (dI s.1.length))])
    (fun s=>[.box [.d .nil,.d .nil],Try.rd (code.take 2000) s.2,.box [.d (dTcs a.tiles),.d (dQs a.pads)],.row l.length 5 false (l.map fun x=>dFp x),.row s.1.length 2 true (s.1.map fun x=>dQ x)])
    (fun s=>s.1.length≤3∧0≤s.2∧s.2≤5000+10*(s.1.length:Int)) (fun s=>3-s.1.length) [] 1000 1000 ?_ ?_ ?_
   ·simp only[go_sem,seval]
   ·simp only[go_sem,seval]
    exact⟨([],p),⟨by simp,hp0,by simp only[List.length_nil];omega⟩,⟨rfl,rfl⟩,rfl,rfl,rfl⟩
   ·rintro⟨ps,q3⟩ ⟨hps,hq30,hq3⟩
    simp only at hps hq30 hq3
    simp only[go_sem,seval,Try.results55]
    repeat' first|assumption|(simp (disch:=first|assumption|omega|(simp;done)|(simp;omega)) only[qab,qad,List.take_of_length_le,qac,qaf,qag,qas,qba,qah,qai,qaa];try simp only[go_sem,seval,Try.results55])|(with_reducible refine And.intro ?_ ?_)|(with_reducible intro _)|(refine @Exists.intro I _ (I.d D.nil) ?_;simp only[go_sem,seval,Try.results55])|((with_reducible (show Region.lexB _ _=true));kernel_rfl)|((try rw[qae]);omega)
    refine Try.pick_at1 (p:=q3) (n:=9) hb (by omega) fun x hx=>?_
    simp only[go_sem,seval,Try.results55]
    repeat' first|assumption|(simp (disch:=first|assumption|omega|(simp;done)|(simp;omega)) only[qab,qad,List.take_of_length_le,qac,qaf,qag,qas,qba,qah,qai,qaa];try simp only[go_sem,seval,Try.results55])|(with_reducible refine And.intro ?_ ?_)|(with_reducible intro _)|(refine @Exists.intro I _ (I.d D.nil) ?_;simp only[go_sem,seval,Try.results55])|((with_reducible (show Region.lexB _ _=true));kernel_rfl)|((try rw[qae]);omega)
    ·refine qaz (E:=Try.env 0) Try.tok Try.follows 1000 1000 [2,4,8,14,18] (.fst 0 (.fst 1 (.fst 3 (.fst 7 (.fst 13 (.two 2 (.two 4 (.three 5 (.two 6 (.one 8 (.fst 9 (.two 10 (.fst 11 (.two 12 (.one 14 (.fst 15 (.fst 16 (.one 17 (.one 18 (.fst 19 (.done))))))) 14 (.fst 15 (.one 12 (.fst 16 (.one 17 (.one 18 (.fst 19 (.done))))))))) 14 (.fst 15 (.one 10 (.fst 11 (.one 12 (.fst 16 (.one 17 (.one 18 (.fst 19 (.done)))))))))))) 8 (.two 6 (.fst 9 (.two 10 (.fst 11 (.two 12 (.one 14 (.fst 15 (.fst 16 (.one 17 (.one 18 (.fst 19 (.done))))))) 14 (.fst 15 (.one 12 (.fst 16 (.one 17 (.one 18 (.fst 19 (.done))))))))) 14 (.fst 15 (.one 10 (.fst 11 (.one 12 (.fst 16 (.one 17 (.one 18 (.fst 19 (.done))))))))))) 14 (.fst 15 (.one 6 (.fst 9 (.one 10 (.fst 11 (.one 12 (.fst 16 (.one 17 (.one 18 (.fst 19 (.done))))))))))))) 6 (.two 5 (.one 8 (.fst 9 (.two 10 (.fst 11 (.two 12 (.one 14 (.fst 15 (.fst 16 (.one 17 (.one 18 (.fst 19 (.done))))))) 14 (.fst 15 (.one 12 (.fst 16 (.one 17 (.one 18 (.fst 19 (.done))))))))) 14 (.fst 15 (.one 10 (.fst 11 (.one 12 (.fst 16 (.one 17 (.one 18 (.fst 19 (.done)))))))))))) 8 (.fst 9 (.three 5 (.two 10 (.fst 11 (.two 12 (.one 14 (.fst 15 (.fst 16 (.one 17 (.one 18 (.fst 19 (.done))))))) 14 (.fst 15 (.one 12 (.fst 16 (.one 17 (.one 18 (.fst 19 (.done))))))))) 14 (.fst 15 (.one 10 (.fst 11 (.one 12 (.fst 16 (.one 17 (.one 18 (.fst 19 (.done)))))))))) 10 (.two 5 (.fst 11 (.two 12 (.one 14 (.fst 15 (.fst 16 (.one 17 (.one 18 (.fst 19 (.done))))))) 14 (.fst 15 (.one 12 (.fst 16 (.one 17 (.one 18 (.fst 19 (.done))))))))) 14 (.fst 15 (.one 5 (.fst 11 (.one 12 (.fst 16 (.one 17 (.one 18 (.fst 19 (.done)))))))))) 14 (.fst 15 (.two 5 (.one 10 (.fst 11 (.one 12 (.fst 16 (.one 17 (.one 18 (.fst 19 (.done)))))))) 10 (.one 5 (.fst 11 (.one 12 (.fst 16 (.one 17 (.one 18 (.fst 19 (.done))))))))))))) 8 (.three 5 (.two 6 (.fst 9 (.two 10 (.fst 11 (.two 12 (.one 14 (.fst 15 (.fst 16 (.one 17 (.one 18 (.fst 19 (.done))))))) 14 (.fst 15 (.one 12 (.fst 16 (.one 17 (.one 18 (.fst 19 (.done))))))))) 14 (.fst 15 (.one 10 (.fst 11 (.one 12 (.fst 16 (.one 17 (.one 18 (.fst 19 (.done))))))))))) 14 (.fst 15 (.one 6 (.fst 9 (.one 10 (.fst 11 (.one 12 (.fst 16 (.one 17 (.one 18 (.fst 19 (.done)))))))))))) 6 (.fst 9 (.three 5 (.two 10 (.fst 11 (.two 12 (.one 14 (.fst 15 (.fst 16 (.one 17 (.one 18 (.fst 19 (.done))))))) 14 (.fst 15 (.one 12 (.fst 16 (.one 17 (.one 18 (.fst 19 (.done))))))))) 14 (.fst 15 (.one 10 (.fst 11 (.one 12 (.fst 16 (.one 17 (.one 18 (.fst 19 (.done)))))))))) 10 (.two 5 (.fst 11 (.two 12 (.one 14 (.fst 15 (.fst 16 (.one 17 (.one 18 (.fst 19 (.done))))))) 14 (.fst 15 (.one 12 (.fst 16 (.one 17 (.one 18 (.fst 19 (.done))))))))) 14 (.fst 15 (.one 5 (.fst 11 (.one 12 (.fst 16 (.one 17 (.one 18 (.fst 19 (.done)))))))))) 14 (.fst 15 (.two 5 (.one 10 (.fst 11 (.one 12 (.fst 16 (.one 17 (.one 18 (.fst 19 (.done)))))))) 10 (.one 5 (.fst 11 (.one 12 (.fst 16 (.one 17 (.one 18 (.fst 19 (.done)))))))))))) 14 (.fst 15 (.two 5 (.one 6 (.fst 9 (.one 10 (.fst 11 (.one 12 (.fst 16 (.one 17 (.one 18 (.fst 19 (.done)))))))))) 6 (.fst 9 (.two 5 (.one 10 (.fst 11 (.one 12 (.fst 16 (.one 17 (.one 18 (.fst 19 (.done)))))))) 10 (.one 5 (.fst 11 (.one 12 (.fst 16 (.one 17 (.one 18 (.fst 19 (.done)))))))))))))) 6 (.one 4 (.two 5 (.one 8 (.fst 9 (.two 10 (.fst 11 (.two 12 (.one 14 (.fst 15 (.fst 16 (.one 17 (.one 18 (.fst 19 (.done))))))) 14 (.fst 15 (.one 12 (.fst 16 (.one 17 (.one 18 (.fst 19 (.done))))))))) 14 (.fst 15 (.one 10 (.fst 11 (.one 12 (.fst 16 (.one 17 (.one 18 (.fst 19 (.done)))))))))))) 8 (.fst 9 (.three 5 (.two 10 (.fst 11 (.two 12 (.one 14 (.fst 15 (.fst 16 (.one 17 (.one 18 (.fst 19 (.done))))))) 14 (.fst 15 (.one 12 (.fst 16 (.one 17 (.one 18 (.fst 19 (.done))))))))) 14 (.fst 15 (.one 10 (.fst 11 (.one 12 (.fst 16 (.one 17 (.one 18 (.fst 19 (.done)))))))))) 10 (.two 5 (.fst 11 (.two 12 (.one 14 (.fst 15 (.fst 16 (.one 17 (.one 18 (.fst 19 (.done))))))) 14 (.fst 15 (.one 12 (.fst 16 (.one 17 (.one 18 (.fst 19 (.done))))))))) 14 (.fst 15 (.one 5 (.fst 11 (.one 12 (.fst 16 (.one 17 (.one 18 (.fst 19 (.done)))))))))) 14 (.fst 15 (.two 5 (.one 10 (.fst 11 (.one 12 (.fst 16 (.one 17 (.one 18 (.fst 19 (.done)))))))) 10 (.one 5 (.fst 11 (.one 12 (.fst 16 (.one 17 (.one 18 (.fst 19 (.done))))))))))))))) 6 (.one 2 (.one 4 (.two 5 (.one 8 (.fst 9 (.two 10 (.fst 11 (.two 12 (.one 14 (.fst 15 (.fst 16 (.one 17 (.one 18 (.fst 19 (.done))))))) 14 (.fst 15 (.one 12 (.fst 16 (.one 17 (.one 18 (.fst 19 (.done))))))))) 14 (.fst 15 (.one 10 (.fst 11 (.one 12 (.fst 16 (.one 17 (.one 18 (.fst 19 (.done)))))))))))) 8 (.fst 9 (.three 5 (.two 10 (.fst 11 (.two 12 (.one 14 (.fst 15 (.fst 16 (.one 17 (.one 18 (.fst 19 (.done))))))) 14 (.fst 15 (.one 12 (.fst 16 (.one 17 (.one 18 (.fst 19 (.done))))))))) 14 (.fst 15 (.one 10 (.fst 11 (.one 12 (.fst 16 (.one 17 (.one 18 (.fst 19 (.done)))))))))) 10 (.two 5 (.fst 11 (.two 12 (.one 14 (.fst 15 (.fst 16 (.one 17 (.one 18 (.fst 19 (.done))))))) 14 (.fst 15 (.one 12 (.fst 16 (.one 17 (.one 18 (.fst 19 (.done))))))))) 14 (.fst 15 (.one 5 (.fst 11 (.one 12 (.fst 16 (.one 17 (.one 18 (.fst 19 (.done)))))))))) 14 (.fst 15 (.two 5 (.one 10 (.fst 11 (.one 12 (.fst 16 (.one 17 (.one 18 (.fst 19 (.done)))))))) 10 (.one 5 (.fst 11 (.one 12 (.fst 16 (.one 17 (.one 18 (.fst 19 (.done))))))))))))))))))))) (by kernel_rfl) ?_
     simp only[go_sem,seval,Try.results55]
     repeat' first|assumption|(simp (disch:=first|assumption|omega|(simp;done)|(simp;omega)) only[qab,qad,List.take_of_length_le,qac,qaf,qag,qas,qba,qah,qai,qaa];try simp only[go_sem,seval,Try.results55])|(with_reducible refine And.intro ?_ ?_)|(with_reducible intro _)|(refine Try.pick_at1 hb (by omega) ?_;simp only[go_sem,seval,Try.results55])|(refine @Exists.intro I _ (I.d D.nil) ?_;simp only[go_sem,seval,Try.results55])|((with_reducible (show Region.lexB _ _=true));kernel_rfl)|((try rw[qae]);omega)
     all_goals first|exact(l5_bd _).1|exact(l5_bd _).2.1|exact(l5_bd _).2.2|(refine exPad (q3:=q3) ?_ ?_ hq30 hq3 <;> omega)
    ·exact⟨_,of_eq_true qfq,_,_,_,rfl,ha,by omega,hps⟩
end Go.Proofs
