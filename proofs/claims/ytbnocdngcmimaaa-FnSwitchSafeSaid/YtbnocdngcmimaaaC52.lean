/- Contracts: frames that are applied. Conditions: none; lemmas. -/
import Derived.Test.YtbnocdngcmimaaaC51
set_option maxRecDepth 20000
set_option linter.unusedVariables false
set_option linter.unusedSimpArgs false
namespace Go.Proofs
open Go Go.VL
def frOk (p:Int×Tcfg):Bool:=(decide (0≤p.1)&&decide (p.1≤24))&&p.2.ok p.1
theorem qcl {p:Int×Tcfg}:frOk p=true↔(0≤p.1∧p.1≤24)∧p.2.ok p.1=true:=by simp[frOk]
def qnZ (l:List (Int×Tcfg)):Prop:=∀ j,j<l.length→frOk (l.getD j (0,tc0))=true
noncomputable instance (l:List (Int×Tcfg)):Decidable (qnZ l):=Classical.propDecidable _
def qax (l:List Tcfg) (fs:List (Int×Tcfg)):List Tcfg:=fs.foldl (fun l f=>l.set f.1.toNat f.2) l
theorem qaI (fs:List (Int×Tcfg)) : ∀ (l:List Tcfg),(qax l fs).length=l.length:=by
 induction fs with
 | nil=>exact fun l=>rfl
 | cons d r ih=>
  intro l
  show(qax (l.set d.1.toNat d.2) r).length=_
  rw[ih,List.length_set]
theorem qcL (l:List Tcfg) (fs:List (Int×Tcfg)) {i:Nat}(h:i<fs.length) :
  qax l (fs.take (i+1))=(qax l (fs.take i)).set (fs.getD i (0,tc0)).1.toNat (fs.getD i (0,tc0)).2:=by
 rw[List.take_succ_eq_append_getElem h,qax,List.foldl_append]
 simp[List.getD,h,qax]
theorem tok_set {l:List Tcfg}(h : ∀ j,j<l.length→(l.getD j tc0).ok (j:Int)=true) {p:Int×Tcfg}(hp:frOk p=true) : ∀ j,j<(l.set p.1.toNat p.2).length→((l.set p.1.toNat p.2).getD j tc0).ok (j:Int)=true:=by
 intro j hj
 have hj2:j<l.length:=by simpa using hj
 obtain⟨h1,h2⟩:=qcl.1 hp
 by_cases e:p.1.toNat=j
 ·subst e
  rw[qaa hj2,show((p.1.toNat:Nat):Int)=p.1 by omega]
  exact h2
 ·rw[qch e];exact h j hj2
theorem qhY : ∀ (fs:List (Int×Tcfg)) {l:List Tcfg},(∀ j,j<l.length→(l.getD j tc0).ok (j:Int)=true)→(∀ p∈fs,frOk p=true)→∀ j,j<(qax l fs).length→((qax l fs).getD j tc0).ok (j:Int)=true
 | [],l,h,_=>h
 | p::r,l,h,hp=>qhY r (l:=l.set p.1.toNat p.2) (tok_set h (hp p (by simp))) fun q hq=>hp q (by simp[hq])
theorem qke {l:List (Int×Tcfg)}(h:qnZ l) : ∀ p∈l,frOk p=true:=by
 intro p hp
 obtain⟨i,hi,rfl⟩:=qb6 (0,tc0) hp
 exact h i hi
theorem qgf {p:Int×Tcfg}(h:frOk p=true):p.2.select.length=3∧p.2.drive.length=8:=by
 have:=Tcfg.ok_iff.1 (qcl.1 h).2
 exact⟨this.2.1,this.2.2.1⟩
def qeE (c:Kcfg) (fs:List (Int×Tcfg)) (ps:List (Int×Bool)):Prop:=c.ok∧qgG ps∧qnZ fs
noncomputable instance (c:Kcfg) (fs:List (Int×Tcfg)) (ps:List (Int×Bool)):Decidable (qeE c fs ps):=Classical.propDecidable _
noncomputable def qeF (c:Kcfg) (fs:List (Int×Tcfg)) (ps:List (Int×Bool)):Kcfg:=if qeE c fs ps then⟨qax c.tiles fs,ps⟩ else⟨[],[]⟩
theorem qkf {c:Kcfg}{fs:List (Int×Tcfg)}{ps:List (Int×Bool)}(h:qeE c fs ps):(⟨qax c.tiles fs,ps⟩:Kcfg).ok:=
 ⟨by show(qax c.tiles fs).length=25;rw[qaI];exact h.1.1,h.2.1,qhY fs h.1.2.2 (qke h.2.2)⟩
theorem Try.c_ApplyFrames (c:Kcfg) (fs:List (Int×Tcfg)) (ps:List (Int×Bool)):Pure Try.prog 36 [dK c,dFrs fs,dQs ps] (dK (qeF c fs ps)):=by
 have hc:=Try.c_ConfigValid c
 have hp:=Try.c_padsValid ps
 unfold qeF
 by_cases h:c.ok∧qgG ps
 ·rw[decide_eq_true h.1] at hc
  rw[decide_eq_true h.2] at hp
  have hlp:ps.length=3:=h.2.1
  have hq:=Try.c_CloneQ ps (by omega)
  refine qap (E:=Try.env 0) Try.tok rfl 1000 Try.func36 rfl rfl Try.ntmps36 (by simp) fun ok=>?_
  simp only[go_sem,seval] at ok
  simp only[go_sem,seval,Try.results36]
  repeat' first|assumption|(simp (disch:=first|assumption|omega|(simp;done)|(simp;omega)) only[qab,qad,List.take_of_length_le,qac,qah,qai,qak,qaa];try simp only[go_sem,seval,Try.results36])|(with_reducible refine And.intro ?_ ?_)|(with_reducible intro _)|(refine qaj hc ?_;simp only[go_sem,seval,Try.results36])|(refine qaC (fun _=>hp) ?_;simp only[go_sem,seval,Try.results36])|(refine qaM (Try.c_copyConfig c (Kcfg.ok_small h.1)) ?_;simp only[go_sem,seval,Try.results36])|(refine @Exists.intro I _ (I.d D.nil) ?_;simp only[go_sem,seval,Try.results36])|((with_reducible (show Region.lexB _ _=true));kernel_rfl)|((try rw[qae]);omega)
  refine qaw (E:=Try.env 0) Try.tok (σ:=Nat) (fun i=>[(2,.d (dQs ps)),(6,.ptr 1 0),(7,.ptr 4 0),(21,.d (dFrs fs)),(22,.d (dI fs.length)),(23,.d (dI i))])
   (fun i=>[.dead 0,.box [.d .nil,.d .nil],.row 0 4 true ((qax c.tiles (fs.take i)).map fun x=>dTc x),.row 0 2 true (c.pads.map fun x=>dQ x),.box [.sl 2 0 4 0 c.tiles.length,.sl 3 0 2 0 c.pads.length]])
   (fun i=>i≤fs.length∧∀ j,j<i→frOk (fs.getD j (0,tc0))=true) (fun i=>fs.length-i) [] [] 1000 1000 ?_ ?_
  ·simp only[go_sem,seval]
   exact⟨0,⟨by omega,fun j hj=>absurd hj (by omega)⟩,rfl,rfl⟩
  ·rintro i ⟨hi,hinv⟩
   have hl0:c.tiles.length=25:=h.1.1
   have hbl:=qaI (fs.take i) c.tiles
   by_cases hlt:i<fs.length
   ·have hsn:=qcL c.tiles fs hlt
    have hfr:Pure Try.prog 46 [dFp (fs.getD i (0,tc0))] (.bool (frOk (fs.getD i (0,tc0)))):=Try.c_FrameValid _ _
    by_cases hok:frOk (fs.getD i (0,tc0))=true
    ·rw[hok] at hfr
     have hio:=qcl.1 hok
     obtain⟨s1,s2⟩:=qgf hok
     have hcp:=Try.c_copyTile (fs.getD i (0,tc0)).2 (by omega) (by omega)
     generalize hd9:fs.getD i (0,tc0)=d at *
     generalize qax c.tiles (fs.take i)=b at *
     simp only[go_sem,seval,Try.results36]
     repeat' first|assumption|(simp (disch:=first|assumption|omega|(simp;done)|(simp;omega)) only[qab,qad,List.take_of_length_le,qac,qah,qai,qak,qaa];try simp only[go_sem,seval,Try.results36,hd9])|(with_reducible refine And.intro ?_ ?_)|(with_reducible intro _)|(refine qaj hfr ?_;simp only[go_sem,seval,Try.results36,hd9])|(refine @Exists.intro I _ (I.d D.nil) ?_;simp only[go_sem,seval,Try.results36,hd9])|((with_reducible (show Region.lexB _ _=true));kernel_rfl)|((try rw[qae]);omega)
     refine qbN (E:=Try.env 0) Try.tok Try.follows 1000 1000 [8] (.fst 0 (.fst 2 (.fst 4 (.fst 1 (.fst 3 (.fst 5 (.one 6 (.fst 7 (.one 8 (.done)))))))))) (by kernel_rfl) ?_
     simp only[go_sem,seval,Try.results36,hd9]
     repeat' first|assumption|(simp (disch:=first|assumption|omega|(simp;done)|(simp;omega)) only[qab,qad,List.take_of_length_le,qac,qah,qai,qak,qaa];try simp only[go_sem,seval,Try.results36,hd9])|(with_reducible refine And.intro ?_ ?_)|(with_reducible intro _)|(refine qaM hcp ?_;simp only[go_sem,seval,Try.results36,hd9])|(refine @Exists.intro I _ (I.d D.nil) ?_;simp only[go_sem,seval,Try.results36,hd9])|((with_reducible (show Region.lexB _ _=true));kernel_rfl)|((try rw[qae]);omega)
     refine⟨i+1,⟨by omega,fun j hj=>?_⟩,by omega,rfl,?_⟩
     ·by_cases hji:j=i
      ·subst hji;rw[hd9];exact hok
      ·exact hinv j (by omega)
     ·rw[hsn,List.map_set]
    ·rw[Bool.not_eq_true] at hok
     rw[hok] at hfr
     generalize hd9:fs.getD i (0,tc0)=d at *
     have hno : ¬ qeE c fs ps:=fun h2=>by
      have:=h2.2.2 i hlt
      rw[hd9,hok] at this
      exact absurd this (by simp)
     rw[if_neg hno]
     simp only[go_sem,seval,Try.results36]
     repeat' first|assumption|(simp (disch:=first|assumption|omega|(simp;done)|(simp;omega)) only[qab,qad,List.take_of_length_le,qac,qah,qai,qak,qaa];try simp only[go_sem,seval,Try.results36,hd9])|(with_reducible refine And.intro ?_ ?_)|(with_reducible intro _)|(refine qaj hfr ?_;simp only[go_sem,seval,Try.results36,hd9])|(refine @Exists.intro I _ (I.d D.nil) ?_;simp only[go_sem,seval,Try.results36,hd9])|((with_reducible (show Region.lexB _ _=true));kernel_rfl)|((try rw[qae]);omega)
   ·have e1:qax c.tiles fs=qax c.tiles (fs.take i):=by rw[List.take_of_length_le (by omega)]
    have hyes:qeE c fs ps:=⟨h.1,h.2,fun j hj=>hinv j (by omega)⟩
    rw[if_pos hyes]
    simp only[go_sem,seval,Try.results36]
    repeat' first|assumption|(simp (disch:=first|assumption|omega|(simp;done)|(simp;omega)) only[qab,qad,List.take_of_length_le,qac,qah,qai,qak,qaa];try simp only[go_sem,seval,Try.results36])|(with_reducible refine And.intro ?_ ?_)|(with_reducible intro _)|(refine qaM hq ?_;simp only[go_sem,seval,Try.results36])|(refine @Exists.intro I _ (I.d D.nil) ?_;simp only[go_sem,seval,Try.results36])|((with_reducible (show Region.lexB _ _=true));kernel_rfl)|((try rw[qae]);omega)
    ·rw[e1];omega
 ·rw[if_neg (fun h2=>h ⟨h2.1,h2.2.1⟩)]
  refine qap (E:=Try.env 0) Try.tok rfl 1000 Try.func36 rfl rfl Try.ntmps36 (by simp) fun ok=>?_
  simp only[go_sem,seval] at ok
  simp only[go_sem,seval,Try.results36]
  repeat' first|assumption|(simp (disch:=first|assumption|omega|(simp;done)|(simp;omega)) only[qab,qad,List.take_of_length_le,qac,qah,qai,qak,qaa];try simp only[go_sem,seval,Try.results36])|(with_reducible refine And.intro ?_ ?_)|(with_reducible intro _)|(refine qaj hc ?_;simp only[go_sem,seval,Try.results36])|(refine qaC (fun _=>hp) ?_;simp only[go_sem,seval,Try.results36])|(refine @Exists.intro I _ (I.d D.nil) ?_;simp only[go_sem,seval,Try.results36])|((with_reducible (show Region.lexB _ _=true));kernel_rfl)|((try rw[qae]);omega)
  rename_i h1
  exact absurd h1 h
theorem Try.c_sApplyFrames (c:Kcfg) (fs:List (Int×Tcfg)) (ps:List (Int×Bool)) (hps:ps.length≤1048576):Pure Try.prog 33 [dK c,dFrs fs,dQs ps] (dK (qeF c fs ps)):=by
 have hc:=Try.c_sConfigValid c
 unfold qeF
 by_cases h:c.ok
 ·rw[decide_eq_true h] at hc
  refine qap (E:=Try.env 0) Try.tok rfl 1000 Try.func33 rfl rfl Try.ntmps33 (by simp) fun ok=>?_
  simp only[go_sem,seval] at ok
  simp only[go_sem,seval,Try.results33]
  repeat' first|assumption|(simp (disch:=first|assumption|omega|(simp;done)|(simp;omega)) only[qab,qad,List.take_of_length_le,qac,qah,qai,qak,qaa];try simp only[go_sem,seval,Try.results33])|(with_reducible refine And.intro ?_ ?_)|(with_reducible intro _)|(refine qaj hc ?_;simp only[go_sem,seval,Try.results33])|(refine qaM (Try.c_l23Copy c (Kcfg.ok_small h)) ?_;simp only[go_sem,seval,Try.results33])|(refine @Exists.intro I _ (I.d D.nil) ?_;simp only[go_sem,seval,Try.results33])|((with_reducible (show Region.lexB _ _=true));kernel_rfl)|((try rw[qae]);omega)
  refine qaw (E:=Try.env 0) Try.tok (σ:=Nat) (fun i=>[(1,.d (dFrs fs)),(2,.d (dQs ps)),(6,.ptr 1 0),(7,.ptr 4 0),(8,.d (dI i))])
   (fun i=>[.dead 0,.box [.d .nil,.d .nil],.row 0 4 true ((qax c.tiles (fs.take i)).map fun x=>dTc x),.row 0 2 true (c.pads.map fun x=>dQ x),.box [.sl 2 0 4 0 c.tiles.length,.sl 3 0 2 0 c.pads.length]])
   (fun i=>i≤fs.length∧∀ j,j<i→frOk (fs.getD j (0,tc0))=true) (fun i=>fs.length-i) [] [] 1000 1000 ?_ ?_
  ·simp only[go_sem,seval]
   exact⟨0,⟨by omega,fun j hj=>absurd hj (by omega)⟩,rfl,rfl⟩
  ·rintro i ⟨hi,hinv⟩
   have hl0:c.tiles.length=25:=h.1
   have hbl:=qaI (fs.take i) c.tiles
   by_cases hlt:i<fs.length
   ·have hsn:=qcL c.tiles fs hlt
    have hfr:Pure Try.prog 47 [dFp (fs.getD i (0,tc0))] (.bool (frOk (fs.getD i (0,tc0)))):=Try.c_sFrameValid _ _
    by_cases hok:frOk (fs.getD i (0,tc0))=true
    ·rw[hok] at hfr
     have hio:=qcl.1 hok
     obtain⟨s1,s2⟩:=qgf hok
     have hcp:=Try.c_l23Tile (fs.getD i (0,tc0)).2 (by omega) (by omega)
     generalize hd9:fs.getD i (0,tc0)=d at *
     generalize qax c.tiles (fs.take i)=b at *
     simp only[go_sem,seval,Try.results33]
     repeat' first|assumption|(simp (disch:=first|assumption|omega|(simp;done)|(simp;omega)) only[qab,qad,List.take_of_length_le,qac,qah,qai,qak,qaa];try simp only[go_sem,seval,Try.results33,hd9])|(with_reducible refine And.intro ?_ ?_)|(with_reducible intro _)|(refine qaj hfr ?_;simp only[go_sem,seval,Try.results33,hd9])|(refine @Exists.intro I _ (I.d D.nil) ?_;simp only[go_sem,seval,Try.results33,hd9])|((with_reducible (show Region.lexB _ _=true));kernel_rfl)|((try rw[qae]);omega)
     refine qbN (E:=Try.env 0) Try.tok Try.follows 1000 1000 [14] (.fst 0 (.fst 2 (.fst 3 (.fst 4 (.fst 5 (.fst 7 (.fst 8 (.fst 9 (.fst 10 (.fst 1 (.fst 6 (.fst 11 (.one 12 (.fst 13 (.one 14 (.done)))))))))))))))) (by kernel_rfl) ?_
     simp only[go_sem,seval,Try.results33,hd9]
     repeat' first|assumption|(simp (disch:=first|assumption|omega|(simp;done)|(simp;omega)) only[qab,qad,List.take_of_length_le,qac,qah,qai,qak,qaa];try simp only[go_sem,seval,Try.results33,hd9])|(with_reducible refine And.intro ?_ ?_)|(with_reducible intro _)|(refine qaM hcp ?_;simp only[go_sem,seval,Try.results33,hd9])|(refine @Exists.intro I _ (I.d D.nil) ?_;simp only[go_sem,seval,Try.results33,hd9])|((with_reducible (show Region.lexB _ _=true));kernel_rfl)|((try rw[qae]);omega)
     refine⟨i+1,⟨by omega,fun j hj=>?_⟩,by omega,rfl,?_⟩
     ·by_cases hji:j=i
      ·subst hji;rw[hd9];exact hok
      ·exact hinv j (by omega)
     ·rw[hsn,List.map_set]
    ·rw[Bool.not_eq_true] at hok
     rw[hok] at hfr
     generalize hd9:fs.getD i (0,tc0)=d at *
     have hno : ¬ qeE c fs ps:=fun h2=>by
      have:=h2.2.2 i hlt
      rw[hd9,hok] at this
      exact absurd this (by simp)
     rw[if_neg hno]
     simp only[go_sem,seval,Try.results33]
     repeat' first|assumption|(simp (disch:=first|assumption|omega|(simp;done)|(simp;omega)) only[qab,qad,List.take_of_length_le,qac,qah,qai,qak,qaa];try simp only[go_sem,seval,Try.results33,hd9])|(with_reducible refine And.intro ?_ ?_)|(with_reducible intro _)|(refine qaj hfr ?_;simp only[go_sem,seval,Try.results33,hd9])|(refine @Exists.intro I _ (I.d D.nil) ?_;simp only[go_sem,seval,Try.results33,hd9])|((with_reducible (show Region.lexB _ _=true));kernel_rfl)|((try rw[qae]);omega)
   ·have e1:qax c.tiles fs=qax c.tiles (fs.take i):=by rw[List.take_of_length_le (by omega)]
    simp only[go_sem,seval,Try.results33]
    repeat' first|assumption|(simp (disch:=first|assumption|omega|(simp;done)|(simp;omega)) only[qab,qad,List.take_of_length_le,qac,qah,qai,qak,qaa];try simp only[go_sem,seval,Try.results33])|(with_reducible refine And.intro ?_ ?_)|(with_reducible intro _)|(refine @Exists.intro I _ (I.d D.nil) ?_;simp only[go_sem,seval,Try.results33])|((with_reducible (show Region.lexB _ _=true));kernel_rfl)|((try rw[qae]);omega)
    have hcv:=Try.c_sConfigValid ⟨qax c.tiles fs,ps⟩
    have hfs:qnZ fs:=fun j hj=>hinv j (by omega)
    have tk:List.take c.tiles.length ((qax c.tiles fs).map fun x=>dTc x)=(qax c.tiles fs).map fun x=>dTc x:=List.take_of_length_le (by simp[qaI])
    rw[tk]
    by_cases h2:qgG ps
    ·have hyes:qeE c fs ps:=⟨h,h2,hfs⟩
     rw[decide_eq_true (qkf hyes)] at hcv
     rw[if_pos hyes]
     refine qaj hcv ?_
     simp only[go_sem,seval,Try.results33]
     repeat' first|assumption|(simp (disch:=first|assumption|omega|(simp;done)|(simp;omega)) only[qab,qad,List.take_of_length_le,qac,qah,qai,qak,qaa];try simp only[go_sem,seval,Try.results33,tk])|(with_reducible refine And.intro ?_ ?_)|(with_reducible intro _)|(refine @Exists.intro I _ (I.d D.nil) ?_;simp only[go_sem,seval,Try.results33,tk])|((with_reducible (show Region.lexB _ _=true));kernel_rfl)|((try rw[qae]);omega)
     all_goals rw[qaI]
    ·rw[decide_eq_false (fun h3=>h2 h3.2.1)] at hcv
     rw[if_neg (fun h3=>h2 h3.2.1)]
     refine qaj hcv ?_
     simp only[go_sem,seval,Try.results33]
     repeat' first|assumption|(simp (disch:=first|assumption|omega|(simp;done)|(simp;omega)) only[qab,qad,List.take_of_length_le,qac,qah,qai,qak,qaa];try simp only[go_sem,seval,Try.results33])|(with_reducible refine And.intro ?_ ?_)|(with_reducible intro _)|(refine @Exists.intro I _ (I.d D.nil) ?_;simp only[go_sem,seval,Try.results33])|((with_reducible (show Region.lexB _ _=true));kernel_rfl)|((try rw[qae]);omega)
 ·rw[if_neg (fun h2=>h h2.1)]
  refine qap (E:=Try.env 0) Try.tok rfl 1000 Try.func33 rfl rfl Try.ntmps33 (by simp) fun ok=>?_
  simp only[go_sem,seval] at ok
  simp only[go_sem,seval,Try.results33]
  repeat' first|assumption|(simp (disch:=first|assumption|omega|(simp;done)|(simp;omega)) only[qab,qad,List.take_of_length_le,qac,qah,qai,qak,qaa];try simp only[go_sem,seval,Try.results33])|(with_reducible refine And.intro ?_ ?_)|(with_reducible intro _)|(refine qaj hc ?_;simp only[go_sem,seval,Try.results33])|(refine @Exists.intro I _ (I.d D.nil) ?_;simp only[go_sem,seval,Try.results33])|((with_reducible (show Region.lexB _ _=true));kernel_rfl)|((try rw[qae]);omega)
  rename_i h1
  exact absurd h1 h
end Go.Proofs
