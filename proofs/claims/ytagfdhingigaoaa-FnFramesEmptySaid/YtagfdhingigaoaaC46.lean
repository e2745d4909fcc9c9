/- Contracts, plain definitions and lemmas. Conditions: none; lemmas. -/
import Derived.Test.YtagfdhingigaoaaC11
set_option maxRecDepth 20000
set_option linter.unusedVariables false
set_option linter.unusedSimpArgs false
namespace Go.Proofs
open Go Go.VL
structure Tcfg where
 table:Int
 select:List Int
 reg:Bool
 drive:List Int
noncomputable instance:DecidableEq Tcfg:=fun _ _=>Classical.propDecidable _
abbrev dTc (t:Tcfg):D:=.agg [dI t.table,dIs t.select,dB t.reg,dIs t.drive]
abbrev dFr (n:Int) (t:Tcfg):D:=.agg [dI n,dI t.table,dIs t.select,dB t.reg,dIs t.drive]
def qbB (n:Int):Bool:=(decide (0≤n)&&decide (n≤7)) || decide (n=15)
def nbUp (t:Int):Int:=if 5≤t then t-5 else -1
def qhF (t:Int):Int:=if 0<t%5 then t-1 else -1
def qfq (t:Int):Int:=if t%5<4 then t+1 else -1
def qhG (t:Int):Int:=if t<20 then t+5 else -1
def nb (t d:Int):Int:=if d=2 then nbUp t else if d=3 then qhF t else if d=4 then qfq t else if d=5 then qhG t else -1
def qaT (t d:Int):Bool:=decide (d=0∨d=1∨(2≤d∧d≤5∧0≤nb t d)∨(d=6∧t%5=0∧t/5<4))
def Tcfg.ok (t:Int) (x:Tcfg):Bool:=(decide (0≤x.table)&&decide (x.table<256))&&decide (x.select.length=3)&&decide (x.drive.length=8)&&x.select.all qbB&&x.drive.all (qaT t)
theorem Try.c_isTrack (n:Int):Pure Try.prog 41 [dI n] (.bool (qbB n)):=by
 refine qat (E:=Try.env 0) Try.tok rfl 1000 Try.func41 rfl rfl Try.ntmps41 (by simp) fun ok=>?_
 simp only[go_sem,seval] at ok
 simp only[go_sem,seval,Try.results41]
 simp only[qbB]
 rw[Bool.eq_iff_iff]
 simp
 omega
theorem Try.c_l9Track (n:Int):Pure Try.prog 19 [dI n] (.bool (qbB n)):=by
 refine qat (E:=Try.env 0) Try.tok rfl 1000 Try.func19 rfl rfl Try.ntmps19 (by simp) fun ok=>?_
 simp only[go_sem,seval] at ok
 simp only[go_sem,seval,Try.results19]
 refine qag (Try.c_l1In _ _ _) ?_
 simp only[go_sem,seval,Try.results19]
 simp[qbB]
theorem Try.c_neighbours (t:Int) (ht:0≤t∧t≤24):Pure Try.prog 42 [dI t] (.agg [dI (nbUp t),dI (qhF t),dI (qfq t),dI (qhG t)]):=by
 refine qat (E:=Try.env 0) Try.tok rfl 1000 Try.func42 rfl rfl Try.ntmps42 (by simp) fun ok=>?_
 simp only[go_sem,seval] at ok
 simp only[go_sem,seval,Try.results42]
 repeat' first|assumption|(simp (disch:=first|assumption|omega|(simp;done)|(simp;omega)) only[qab];try simp only[go_sem,seval,Try.results42])|(with_reducible first|apply And.intro|intro _)|(refine qac ?_;simp only[go_sem,seval,Try.results42])|exact lexT|((try rw[qaa]);omega)
 all_goals (simp only[nbUp,qhF,qfq,qhG];first|rw[if_pos (by assumption)]|rw[if_neg (by assumption)])
theorem Try.c_l9Neighbour (t d:Int) (ht:0≤t∧t≤24):Pure Try.prog 32 [dI t,dI d] (dI (nb t d)):=by
 refine qat (E:=Try.env 0) Try.tok rfl 1000 Try.func32 rfl rfl Try.ntmps32 (by simp) fun ok=>?_
 simp only[go_sem,seval] at ok
 simp only[go_sem,seval,Try.results32]
 repeat' first|assumption|(simp (disch:=first|assumption|omega|(simp;done)|(simp;omega)) only[qab];try simp only[go_sem,seval,Try.results32])|(with_reducible first|apply And.intro|intro _)|(refine qac ?_;simp only[go_sem,seval,Try.results32])|exact lexT|((try rw[qaa]);omega)
 all_goals (simp only[nb,nbUp,qhF,qfq,qhG];(repeat' split) <;> omega)
theorem Tcfg.ok_iff {t:Int}{x:Tcfg}:x.ok t=true↔(0≤x.table∧x.table<256)∧x.select.length=3∧x.drive.length=8∧(∀ j,j<x.select.length→qbB (x.select.getD j 0)=true)∧∀ j,j<x.drive.length→qaT t (x.drive.getD j 0)=true:=by
 simp only[Tcfg.ok,Bool.and_eq_true,decide_eq_true_eq,qmH _ _ (0:Int),and_assoc]
theorem Tcfg.ok_no {t:Int}{x:Tcfg}(h:x.ok t=true→False):false=x.ok t:=by
 cases e:x.ok t with
 | false=>rfl
 | true=>exact absurd e h
theorem Try.c_tileValid (x:Tcfg) (t:Int) (ht:0≤t∧t≤24):Pure Try.prog 28 [dTc x,dI t] (.bool (x.ok t)):=by
 refine qat (E:=Try.env 0) Try.tok rfl 1000 Try.func28 rfl rfl Try.ntmps28 (by simp) fun ok=>?_
 simp only[go_sem,seval] at ok
 simp only[go_sem,seval,Try.results28]
 refine⟨fun h=>Tcfg.ok_no fun h2=>by rw[Tcfg.ok_iff] at h2;omega,fun h=>?_⟩
 refine qaH (E:=Try.env 0) Try.tok (σ:=Nat) (fun i=>[(1,.d (dI t)),(2,.ptr 0 0),(31,.d (dIs x.select)),(32,.d (dI x.select.length)),(33,.d (dI i))]) (fun i=>[.box [.d (dI x.table),.d (dIs x.select),.d (dB x.reg),.d (dIs x.drive)]])
  (fun i=>i≤x.select.length∧∀ j,j<i→qbB (x.select.getD j 0)=true) (fun i=>x.select.length-i) [] 1000 1000 ?_ ?_ ?_
 ·simp only[go_sem,seval]
 ·simp only[go_sem,seval]
  exact⟨0,⟨by omega,fun j hj=>absurd hj (by omega)⟩,rfl⟩
 ·rintro i ⟨hi,hinv⟩
  simp only[go_sem,seval,Try.results28]
  repeat' first|assumption|(simp (disch:=first|assumption|omega|(simp;done)|(simp;omega)) only[qab];try simp only[go_sem,seval,Try.results28])|(with_reducible first|apply And.intro|intro _)|(refine qag (Try.c_isTrack _) ?_;simp only[go_sem,seval,Try.results28])|(refine qag (Try.c_neighbours t ht) ?_;simp only[go_sem,seval,Try.results28])|(refine qac ?_;simp only[go_sem,seval,Try.results28])|exact lexT|((try rw[qaa]);omega)
  ·rename_i h1 h2
   refine Tcfg.ok_no fun h3=>?_
   have:=(Tcfg.ok_iff.1 h3).2.2.2.1 i h1
   rw[h2] at this
   exact absurd this (by simp)
  ·rename_i h1 h2
   refine⟨i+1,⟨by omega,fun j hj=>?_⟩,by omega,rfl⟩
   by_cases hji:j=i
   ·subst hji;exact h2
   ·exact hinv j (by omega)
  ·rename_i h1
   have hs : ∀ j,j<x.select.length→qbB (x.select.getD j 0)=true:=fun j hj=>hinv j (by omega)
   clear hinv hi h1
   refine qaH (E:=Try.env 0) Try.tok (σ:=Nat) (fun i=>[(1,.d (dI t)),(2,.ptr 0 0),(7,.ptr 1 0),(44,.d (dIs x.drive)),(45,.d (dI x.drive.length)),(46,.d (dI i))]) (fun i=>[.box [.d (dI x.table),.d (dIs x.select),.d (dB x.reg),.d (dIs x.drive)],.box [.d (dI (nbUp t)),.d (dI (qhF t)),.d (dI (qfq t)),.d (dI (qhG t))]])
    (fun i=>i≤x.drive.length∧∀ j,j<i→qaT t (x.drive.getD j 0)=true) (fun i=>x.drive.length-i) [] 1000 1000 ?_ ?_ ?_
   ·simp only[go_sem,seval]
   ·simp only[go_sem,seval]
    exact⟨0,⟨by omega,fun j hj=>absurd hj (by omega)⟩,rfl⟩
   ·rintro i ⟨hi,hinv⟩
    have step:i<x.drive.length→qaT t (x.drive.getD i 0)=true→∃ s',(s'≤x.drive.length∧∀ j,j<s'→qaT t (x.drive.getD j 0)=true)∧x.drive.length-s'<x.drive.length-i∧i+1=s':=by
     intro h1 h2
     refine⟨i+1,⟨by omega,fun j hj=>?_⟩,by omega,rfl⟩
     by_cases hji:j=i
     ·subst hji;exact h2
     ·exact hinv j (by omega)
    have stop:i<x.drive.length→qaT t (x.drive.getD i 0)=false→false=x.ok t:=by
     intro h1 h2
     refine Tcfg.ok_no fun h3=>?_
     have:=(Tcfg.ok_iff.1 h3).2.2.2.2 i h1
     rw[h2] at this
     exact absurd this (by simp)
    have fin : ¬ i<x.drive.length→true=x.ok t:=fun hge=>(Tcfg.ok_iff.2 ⟨by omega,by omega,by omega,hs,fun j hj=>hinv j (by omega)⟩).symm
    have hd:x.drive.getD i 0=0∨x.drive.getD i 0=1∨x.drive.getD i 0=2∨x.drive.getD i 0=3∨x.drive.getD i 0=4∨x.drive.getD i 0=5∨x.drive.getD i 0=6∨(x.drive.getD i 0<0∨6<x.drive.getD i 0):=by omega
    rcases hd with hd|hd|hd|hd|hd|hd|hd|hd
    ·simp only[go_sem,seval,Try.results28,hd]
     rw[hd] at step stop
     repeat' first|assumption|(simp (disch:=first|assumption|omega|(simp;done)|(simp;omega)) only[qab];try simp only[go_sem,seval,Try.results28])|(with_reducible first|apply And.intro|intro _)|(refine qac ?_;simp only[go_sem,seval,Try.results28])|exact lexT|((try rw[qaa]);omega)
     all_goals first
      | exact fin (by assumption)
      | exact stop (by assumption) (by simp[qaT,nb];omega)
      | exact step (by assumption) (by simp[qaT,nb] <;> omega)
    ·simp only[go_sem,seval,Try.results28,hd]
     rw[hd] at step stop
     repeat' first|assumption|(simp (disch:=first|assumption|omega|(simp;done)|(simp;omega)) only[qab];try simp only[go_sem,seval,Try.results28])|(with_reducible first|apply And.intro|intro _)|(refine qac ?_;simp only[go_sem,seval,Try.results28])|exact lexT|((try rw[qaa]);omega)
     all_goals first
      | exact fin (by assumption)
      | exact stop (by assumption) (by simp[qaT,nb];omega)
      | exact step (by assumption) (by simp[qaT,nb] <;> omega)
    ·simp only[go_sem,seval,Try.results28,hd]
     rw[hd] at step stop
     repeat' first|assumption|(simp (disch:=first|assumption|omega|(simp;done)|(simp;omega)) only[qab];try simp only[go_sem,seval,Try.results28])|(with_reducible first|apply And.intro|intro _)|(refine qac ?_;simp only[go_sem,seval,Try.results28])|exact lexT|((try rw[qaa]);omega)
     all_goals first
      | exact fin (by assumption)
      | exact stop (by assumption) (by simp[qaT,nb];omega)
      | exact step (by assumption) (by simp[qaT,nb] <;> omega)
    ·simp only[go_sem,seval,Try.results28,hd]
     rw[hd] at step stop
     repeat' first|assumption|(simp (disch:=first|assumption|omega|(simp;done)|(simp;omega)) only[qab];try simp only[go_sem,seval,Try.results28])|(with_reducible first|apply And.intro|intro _)|(refine qac ?_;simp only[go_sem,seval,Try.results28])|exact lexT|((try rw[qaa]);omega)
     all_goals first
      | exact fin (by assumption)
      | exact stop (by assumption) (by simp[qaT,nb];omega)
      | exact step (by assumption) (by simp[qaT,nb] <;> omega)
    ·simp only[go_sem,seval,Try.results28,hd]
     rw[hd] at step stop
     repeat' first|assumption|(simp (disch:=first|assumption|omega|(simp;done)|(simp;omega)) only[qab];try simp only[go_sem,seval,Try.results28])|(with_reducible first|apply And.intro|intro _)|(refine qac ?_;simp only[go_sem,seval,Try.results28])|exact lexT|((try rw[qaa]);omega)
     all_goals first
      | exact fin (by assumption)
      | exact stop (by assumption) (by simp[qaT,nb];omega)
      | exact step (by assumption) (by simp[qaT,nb] <;> omega)
    ·simp only[go_sem,seval,Try.results28,hd]
     rw[hd] at step stop
     repeat' first|assumption|(simp (disch:=first|assumption|omega|(simp;done)|(simp;omega)) only[qab];try simp only[go_sem,seval,Try.results28])|(with_reducible first|apply And.intro|intro _)|(refine qac ?_;simp only[go_sem,seval,Try.results28])|exact lexT|((try rw[qaa]);omega)
     all_goals first
      | exact fin (by assumption)
      | exact stop (by assumption) (by simp[qaT,nb];omega)
      | exact step (by assumption) (by simp[qaT,nb] <;> omega)
    ·simp only[go_sem,seval,Try.results28,hd]
     rw[hd] at step stop
     repeat' first|assumption|(simp (disch:=first|assumption|omega|(simp;done)|(simp;omega)) only[qab];try simp only[go_sem,seval,Try.results28])|(with_reducible first|apply And.intro|intro _)|(refine qac ?_;simp only[go_sem,seval,Try.results28])|exact lexT|((try rw[qaa]);omega)
     all_goals first
      | exact fin (by assumption)
      | exact stop (by assumption) (by simp[qaT,nb];omega)
      | exact step (by assumption) (by simp[qaT,nb] <;> omega)
    ·simp only[go_sem,seval,Try.results28]
     repeat' first|assumption|(simp (disch:=first|assumption|omega|(simp;done)|(simp;omega)) only[qab];try simp only[go_sem,seval,Try.results28])|(with_reducible first|apply And.intro|intro _)|(refine qac ?_;simp only[go_sem,seval,Try.results28])|exact lexT|((try rw[qaa]);omega)
     all_goals first
      | exact fin (by assumption)
      | exact stop (by assumption) (by simp only[qaT,decide_eq_false_iff_not];omega)
      | exact step (by assumption) (by simp only[qaT,decide_eq_true_eq];omega)
theorem Try.c_l9Tile (x:Tcfg) (t:Int) (ht:0≤t∧t≤24):Pure Try.prog 18 [dTc x,dI t] (.bool (x.ok t)):=by
 refine qat (E:=Try.env 0) Try.tok rfl 1000 Try.func18 rfl rfl Try.ntmps18 (by simp) fun ok=>?_
 simp only[go_sem,seval] at ok
 simp only[go_sem,seval,Try.results18]
 refine qag (Try.c_l1In _ _ _) ?_
 simp only[go_sem,seval,Try.results18]
 refine⟨fun h=>Tcfg.ok_no fun h2=>by rw[Tcfg.ok_iff] at h2;omega,fun h=>?_⟩
 refine qaH (E:=Try.env 0) Try.tok (σ:=Nat) (fun i=>[(1,.d (dI t)),(2,.ptr 0 0),(5,.d (dI i))]) (fun i=>[.box [.d (dI x.table),.d (dIs x.select),.d (dB x.reg),.d (dIs x.drive)]])
  (fun i=>i≤3∧∀ j,j<i→qbB (x.select.getD j 0)=true) (fun i=>3-i) [] 1000 1000 ?_ ?_ ?_
 ·simp only[go_sem,seval]
 ·simp only[go_sem,seval]
  exact⟨0,⟨by omega,fun j hj=>absurd hj (by omega)⟩,rfl⟩
 ·rintro i ⟨hi,hinv⟩
  simp only[go_sem,seval,Try.results18]
  repeat' first|assumption|(simp (disch:=first|assumption|omega|(simp;done)|(simp;omega)) only[qab];try simp only[go_sem,seval,Try.results18])|(with_reducible first|apply And.intro|intro _)|(refine qag (Try.c_l9Track _) ?_;simp only[go_sem,seval,Try.results18])|(refine qac ?_;simp only[go_sem,seval,Try.results18])|exact lexT|((try rw[qaa]);omega)
  ·rename_i h1 h2
   refine Tcfg.ok_no fun h3=>?_
   have:=(Tcfg.ok_iff.1 h3).2.2.2.1 i (by omega)
   rw[h2] at this
   exact absurd this (by simp)
  ·rename_i h1 h2
   refine⟨i+1,⟨by omega,fun j hj=>?_⟩,by omega,rfl⟩
   by_cases hji:j=i
   ·subst hji;exact h2
   ·exact hinv j (by omega)
  ·rename_i h1
   have hs : ∀ j,j<x.select.length→qbB (x.select.getD j 0)=true:=fun j hj=>hinv j (by omega)
   clear hinv hi h1
   refine qaH (E:=Try.env 0) Try.tok (σ:=Nat) (fun i=>[(1,.d (dI t)),(2,.ptr 0 0),(6,.d (dI i))]) (fun i=>[.box [.d (dI x.table),.d (dIs x.select),.d (dB x.reg),.d (dIs x.drive)]])
    (fun i=>i≤8∧∀ j,j<i→qaT t (x.drive.getD j 0)=true) (fun i=>8-i) [] 1000 1000 ?_ ?_ ?_
   ·simp only[go_sem,seval]
   ·simp only[go_sem,seval]
    exact⟨0,⟨by omega,fun j hj=>absurd hj (by omega)⟩,rfl⟩
   ·rintro i ⟨hi,hinv⟩
    simp only[go_sem,seval,Try.results18]
    repeat' first|assumption|(simp (disch:=first|assumption|omega|(simp;done)|(simp;omega)) only[qab];try simp only[go_sem,seval,Try.results18])|(with_reducible first|apply And.intro|intro _)|(refine qag (Try.c_l1In _ _ _) ?_;simp only[go_sem,seval,Try.results18])|(refine qb4 (fun hg=>Try.c_l1In _ _ _) ?_;simp only[go_sem,seval,Try.results18])|(refine qb4 (fun hg=>Try.c_l9Neighbour _ _ (by omega)) ?_;simp only[go_sem,seval,Try.results18])|(refine qac ?_;simp only[go_sem,seval,Try.results18])|exact lexT|((try rw[qaa]);omega)
    ·rename_i h1 h2
     refine Tcfg.ok_no fun h3=>?_
     have:=(Tcfg.ok_iff.1 h3).2.2.2.2 i (by omega)
     simp only[qaT,decide_eq_true_eq] at this
     omega
    ·rename_i h1 h2
     exact qdi (by omega) (by simp only[qaT,decide_eq_true_eq];omega) hinv
    ·exact(Tcfg.ok_iff.2 ⟨by omega,by omega,by omega,hs,fun j hj=>hinv j (by omega)⟩).symm
end Go.Proofs

set_option maxRecDepth 20000
set_option linter.unusedVariables false
set_option linter.unusedSimpArgs false
namespace Go.Proofs
open Go Go.VL
abbrev dQ (p:Int×Bool):D:=.agg [dI p.1,dB p.2]
abbrev dTcs (l:List Tcfg):D:=.lst 4 (l.map fun x=>dTc x)
abbrev dQs (l:List (Int×Bool)):D:=.lst 2 (l.map fun x=>dQ x)
structure Kcfg where
 tiles:List Tcfg
 pads:List (Int×Bool)
noncomputable instance:DecidableEq Kcfg:=fun _ _=>Classical.propDecidable _
abbrev dK (k:Kcfg):D:=.agg [dTcs k.tiles,dQs k.pads]
def tc0:Tcfg:=⟨0,[],false,[]⟩
abbrev dFp (p:Int×Tcfg):D:=dFr p.1 p.2
abbrev dFrs (l:List (Int×Tcfg)):D:=.lst 5 (l.map fun x=>dFp x)
theorem qae {l:List Tcfg}{i:Nat}{z:D}(h:i<l.length):(l.map fun x=>dTc x).getD i z=dTc (l.getD i tc0):=getD_lt _ _ _ _ _ h
theorem qaj {l:List (Int×Bool)}{i:Nat}{z:D}(h:i<l.length):(l.map fun x=>dQ x).getD i z=dQ (l.getD i (0,false)):=getD_lt _ _ _ _ _ h
theorem getD_fp {l:List (Int×Tcfg)}{i:Nat}{z:D}(h:i<l.length):(l.map fun x=>dFp x).getD i z=dFp (l.getD i (0,tc0)):=getD_lt _ _ _ _ _ h
end Go.Proofs

set_option maxRecDepth 20000
set_option linter.unusedVariables false
set_option linter.unusedSimpArgs false
namespace Go.Proofs
open Go Go.VL
theorem qad {α : Type}{l:List α}{i:Nat}{x z : α}(h:i<l.length):(l.set i x).getD i z=x:=by simp[List.getD,h]
theorem qhb {α : Type}{l:List α}{i j:Nat}{x z : α}(h:i≠j):(l.set i x).getD j z=l.getD j z:=by simp[List.getD,List.getElem?_set,h]
end Go.Proofs
