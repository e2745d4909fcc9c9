/- Contracts: tiles and frames. Conditions: none; lemmas. -/
import Derived.Test.YtbnocdngcmimaaaC11
set_option maxRecDepth 20000
set_option linter.unusedVariables false
set_option linter.unusedSimpArgs false
namespace Go.Proofs
open Go Go.VL
structure Tcfg where
 table:Int
 select:List Int
 reg:Bool
 drive:List Int
noncomputable instance:DecidableEq Tcfg:=fun _ _=>Classical.propDecidable _
abbrev dTc (t:Tcfg):D:=.agg [dI t.table,dIs t.select,dB t.reg,dIs t.drive]
abbrev dFr (n:Int) (t:Tcfg):D:=.agg [dI n,dI t.table,dIs t.select,dB t.reg,dIs t.drive]
def qco (n:Int):Bool:=(decide (0≤n)&&decide (n≤7)) || decide (n=15)
def nbUp (t:Int):Int:=if 5≤t then t-5 else -1
def qhU (t:Int):Int:=if 0<t%5 then t-1 else -1
def qfs (t:Int):Int:=if t%5<4 then t+1 else -1
def qhV (t:Int):Int:=if t<20 then t+5 else -1
def nb (t d:Int):Int:=if d=2 then nbUp t else if d=3 then qhU t else if d=4 then qfs t else if d=5 then qhV t else -1
def qaU (t d:Int):Bool:=decide (d=0∨d=1∨(2≤d∧d≤5∧0≤nb t d)∨(d=6∧t%5=0∧t/5<4))
def Tcfg.ok (t:Int) (x:Tcfg):Bool:=(decide (0≤x.table)&&decide (x.table<256))&&decide (x.select.length=3)&&decide (x.drive.length=8)&&x.select.all qco&&x.drive.all (qaU t)
theorem Try.c_isTrack (n:Int):Pure Try.prog 105 [dI n] (.bool (qco n)):=by
 refine qap (E:=Try.env 0) Try.tok rfl 1000 Try.func105 rfl rfl Try.ntmps105 (by simp) fun ok=>?_
 simp only[go_sem,seval] at ok
 simp only[go_sem,seval,Try.results105]
 simp only[qco]
 rw[Bool.eq_iff_iff]
 simp
 omega
theorem Try.c_l9Track (n:Int):Pure Try.prog 92 [dI n] (.bool (qco n)):=by
 refine qap (E:=Try.env 0) Try.tok rfl 1000 Try.func92 rfl rfl Try.ntmps92 (by simp) fun ok=>?_
 simp only[go_sem,seval] at ok
 simp only[go_sem,seval,Try.results92]
 refine qaj (Try.c_l1In _ _ _) ?_
 simp only[go_sem,seval,Try.results92]
 simp[qco]
theorem Try.c_neighbours (t:Int) (ht:0≤t∧t≤24):Pure Try.prog 109 [dI t] (.agg [dI (nbUp t),dI (qhU t),dI (qfs t),dI (qhV t)]):=by
 refine qap (E:=Try.env 0) Try.tok rfl 1000 Try.func109 rfl rfl Try.ntmps109 (by simp) fun ok=>?_
 simp only[go_sem,seval] at ok
 simp only[go_sem,seval,Try.results109]
 repeat' first|assumption|(simp (disch:=first|assumption|omega|(simp;done)|(simp;omega)) only[qab,qad,List.take_of_length_le,qac];try simp only[go_sem,seval,Try.results109])|(with_reducible refine And.intro ?_ ?_)|(with_reducible intro _)|(refine @Exists.intro I _ (I.d D.nil) ?_;simp only[go_sem,seval,Try.results109])|((with_reducible (show Region.lexB _ _=true));kernel_rfl)|((try rw[qae]);omega)
 all_goals (simp only[nbUp,qhU,qfs,qhV];first|rw[if_pos (by assumption)]|rw[if_neg (by assumption)])
theorem Try.c_l9Neighbour (t d:Int) (ht:0≤t∧t≤24):Pure Try.prog 110 [dI t,dI d] (dI (nb t d)):=by
 refine qap (E:=Try.env 0) Try.tok rfl 1000 Try.func110 rfl rfl Try.ntmps110 (by simp) fun ok=>?_
 simp only[go_sem,seval] at ok
 simp only[go_sem,seval,Try.results110]
 repeat' first|assumption|(simp (disch:=first|assumption|omega|(simp;done)|(simp;omega)) only[qab,qad,List.take_of_length_le,qac];try simp only[go_sem,seval,Try.results110])|(with_reducible refine And.intro ?_ ?_)|(with_reducible intro _)|(refine @Exists.intro I _ (I.d D.nil) ?_;simp only[go_sem,seval,Try.results110])|((with_reducible (show Region.lexB _ _=true));kernel_rfl)|((try rw[qae]);omega)
 all_goals (simp only[nb,nbUp,qhU,qfs,qhV];(repeat' split) <;> omega)
theorem Tcfg.ok_iff {t:Int}{x:Tcfg}:x.ok t=true↔(0≤x.table∧x.table<256)∧x.select.length=3∧x.drive.length=8∧(∀ j,j<x.select.length→qco (x.select.getD j 0)=true)∧∀ j,j<x.drive.length→qaU t (x.drive.getD j 0)=true:=by
 simp only[Tcfg.ok,Bool.and_eq_true,decide_eq_true_eq,qcy _ _ (0:Int),and_assoc]
theorem Tcfg.ok_no {t:Int}{x:Tcfg}(h:x.ok t=true→False):false=x.ok t:=by
 cases e:x.ok t with
 | false=>rfl
 | true=>exact absurd e h
theorem Try.c_tileValid (x:Tcfg) (t:Int) (ht:0≤t∧t≤24):Pure Try.prog 89 [dTc x,dI t] (.bool (x.ok t)):=by
 refine qap (E:=Try.env 0) Try.tok rfl 1000 Try.func89 rfl rfl Try.ntmps89 (by simp) fun ok=>?_
 simp only[go_sem,seval] at ok
 simp only[go_sem,seval,Try.results89]
 refine⟨fun h=>Tcfg.ok_no fun h2=>by rw[Tcfg.ok_iff] at h2;omega,fun h=>?_⟩
 refine qaB (E:=Try.env 0) Try.tok (σ:=Nat) (fun i=>[(1,.d (dI t)),(2,.ptr 0 0),(31,.d (dIs x.select)),(32,.d (dI x.select.length)),(33,.d (dI i))]) (fun i=>[.box [.d (dI x.table),.d (dIs x.select),.d (dB x.reg),.d (dIs x.drive)]])
  (fun i=>i≤x.select.length∧∀ j,j<i→qco (x.select.getD j 0)=true) (fun i=>x.select.length-i) [] 1000 1000 ?_ ?_ ?_
 ·simp only[go_sem,seval]
 ·simp only[go_sem,seval]
  exact⟨0,⟨by omega,fun j hj=>absurd hj (by omega)⟩,rfl⟩
 ·rintro i ⟨hi,hinv⟩
  simp only[go_sem,seval,Try.results89]
  repeat' first|assumption|(simp (disch:=first|assumption|omega|(simp;done)|(simp;omega)) only[qab,qad,List.take_of_length_le,qac];try simp only[go_sem,seval,Try.results89])|(with_reducible refine And.intro ?_ ?_)|(with_reducible intro _)|(refine qaj (Try.c_isTrack _) ?_;simp only[go_sem,seval,Try.results89])|(refine qaj (Try.c_neighbours t ht) ?_;simp only[go_sem,seval,Try.results89])|(refine @Exists.intro I _ (I.d D.nil) ?_;simp only[go_sem,seval,Try.results89])|((with_reducible (show Region.lexB _ _=true));kernel_rfl)|((try rw[qae]);omega)
  ·rename_i h1 h2
   refine Tcfg.ok_no fun h3=>?_
   have:=(Tcfg.ok_iff.1 h3).2.2.2.1 i h1
   rw[h2] at this
   exact absurd this (by simp)
  ·rename_i h1 h2
   refine⟨i+1,⟨by omega,fun j hj=>?_⟩,by omega,rfl⟩
   by_cases hji:j=i
   ·subst hji;exact h2
   ·exact hinv j (by omega)
  ·rename_i h1
   have hs : ∀ j,j<x.select.length→qco (x.select.getD j 0)=true:=fun j hj=>hinv j (by omega)
   clear hinv hi h1
   refine qaB (E:=Try.env 0) Try.tok (σ:=Nat) (fun i=>[(1,.d (dI t)),(2,.ptr 0 0),(7,.ptr 1 0),(44,.d (dIs x.drive)),(45,.d (dI x.drive.length)),(46,.d (dI i))]) (fun i=>[.box [.d (dI x.table),.d (dIs x.select),.d (dB x.reg),.d (dIs x.drive)],.box [.d (dI (nbUp t)),.d (dI (qhU t)),.d (dI (qfs t)),.d (dI (qhV t))]])
    (fun i=>i≤x.drive.length∧∀ j,j<i→qaU t (x.drive.getD j 0)=true) (fun i=>x.drive.length-i) [] 1000 1000 ?_ ?_ ?_
   ·simp only[go_sem,seval]
   ·simp only[go_sem,seval]
    exact⟨0,⟨by omega,fun j hj=>absurd hj (by omega)⟩,rfl⟩
   ·rintro i ⟨hi,hinv⟩
    have step:i<x.drive.length→qaU t (x.drive.getD i 0)=true→∃ s',(s'≤x.drive.length∧∀ j,j<s'→qaU t (x.drive.getD j 0)=true)∧x.drive.length-s'<x.drive.length-i∧i+1=s':=by
     intro h1 h2
     refine⟨i+1,⟨by omega,fun j hj=>?_⟩,by omega,rfl⟩
     by_cases hji:j=i
     ·subst hji;exact h2
     ·exact hinv j (by omega)
    have stop:i<x.drive.length→qaU t (x.drive.getD i 0)=false→false=x.ok t:=by
     intro h1 h2
     refine Tcfg.ok_no fun h3=>?_
     have:=(Tcfg.ok_iff.1 h3).2.2.2.2 i h1
     rw[h2] at this
     exact absurd this (by simp)
    have fin : ¬ i<x.drive.length→true=x.ok t:=fun hge=>(Tcfg.ok_iff.2 ⟨by omega,by omega,by omega,hs,fun j hj=>hinv j (by omega)⟩).symm
    have hd:x.drive.getD i 0=0∨x.drive.getD i 0=1∨x.drive.getD i 0=2∨x.drive.getD i 0=3∨x.drive.getD i 0=4∨x.drive.getD i 0=5∨x.drive.getD i 0=6∨(x.drive.getD i 0<0∨6<x.drive.getD i 0):=by omega
    rcases hd with hd|hd|hd|hd|hd|hd|hd|hd
    ·simp only[go_sem,seval,Try.results89,hd]
     rw[hd] at step stop
     repeat' first|assumption|(simp (disch:=first|assumption|omega|(simp;done)|(simp;omega)) only[qab,qad,List.take_of_length_le,qac];try simp only[go_sem,seval,Try.results89])|(with_reducible refine And.intro ?_ ?_)|(with_reducible intro _)|(refine @Exists.intro I _ (I.d D.nil) ?_;simp only[go_sem,seval,Try.results89])|((with_reducible (show Region.lexB _ _=true));kernel_rfl)|((try rw[qae]);omega)
     all_goals first
      | exact fin (by assumption)
      | exact stop (by assumption) (by simp[qaU,nb];omega)
      | exact step (by assumption) (by simp[qaU,nb] <;> omega)
    ·simp only[go_sem,seval,Try.results89,hd]
     rw[hd] at step stop
     repeat' first|assumption|(simp (disch:=first|assumption|omega|(simp;done)|(simp;omega)) only[qab,qad,List.take_of_length_le,qac];try simp only[go_sem,seval,Try.results89])|(with_reducible refine And.intro ?_ ?_)|(with_reducible intro _)|(refine @Exists.intro I _ (I.d D.nil) ?_;simp only[go_sem,seval,Try.results89])|((with_reducible (show Region.lexB _ _=true));kernel_rfl)|((try rw[qae]);omega)
     all_goals first
      | exact fin (by assumption)
      | exact stop (by assumption) (by simp[qaU,nb];omega)
      | exact step (by assumption) (by simp[qaU,nb] <;> omega)
    ·simp only[go_sem,seval,Try.results89,hd]
     rw[hd] at step stop
     repeat' first|assumption|(simp (disch:=first|assumption|omega|(simp;done)|(simp;omega)) only[qab,qad,List.take_of_length_le,qac];try simp only[go_sem,seval,Try.results89])|(with_reducible refine And.intro ?_ ?_)|(with_reducible intro _)|(refine @Exists.intro I _ (I.d D.nil) ?_;simp only[go_sem,seval,Try.results89])|((with_reducible (show Region.lexB _ _=true));kernel_rfl)|((try rw[qae]);omega)
     all_goals first
      | exact fin (by assumption)
      | exact stop (by assumption) (by simp[qaU,nb];omega)
      | exact step (by assumption) (by simp[qaU,nb] <;> omega)
    ·simp only[go_sem,seval,Try.results89,hd]
     rw[hd] at step stop
     repeat' first|assumption|(simp (disch:=first|assumption|omega|(simp;done)|(simp;omega)) only[qab,qad,List.take_of_length_le,qac];try simp only[go_sem,seval,Try.results89])|(with_reducible refine And.intro ?_ ?_)|(with_reducible intro _)|(refine @Exists.intro I _ (I.d D.nil) ?_;simp only[go_sem,seval,Try.results89])|((with_reducible (show Region.lexB _ _=true));kernel_rfl)|((try rw[qae]);omega)
     all_goals first
      | exact fin (by assumption)
      | exact stop (by assumption) (by simp[qaU,nb];omega)
      | exact step (by assumption) (by simp[qaU,nb] <;> omega)
    ·simp only[go_sem,seval,Try.results89,hd]
     rw[hd] at step stop
     repeat' first|assumption|(simp (disch:=first|assumption|omega|(simp;done)|(simp;omega)) only[qab,qad,List.take_of_length_le,qac];try simp only[go_sem,seval,Try.results89])|(with_reducible refine And.intro ?_ ?_)|(with_reducible intro _)|(refine @Exists.intro I _ (I.d D.nil) ?_;simp only[go_sem,seval,Try.results89])|((with_reducible (show Region.lexB _ _=true));kernel_rfl)|((try rw[qae]);omega)
     all_goals first
      | exact fin (by assumption)
      | exact stop (by assumption) (by simp[qaU,nb];omega)
      | exact step (by assumption) (by simp[qaU,nb] <;> omega)
    ·simp only[go_sem,seval,Try.results89,hd]
     rw[hd] at step stop
     repeat' first|assumption|(simp (disch:=first|assumption|omega|(simp;done)|(simp;omega)) only[qab,qad,List.take_of_length_le,qac];try simp only[go_sem,seval,Try.results89])|(with_reducible refine And.intro ?_ ?_)|(with_reducible intro _)|(refine @Exists.intro I _ (I.d D.nil) ?_;simp only[go_sem,seval,Try.results89])|((with_reducible (show Region.lexB _ _=true));kernel_rfl)|((try rw[qae]);omega)
     all_goals first
      | exact fin (by assumption)
      | exact stop (by assumption) (by simp[qaU,nb];omega)
      | exact step (by assumption) (by simp[qaU,nb] <;> omega)
    ·simp only[go_sem,seval,Try.results89,hd]
     rw[hd] at step stop
     repeat' first|assumption|(simp (disch:=first|assumption|omega|(simp;done)|(simp;omega)) only[qab,qad,List.take_of_length_le,qac];try simp only[go_sem,seval,Try.results89])|(with_reducible refine And.intro ?_ ?_)|(with_reducible intro _)|(refine @Exists.intro I _ (I.d D.nil) ?_;simp only[go_sem,seval,Try.results89])|((with_reducible (show Region.lexB _ _=true));kernel_rfl)|((try rw[qae]);omega)
     all_goals first
      | exact fin (by assumption)
      | exact stop (by assumption) (by simp[qaU,nb];omega)
      | exact step (by assumption) (by simp[qaU,nb] <;> omega)
    ·simp only[go_sem,seval,Try.results89]
     repeat' first|assumption|(simp (disch:=first|assumption|omega|(simp;done)|(simp;omega)) only[qab,qad,List.take_of_length_le,qac];try simp only[go_sem,seval,Try.results89])|(with_reducible refine And.intro ?_ ?_)|(with_reducible intro _)|(refine @Exists.intro I _ (I.d D.nil) ?_;simp only[go_sem,seval,Try.results89])|((with_reducible (show Region.lexB _ _=true));kernel_rfl)|((try rw[qae]);omega)
     all_goals first
      | exact fin (by assumption)
      | exact stop (by assumption) (by simp only[qaU,decide_eq_false_iff_not];omega)
      | exact step (by assumption) (by simp only[qaU,decide_eq_true_eq];omega)
theorem Try.c_l9Tile (x:Tcfg) (t:Int) (ht:0≤t∧t≤24):Pure Try.prog 91 [dTc x,dI t] (.bool (x.ok t)):=by
 refine qap (E:=Try.env 0) Try.tok rfl 1000 Try.func91 rfl rfl Try.ntmps91 (by simp) fun ok=>?_
 simp only[go_sem,seval] at ok
 simp only[go_sem,seval,Try.results91]
 refine qaj (Try.c_l1In _ _ _) ?_
 simp only[go_sem,seval,Try.results91]
 refine⟨fun h=>Tcfg.ok_no fun h2=>by rw[Tcfg.ok_iff] at h2;omega,fun h=>?_⟩
 refine qaB (E:=Try.env 0) Try.tok (σ:=Nat) (fun i=>[(1,.d (dI t)),(2,.ptr 0 0),(5,.d (dI i))]) (fun i=>[.box [.d (dI x.table),.d (dIs x.select),.d (dB x.reg),.d (dIs x.drive)]])
  (fun i=>i≤3∧∀ j,j<i→qco (x.select.getD j 0)=true) (fun i=>3-i) [] 1000 1000 ?_ ?_ ?_
 ·simp only[go_sem,seval]
 ·simp only[go_sem,seval]
  exact⟨0,⟨by omega,fun j hj=>absurd hj (by omega)⟩,rfl⟩
 ·rintro i ⟨hi,hinv⟩
  simp only[go_sem,seval,Try.results91]
  repeat' first|assumption|(simp (disch:=first|assumption|omega|(simp;done)|(simp;omega)) only[qab,qad,List.take_of_length_le,qac];try simp only[go_sem,seval,Try.results91])|(with_reducible refine And.intro ?_ ?_)|(with_reducible intro _)|(refine qaj (Try.c_l9Track _) ?_;simp only[go_sem,seval,Try.results91])|(refine @Exists.intro I _ (I.d D.nil) ?_;simp only[go_sem,seval,Try.results91])|((with_reducible (show Region.lexB _ _=true));kernel_rfl)|((try rw[qae]);omega)
  ·rename_i h1 h2
   refine Tcfg.ok_no fun h3=>?_
   have:=(Tcfg.ok_iff.1 h3).2.2.2.1 i (by omega)
   rw[h2] at this
   exact absurd this (by simp)
  ·rename_i h1 h2
   refine⟨i+1,⟨by omega,fun j hj=>?_⟩,by omega,rfl⟩
   by_cases hji:j=i
   ·subst hji;exact h2
   ·exact hinv j (by omega)
  ·rename_i h1
   have hs : ∀ j,j<x.select.length→qco (x.select.getD j 0)=true:=fun j hj=>hinv j (by omega)
   clear hinv hi h1
   refine qaB (E:=Try.env 0) Try.tok (σ:=Nat) (fun i=>[(1,.d (dI t)),(2,.ptr 0 0),(6,.d (dI i))]) (fun i=>[.box [.d (dI x.table),.d (dIs x.select),.d (dB x.reg),.d (dIs x.drive)]])
    (fun i=>i≤8∧∀ j,j<i→qaU t (x.drive.getD j 0)=true) (fun i=>8-i) [] 1000 1000 ?_ ?_ ?_
   ·simp only[go_sem,seval]
   ·simp only[go_sem,seval]
    exact⟨0,⟨by omega,fun j hj=>absurd hj (by omega)⟩,rfl⟩
   ·rintro i ⟨hi,hinv⟩
    simp only[go_sem,seval,Try.results91]
    repeat' first|assumption|(simp (disch:=first|assumption|omega|(simp;done)|(simp;omega)) only[qab,qad,List.take_of_length_le,qac];try simp only[go_sem,seval,Try.results91])|(with_reducible refine And.intro ?_ ?_)|(with_reducible intro _)|(refine qaj (Try.c_l1In _ _ _) ?_;simp only[go_sem,seval,Try.results91])|(refine qaC (fun hg=>Try.c_l1In _ _ _) ?_;simp only[go_sem,seval,Try.results91])|(refine qaC (fun hg=>Try.c_l9Neighbour _ _ (by omega)) ?_;simp only[go_sem,seval,Try.results91])|(refine @Exists.intro I _ (I.d D.nil) ?_;simp only[go_sem,seval,Try.results91])|((with_reducible (show Region.lexB _ _=true));kernel_rfl)|((try rw[qae]);omega)
    ·rename_i h1 h2
     refine Tcfg.ok_no fun h3=>?_
     have:=(Tcfg.ok_iff.1 h3).2.2.2.2 i (by omega)
     simp only[qaU,decide_eq_true_eq] at this
     omega
    ·rename_i h1 h2
     exact qdN (by omega) (by simp only[qaU,decide_eq_true_eq];omega) hinv
    ·exact(Tcfg.ok_iff.2 ⟨by omega,by omega,by omega,hs,fun j hj=>hinv j (by omega)⟩).symm
theorem Try.c_FrameValid (n:Int) (t:Tcfg):Pure Try.prog 46 [dFr n t] (.bool ((decide (0≤n)&&decide (n≤24))&&t.ok n)):=by
 refine qap (E:=Try.env 0) Try.tok rfl 1000 Try.func46 rfl rfl Try.ntmps46 (by simp) fun ok=>?_
 simp only[go_sem,seval] at ok
 simp only[go_sem,seval,Try.results46]
 refine qaC (fun hg=>Try.c_tileValid t n (by simp only[Bool.and_eq_true,decide_eq_true_eq] at hg;omega)) ?_
 simp only[go_sem,seval,Try.results46]
 rw[show decide (n<25)=decide (n≤24) from decide_eq_decide.2 (by omega)]
theorem Try.c_sFrameValid (n:Int) (t:Tcfg):Pure Try.prog 47 [dFr n t] (.bool ((decide (0≤n)&&decide (n≤24))&&t.ok n)):=by
 refine qap (E:=Try.env 0) Try.tok rfl 1000 Try.func47 rfl rfl Try.ntmps47 (by simp) fun ok=>?_
 simp only[go_sem,seval] at ok
 simp only[go_sem,seval,Try.results47]
 refine qaj (Try.c_l1In _ _ _) ?_
 simp only[go_sem,seval,Try.results47]
 refine qaC (fun hg=>Try.c_l9Tile t n (by simp only[Bool.and_eq_true,decide_eq_true_eq] at hg;omega)) ?_
 simp only[go_sem,seval,Try.results47]
end Go.Proofs
