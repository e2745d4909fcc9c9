/- Contracts: copies of configurations, broken wires. Conditions: none; lemmas. -/
import Derived.Test.YtbnocdngcmimaaaC48
import Derived.Test.YtbnocdngcmimaaaC3
set_option maxRecDepth 20000
set_option linter.unusedVariables false
set_option linter.unusedSimpArgs false
namespace Go.Proofs
open Go Go.VL
def Kcfg.small (c:Kcfg):Prop:=c.tiles.length≤1048576∧c.pads.length≤1048576∧∀ j,j<c.tiles.length→(c.tiles.getD j tc0).select.length≤1048576∧(c.tiles.getD j tc0).drive.length≤1048576
theorem Kcfg.ok_small {c:Kcfg}(h:c.ok):c.small:=by
 refine⟨by have:=h.1;omega,by have:=h.2.1.1;omega,fun j hj=>?_⟩
 obtain⟨s1,s2⟩:=Kcfg.ok_sizes h (i:=j) (by have:=h.1;omega)
 omega
theorem qfV {α β : Type}{f : α→β}{l:List α}{i:Nat}(z : α) (h:i<l.length):(l.take (i+1)).map f=(l.take i).map f ++ [f (l.getD i z)]:=by
 rw[List.take_succ_eq_append_getElem h,List.map_append]
 simp[List.getD,h]
theorem Try.c_copyConfig (c:Kcfg) (h:c.small):Pure Try.prog 74 [dK c] (dK c):=by
 have hq:=Try.c_CloneQ c.pads h.2.1
 refine qap (E:=Try.env 0) Try.tok rfl 1000 Try.func74 rfl rfl Try.ntmps74 (by simp) fun ok=>?_
 simp only[go_sem,seval] at ok
 simp only[go_sem,seval,Try.results74]
 repeat' first|assumption|(simp (disch:=first|assumption|omega|(simp;done)|(simp;omega)) only[qab,qad,List.take_of_length_le,qac,qah,qai,qak,qaa];try simp only[go_sem,seval,Try.results74])|(with_reducible refine And.intro ?_ ?_)|(with_reducible intro _)|(refine qaM hq ?_;simp only[go_sem,seval,Try.results74])|(refine @Exists.intro I _ (I.d D.nil) ?_;simp only[go_sem,seval,Try.results74])|((with_reducible (show Region.lexB _ _=true));kernel_rfl)|((try rw[qae]);omega)
 refine qaw (E:=Try.env 0) Try.tok (σ:=Nat) (fun i=>[(0,.d (dK c)),(1,.ptr 0 0),(2,.ptr 1 0),(3,.ptr 3 0),(11,.d (dTcs c.tiles)),(12,.d (dI c.tiles.length)),(13,.d (dI i))])
  (fun i=>[.box [.d (dTcs c.tiles),.d (dQs c.pads)],.box [.d .nil,.d .nil],.row 0 2 true (c.pads.map fun x=>dQ x),.box [.sl 4 i 4 0 i,.sl 2 0 2 0 c.pads.length],.row i 4 true ((c.tiles.take i).map fun x=>dTc x)]) (fun i=>i≤c.tiles.length) (fun i=>c.tiles.length-i) [(3,0,4,true)] [] 1000 1000 ?_ ?_
 ·simp only[go_sem,seval]
  exact⟨0,by omega,by simp⟩
 ·intro i hi
  have hl1:=h.1
  have hl2:=h.2.1
  by_cases hlt:i<c.tiles.length
  ·obtain⟨s1,s2⟩:=h.2.2 i hlt
   simp only[go_sem,seval,Try.results74]
   repeat' first|assumption|(simp (disch:=first|assumption|omega|(simp;done)|(simp;omega)) only[qab,qad,List.take_of_length_le,qac,qah,qai,qak,qaa];try simp only[go_sem,seval,Try.results74])|(with_reducible refine And.intro ?_ ?_)|(with_reducible intro _)|(refine @Exists.intro I _ (I.d D.nil) ?_;simp only[go_sem,seval,Try.results74])|((with_reducible (show Region.lexB _ _=true));kernel_rfl)|((try rw[qae]);omega)
   refine qbN (E:=Try.env 0) Try.tok Try.follows 1000 1000 [7] (.fst 0 (.fst 1 (.fst 2 (.one 3 (.one 4 (.one 5 (.fst 6 (.one 7 (.done))))))))) (by kernel_rfl) ?_
   simp only[go_sem,seval,Try.results74]
   repeat' first|assumption|(simp (disch:=first|assumption|omega|(simp;done)|(simp;omega)) only[qab,qad,List.take_of_length_le,qac,qah,qai,qak,qaa];try simp only[go_sem,seval,Try.results74])|(with_reducible refine And.intro ?_ ?_)|(with_reducible intro _)|(refine qaM (Try.c_copyTile _ s1 s2) ?_;simp only[go_sem,seval,Try.results74])|(refine @Exists.intro I _ (I.d D.nil) ?_;simp only[go_sem,seval,Try.results74])|((with_reducible (show Region.lexB _ _=true));kernel_rfl)|((try rw[qae]);omega)
   ·simp;omega
   ·exact⟨i+1,by omega,by omega,rfl,rfl,rfl,(qfV tc0 hlt).symm⟩
  ·simp only[go_sem,seval,Try.results74]
   repeat' first|assumption|(simp (disch:=first|assumption|omega|(simp;done)|(simp;omega)) only[qab,qad,List.take_of_length_le,qac,qah,qai,qak,qaa];try simp only[go_sem,seval,Try.results74])|(with_reducible refine And.intro ?_ ?_)|(with_reducible intro _)|(refine @Exists.intro I _ (I.d D.nil) ?_;simp only[go_sem,seval,Try.results74])|((with_reducible (show Region.lexB _ _=true));kernel_rfl)|((try rw[qae]);omega)
theorem Try.c_l23Copy (c:Kcfg) (h:c.small):Pure Try.prog 71 [dK c] (dK c):=by
 refine qap (E:=Try.env 0) Try.tok rfl 1000 Try.func71 rfl rfl Try.ntmps71 (by simp) fun ok=>?_
 simp only[go_sem,seval] at ok
 simp only[go_sem,seval,Try.results71]
 repeat' first|assumption|(simp (disch:=first|assumption|omega|(simp;done)|(simp;omega)) only[qab,qad,List.take_of_length_le,qac,qah,qai,qak,qaa];try simp only[go_sem,seval,Try.results71])|(with_reducible refine And.intro ?_ ?_)|(with_reducible intro _)|(refine @Exists.intro I _ (I.d D.nil) ?_;simp only[go_sem,seval,Try.results71])|((with_reducible (show Region.lexB _ _=true));kernel_rfl)|((try rw[qae]);omega)
 ·have:=h.2.1;omega
 refine qaw (E:=Try.env 0) Try.tok (σ:=Nat) (fun i=>[(0,.d (dK c)),(1,.ptr 0 0),(2,.ptr 1 0),(3,.ptr 3 0),(4,.d (dI i))])
  (fun i=>[.box [.d (dTcs c.tiles),.d (dQs c.pads)],.box [.d .nil,.d .nil],.row 1 2 true (c.pads.map fun x=>dQ x),.box [.sl 4 i 4 0 i,.sl 2 1 2 0 c.pads.length],.row i 4 true ((c.tiles.take i).map fun x=>dTc x)]) (fun i=>i≤c.tiles.length) (fun i=>c.tiles.length-i) [(3,0,4,true)] [] 1000 1000 ?_ ?_
 ·simp only[go_sem,seval]
  exact⟨0,by omega,by simp⟩
 ·intro i hi
  have hl1:=h.1
  have hl2:=h.2.1
  by_cases hlt:i<c.tiles.length
  ·obtain⟨s1,s2⟩:=h.2.2 i hlt
   simp only[go_sem,seval,Try.results71]
   repeat' first|assumption|(simp (disch:=first|assumption|omega|(simp;done)|(simp;omega)) only[qab,qad,List.take_of_length_le,qac,qah,qai,qak,qaa];try simp only[go_sem,seval,Try.results71])|(with_reducible refine And.intro ?_ ?_)|(with_reducible intro _)|(refine @Exists.intro I _ (I.d D.nil) ?_;simp only[go_sem,seval,Try.results71])|((with_reducible (show Region.lexB _ _=true));kernel_rfl)|((try rw[qae]);omega)
   refine qbN (E:=Try.env 0) Try.tok Try.follows 1000 1000 [11] (.fst 0 (.fst 2 (.fst 4 (.fst 1 (.fst 3 (.fst 5 (.fst 6 (.one 7 (.one 8 (.one 9 (.fst 10 (.one 11 (.done))))))))))))) (by kernel_rfl) ?_
   simp only[go_sem,seval,Try.results71]
   repeat' first|assumption|(simp (disch:=first|assumption|omega|(simp;done)|(simp;omega)) only[qab,qad,List.take_of_length_le,qac,qah,qai,qak,qaa];try simp only[go_sem,seval,Try.results71])|(with_reducible refine And.intro ?_ ?_)|(with_reducible intro _)|(refine qaM (Try.c_l23Tile _ s1 s2) ?_;simp only[go_sem,seval,Try.results71])|(refine @Exists.intro I _ (I.d D.nil) ?_;simp only[go_sem,seval,Try.results71])|((with_reducible (show Region.lexB _ _=true));kernel_rfl)|((try rw[qae]);omega)
   ·simp;omega
   ·exact⟨i+1,by omega,by omega,rfl,rfl,rfl,(qfV tc0 hlt).symm⟩
  ·simp only[go_sem,seval,Try.results71]
   repeat' first|assumption|(simp (disch:=first|assumption|omega|(simp;done)|(simp;omega)) only[qab,qad,List.take_of_length_le,qac,qah,qai,qak,qaa];try simp only[go_sem,seval,Try.results71])|(with_reducible refine And.intro ?_ ?_)|(with_reducible intro _)|(refine @Exists.intro I _ (I.d D.nil) ?_;simp only[go_sem,seval,Try.results71])|((with_reducible (show Region.lexB _ _=true));kernel_rfl)|((try rw[qae]);omega)
def setW (l:List Tcfg) (t:Nat) (k:Nat) (v:Int):List Tcfg:=l.set t { l.getD t tc0 with drive:=(l.getD t tc0).drive.set k v }
def qaV (l:List Tcfg) (ds:List (Int×Int)):List Tcfg:=ds.foldl (fun l d=>setW l d.1.toNat d.2.toNat 0) l
theorem qg3 {l:List Tcfg}{a b:Nat}{v:Int}:(setW l a b v).length=l.length:=by simp[setW]
theorem qjf {l:List Tcfg}{a b:Nat}{v:Int}(j:Nat):(setW l a b v).getD j tc0=if j=a∧j<l.length then { l.getD a tc0 with drive:=(l.getD a tc0).drive.set b v } else l.getD j tc0:=by
 unfold setW
 by_cases h:j=a
 ·subst h
  by_cases h2:j<l.length
  ·rw[if_pos ⟨rfl,h2⟩,qaa h2]
  ·rw[if_neg (by omega),List.set_eq_of_length_le (by omega)]
 ·rw[if_neg (by omega),qch (Ne.symm h)]
theorem qb9 (ds:List (Int×Int)) : ∀ (l:List Tcfg),(qaV l ds).length=l.length:=by
 induction ds with
 | nil=>exact fun l=>rfl
 | cons d r ih=>
  intro l
  show(qaV (setW l d.1.toNat d.2.toNat 0) r).length=_
  rw[ih,qg3]
theorem qhX (l:List Tcfg) (ds:List (Int×Int)) {i:Nat}(h:i<ds.length) :
  qaV l (ds.take (i+1))=setW (qaV l (ds.take i)) (ds.getD i (0,0)).1.toNat (ds.getD i (0,0)).2.toNat 0:=by
 rw[List.take_succ_eq_append_getElem h,qaV,List.foldl_append]
 simp[List.getD,h,qaV]
theorem qcq (ds:List (Int×Int)) : ∀ (l:List Tcfg) (j:Nat),((qaV l ds).getD j tc0).select=(l.getD j tc0).select∧((qaV l ds).getD j tc0).drive.length=(l.getD j tc0).drive.length∧
  ((qaV l ds).getD j tc0).table=(l.getD j tc0).table∧((qaV l ds).getD j tc0).reg=(l.getD j tc0).reg:=by
 induction ds with
 | nil=>exact fun l j=>⟨rfl,rfl,rfl,rfl⟩
 | cons d r ih=>
  intro l j
  have:=ih (setW l d.1.toNat d.2.toNat 0) j
  rw[qjf] at this
  by_cases h:j=d.1.toNat∧j<l.length
  ·rw[if_pos h] at this
   obtain⟨rfl,h2⟩:=h
   have e:qaV l (d::r)=qaV (setW l d.1.toNat d.2.toNat 0) r:=rfl
   rw[e]
   simpa using this
  ·rw[if_neg h] at this
   exact this
def qcr (c:Kcfg) (ds:List (Int×Int)):Kcfg:=⟨qaV c.tiles ds,c.pads⟩
theorem Try.c_Break (c:Kcfg) (ds:List (Int×Int)):Pure Try.prog 27 [dK c,dPs ds] (dK (if c.ok∧Try.defectsValid ds=true then qcr c ds else⟨[],[]⟩)):=by
 have hc:=Try.c_ConfigValid c
 have hd:=Try.c_DefectsValid ds
 by_cases h:c.ok∧Try.defectsValid ds=true
 ·rw[if_pos h]
  rw[decide_eq_true h.1] at hc
  rw[h.2] at hd
  refine qap (E:=Try.env 0) Try.tok rfl 1000 Try.func27 rfl rfl Try.ntmps27 (by simp) fun ok=>?_
  simp only[go_sem,seval] at ok
  simp only[go_sem,seval,Try.results27]
  repeat' first|assumption|(simp (disch:=first|assumption|omega|(simp;done)|(simp;omega)) only[qab,qad,List.take_of_length_le,qac,qah,qai,qak,qaa];try simp only[go_sem,seval,Try.results27])|(with_reducible refine And.intro ?_ ?_)|(with_reducible intro _)|(refine qaj hc ?_;simp only[go_sem,seval,Try.results27])|(refine qaC (fun _=>hd) ?_;simp only[go_sem,seval,Try.results27])|(refine qaM (Try.c_copyConfig c (Kcfg.ok_small h.1)) ?_;simp only[go_sem,seval,Try.results27])|(refine @Exists.intro I _ (I.d D.nil) ?_;simp only[go_sem,seval,Try.results27])|((with_reducible (show Region.lexB _ _=true));kernel_rfl)|((try rw[qae]);omega)
  refine qaw (E:=Try.env 0) Try.tok (σ:=Nat) (fun i=>[(4,.ptr 1 0),(5,.ptr 4 0),(19,.d (dPs ds)),(20,.d (dI ds.length)),(21,.d (dI i))])
   (fun i=>[.dead 0,.box [.d .nil,.d .nil],.row 0 4 true ((qaV c.tiles (ds.take i)).map fun x=>dTc x),.row 0 2 true (c.pads.map fun x=>dQ x),.box [.sl 2 0 4 0 c.tiles.length,.sl 3 0 2 0 c.pads.length]]) (fun i=>i≤ds.length) (fun i=>ds.length-i) [] [] 1000 1000 ?_ ?_
  ·simp only[go_sem,seval]
   exact⟨0,by omega,rfl,rfl⟩
  ·intro i hi
   by_cases hlt:i<ds.length
   ·have hl0:c.tiles.length=25:=h.1.1
    have hd1:=Try.defectOk_iff.1 ((qcy _ _ (0,0)).1 (by have:=h.2;simp only[Try.defectsValid,Bool.and_eq_true] at this;exact this.2) i hlt)
    have hsn:=qhX c.tiles ds hlt
    have hbl:=qb9 (ds.take i) c.tiles
    have hbs:=qcq (ds.take i) c.tiles (ds.getD i (0,0)).1.toNat
    obtain⟨s1,s2⟩:=Kcfg.ok_sizes h.1 (i:=(ds.getD i (0,0)).1.toNat) (by omega)
    generalize hd9:ds.getD i (0,0)=d at *
    generalize qaV c.tiles (ds.take i)=b at *
    simp only[go_sem,seval,Try.results27,hd9]
    have hgt : ∀ z,(b.map fun x=>dTc x).getD d.1.toNat z=dTc (b.getD d.1.toNat tc0):=fun z=>qah (by omega)
    repeat' first|assumption|(simp (disch:=first|assumption|omega|(simp;done)|(simp;omega)) only[qab,qad,List.take_of_length_le,qac,qah,qai,qak,qaa];try simp only[go_sem,seval,Try.results27])|(with_reducible refine And.intro ?_ ?_)|(with_reducible intro _)|(refine @Exists.intro I _ (I.d D.nil) ?_;simp only[go_sem,seval,Try.results27])|((with_reducible (show Region.lexB _ _=true));kernel_rfl)|((try rw[qae]);omega)
    refine qaz (E:=Try.env 0) Try.tok Try.follows 1000 1000 [10] (.fst 0 (.fst 2 (.fst 7 (.fst 1 (.fst 3 (.fst 4 (.fst 5 (.fst 6 (.fst 8 (.fst 9 (.one 10 (.done)))))))))))) (by kernel_rfl) ?_
    simp only[go_sem,seval,Try.results27,hgt]
    repeat' first|assumption|(simp (disch:=first|assumption|omega|(simp;done)|(simp;omega)) only[qab,qad,List.take_of_length_le,qac,qah,qai,qak,qaa];try simp only[go_sem,seval,Try.results27,hgt])|(with_reducible refine And.intro ?_ ?_)|(with_reducible intro _)|(refine @Exists.intro I _ (I.d D.nil) ?_;simp only[go_sem,seval,Try.results27,hgt])|((with_reducible (show Region.lexB _ _=true));kernel_rfl)|((try rw[qae]);omega)
    refine⟨i+1,by omega,by omega,rfl,?_⟩
    rw[hsn]
    exact qd4 (z:=tc0) (by decide) (by omega) rfl
   ·have e1:qaV c.tiles ds=qaV c.tiles (ds.take i):=by rw[List.take_of_length_le (by omega)]
    have e2:=qb9 ds c.tiles
    simp only[go_sem,seval,Try.results27]
    repeat' first|assumption|(simp (disch:=first|assumption|omega|(simp;done)|(simp;omega)) only[qab,qad,List.take_of_length_le,qac,qah,qai,qak,qaa];try simp only[go_sem,seval,Try.results27])|(with_reducible refine And.intro ?_ ?_)|(with_reducible intro _)|(refine @Exists.intro I _ (I.d D.nil) ?_;simp only[go_sem,seval,Try.results27])|((with_reducible (show Region.lexB _ _=true));kernel_rfl)|((try rw[qae]);omega)
    all_goals rfl
 ·rw[if_neg h]
  refine qap (E:=Try.env 0) Try.tok rfl 1000 Try.func27 rfl rfl Try.ntmps27 (by simp) fun ok=>?_
  simp only[go_sem,seval] at ok
  simp only[go_sem,seval,Try.results27]
  repeat' first|assumption|(simp (disch:=first|assumption|omega|(simp;done)|(simp;omega)) only[qab,qad,List.take_of_length_le,qac,qah,qai,qak,qaa];try simp only[go_sem,seval,Try.results27])|(with_reducible refine And.intro ?_ ?_)|(with_reducible intro _)|(refine qaj hc ?_;simp only[go_sem,seval,Try.results27])|(refine qaC (fun _=>hd) ?_;simp only[go_sem,seval,Try.results27])|(refine @Exists.intro I _ (I.d D.nil) ?_;simp only[go_sem,seval,Try.results27])|((with_reducible (show Region.lexB _ _=true));kernel_rfl)|((try rw[qae]);omega)
  rename_i h1
  exact absurd h1 h
theorem Try.c_sBreak (c:Kcfg) (ds:List (Int×Int)):Pure Try.prog 25 [dK c,dPs ds] (dK (if c.ok∧Try.defectsValid ds=true then qcr c ds else⟨[],[]⟩)):=by
 have hc:=Try.c_sConfigValid c
 have hd:=Try.c_sDefectsValid ds
 by_cases h:c.ok∧Try.defectsValid ds=true
 ·rw[if_pos h]
  rw[decide_eq_true h.1] at hc
  rw[h.2] at hd
  refine qap (E:=Try.env 0) Try.tok rfl 1000 Try.func25 rfl rfl Try.ntmps25 (by simp) fun ok=>?_
  simp only[go_sem,seval] at ok
  simp only[go_sem,seval,Try.results25]
  repeat' first|assumption|(simp (disch:=first|assumption|omega|(simp;done)|(simp;omega)) only[qab,qad,List.take_of_length_le,qac,qah,qai,qak,qaa];try simp only[go_sem,seval,Try.results25])|(with_reducible refine And.intro ?_ ?_)|(with_reducible intro _)|(refine qaj hc ?_;simp only[go_sem,seval,Try.results25])|(refine qaC (fun _=>hd) ?_;simp only[go_sem,seval,Try.results25])|(refine qaM (Try.c_l23Copy c (Kcfg.ok_small h.1)) ?_;simp only[go_sem,seval,Try.results25])|(refine @Exists.intro I _ (I.d D.nil) ?_;simp only[go_sem,seval,Try.results25])|((with_reducible (show Region.lexB _ _=true));kernel_rfl)|((try rw[qae]);omega)
  refine qaw (E:=Try.env 0) Try.tok (σ:=Nat) (fun i=>[(4,.ptr 1 0),(5,.ptr 4 0),(1,.d (dPs ds)),(6,.d (dI i))])
   (fun i=>[.dead 0,.box [.d .nil,.d .nil],.row 0 4 true ((qaV c.tiles (ds.take i)).map fun x=>dTc x),.row 0 2 true (c.pads.map fun x=>dQ x),.box [.sl 2 0 4 0 c.tiles.length,.sl 3 0 2 0 c.pads.length]]) (fun i=>i≤ds.length) (fun i=>ds.length-i) [] [] 1000 1000 ?_ ?_
  ·simp only[go_sem,seval]
   exact⟨0,by omega,rfl,rfl⟩
  ·intro i hi
   by_cases hlt:i<ds.length
   ·have hl0:c.tiles.length=25:=h.1.1
    have hd1:=Try.defectOk_iff.1 ((qcy _ _ (0,0)).1 (by have:=h.2;simp only[Try.defectsValid,Bool.and_eq_true] at this;exact this.2) i hlt)
    have hsn:=qhX c.tiles ds hlt
    have hbl:=qb9 (ds.take i) c.tiles
    have hbs:=qcq (ds.take i) c.tiles (ds.getD i (0,0)).1.toNat
    obtain⟨s1,s2⟩:=Kcfg.ok_sizes h.1 (i:=(ds.getD i (0,0)).1.toNat) (by omega)
    generalize hd9:ds.getD i (0,0)=d at *
    generalize qaV c.tiles (ds.take i)=b at *
    simp only[go_sem,seval,Try.results25,hd9]
    have hgt : ∀ z,(b.map fun x=>dTc x).getD d.1.toNat z=dTc (b.getD d.1.toNat tc0):=fun z=>qah (by omega)
    repeat' first|assumption|(simp (disch:=first|assumption|omega|(simp;done)|(simp;omega)) only[qab,qad,List.take_of_length_le,qac,qah,qai,qak,qaa];try simp only[go_sem,seval,Try.results25])|(with_reducible refine And.intro ?_ ?_)|(with_reducible intro _)|(refine @Exists.intro I _ (I.d D.nil) ?_;simp only[go_sem,seval,Try.results25])|((with_reducible (show Region.lexB _ _=true));kernel_rfl)|((try rw[qae]);omega)
    refine qaz (E:=Try.env 0) Try.tok Try.follows 1000 1000 [16] (.fst 0 (.fst 2 (.fst 3 (.fst 4 (.fst 5 (.fst 10 (.fst 11 (.fst 12 (.fst 13 (.fst 1 (.fst 6 (.fst 7 (.fst 8 (.fst 9 (.fst 14 (.fst 15 (.one 16 (.done)))))))))))))))))) (by kernel_rfl) ?_
    simp only[go_sem,seval,Try.results25,hd9,hgt]
    repeat' first|assumption|(simp (disch:=first|assumption|omega|(simp;done)|(simp;omega)) only[qab,qad,List.take_of_length_le,qac,qah,qai,qak,qaa];try simp only[go_sem,seval,Try.results25,hd9,hgt])|(with_reducible refine And.intro ?_ ?_)|(with_reducible intro _)|(refine @Exists.intro I _ (I.d D.nil) ?_;simp only[go_sem,seval,Try.results25,hd9,hgt])|((with_reducible (show Region.lexB _ _=true));kernel_rfl)|((try rw[qae]);omega)
    refine⟨i+1,by omega,by omega,rfl,?_⟩
    rw[hsn]
    exact qd4 (z:=tc0) (by decide) (by omega) rfl
   ·have e1:qaV c.tiles ds=qaV c.tiles (ds.take i):=by rw[List.take_of_length_le (by omega)]
    have e2:=qb9 ds c.tiles
    simp only[go_sem,seval,Try.results25]
    repeat' first|assumption|(simp (disch:=first|assumption|omega|(simp;done)|(simp;omega)) only[qab,qad,List.take_of_length_le,qac,qah,qai,qak,qaa];try simp only[go_sem,seval,Try.results25])|(with_reducible refine And.intro ?_ ?_)|(with_reducible intro _)|(refine @Exists.intro I _ (I.d D.nil) ?_;simp only[go_sem,seval,Try.results25])|((with_reducible (show Region.lexB _ _=true));kernel_rfl)|((try rw[qae]);omega)
    all_goals rfl
 ·rw[if_neg h]
  refine qap (E:=Try.env 0) Try.tok rfl 1000 Try.func25 rfl rfl Try.ntmps25 (by simp) fun ok=>?_
  simp only[go_sem,seval] at ok
  simp only[go_sem,seval,Try.results25]
  repeat' first|assumption|(simp (disch:=first|assumption|omega|(simp;done)|(simp;omega)) only[qab,qad,List.take_of_length_le,qac,qah,qai,qak,qaa];try simp only[go_sem,seval,Try.results25])|(with_reducible refine And.intro ?_ ?_)|(with_reducible intro _)|(refine qaj hc ?_;simp only[go_sem,seval,Try.results25])|(refine qaC (fun _=>hd) ?_;simp only[go_sem,seval,Try.results25])|(refine @Exists.intro I _ (I.d D.nil) ?_;simp only[go_sem,seval,Try.results25])|((with_reducible (show Region.lexB _ _=true));kernel_rfl)|((try rw[qae]);omega)
  rename_i h1
  exact absurd h1 h
end Go.Proofs
