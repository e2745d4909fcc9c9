/- Contracts: configurations: validity, copies, frames that differ. Conditions: none; lemmas. -/
import Derived.Test.YtbnocdngcmimaaaC46
import Derived.Test.YtbnocdngcmimaaaC25
set_option maxRecDepth 20000
set_option linter.unusedVariables false
set_option linter.unusedSimpArgs false
namespace Go.Proofs
open Go Go.VL
def qgG (l:List (Int×Bool)):Prop:=l.length=3∧∀ j,j<l.length→qco (l.getD j (0,false)).1=true
def Kcfg.ok (c:Kcfg):Prop:=c.tiles.length=25∧qgG c.pads∧∀ j,j<c.tiles.length→(c.tiles.getD j tc0).ok (j:Int)=true
noncomputable instance (l:List (Int×Bool)):Decidable (qgG l):=Classical.propDecidable _
noncomputable instance (c:Kcfg):Decidable c.ok:=Classical.propDecidable _
theorem Try.c_padsValid (l:List (Int×Bool)):Pure Try.prog 81 [dQs l] (.bool (decide (qgG l))):=by
 refine qap (E:=Try.env 0) Try.tok rfl 1000 Try.func81 rfl rfl Try.ntmps81 (by simp) fun ok=>?_
 simp only[go_sem,seval] at ok
 simp only[go_sem,seval,Try.results81]
 refine qaB (E:=Try.env 0) Try.tok (σ:=Nat) (fun i=>[(5,.d (dQs l)),(6,.d (dI l.length)),(7,.d (dI i)),(0,.d (dQs l))]) (fun _=>[]) (fun i=>i≤l.length∧∀ j,j<i→qco (l.getD j (0,false)).1=true) (fun i=>l.length-i) [] 1000 1000 ?_ ?_ ?_
 ·simp only[go_sem,seval]
 ·simp only[go_sem,seval]
  exact⟨0,⟨by omega,fun j hj=>absurd hj (by omega)⟩,rfl⟩
 ·rintro i ⟨hi,hinv⟩
  by_cases hlt:i<l.length
  ·simp only[go_sem,seval,Try.results81]
   repeat' first|assumption|(simp (disch:=first|assumption|omega|(simp;done)|(simp;omega)) only[qab,qad,List.take_of_length_le,qac,qah,qai,qak,qaa];try simp only[go_sem,seval,Try.results81])|(with_reducible refine And.intro ?_ ?_)|(with_reducible intro _)|(refine qaj (Try.c_isTrack _) ?_;simp only[go_sem,seval,Try.results81])|(refine @Exists.intro I _ (I.d D.nil) ?_;simp only[go_sem,seval,Try.results81])|((with_reducible (show Region.lexB _ _=true));kernel_rfl)|((try rw[qae]);omega)
   ·rename_i h1
    simp only[false_eq_decide_iff]
    intro h2
    have:=h2.2 i hlt
    rw[h1] at this
    exact absurd this (by simp)
   ·rename_i h1
    refine⟨i+1,⟨by omega,fun j hj=>?_⟩,by omega,rfl⟩
    by_cases hji:j=i
    ·subst hji;exact h1
    ·exact hinv j (by omega)
  ·simp only[go_sem,seval,Try.results81]
   repeat' first|assumption|(simp (disch:=first|assumption|omega|(simp;done)|(simp;omega)) only[qab,qad,List.take_of_length_le,qac,qah,qai,qak,qaa];try simp only[go_sem,seval,Try.results81])|(with_reducible refine And.intro ?_ ?_)|(with_reducible intro _)|(refine @Exists.intro I _ (I.d D.nil) ?_;simp only[go_sem,seval,Try.results81])|((with_reducible (show Region.lexB _ _=true));kernel_rfl)|((try rw[qae]);omega)
   have:qgG l↔(l.length:Int)=3:=⟨fun h=>by have:=h.1;omega,fun h=>⟨by omega,fun j hj=>hinv j (by omega)⟩⟩
   by_cases h3:(l.length:Int)=3
   ·simp[h3,this.2 h3]
   ·simp[h3,show ¬ qgG l from fun h=>h3 (this.1 h)]
theorem Try.c_ConfigValid (c:Kcfg):Pure Try.prog 57 [dK c] (.bool (decide c.ok)):=by
 have hp:=Try.c_padsValid c.pads
 refine qap (E:=Try.env 0) Try.tok rfl 1000 Try.func57 rfl rfl Try.ntmps57 (by simp) fun ok=>?_
 simp only[go_sem,seval] at ok
 simp only[go_sem,seval,Try.results57]
 repeat' first|assumption|(simp (disch:=first|assumption|omega|(simp;done)|(simp;omega)) only[qab,qad,List.take_of_length_le,qac,qah,qai,qak,qaa];try simp only[go_sem,seval,Try.results57])|(with_reducible refine And.intro ?_ ?_)|(with_reducible intro _)|(refine qaC (fun _=>hp) ?_;simp only[go_sem,seval,Try.results57])|(refine @Exists.intro I _ (I.d D.nil) ?_;simp only[go_sem,seval,Try.results57])|((with_reducible (show Region.lexB _ _=true));kernel_rfl)|((try rw[qae]);omega)
 ·rename_i h
  simp only[false_eq_decide_iff]
  intro h2
  rcases h with h|h
  ·exact h (by have:=h2.1;omega)
  ·exact h h2.2.1
 rename_i h
 refine qaB (E:=Try.env 0) Try.tok (σ:=Nat) (fun i=>[(1,.ptr 0 0),(16,.d (dTcs c.tiles)),(17,.d (dI c.tiles.length)),(18,.d (dI i))]) (fun _=>[.box [.d (dTcs c.tiles),.d (dQs c.pads)]]) (fun i=>i≤c.tiles.length∧∀ j,j<i→(c.tiles.getD j tc0).ok (j:Int)=true) (fun i=>c.tiles.length-i) [] 1000 1000 ?_ ?_ ?_
 ·simp only[go_sem,seval]
 ·simp only[go_sem,seval]
  exact⟨0,⟨by omega,fun j hj=>absurd hj (by omega)⟩,rfl⟩
 ·rintro i ⟨hi,hinv⟩
  by_cases hlt:i<c.tiles.length
  ·simp only[go_sem,seval,Try.results57]
   repeat' first|assumption|(simp (disch:=first|assumption|omega|(simp;done)|(simp;omega)) only[qab,qad,List.take_of_length_le,qac,qah,qai,qak,qaa];try simp only[go_sem,seval,Try.results57])|(with_reducible refine And.intro ?_ ?_)|(with_reducible intro _)|(refine qaj (Try.c_tileValid _ (i:Int) (by omega)) ?_;simp only[go_sem,seval,Try.results57])|(refine @Exists.intro I _ (I.d D.nil) ?_;simp only[go_sem,seval,Try.results57])|((with_reducible (show Region.lexB _ _=true));kernel_rfl)|((try rw[qae]);omega)
   ·rename_i h1
    simp only[false_eq_decide_iff]
    intro h2
    have:=h2.2.2 i hlt
    rw[h1] at this
    exact absurd this (by simp)
   ·rename_i h1
    refine⟨i+1,⟨by omega,fun j hj=>?_⟩,by omega,rfl⟩
    by_cases hji:j=i
    ·subst hji;exact h1
    ·exact hinv j (by omega)
  ·simp only[go_sem,seval,Try.results57]
   repeat' first|assumption|(simp (disch:=first|assumption|omega|(simp;done)|(simp;omega)) only[qab,qad,List.take_of_length_le,qac,qah,qai,qak,qaa];try simp only[go_sem,seval,Try.results57])|(with_reducible refine And.intro ?_ ?_)|(with_reducible intro _)|(refine @Exists.intro I _ (I.d D.nil) ?_;simp only[go_sem,seval,Try.results57])|((with_reducible (show Region.lexB _ _=true));kernel_rfl)|((try rw[qae]);omega)
   simp only[true_eq_decide_iff]
   exact⟨by omega,h.2,fun j hj=>hinv j (by omega)⟩
theorem Try.c_EqualI (a b:List Int):Pure Try.prog 102 [dIs a,dIs b] (.bool (decide (a=b))):=by
 refine qap (E:=Try.env 0) Try.tok rfl 1000 Try.func102 rfl rfl Try.ntmps102 (by simp) fun ok=>?_
 simp only[go_sem,seval] at ok
 simp only[go_sem,seval,Try.results102]
 refine⟨fun h=>?_,fun hlen=>?_⟩
 ·simp only[false_eq_decide_iff]
  rintro rfl
  exact h rfl
 refine qaB (E:=Try.env 0) Try.tok (σ:=Nat) (fun i=>[(11,.d (dIs a)),(12,.d (dI a.length)),(13,.d (dI i)),(0,.d (dIs a)),(1,.d (dIs b))]) (fun _=>[]) (fun i=>i≤a.length∧∀ j,j<i→a.getD j 0=b.getD j 0) (fun i=>a.length-i) [] 1000 1000 ?_ ?_ ?_
 ·simp only[go_sem,seval]
 ·simp only[go_sem,seval]
  exact⟨0,⟨by omega,by omega⟩,rfl⟩
 ·rintro i ⟨hi,hinv⟩
  by_cases hlt:i<a.length
  ·simp only[go_sem,seval,Try.results102]
   repeat' first|assumption|(simp (disch:=first|assumption|omega|(simp;done)|(simp;omega)) only[qab,qad,List.take_of_length_le,qac,qah,qai,qak,qaa];try simp only[go_sem,seval,Try.results102])|(with_reducible refine And.intro ?_ ?_)|(with_reducible intro _)|(refine @Exists.intro I _ (I.d D.nil) ?_;simp only[go_sem,seval,Try.results102])|((with_reducible (show Region.lexB _ _=true));kernel_rfl)|((try rw[qae]);omega)
   ·rename_i h1
    simp only[false_eq_decide_iff]
    rintro rfl
    exact h1 rfl
   ·rename_i h1
    exact qdN hlt h1 hinv
  ·simp only[go_sem,seval,Try.results102]
   repeat' first|assumption|(simp (disch:=first|assumption|omega|(simp;done)|(simp;omega)) only[qab,qad,List.take_of_length_le,qac,qah,qai,qak,qaa];try simp only[go_sem,seval,Try.results102])|(with_reducible refine And.intro ?_ ?_)|(with_reducible intro _)|(refine @Exists.intro I _ (I.d D.nil) ?_;simp only[go_sem,seval,Try.results102])|((with_reducible (show Region.lexB _ _=true));kernel_rfl)|((try rw[qae]);omega)
   simp only[true_eq_decide_iff]
   exact qd2 0 hlen fun j hj=>hinv j (by omega)
theorem Try.c_CloneI (l:List Int) (hl:l.length≤1048576):Pure Try.prog 103 [dIs l] (dIs l):=by
 refine qf5 (T:=Try.tyT) Try.tok Try.func103 rfl rfl (by simp[Try.ntmps103]) ?_
 rw[Try.ntmps103]
 refine qeT (E:=Try.env 0) (ks:=[]) (qeS (qlv Try.tok rfl rfl trivial (qjU (qeT (qeT (qeS (qlv Try.tok rfl rfl ?_ (qlw Try.tok rfl rfl ?_ rfl fun b hb=>qlx Try.tok 1000 ?_))))))))
 ·simp only[go_sem,seval]
 ·simp only[go_sem,seval]
 ·simp only[go_sem,seval,Try.results103]
  exact⟨hb,fun h=>by omega⟩
theorem Try.c_CloneQ (l:List (Int×Bool)) (hl:l.length≤1048576):Pure Try.prog 82 [dQs l] (dQs l):=by
 refine qf5 (T:=Try.tyT) Try.tok Try.func82 rfl rfl (by simp[Try.ntmps82]) ?_
 rw[Try.ntmps82]
 refine qeT (E:=Try.env 0) (ks:=[]) (qeS (qlv Try.tok rfl rfl trivial (qjU (qeT (qeT (qeS (qlv Try.tok rfl rfl ?_ (qlw Try.tok rfl rfl ?_ rfl fun b hb=>qlx Try.tok 1000 ?_))))))))
 ·simp only[go_sem,seval]
 ·simp only[go_sem,seval]
 ·simp only[go_sem,seval,Try.results82]
  exact⟨hb,fun h=>by omega⟩
theorem Try.c_sameTile (a b:Tcfg):Pure Try.prog 64 [dTc a,dTc b] (.bool (decide (a=b))):=by
 refine qap (E:=Try.env 0) Try.tok rfl 1000 Try.func64 rfl rfl Try.ntmps64 (by simp) fun ok=>?_
 simp only[go_sem,seval] at ok
 simp only[go_sem,seval,Try.results64]
 obtain⟨t,s,r,d⟩:=a
 obtain⟨t',s',r',d'⟩:=b
 repeat' first|assumption|(simp (disch:=first|assumption|omega|(simp;done)|(simp;omega)) only[qab,qad,List.take_of_length_le,qac,qah,qai,qak,qaa];try simp only[go_sem,seval,Try.results64])|(with_reducible refine And.intro ?_ ?_)|(with_reducible intro _)|(refine qaC (fun _=>Try.c_EqualI _ _) ?_;simp only[go_sem,seval,Try.results64])|(refine @Exists.intro I _ (I.d D.nil) ?_;simp only[go_sem,seval,Try.results64])|((with_reducible (show Region.lexB _ _=true));kernel_rfl)|((try rw[qae]);omega)
 simp only[Tcfg.mk.injEq]
 by_cases h1:t=t' <;> by_cases h2:s=s' <;> by_cases h3:r=r' <;> by_cases h4:d=d' <;> simp[h1,h2,h3,h4]
theorem Try.c_copyTile (t:Tcfg) (h1:t.select.length≤1048576) (h2:t.drive.length≤1048576):Pure Try.prog 65 [dTc t] (dTc t):=by
 refine qap (E:=Try.env 0) Try.tok rfl 1000 Try.func65 rfl rfl Try.ntmps65 (by simp) fun ok=>?_
 simp only[go_sem,seval] at ok
 simp only[go_sem,seval,Try.results65]
 repeat' first|assumption|(simp (disch:=first|assumption|omega|(simp;done)|(simp;omega)) only[qab,qad,List.take_of_length_le,qac,qah,qai,qak,qaa];try simp only[go_sem,seval,Try.results65])|(with_reducible refine And.intro ?_ ?_)|(with_reducible intro _)|(refine qaM (Try.c_CloneI _ (by omega)) ?_;simp only[go_sem,seval,Try.results65])|(refine @Exists.intro I _ (I.d D.nil) ?_;simp only[go_sem,seval,Try.results65])|((with_reducible (show Region.lexB _ _=true));kernel_rfl)|((try rw[qae]);omega)
noncomputable def qcB (a b:Kcfg) (i:Nat):List (Int×Tcfg):=if a.tiles.getD i tc0=b.tiles.getD i tc0 then [] else [((i:Int),b.tiles.getD i tc0)]
noncomputable def qaP (a b:Kcfg) (n:Nat):List (Int×Tcfg):=(List.range n).flatMap (qcB a b)
theorem qb8 (a b:Kcfg) (n:Nat):qaP a b (n+1)=qaP a b n++qcB a b n:=by simp[qaP,List.range_succ]
theorem qdp (a b:Kcfg) (n:Nat):(qaP a b n).length≤n:=by
 induction n with
 | zero=>simp[qaP]
 | succ n ih=>
  rw[qb8,List.length_append]
  have:(qcB a b n).length≤1:=by unfold qcB;split <;> simp
  omega
noncomputable def qbL (a b:Kcfg):List (Int×Tcfg):=if a.ok∧b.ok then qaP a b 25 else []
theorem Kcfg.ok_sizes {c:Kcfg}(h:c.ok) {i:Nat}(hi:i<25):(c.tiles.getD i tc0).select.length=3∧(c.tiles.getD i tc0).drive.length=8:=by
 have:=Tcfg.ok_iff.1 (h.2.2 i (by have:=h.1;omega))
 exact⟨this.2.1,this.2.2.1⟩
theorem Try.c_DiffFrames (a b:Kcfg):Pure Try.prog 18 [dK a,dK b] (dFrs (qbL a b)):=by
 have ha:=Try.c_ConfigValid a
 have hb:=Try.c_ConfigValid b
 refine qap (E:=Try.env 0) Try.tok rfl 1000 Try.func18 rfl rfl Try.ntmps18 (by simp) fun ok=>?_
 simp only[go_sem,seval] at ok
 simp only[go_sem,seval,Try.results18]
 repeat' first|assumption|(simp (disch:=first|assumption|omega|(simp;done)|(simp;omega)) only[qab,qad,List.take_of_length_le,qac,qah,qai,qak,qaa];try simp only[go_sem,seval,Try.results18])|(with_reducible refine And.intro ?_ ?_)|(with_reducible intro _)|(refine qaj ha ?_;simp only[go_sem,seval,Try.results18])|(refine qaC (fun _=>hb) ?_;simp only[go_sem,seval,Try.results18])|(refine @Exists.intro I _ (I.d D.nil) ?_;simp only[go_sem,seval,Try.results18])|((with_reducible (show Region.lexB _ _=true));kernel_rfl)|((try rw[qae]);omega)
 ·rename_i h
  rw[qbL,if_neg (by rintro⟨h1,h2⟩;rcases h with h|h <;> contradiction)]
  rfl
 rename_i h
 have ed:qbL a b=qaP a b 25:=if_pos h
 rw[ed]
 have hla:a.tiles.length=25:=h.1.1
 have hlb:b.tiles.length=25:=h.2.1
 refine qaw (E:=Try.env 0) Try.tok (σ:=Nat) (fun i=>[(2,.ptr 0 0),(3,.ptr 1 0),(5,.sl 2 (qaP a b i).length 5 0 (qaP a b i).length),(16,.d (dTcs a.tiles)),(17,.d (dI a.tiles.length)),(18,.d (dI i))])
  (fun i=>[.box [.d (dTcs a.tiles),.d (dQs a.pads)],.box [.d (dTcs b.tiles),.d (dQs b.pads)],.row (qaP a b i).length 5 true ((qaP a b i).map fun x=>dFp x)]) (fun i=>i≤25) (fun i=>25-i) [] [(5,5,true)] 1000 1000 ?_ ?_
 ·simp only[go_sem,seval]
  exact⟨0,by omega,by simp[qaP]⟩
 ·intro i hi
  have hdl:=qdp a b i
  by_cases hlt:i<25
  ·obtain⟨s1,s2⟩:=Kcfg.ok_sizes h.2 hlt
   have hcp:=Try.c_copyTile (b.tiles.getD i tc0) (by omega) (by omega)
   have hst:=Try.c_sameTile (a.tiles.getD i tc0) (b.tiles.getD i tc0)
   simp only[go_sem,seval,Try.results18]
   repeat' first|assumption|(simp (disch:=first|assumption|omega|(simp;done)|(simp;omega)) only[qab,qad,List.take_of_length_le,qac,qah,qai,qak,qaa];try simp only[go_sem,seval,Try.results18,hla,hlb])|(with_reducible refine And.intro ?_ ?_)|(with_reducible intro _)|(refine qa7 (fun _=>⟨hst,trivial⟩) ?_;simp only[go_sem,seval,Try.results18,hla,hlb])|(refine qaM hcp ?_;simp only[go_sem,seval,Try.results18,hla,hlb])|(refine @Exists.intro I _ (I.d D.nil) ?_;simp only[go_sem,seval,Try.results18,hla,hlb])|((with_reducible (show Region.lexB _ _=true));kernel_rfl)|((try rw[qae]);omega)
   ·rename_i h9
    have e1:qcB a b i=[((i:Int),b.tiles.getD i tc0)]:=if_neg h9
    have e2:=qb8 a b i
    rw[e1] at e2
    refine⟨i+1,by omega,by omega,⟨by rw[e2];simp,rfl⟩,by rw[e2];simp,?_⟩
    rw[e2,List.map_append]
    rfl
   ·rename_i h9
    have e1:qcB a b i=[]:=if_pos h9
    have e2:=qb8 a b i
    rw[e1,List.append_nil] at e2
    exact⟨i+1,by omega,by omega,⟨by rw[e2],rfl⟩,by rw[e2],by rw[e2]⟩
  ·simp only[go_sem,seval,Try.results18]
   repeat' first|assumption|(simp (disch:=first|assumption|omega|(simp;done)|(simp;omega)) only[qab,qad,List.take_of_length_le,qac,qah,qai,qak,qaa];try simp only[go_sem,seval,Try.results18,hla,hlb])|(with_reducible refine And.intro ?_ ?_)|(with_reducible intro _)|(refine @Exists.intro I _ (I.d D.nil) ?_;simp only[go_sem,seval,Try.results18,hla,hlb])|((with_reducible (show Region.lexB _ _=true));kernel_rfl)|((try rw[qae]);omega)
   rw[show i=25 by omega]
theorem Try.c_sConfigValid (c:Kcfg):Pure Try.prog 48 [dK c] (.bool (decide c.ok)):=by
 refine qap (E:=Try.env 0) Try.tok rfl 1000 Try.func48 rfl rfl Try.ntmps48 (by simp) fun ok=>?_
 simp only[go_sem,seval] at ok
 simp only[go_sem,seval,Try.results48]
 repeat' first|assumption|(simp (disch:=first|assumption|omega|(simp;done)|(simp;omega)) only[qab,qad,List.take_of_length_le,qac,qah,qai,qak,qaa];try simp only[go_sem,seval,Try.results48])|(with_reducible refine And.intro ?_ ?_)|(with_reducible intro _)|(refine @Exists.intro I _ (I.d D.nil) ?_;simp only[go_sem,seval,Try.results48])|((with_reducible (show Region.lexB _ _=true));kernel_rfl)|((try rw[qae]);omega)
 ·rename_i h
  simp only[false_eq_decide_iff]
  intro h2
  rcases h with h|h
  ·exact h (by have:=h2.1;omega)
  ·exact h (by have:=h2.2.1.1;omega)
 rename_i h
 refine qaB (E:=Try.env 0) Try.tok (σ:=Nat) (fun i=>[(1,.ptr 0 0),(3,.d (dI i))]) (fun _=>[.box [.d (dTcs c.tiles),.d (dQs c.pads)]]) (fun i=>i≤c.tiles.length∧∀ j,j<i→(c.tiles.getD j tc0).ok (j:Int)=true) (fun i=>c.tiles.length-i) [] 1000 1000 ?_ ?_ ?_
 ·simp only[go_sem,seval]
 ·simp only[go_sem,seval]
  exact⟨0,⟨by omega,fun j hj=>absurd hj (by omega)⟩,rfl⟩
 ·rintro i ⟨hi,hinv⟩
  by_cases hlt:i<c.tiles.length
  ·simp only[go_sem,seval,Try.results48]
   repeat' first|assumption|(simp (disch:=first|assumption|omega|(simp;done)|(simp;omega)) only[qab,qad,List.take_of_length_le,qac,qah,qai,qak,qaa];try simp only[go_sem,seval,Try.results48])|(with_reducible refine And.intro ?_ ?_)|(with_reducible intro _)|(refine qaj (Try.c_l9Tile _ (i:Int) (by omega)) ?_;simp only[go_sem,seval,Try.results48])|(refine @Exists.intro I _ (I.d D.nil) ?_;simp only[go_sem,seval,Try.results48])|((with_reducible (show Region.lexB _ _=true));kernel_rfl)|((try rw[qae]);omega)
   ·rename_i h1
    simp only[false_eq_decide_iff]
    intro h2
    have:=h2.2.2 i hlt
    rw[h1] at this
    exact absurd this (by simp)
   ·rename_i h1
    refine⟨i+1,⟨by omega,fun j hj=>?_⟩,by omega,rfl⟩
    by_cases hji:j=i
    ·subst hji;exact h1
    ·exact hinv j (by omega)
  ·simp only[go_sem,seval,Try.results48]
   repeat' first|assumption|(simp (disch:=first|assumption|omega|(simp;done)|(simp;omega)) only[qab,qad,List.take_of_length_le,qac,qah,qai,qak,qaa];try simp only[go_sem,seval,Try.results48])|(with_reducible refine And.intro ?_ ?_)|(with_reducible intro _)|(refine @Exists.intro I _ (I.d D.nil) ?_;simp only[go_sem,seval,Try.results48])|((with_reducible (show Region.lexB _ _=true));kernel_rfl)|((try rw[qae]);omega)
   have ht : ∀ j,j<c.tiles.length→(c.tiles.getD j tc0).ok (j:Int)=true:=fun j hj=>hinv j (by omega)
   clear hinv hi hlt
   refine qaB (E:=Try.env 0) Try.tok (σ:=Nat) (fun i=>[(1,.ptr 0 0),(4,.d (dI i))]) (fun _=>[.box [.d (dTcs c.tiles),.d (dQs c.pads)]]) (fun i=>i≤c.pads.length∧∀ j,j<i→qco (c.pads.getD j (0,false)).1=true) (fun i=>c.pads.length-i) [] 1000 1000 ?_ ?_ ?_
   ·simp only[go_sem,seval]
   ·simp only[go_sem,seval]
    exact⟨0,⟨by omega,fun j hj=>absurd hj (by omega)⟩,rfl⟩
   ·rintro i ⟨hi,hinv⟩
    by_cases hlt:i<c.pads.length
    ·simp only[go_sem,seval,Try.results48]
     repeat' first|assumption|(simp (disch:=first|assumption|omega|(simp;done)|(simp;omega)) only[qab,qad,List.take_of_length_le,qac,qah,qai,qak,qaa];try simp only[go_sem,seval,Try.results48])|(with_reducible refine And.intro ?_ ?_)|(with_reducible intro _)|(refine qaj (Try.c_l9Track _) ?_;simp only[go_sem,seval,Try.results48])|(refine @Exists.intro I _ (I.d D.nil) ?_;simp only[go_sem,seval,Try.results48])|((with_reducible (show Region.lexB _ _=true));kernel_rfl)|((try rw[qae]);omega)
     ·rename_i h1
      simp only[false_eq_decide_iff]
      intro h2
      have:=h2.2.1.2 i hlt
      rw[h1] at this
      exact absurd this (by simp)
     ·rename_i h1
      refine⟨i+1,⟨by omega,fun j hj=>?_⟩,by omega,rfl⟩
      by_cases hji:j=i
      ·subst hji;exact h1
      ·exact hinv j (by omega)
    ·simp only[go_sem,seval,Try.results48]
     repeat' first|assumption|(simp (disch:=first|assumption|omega|(simp;done)|(simp;omega)) only[qab,qad,List.take_of_length_le,qac,qah,qai,qak,qaa];try simp only[go_sem,seval,Try.results48])|(with_reducible refine And.intro ?_ ?_)|(with_reducible intro _)|(refine @Exists.intro I _ (I.d D.nil) ?_;simp only[go_sem,seval,Try.results48])|((with_reducible (show Region.lexB _ _=true));kernel_rfl)|((try rw[qae]);omega)
     simp only[true_eq_decide_iff]
     exact⟨by omega,⟨by omega,fun j hj=>hinv j (by omega)⟩,ht⟩
theorem Try.c_l23Tile (t:Tcfg) (h1:t.select.length≤1048576) (h2:t.drive.length≤1048576):Pure Try.prog 62 [dTc t] (dTc t):=by
 refine qap (E:=Try.env 0) Try.tok rfl 1000 Try.func62 rfl rfl Try.ntmps62 (by simp) fun ok=>?_
 simp only[go_sem,seval] at ok
 simp only[go_sem,seval,Try.results62]
 refine qbN (E:=Try.env 0) Try.tok Try.follows 1000 1000 [13] (.fst 0 (.fst 3 (.fst 6 (.fst 9 (.fst 1 (.fst 4 (.fst 7 (.fst 10 (.two 2 (.two 5 (.one 8 (.one 11 (.fst 12 (.one 13 (.done))))) 8 (.one 5 (.one 11 (.fst 12 (.one 13 (.done)))))) 8 (.one 2 (.one 5 (.one 11 (.fst 12 (.one 13 (.done))))))))))))))) (by kernel_rfl) ?_
 simp only[go_sem,seval,Try.results62]
 repeat' first|assumption|(simp (disch:=first|assumption|omega|(simp;done)|(simp;omega)) only[qab,qad,List.take_of_length_le,qac,qah,qai,qak,qaa];try simp only[go_sem,seval,Try.results62])|(with_reducible refine And.intro ?_ ?_)|(with_reducible intro _)|(refine @Exists.intro I _ (I.d D.nil) ?_;simp only[go_sem,seval,Try.results62])|((with_reducible (show Region.lexB _ _=true));kernel_rfl)|((try rw[qae]);omega)
theorem Try.c_l23Same (a b:Tcfg):Pure Try.prog 61 [dTc a,dTc b] (.bool (decide (a=b))):=by
 refine qap (E:=Try.env 0) Try.tok rfl 1000 Try.func61 rfl rfl Try.ntmps61 (by simp) fun ok=>?_
 obtain⟨t,s,r,d⟩:=a
 obtain⟨t',s',r',d'⟩:=b
 simp only[go_sem,seval] at ok
 simp only[go_sem,seval,Try.results61]
 repeat' first|assumption|(simp (disch:=first|assumption|omega|(simp;done)|(simp;omega)) only[qab,qad,List.take_of_length_le,qac,qah,qai,qak,qaa];try simp only[go_sem,seval,Try.results61])|(with_reducible refine And.intro ?_ ?_)|(with_reducible intro _)|(refine @Exists.intro I _ (I.d D.nil) ?_;simp only[go_sem,seval,Try.results61])|((with_reducible (show Region.lexB _ _=true));kernel_rfl)|((try rw[qae]);omega)
 ·rename_i h
  simp only[false_eq_decide_iff,Tcfg.mk.injEq]
  rintro⟨rfl,rfl,rfl,rfl⟩
  simp at h
 rename_i h
 refine qaB (E:=Try.env 0) Try.tok (σ:=Nat) (fun i=>[(2,.ptr 0 0),(3,.ptr 1 0),(5,.d (dI i))]) (fun _=>[.box [.d (dI t),.d (dIs s),.d (dB r),.d (dIs d)],.box [.d (dI t'),.d (dIs s'),.d (dB r'),.d (dIs d')]]) (fun i=>i≤s.length∧∀ j,j<i→s.getD j 0=s'.getD j 0) (fun i=>s.length-i) [] 1000 1000 ?_ ?_ ?_
 ·simp only[go_sem,seval]
 ·simp only[go_sem,seval]
  exact⟨0,⟨by omega,by omega⟩,rfl⟩
 ·rintro i ⟨hi,hinv⟩
  by_cases hlt:i<s.length
  ·simp only[go_sem,seval,Try.results61]
   repeat' first|assumption|(simp (disch:=first|assumption|omega|(simp;done)|(simp;omega)) only[qab,qad,List.take_of_length_le,qac,qah,qai,qak,qaa];try simp only[go_sem,seval,Try.results61])|(with_reducible refine And.intro ?_ ?_)|(with_reducible intro _)|(refine @Exists.intro I _ (I.d D.nil) ?_;simp only[go_sem,seval,Try.results61])|((with_reducible (show Region.lexB _ _=true));kernel_rfl)|((try rw[qae]);omega)
   ·rename_i h1
    simp only[false_eq_decide_iff,Tcfg.mk.injEq]
    rintro⟨rfl,rfl,rfl,rfl⟩
    exact h1 rfl
   ·rename_i h1
    exact qdN hlt h1 hinv
  ·simp only[go_sem,seval,Try.results61]
   repeat' first|assumption|(simp (disch:=first|assumption|omega|(simp;done)|(simp;omega)) only[qab,qad,List.take_of_length_le,qac,qah,qai,qak,qaa];try simp only[go_sem,seval,Try.results61])|(with_reducible refine And.intro ?_ ?_)|(with_reducible intro _)|(refine @Exists.intro I _ (I.d D.nil) ?_;simp only[go_sem,seval,Try.results61])|((with_reducible (show Region.lexB _ _=true));kernel_rfl)|((try rw[qae]);omega)
   have e1:s=s':=qd2 0 h.1.2 fun j hj=>hinv j (by omega)
   clear hinv hi hlt
   refine qaB (E:=Try.env 0) Try.tok (σ:=Nat) (fun i=>[(2,.ptr 0 0),(3,.ptr 1 0),(6,.d (dI i))]) (fun _=>[.box [.d (dI t),.d (dIs s),.d (dB r),.d (dIs d)],.box [.d (dI t'),.d (dIs s'),.d (dB r'),.d (dIs d')]]) (fun i=>i≤d.length∧∀ j,j<i→d.getD j 0=d'.getD j 0) (fun i=>d.length-i) [] 1000 1000 ?_ ?_ ?_
   ·simp only[go_sem,seval]
   ·simp only[go_sem,seval]
    exact⟨0,⟨by omega,by omega⟩,rfl⟩
   ·rintro i ⟨hi,hinv⟩
    by_cases hlt:i<d.length
    ·simp only[go_sem,seval,Try.results61]
     repeat' first|assumption|(simp (disch:=first|assumption|omega|(simp;done)|(simp;omega)) only[qab,qad,List.take_of_length_le,qac,qah,qai,qak,qaa];try simp only[go_sem,seval,Try.results61])|(with_reducible refine And.intro ?_ ?_)|(with_reducible intro _)|(refine @Exists.intro I _ (I.d D.nil) ?_;simp only[go_sem,seval,Try.results61])|((with_reducible (show Region.lexB _ _=true));kernel_rfl)|((try rw[qae]);omega)
     ·rename_i h1
      simp only[false_eq_decide_iff,Tcfg.mk.injEq]
      rintro⟨rfl,rfl,rfl,rfl⟩
      exact h1 rfl
     ·rename_i h1
      exact qdN hlt h1 hinv
    ·simp only[go_sem,seval,Try.results61]
     repeat' first|assumption|(simp (disch:=first|assumption|omega|(simp;done)|(simp;omega)) only[qab,qad,List.take_of_length_le,qac,qah,qai,qak,qaa];try simp only[go_sem,seval,Try.results61])|(with_reducible refine And.intro ?_ ?_)|(with_reducible intro _)|(refine @Exists.intro I _ (I.d D.nil) ?_;simp only[go_sem,seval,Try.results61])|((with_reducible (show Region.lexB _ _=true));kernel_rfl)|((try rw[qae]);omega)
     have e2:d=d':=qd2 0 h.2 fun j hj=>hinv j (by omega)
     simp only[true_eq_decide_iff,Tcfg.mk.injEq]
     exact⟨h.1.1.1,e1,h.1.1.2,e2⟩
theorem Try.c_sDiffFrames (a b:Kcfg):PureF Try.prog 16 [dK a,dK b] (dFrs (qbL a b)):=by
 have ha:=Try.c_sConfigValid a
 have hb:=Try.c_sConfigValid b
 refine qdj (E:=Try.env 0) Try.tok rfl 1000 Try.func16 rfl rfl Try.ntmps16 (by simp) fun ok=>?_
 simp only[go_sem,seval] at ok
 simp only[go_sem,seval,Try.results16]
 repeat' first|assumption|(simp (disch:=first|assumption|omega|(simp;done)|(simp;omega)) only[qab,qad,List.take_of_length_le,qac,qah,qai,qak,qaa];try simp only[go_sem,seval,Try.results16])|(with_reducible refine And.intro ?_ ?_)|(with_reducible intro _)|(refine qaj ha ?_;simp only[go_sem,seval,Try.results16])|(refine qaC (fun _=>hb) ?_;simp only[go_sem,seval,Try.results16])|(refine @Exists.intro I _ (I.d D.nil) ?_;simp only[go_sem,seval,Try.results16])|((with_reducible (show Region.lexB _ _=true));kernel_rfl)|((try rw[qae]);omega)
 ·rename_i h
  rw[qbL,if_neg (by rintro⟨h1,h2⟩;rcases h with h|h <;> contradiction)]
  rfl
 rename_i h
 have ed:qbL a b=qaP a b 25:=if_pos h
 rw[ed]
 have hla:a.tiles.length=25:=h.1.1
 have hlb:b.tiles.length=25:=h.2.1
 refine qaB (E:=Try.env 0) Try.tok (σ:=Nat) (fun i=>[(2,.ptr 0 0),(3,.ptr 1 0),(5,.sl 2 (qaP a b i).length 5 0 (qaP a b i).length),(6,.d (dI i))])
  (fun i=>[.box [.d (dTcs a.tiles),.d (dQs a.pads)],.box [.d (dTcs b.tiles),.d (dQs b.pads)],.row (qaP a b i).length 5 false ((qaP a b i).map fun x=>dFp x)]) (fun i=>i≤25) (fun i=>25-i) [] 1000 1000 ?_ ?_ ?_
 ·simp only[go_sem,seval]
 ·simp only[go_sem,seval]
  exact⟨0,by omega,by simp[qaP]⟩
 ·intro i hi
  have hdl:=qdp a b i
  by_cases hlt:i<25
  ·obtain⟨s1,s2⟩:=Kcfg.ok_sizes h.2 hlt
   have hcp:=Try.c_l23Tile (b.tiles.getD i tc0) (by omega) (by omega)
   have hst:=Try.c_l23Same (a.tiles.getD i tc0) (b.tiles.getD i tc0)
   simp only[go_sem,seval,Try.results16]
   repeat' first|assumption|(simp (disch:=first|assumption|omega|(simp;done)|(simp;omega)) only[qab,qad,List.take_of_length_le,qac,qah,qai,qak,qaa];try simp only[go_sem,seval,Try.results16,hla,hlb])|(with_reducible refine And.intro ?_ ?_)|(with_reducible intro _)|(refine qa7 (fun _=>⟨hst,trivial⟩) ?_;simp only[go_sem,seval,Try.results16,hla,hlb])|(refine qaj hcp ?_;simp only[go_sem,seval,Try.results16,hla,hlb])|(refine @Exists.intro I _ (I.d D.nil) ?_;simp only[go_sem,seval,Try.results16,hla,hlb])|((with_reducible (show Region.lexB _ _=true));kernel_rfl)|((try rw[qae]);omega)
   ·rename_i h9
    have e1:qcB a b i=[((i:Int),b.tiles.getD i tc0)]:=if_neg h9
    have e2:=qb8 a b i
    rw[e1] at e2
    refine⟨i+1,by omega,by omega,⟨by rw[e2];simp,rfl⟩,by rw[e2];simp,?_⟩
    rw[e2,List.map_append]
    rfl
   ·rename_i h9
    have e1:qcB a b i=[]:=if_pos h9
    have e2:=qb8 a b i
    rw[e1,List.append_nil] at e2
    exact⟨i+1,by omega,by omega,⟨by rw[e2],rfl⟩,by rw[e2],by rw[e2]⟩
  ·simp only[go_sem,seval,Try.results16]
   repeat' first|assumption|(simp (disch:=first|assumption|omega|(simp;done)|(simp;omega)) only[qab,qad,List.take_of_length_le,qac,qah,qai,qak,qaa];try simp only[go_sem,seval,Try.results16,hla,hlb])|(with_reducible refine And.intro ?_ ?_)|(with_reducible intro _)|(refine @Exists.intro I _ (I.d D.nil) ?_;simp only[go_sem,seval,Try.results16,hla,hlb])|((with_reducible (show Region.lexB _ _=true));kernel_rfl)|((try rw[qae]);omega)
   rw[show i=25 by omega]
end Go.Proofs
