/- Contracts, plain definitions and lemmas. Conditions: none; lemmas. -/
import Derived.Test.YtagfdhingigaoaaC46
import Derived.Test.YtagfdhingigaoaaC11
import Derived.Test.YtagfdhingigaoaaVM8
set_option maxRecDepth 20000
set_option linter.unusedVariables false
set_option linter.unusedSimpArgs false
namespace Go.Proofs
open Go Go.VL
def qhH (l:List (Int×Bool)):Prop:=l.length=3∧∀ j,j<l.length→qbB (l.getD j (0,false)).1=true
def Kcfg.ok (c:Kcfg):Prop:=c.tiles.length=25∧qhH c.pads∧∀ j,j<c.tiles.length→(c.tiles.getD j tc0).ok (j:Int)=true
noncomputable instance (l:List (Int×Bool)):Decidable (qhH l):=Classical.propDecidable _
noncomputable instance (c:Kcfg):Decidable c.ok:=Classical.propDecidable _
theorem Try.c_padsValid (l:List (Int×Bool)):Pure Try.prog 27 [dQs l] (.bool (decide (qhH l))):=by
 refine qat (E:=Try.env 0) Try.tok rfl 1000 Try.func27 rfl rfl Try.ntmps27 (by simp) fun ok=>?_
 simp only[go_sem,seval] at ok
 simp only[go_sem,seval,Try.results27]
 refine qaH (E:=Try.env 0) Try.tok (σ:=Nat) (fun i=>[(5,.d (dQs l)),(6,.d (dI l.length)),(7,.d (dI i)),(0,.d (dQs l))]) (fun _=>[]) (fun i=>i≤l.length∧∀ j,j<i→qbB (l.getD j (0,false)).1=true) (fun i=>l.length-i) [] 1000 1000 ?_ ?_ ?_
 ·simp only[go_sem,seval]
 ·simp only[go_sem,seval]
  exact⟨0,⟨by omega,fun j hj=>absurd hj (by omega)⟩,rfl⟩
 ·rintro i ⟨hi,hinv⟩
  by_cases hlt:i<l.length
  ·simp only[go_sem,seval,Try.results27]
   repeat' first|assumption|(simp (disch:=first|assumption|omega|(simp;done)|(simp;omega)) only[qae,qaj];try simp only[go_sem,seval,Try.results27])|(with_reducible first|apply And.intro|intro _)|(refine qag (Try.c_isTrack _) ?_;simp only[go_sem,seval,Try.results27])|(refine qac ?_;simp only[go_sem,seval,Try.results27])|exact lexT|((try rw[qaa]);omega)
   ·rename_i h1
    simp only[false_eq_decide_iff]
    intro h2
    have:=h2.2 i hlt
    rw[h1] at this
    exact absurd this (by simp)
   ·rename_i h1
    refine⟨i+1,⟨by omega,fun j hj=>?_⟩,by omega,rfl⟩
    by_cases hji:j=i
    ·subst hji;exact h1
    ·exact hinv j (by omega)
  ·simp only[go_sem,seval,Try.results27]
   repeat' first|assumption|(simp (disch:=first|assumption|omega|(simp;done)|(simp;omega)) only[qae,qaj];try simp only[go_sem,seval,Try.results27])|(with_reducible first|apply And.intro|intro _)|(refine qac ?_;simp only[go_sem,seval,Try.results27])|exact lexT|((try rw[qaa]);omega)
   have:qhH l↔(l.length:Int)=3:=⟨fun h=>by have:=h.1;omega,fun h=>⟨by omega,fun j hj=>hinv j (by omega)⟩⟩
   by_cases h3:(l.length:Int)=3
   ·simp[h3,this.2 h3]
   ·simp[h3,show ¬ qhH l from fun h=>h3 (this.1 h)]
theorem Try.c_ConfigValid (c:Kcfg):Pure Try.prog 13 [dK c] (.bool (decide c.ok)):=by
 have hp:=Try.c_padsValid c.pads
 refine qat (E:=Try.env 0) Try.tok rfl 1000 Try.func13 rfl rfl Try.ntmps13 (by simp) fun ok=>?_
 simp only[go_sem,seval] at ok
 simp only[go_sem,seval,Try.results13]
 repeat' first|assumption|(simp (disch:=first|assumption|omega|(simp;done)|(simp;omega)) only[qae,qaj];try simp only[go_sem,seval,Try.results13])|(with_reducible first|apply And.intro|intro _)|(refine qb4 (fun _=>hp) ?_;simp only[go_sem,seval,Try.results13])|(refine qac ?_;simp only[go_sem,seval,Try.results13])|exact lexT|((try rw[qaa]);omega)
 ·rename_i h
  simp only[false_eq_decide_iff]
  intro h2
  rcases h with h|h
  ·exact h (by have:=h2.1;omega)
  ·exact h h2.2.1
 rename_i h
 refine qaH (E:=Try.env 0) Try.tok (σ:=Nat) (fun i=>[(1,.ptr 0 0),(16,.d (dTcs c.tiles)),(17,.d (dI c.tiles.length)),(18,.d (dI i))]) (fun _=>[.box [.d (dTcs c.tiles),.d (dQs c.pads)]]) (fun i=>i≤c.tiles.length∧∀ j,j<i→(c.tiles.getD j tc0).ok (j:Int)=true) (fun i=>c.tiles.length-i) [] 1000 1000 ?_ ?_ ?_
 ·simp only[go_sem,seval]
 ·simp only[go_sem,seval]
  exact⟨0,⟨by omega,fun j hj=>absurd hj (by omega)⟩,rfl⟩
 ·rintro i ⟨hi,hinv⟩
  by_cases hlt:i<c.tiles.length
  ·simp only[go_sem,seval,Try.results13]
   repeat' first|assumption|(simp (disch:=first|assumption|omega|(simp;done)|(simp;omega)) only[qae,qaj];try simp only[go_sem,seval,Try.results13])|(with_reducible first|apply And.intro|intro _)|(refine qag (Try.c_tileValid _ (i:Int) (by omega)) ?_;simp only[go_sem,seval,Try.results13])|(refine qac ?_;simp only[go_sem,seval,Try.results13])|exact lexT|((try rw[qaa]);omega)
   ·rename_i h1
    simp only[false_eq_decide_iff]
    intro h2
    have:=h2.2.2 i hlt
    rw[h1] at this
    exact absurd this (by simp)
   ·rename_i h1
    refine⟨i+1,⟨by omega,fun j hj=>?_⟩,by omega,rfl⟩
    by_cases hji:j=i
    ·subst hji;exact h1
    ·exact hinv j (by omega)
  ·simp only[go_sem,seval,Try.results13]
   repeat' first|assumption|(simp (disch:=first|assumption|omega|(simp;done)|(simp;omega)) only[qae,qaj];try simp only[go_sem,seval,Try.results13])|(with_reducible first|apply And.intro|intro _)|(refine qac ?_;simp only[go_sem,seval,Try.results13])|exact lexT|((try rw[qaa]);omega)
   simp only[true_eq_decide_iff]
   exact⟨by omega,h.2,fun j hj=>hinv j (by omega)⟩
theorem Try.c_EqualI (a b:List Int):Pure Try.prog 29 [dIs a,dIs b] (.bool (decide (a=b))):=by
 refine qat (E:=Try.env 0) Try.tok rfl 1000 Try.func29 rfl rfl Try.ntmps29 (by simp) fun ok=>?_
 simp only[go_sem,seval] at ok
 simp only[go_sem,seval,Try.results29]
 refine⟨fun h=>?_,fun hlen=>?_⟩
 ·simp only[false_eq_decide_iff]
  rintro rfl
  exact h rfl
 refine qaH (E:=Try.env 0) Try.tok (σ:=Nat) (fun i=>[(11,.d (dIs a)),(12,.d (dI a.length)),(13,.d (dI i)),(0,.d (dIs a)),(1,.d (dIs b))]) (fun _=>[]) (fun i=>i≤a.length∧∀ j,j<i→a.getD j 0=b.getD j 0) (fun i=>a.length-i) [] 1000 1000 ?_ ?_ ?_
 ·simp only[go_sem,seval]
 ·simp only[go_sem,seval]
  exact⟨0,⟨by omega,by omega⟩,rfl⟩
 ·rintro i ⟨hi,hinv⟩
  by_cases hlt:i<a.length
  ·simp only[go_sem,seval,Try.results29]
   repeat' first|assumption|(simp (disch:=first|assumption|omega|(simp;done)|(simp;omega)) only[qae,qaj];try simp only[go_sem,seval,Try.results29])|(with_reducible first|apply And.intro|intro _)|(refine qac ?_;simp only[go_sem,seval,Try.results29])|exact lexT|((try rw[qaa]);omega)
   ·rename_i h1
    simp only[false_eq_decide_iff]
    rintro rfl
    exact h1 rfl
   ·rename_i h1
    exact qdi hlt h1 hinv
  ·simp only[go_sem,seval,Try.results29]
   repeat' first|assumption|(simp (disch:=first|assumption|omega|(simp;done)|(simp;omega)) only[qae,qaj];try simp only[go_sem,seval,Try.results29])|(with_reducible first|apply And.intro|intro _)|(refine qac ?_;simp only[go_sem,seval,Try.results29])|exact lexT|((try rw[qaa]);omega)
   simp only[true_eq_decide_iff]
   exact qcP 0 hlen fun j hj=>hinv j (by omega)
theorem Try.c_CloneI (l:List Int) (hl:l.length≤1048576):Pure Try.prog 30 [dIs l] (dIs l):=by
 refine qhn (T:=Try.tyT) Try.tok Try.func30 rfl rfl (by simp[Try.ntmps30]) ?_
 rw[Try.ntmps30]
 refine qh9 (E:=Try.env 0) (ks:=[]) (qht (qph Try.tok rfl rfl trivial (qmA (qh9 (qh9 (qht (qph Try.tok rfl rfl ?_ (qoo Try.tok rfl rfl ?_ rfl fun b hb=>qop Try.tok 1000 ?_))))))))
 ·simp only[go_sem,seval]
 ·simp only[go_sem,seval]
 ·simp only[go_sem,seval,Try.results30]
  exact⟨hb,fun h=>by omega⟩
theorem Try.c_sameTile (a b:Tcfg):Pure Try.prog 14 [dTc a,dTc b] (.bool (decide (a=b))):=by
 refine qat (E:=Try.env 0) Try.tok rfl 1000 Try.func14 rfl rfl Try.ntmps14 (by simp) fun ok=>?_
 simp only[go_sem,seval] at ok
 simp only[go_sem,seval,Try.results14]
 obtain⟨t,s,r,d⟩:=a
 obtain⟨t',s',r',d'⟩:=b
 repeat' first|assumption|(simp (disch:=first|assumption|omega|(simp;done)|(simp;omega)) only[qae,qaj];try simp only[go_sem,seval,Try.results14])|(with_reducible first|apply And.intro|intro _)|(refine qb4 (fun _=>Try.c_EqualI _ _) ?_;simp only[go_sem,seval,Try.results14])|(refine qac ?_;simp only[go_sem,seval,Try.results14])|exact lexT|((try rw[qaa]);omega)
 simp only[Tcfg.mk.injEq]
 by_cases h1:t=t' <;> by_cases h2:s=s' <;> by_cases h3:r=r' <;> by_cases h4:d=d' <;> simp[h1,h2,h3,h4]
theorem Try.c_copyTile (t:Tcfg) (h1:t.select.length≤1048576) (h2:t.drive.length≤1048576):Pure Try.prog 15 [dTc t] (dTc t):=by
 refine qat (E:=Try.env 0) Try.tok rfl 1000 Try.func15 rfl rfl Try.ntmps15 (by simp) fun ok=>?_
 simp only[go_sem,seval] at ok
 simp only[go_sem,seval,Try.results15]
 repeat' first|assumption|(simp (disch:=first|assumption|omega|(simp;done)|(simp;omega)) only[qae,qaj];try simp only[go_sem,seval,Try.results15])|(with_reducible first|apply And.intro|intro _)|(refine qcm (Try.c_CloneI _ (by omega)) ?_;simp only[go_sem,seval,Try.results15])|(refine qac ?_;simp only[go_sem,seval,Try.results15])|exact lexT|((try rw[qaa]);omega)
noncomputable def qcX (a b:Kcfg) (i:Nat):List (Int×Tcfg):=if a.tiles.getD i tc0=b.tiles.getD i tc0 then [] else [((i:Int),b.tiles.getD i tc0)]
noncomputable def qca (a b:Kcfg) (n:Nat):List (Int×Tcfg):=(List.range n).flatMap (qcX a b)
theorem qcj (a b:Kcfg) (n:Nat):qca a b (n+1)=qca a b n++qcX a b n:=by simp[qca,List.range_succ]
theorem qgY (a b:Kcfg) (n:Nat):(qca a b n).length≤n:=by
 induction n with
 | zero=>simp[qca]
 | succ n ih=>
  rw[qcj,List.length_append]
  have:(qcX a b n).length≤1:=by unfold qcX;split <;> simp
  omega
noncomputable def qb8 (a b:Kcfg):List (Int×Tcfg):=if a.ok∧b.ok then qca a b 25 else []
theorem Kcfg.ok_sizes {c:Kcfg}(h:c.ok) {i:Nat}(hi:i<25):(c.tiles.getD i tc0).select.length=3∧(c.tiles.getD i tc0).drive.length=8:=by
 have:=Tcfg.ok_iff.1 (h.2.2 i (by have:=h.1;omega))
 exact⟨this.2.1,this.2.2.1⟩
theorem Try.c_DiffFrames (a b:Kcfg):Pure Try.prog 5 [dK a,dK b] (dFrs (qb8 a b)):=by
 have ha:=Try.c_ConfigValid a
 have hb:=Try.c_ConfigValid b
 refine qat (E:=Try.env 0) Try.tok rfl 1000 Try.func5 rfl rfl Try.ntmps5 (by simp) fun ok=>?_
 simp only[go_sem,seval] at ok
 simp only[go_sem,seval,Try.results5]
 repeat' first|assumption|(simp (disch:=first|assumption|omega|(simp;done)|(simp;omega)) only[qae,qaj];try simp only[go_sem,seval,Try.results5])|(with_reducible first|apply And.intro|intro _)|(refine qag ha ?_;simp only[go_sem,seval,Try.results5])|(refine qb4 (fun _=>hb) ?_;simp only[go_sem,seval,Try.results5])|(refine qac ?_;simp only[go_sem,seval,Try.results5])|exact lexT|((try rw[qaa]);omega)
 ·rename_i h
  rw[qb8,if_neg (by rintro⟨h1,h2⟩;rcases h with h|h <;> contradiction)]
  rfl
 rename_i h
 have ed:qb8 a b=qca a b 25:=if_pos h
 rw[ed]
 have hla:a.tiles.length=25:=h.1.1
 have hlb:b.tiles.length=25:=h.2.1
 refine qas (E:=Try.env 0) Try.tok (σ:=Nat) (fun i=>[(2,.ptr 0 0),(3,.ptr 1 0),(5,.sl 2 (qca a b i).length 5 0 (qca a b i).length),(16,.d (dTcs a.tiles)),(17,.d (dI a.tiles.length)),(18,.d (dI i))])
  (fun i=>[.box [.d (dTcs a.tiles),.d (dQs a.pads)],.box [.d (dTcs b.tiles),.d (dQs b.pads)],.row (qca a b i).length 5 true ((qca a b i).map fun x=>dFp x)]) (fun i=>i≤25) (fun i=>25-i) [] [(5,5,true)] 1000 1000 ?_ ?_
 ·simp only[go_sem,seval]
  exact⟨0,by omega,by simp[qca]⟩
 ·intro i hi
  have hdl:=qgY a b i
  by_cases hlt:i<25
  ·obtain⟨s1,s2⟩:=Kcfg.ok_sizes h.2 hlt
   have hcp:=Try.c_copyTile (b.tiles.getD i tc0) (by omega) (by omega)
   have hst:=Try.c_sameTile (a.tiles.getD i tc0) (b.tiles.getD i tc0)
   simp only[go_sem,seval,Try.results5]
   repeat' first|assumption|(simp (disch:=first|assumption|omega|(simp;done)|(simp;omega)) only[qae,qaj];try simp only[go_sem,seval,Try.results5,hla,hlb])|(with_reducible first|apply And.intro|intro _)|(refine qbP (fun _=>⟨hst,trivial⟩) ?_;simp only[go_sem,seval,Try.results5,hla,hlb])|(refine qcm hcp ?_;simp only[go_sem,seval,Try.results5,hla,hlb])|(refine qac ?_;simp only[go_sem,seval,Try.results5,hla,hlb])|exact lexT|((try rw[qaa]);omega)
   ·rename_i h9
    have e1:qcX a b i=[((i:Int),b.tiles.getD i tc0)]:=if_neg h9
    have e2:=qcj a b i
    rw[e1] at e2
    refine⟨i+1,by omega,by omega,⟨by rw[e2];simp,rfl⟩,by rw[e2];simp,?_⟩
    rw[e2,List.map_append]
    rfl
   ·rename_i h9
    have e1:qcX a b i=[]:=if_pos h9
    have e2:=qcj a b i
    rw[e1,List.append_nil] at e2
    exact⟨i+1,by omega,by omega,⟨by rw[e2],rfl⟩,by rw[e2],by rw[e2]⟩
  ·simp only[go_sem,seval,Try.results5]
   repeat' first|assumption|(simp (disch:=first|assumption|omega|(simp;done)|(simp;omega)) only[qae,qaj];try simp only[go_sem,seval,Try.results5,hla,hlb])|(with_reducible first|apply And.intro|intro _)|(refine qac ?_;simp only[go_sem,seval,Try.results5,hla,hlb])|exact lexT|((try rw[qaa]);omega)
   rw[show i=25 by omega]
theorem Try.c_sConfigValid (c:Kcfg):Pure Try.prog 7 [dK c] (.bool (decide c.ok)):=by
 refine qat (E:=Try.env 0) Try.tok rfl 1000 Try.func7 rfl rfl Try.ntmps7 (by simp) fun ok=>?_
 simp only[go_sem,seval] at ok
 simp only[go_sem,seval,Try.results7]
 repeat' first|assumption|(simp (disch:=first|assumption|omega|(simp;done)|(simp;omega)) only[qae,qaj];try simp only[go_sem,seval,Try.results7])|(with_reducible first|apply And.intro|intro _)|(refine qac ?_;simp only[go_sem,seval,Try.results7])|exact lexT|((try rw[qaa]);omega)
 ·rename_i h
  simp only[false_eq_decide_iff]
  intro h2
  rcases h with h|h
  ·exact h (by have:=h2.1;omega)
  ·exact h (by have:=h2.2.1.1;omega)
 rename_i h
 refine qaH (E:=Try.env 0) Try.tok (σ:=Nat) (fun i=>[(1,.ptr 0 0),(3,.d (dI i))]) (fun _=>[.box [.d (dTcs c.tiles),.d (dQs c.pads)]]) (fun i=>i≤c.tiles.length∧∀ j,j<i→(c.tiles.getD j tc0).ok (j:Int)=true) (fun i=>c.tiles.length-i) [] 1000 1000 ?_ ?_ ?_
 ·simp only[go_sem,seval]
 ·simp only[go_sem,seval]
  exact⟨0,⟨by omega,fun j hj=>absurd hj (by omega)⟩,rfl⟩
 ·rintro i ⟨hi,hinv⟩
  by_cases hlt:i<c.tiles.length
  ·simp only[go_sem,seval,Try.results7]
   repeat' first|assumption|(simp (disch:=first|assumption|omega|(simp;done)|(simp;omega)) only[qae,qaj];try simp only[go_sem,seval,Try.results7])|(with_reducible first|apply And.intro|intro _)|(refine qag (Try.c_l9Tile _ (i:Int) (by omega)) ?_;simp only[go_sem,seval,Try.results7])|(refine qac ?_;simp only[go_sem,seval,Try.results7])|exact lexT|((try rw[qaa]);omega)
   ·rename_i h1
    simp only[false_eq_decide_iff]
    intro h2
    have:=h2.2.2 i hlt
    rw[h1] at this
    exact absurd this (by simp)
   ·rename_i h1
    refine⟨i+1,⟨by omega,fun j hj=>?_⟩,by omega,rfl⟩
    by_cases hji:j=i
    ·subst hji;exact h1
    ·exact hinv j (by omega)
  ·simp only[go_sem,seval,Try.results7]
   repeat' first|assumption|(simp (disch:=first|assumption|omega|(simp;done)|(simp;omega)) only[qae,qaj];try simp only[go_sem,seval,Try.results7])|(with_reducible first|apply And.intro|intro _)|(refine qac ?_;simp only[go_sem,seval,Try.results7])|exact lexT|((try rw[qaa]);omega)
   have ht : ∀ j,j<c.tiles.length→(c.tiles.getD j tc0).ok (j:Int)=true:=fun j hj=>hinv j (by omega)
   clear hinv hi hlt
   refine qaH (E:=Try.env 0) Try.tok (σ:=Nat) (fun i=>[(1,.ptr 0 0),(4,.d (dI i))]) (fun _=>[.box [.d (dTcs c.tiles),.d (dQs c.pads)]]) (fun i=>i≤c.pads.length∧∀ j,j<i→qbB (c.pads.getD j (0,false)).1=true) (fun i=>c.pads.length-i) [] 1000 1000 ?_ ?_ ?_
   ·simp only[go_sem,seval]
   ·simp only[go_sem,seval]
    exact⟨0,⟨by omega,fun j hj=>absurd hj (by omega)⟩,rfl⟩
   ·rintro i ⟨hi,hinv⟩
    by_cases hlt:i<c.pads.length
    ·simp only[go_sem,seval,Try.results7]
     repeat' first|assumption|(simp (disch:=first|assumption|omega|(simp;done)|(simp;omega)) only[qae,qaj];try simp only[go_sem,seval,Try.results7])|(with_reducible first|apply And.intro|intro _)|(refine qag (Try.c_l9Track _) ?_;simp only[go_sem,seval,Try.results7])|(refine qac ?_;simp only[go_sem,seval,Try.results7])|exact lexT|((try rw[qaa]);omega)
     ·rename_i h1
      simp only[false_eq_decide_iff]
      intro h2
      have:=h2.2.1.2 i hlt
      rw[h1] at this
      exact absurd this (by simp)
     ·rename_i h1
      refine⟨i+1,⟨by omega,fun j hj=>?_⟩,by omega,rfl⟩
      by_cases hji:j=i
      ·subst hji;exact h1
      ·exact hinv j (by omega)
    ·simp only[go_sem,seval,Try.results7]
     repeat' first|assumption|(simp (disch:=first|assumption|omega|(simp;done)|(simp;omega)) only[qae,qaj];try simp only[go_sem,seval,Try.results7])|(with_reducible first|apply And.intro|intro _)|(refine qac ?_;simp only[go_sem,seval,Try.results7])|exact lexT|((try rw[qaa]);omega)
     simp only[true_eq_decide_iff]
     exact⟨by omega,⟨by omega,fun j hj=>hinv j (by omega)⟩,ht⟩
theorem Try.c_l23Tile (t:Tcfg) (h1:t.select.length≤1048576) (h2:t.drive.length≤1048576):Pure Try.prog 17 [dTc t] (dTc t):=by
 refine qat (E:=Try.env 0) Try.tok rfl 1000 Try.func17 rfl rfl Try.ntmps17 (by simp) fun ok=>?_
 simp only[go_sem,seval] at ok
 simp only[go_sem,seval,Try.results17]
 refine qmE (E:=Try.env 0) Try.tok Try.follows 1000 1000 [13] (.fst 0 (.fst 3 (.fst 6 (.fst 9 (.fst 1 (.fst 4 (.fst 7 (.fst 10 (.two 2 (.two 5 (.one 8 (.one 11 (.fst 12 (.one 13 (.done))))) 8 (.one 5 (.one 11 (.fst 12 (.one 13 (.done)))))) 8 (.one 2 (.one 5 (.one 11 (.fst 12 (.one 13 (.done))))))))))))))) (by kernel_rfl) ?_
 simp only[go_sem,seval,Try.results17]
 repeat' first|assumption|(simp (disch:=first|assumption|omega|(simp;done)|(simp;omega)) only[qae,qaj];try simp only[go_sem,seval,Try.results17])|(with_reducible first|apply And.intro|intro _)|(refine qac ?_;simp only[go_sem,seval,Try.results17])|exact lexT|((try rw[qaa]);omega)
theorem Try.c_l23Same (a b:Tcfg):Pure Try.prog 16 [dTc a,dTc b] (.bool (decide (a=b))):=by
 refine qat (E:=Try.env 0) Try.tok rfl 1000 Try.func16 rfl rfl Try.ntmps16 (by simp) fun ok=>?_
 obtain⟨t,s,r,d⟩:=a
 obtain⟨t',s',r',d'⟩:=b
 simp only[go_sem,seval] at ok
 simp only[go_sem,seval,Try.results16]
 repeat' first|assumption|(simp (disch:=first|assumption|omega|(simp;done)|(simp;omega)) only[qae,qaj];try simp only[go_sem,seval,Try.results16])|(with_reducible first|apply And.intro|intro _)|(refine qac ?_;simp only[go_sem,seval,Try.results16])|exact lexT|((try rw[qaa]);omega)
 ·rename_i h
  simp only[false_eq_decide_iff,Tcfg.mk.injEq]
  rintro⟨rfl,rfl,rfl,rfl⟩
  simp at h
 rename_i h
 refine qaH (E:=Try.env 0) Try.tok (σ:=Nat) (fun i=>[(2,.ptr 0 0),(3,.ptr 1 0),(5,.d (dI i))]) (fun _=>[.box [.d (dI t),.d (dIs s),.d (dB r),.d (dIs d)],.box [.d (dI t'),.d (dIs s'),.d (dB r'),.d (dIs d')]]) (fun i=>i≤s.length∧∀ j,j<i→s.getD j 0=s'.getD j 0) (fun i=>s.length-i) [] 1000 1000 ?_ ?_ ?_
 ·simp only[go_sem,seval]
 ·simp only[go_sem,seval]
  exact⟨0,⟨by omega,by omega⟩,rfl⟩
 ·rintro i ⟨hi,hinv⟩
  by_cases hlt:i<s.length
  ·simp only[go_sem,seval,Try.results16]
   repeat' first|assumption|(simp (disch:=first|assumption|omega|(simp;done)|(simp;omega)) only[qae,qaj];try simp only[go_sem,seval,Try.results16])|(with_reducible first|apply And.intro|intro _)|(refine qac ?_;simp only[go_sem,seval,Try.results16])|exact lexT|((try rw[qaa]);omega)
   ·rename_i h1
    simp only[false_eq_decide_iff,Tcfg.mk.injEq]
    rintro⟨rfl,rfl,rfl,rfl⟩
    exact h1 rfl
   ·rename_i h1
    exact qdi hlt h1 hinv
  ·simp only[go_sem,seval,Try.results16]
   repeat' first|assumption|(simp (disch:=first|assumption|omega|(simp;done)|(simp;omega)) only[qae,qaj];try simp only[go_sem,seval,Try.results16])|(with_reducible first|apply And.intro|intro _)|(refine qac ?_;simp only[go_sem,seval,Try.results16])|exact lexT|((try rw[qaa]);omega)
   have e1:s=s':=qcP 0 h.1.2 fun j hj=>hinv j (by omega)
   clear hinv hi hlt
   refine qaH (E:=Try.env 0) Try.tok (σ:=Nat) (fun i=>[(2,.ptr 0 0),(3,.ptr 1 0),(6,.d (dI i))]) (fun _=>[.box [.d (dI t),.d (dIs s),.d (dB r),.d (dIs d)],.box [.d (dI t'),.d (dIs s'),.d (dB r'),.d (dIs d')]]) (fun i=>i≤d.length∧∀ j,j<i→d.getD j 0=d'.getD j 0) (fun i=>d.length-i) [] 1000 1000 ?_ ?_ ?_
   ·simp only[go_sem,seval]
   ·simp only[go_sem,seval]
    exact⟨0,⟨by omega,by omega⟩,rfl⟩
   ·rintro i ⟨hi,hinv⟩
    by_cases hlt:i<d.length
    ·simp only[go_sem,seval,Try.results16]
     repeat' first|assumption|(simp (disch:=first|assumption|omega|(simp;done)|(simp;omega)) only[qae,qaj];try simp only[go_sem,seval,Try.results16])|(with_reducible first|apply And.intro|intro _)|(refine qac ?_;simp only[go_sem,seval,Try.results16])|exact lexT|((try rw[qaa]);omega)
     ·rename_i h1
      simp only[false_eq_decide_iff,Tcfg.mk.injEq]
      rintro⟨rfl,rfl,rfl,rfl⟩
      exact h1 rfl
     ·rename_i h1
      exact qdi hlt h1 hinv
    ·simp only[go_sem,seval,Try.results16]
     repeat' first|assumption|(simp (disch:=first|assumption|omega|(simp;done)|(simp;omega)) only[qae,qaj];try simp only[go_sem,seval,Try.results16])|(with_reducible first|apply And.intro|intro _)|(refine qac ?_;simp only[go_sem,seval,Try.results16])|exact lexT|((try rw[qaa]);omega)
     have e2:d=d':=qcP 0 h.2 fun j hj=>hinv j (by omega)
     simp only[true_eq_decide_iff,Tcfg.mk.injEq]
     exact⟨h.1.1.1,e1,h.1.1.2,e2⟩
theorem Try.c_sDiffFrames (a b:Kcfg):PureF Try.prog 6 [dK a,dK b] (dFrs (qb8 a b)):=by
 have ha:=Try.c_sConfigValid a
 have hb:=Try.c_sConfigValid b
 refine qde (E:=Try.env 0) Try.tok rfl 1000 Try.func6 rfl rfl Try.ntmps6 (by simp) fun ok=>?_
 simp only[go_sem,seval] at ok
 simp only[go_sem,seval,Try.results6]
 repeat' first|assumption|(simp (disch:=first|assumption|omega|(simp;done)|(simp;omega)) only[qae,qaj];try simp only[go_sem,seval,Try.results6])|(with_reducible first|apply And.intro|intro _)|(refine qag ha ?_;simp only[go_sem,seval,Try.results6])|(refine qb4 (fun _=>hb) ?_;simp only[go_sem,seval,Try.results6])|(refine qac ?_;simp only[go_sem,seval,Try.results6])|exact lexT|((try rw[qaa]);omega)
 ·rename_i h
  rw[qb8,if_neg (by rintro⟨h1,h2⟩;rcases h with h|h <;> contradiction)]
  rfl
 rename_i h
 have ed:qb8 a b=qca a b 25:=if_pos h
 rw[ed]
 have hla:a.tiles.length=25:=h.1.1
 have hlb:b.tiles.length=25:=h.2.1
 refine qaH (E:=Try.env 0) Try.tok (σ:=Nat) (fun i=>[(2,.ptr 0 0),(3,.ptr 1 0),(5,.sl 2 (qca a b i).length 5 0 (qca a b i).length),(6,.d (dI i))])
  (fun i=>[.box [.d (dTcs a.tiles),.d (dQs a.pads)],.box [.d (dTcs b.tiles),.d (dQs b.pads)],.row (qca a b i).length 5 false ((qca a b i).map fun x=>dFp x)]) (fun i=>i≤25) (fun i=>25-i) [] 1000 1000 ?_ ?_ ?_
 ·simp only[go_sem,seval]
 ·simp only[go_sem,seval]
  exact⟨0,by omega,by simp[qca]⟩
 ·intro i hi
  have hdl:=qgY a b i
  by_cases hlt:i<25
  ·obtain⟨s1,s2⟩:=Kcfg.ok_sizes h.2 hlt
   have hcp:=Try.c_l23Tile (b.tiles.getD i tc0) (by omega) (by omega)
   have hst:=Try.c_l23Same (a.tiles.getD i tc0) (b.tiles.getD i tc0)
   simp only[go_sem,seval,Try.results6]
   repeat' first|assumption|(simp (disch:=first|assumption|omega|(simp;done)|(simp;omega)) only[qae,qaj];try simp only[go_sem,seval,Try.results6,hla,hlb])|(with_reducible first|apply And.intro|intro _)|(refine qbP (fun _=>⟨hst,trivial⟩) ?_;simp only[go_sem,seval,Try.results6,hla,hlb])|(refine qag hcp ?_;simp only[go_sem,seval,Try.results6,hla,hlb])|(refine qac ?_;simp only[go_sem,seval,Try.results6,hla,hlb])|exact lexT|((try rw[qaa]);omega)
   ·rename_i h9
    have e1:qcX a b i=[((i:Int),b.tiles.getD i tc0)]:=if_neg h9
    have e2:=qcj a b i
    rw[e1] at e2
    refine⟨i+1,by omega,by omega,⟨by rw[e2];simp,rfl⟩,by rw[e2];simp,?_⟩
    rw[e2,List.map_append]
    rfl
   ·rename_i h9
    have e1:qcX a b i=[]:=if_pos h9
    have e2:=qcj a b i
    rw[e1,List.append_nil] at e2
    exact⟨i+1,by omega,by omega,⟨by rw[e2],rfl⟩,by rw[e2],by rw[e2]⟩
  ·simp only[go_sem,seval,Try.results6]
   repeat' first|assumption|(simp (disch:=first|assumption|omega|(simp;done)|(simp;omega)) only[qae,qaj];try simp only[go_sem,seval,Try.results6,hla,hlb])|(with_reducible first|apply And.intro|intro _)|(refine qac ?_;simp only[go_sem,seval,Try.results6,hla,hlb])|exact lexT|((try rw[qaa]);omega)
   rw[show i=25 by omega]
end Go.Proofs

set_option maxRecDepth 20000
set_option linter.unusedVariables false
set_option linter.unusedSimpArgs false
namespace Go.Proofs
open Go Go.VL
theorem qj0 (a b:Kcfg):(qb8 a b).length≤25:=by
 unfold qb8;split
 ·exact qgY a b 25
 ·simp
end Go.Proofs

set_option maxRecDepth 20000
set_option linter.unusedVariables false
set_option linter.unusedSimpArgs false
namespace Go.Proofs
open Go Go.VL
def Kcfg.small (c:Kcfg):Prop:=c.tiles.length≤1048576∧c.pads.length≤1048576∧∀ j,j<c.tiles.length→(c.tiles.getD j tc0).select.length≤1048576∧(c.tiles.getD j tc0).drive.length≤1048576
end Go.Proofs

set_option maxRecDepth 20000
set_option linter.unusedVariables false
set_option linter.unusedSimpArgs false
namespace Go.Proofs
open Go Go.VL
def frOk (p:Int×Tcfg):Bool:=(decide (0≤p.1)&&decide (p.1≤24))&&p.2.ok p.1
def frsOk (l:List (Int×Tcfg)):Prop:=∀ j,j<l.length→frOk (l.getD j (0,tc0))=true
noncomputable instance (l:List (Int×Tcfg)):Decidable (frsOk l):=Classical.propDecidable _
def qd5 (l:List Tcfg) (fs:List (Int×Tcfg)):List Tcfg:=fs.foldl (fun l f=>l.set f.1.toNat f.2) l
theorem qlq (fs:List (Int×Tcfg)) : ∀ (l:List Tcfg),(qd5 l fs).length=l.length:=by
 induction fs with
 | nil=>exact fun l=>rfl
 | cons d r ih=>
  intro l
  show(qd5 (l.set d.1.toNat d.2) r).length=_
  rw[ih,List.length_set]
def applyOk (c:Kcfg) (fs:List (Int×Tcfg)) (ps:List (Int×Bool)):Prop:=c.ok∧qhH ps∧frsOk fs
noncomputable instance (c:Kcfg) (fs:List (Int×Tcfg)) (ps:List (Int×Bool)):Decidable (applyOk c fs ps):=Classical.propDecidable _
end Go.Proofs
