/- Contracts, plain definitions and lemmas. Conditions: none; lemmas. -/
import Derived.Test.YteikeianenfhaaaGreatC46
import Derived.Test.YteikeianenfhaaaGreatC7
import Derived.Test.YteikeianenfhaaaGreatVM8
set_option maxRecDepth 20000
set_option linter.unusedSimpArgs false
set_option linter.unusedVariables false
set_option maxHeartbeats 2000000
namespace Go.Proofs
set_option linter.defProp false
open Go Go.VL Tryz
variable {c:Kcfg}{i f a b:Nat}{α:Type}{l:List Tcfg}{v:Int}
def qjR (l:List (Int×Bool)):Prop:=l.length=3/\∀ j,j<l.length->qcM (l.getD j (0,false)).1=true
def Kcfg.ok (c:Kcfg):Prop:=c.tiles.length=25/\qjR c.pads/\∀ j,j<c.tiles.length->(c.tiles.getD j tc0).ok (j:Int)=true
noncomputable instance (l:List (Int×Bool)):Decidable (qjR l):=Classical.propDecidable _
noncomputable instance (c:Kcfg):Decidable c.ok:=Classical.propDecidable _
def Tryz.c_padsValid (l:List (Int×Bool)):Pure prog 123 [dQs l] (.bool (decide (qjR l))):=by
 refine qax func123 rfl ntmps123 fun ok=>?_
 simp only[go_sem,seval] at ok⊢;refine qaw (E:=env 0) tok (σ:=Nat) (fun i=>[(5,.d (dQs l)),(6,.d (dI l.length)),(7,.d (dI i)),(0,.d (dQs l))]) (fun _=>[]) (fun i=>i<=l.length/\∀ j,j<i->qcM (l.getD j (0,false)).1=true) (fun i=>l.length-i) [] 1000 1000 ?_ ?_ ?_
 ·simp only[go_sem,seval]
 ·simp only[go_sem,seval];exact⟨0,⟨by omega,fun j hj=>absurd hj (by omega)⟩,rfl⟩
 ·rintro i ⟨hi,hinv⟩;by_cases hlt:i<l.length
  ·repeat' first|assumption|(simp (disch:=first|assumption|omega|(simp;done)|(simp;omega)) only[go_sem,seval,qam,qap])|(with_reducible first|apply And.intro|intro _)|(refine qac (c_isTrack _) ?_)|exact lexT|((try rw[qaa]);omega)
   ·rename_i h1;simp only[false_eq_decide_iff];intro h2;have:=h2.2 i hlt;rw[h1] at this;exact absurd this (by simp)
   ·rename_i h1;refine⟨i+1,⟨by omega,fun j hj=>?_⟩,by omega,rfl⟩;by_cases hji:j=i
    ·subst hji;exact h1
    ·exact hinv j (by omega)
  ·repeat' first|assumption|(simp (disch:=first|assumption|omega|(simp;done)|(simp;omega)) only[go_sem,seval,qam,qap])|(with_reducible first|apply And.intro|intro _)|exact lexT|((try rw[qaa]);omega)
   have:qjR l↔(l.length:Int)=3:=⟨fun h=>by have:=h.1;omega,fun h=>⟨by omega,fun j hj=>hinv j (by omega)⟩⟩;by_cases h3:(l.length:Int)=3
   ·simp[h3,this.2 h3]
   ·simp[h3,show ¬ qjR l from fun h=>h3 (this.1 h)]
def Tryz.c_ConfigValid (c:Kcfg):Pure prog 64 [dK c] (.bool (decide c.ok)):=by
 have hp:=c_padsValid c.pads;refine qax func64 rfl ntmps64 fun ok=>?_
 simp only[go_sem,seval] at ok
 repeat' first|assumption|(simp (disch:=first|assumption|omega|(simp;done)|(simp;omega)) only[go_sem,seval,qam,qap])|(with_reducible first|apply And.intro|intro _)|(refine qaN (fun _=>hp) ?_)|exact lexT|((try rw[qaa]);omega)
 ·rename_i h;simp only[false_eq_decide_iff];intro h2;rcases h with h|h
  ·exact h (by have:=h2.1;omega)
  ·exact h h2.2.1
 rename_i h;refine qaw (E:=env 0) tok (σ:=Nat) (fun i=>[(1,.ptr 0 0),(16,.d (dTcs c.tiles)),(17,.d (dI c.tiles.length)),(18,.d (dI i))]) (fun _=>[.box [.d (dTcs c.tiles),.d (dQs c.pads)]]) (fun i=>i<=c.tiles.length/\∀ j,j<i->(c.tiles.getD j tc0).ok (j:Int)=true) (fun i=>c.tiles.length-i) [] 1000 1000 ?_ ?_ ?_
 ·simp only[go_sem,seval]
 ·simp only[go_sem,seval];exact⟨0,⟨by omega,fun j hj=>absurd hj (by omega)⟩,rfl⟩
 ·rintro i ⟨hi,hinv⟩;by_cases hlt:i<c.tiles.length
  ·repeat' first|assumption|(simp (disch:=first|assumption|omega|(simp;done)|(simp;omega)) only[go_sem,seval,qam,qap])|(with_reducible first|apply And.intro|intro _)|(refine qac (c_tileValid _ (i:Int) (by omega)) ?_)|exact lexT|((try rw[qaa]);omega)
   ·rename_i h1;simp only[false_eq_decide_iff];intro h2;have:=h2.2.2 i hlt;rw[h1] at this;exact absurd this (by simp)
   ·rename_i h1;refine⟨i+1,⟨by omega,fun j hj=>?_⟩,by omega,rfl⟩;by_cases hji:j=i
    ·subst hji;exact h1
    ·exact hinv j (by omega)
  ·repeat' first|assumption|(simp (disch:=first|assumption|omega|(simp;done)|(simp;omega)) only[go_sem,seval,qam,qap])|(with_reducible first|apply And.intro|intro _)|exact lexT|((try rw[qaa]);omega)
   simp only[true_eq_decide_iff];exact⟨by omega,h.2,fun j hj=>hinv j (by omega)⟩
def Tryz.c_CloneI (l:List Int) (hl:l.length<=1048576):Pure prog 173 [dIs l] (dIs l):=by
 refine qfx (T:=tyT) tok func173 rfl rfl (by simp[ntmps173]) ?_;rw[ntmps173];refine qdv (E:=env 0) (ks:=[]) (qdF (qjH tok rfl rfl trivial (qiF (qdv (qdv (qdF (qjH tok rfl rfl ?_ (qkw tok rfl rfl ?_ rfl fun b hb=>qkx tok 1000 ?_))))))))
 ·simp only[go_sem,seval]
 ·simp only[go_sem,seval]
 ·simp only[go_sem,seval];exact⟨hb,fun h=>by omega⟩
def Tryz.c_CloneQ (l:List (Int×Bool)) (hl:l.length<=1048576):Pure prog 150 [dQs l] (dQs l):=by
 refine qfx (T:=tyT) tok func150 rfl rfl (by simp[ntmps150]) ?_;rw[ntmps150];refine qdv (E:=env 0) (ks:=[]) (qdF (qjH tok rfl rfl trivial (qiF (qdv (qdv (qdF (qjH tok rfl rfl ?_ (qkw tok rfl rfl ?_ rfl fun b hb=>qkx tok 1000 ?_))))))))
 ·simp only[go_sem,seval]
 ·simp only[go_sem,seval]
 ·simp only[go_sem,seval];exact⟨hb,fun h=>by omega⟩
def Tryz.c_copyTile (t:Tcfg) (h1:t.select.length<=1048576) (h2:t.drive.length<=1048576):Pure prog 151 [dTc t] (dTc t):=by
 refine qax func151 rfl ntmps151 fun ok=>?_
 simp only[go_sem,seval] at ok
 repeat' first|assumption|(simp (disch:=first|assumption|omega|(simp;done)|(simp;omega)) only[go_sem,seval,qam,qap])|(with_reducible first|apply And.intro|intro _)|(refine qbr (c_CloneI _ (by omega)) ?_)|exact lexT|((try rw[qaa]);omega)
def Kcfg.ok_sizes (h:c.ok) (hi:i<25):(c.tiles.getD i tc0).select.length=3/\(c.tiles.getD i tc0).drive.length=8:=by
 have:=Tcfg.ok_iff.1 (h.2.2 i (by have:=h.1;omega));exact⟨this.2.1,this.2.2.1⟩

def Tryz.shp_KDefect (y:D) (h:shp tyT (f+2) 171 y) : ∃ a:Int×Int,y=dP a:=by
 obtain⟨ys,rfl,k0⟩:=shp_struct ty171 h;obtain⟨y1,r1,rfl,h1,k1⟩:=qhG k0;obtain⟨y2,r2,rfl,h2,k2⟩:=qhG k1;obtain rfl:=qpB k2;obtain⟨n,rfl⟩:=shp_int ty3 h1;obtain⟨m,rfl⟩:=shp_int ty3 h2;exact⟨(n,m),rfl⟩
def Tryz.shp_KDefects (y:D) (h:shp tyT (f+3) 92 y) : ∃ l:List (Int×Int),y=dPs l:=
 shp_slice ty92 ty171 shp_KDefect h

def Kcfg.small (c:Kcfg):Prop:=c.tiles.length<=1048576/\c.pads.length<=1048576/\∀ j,j<c.tiles.length->(c.tiles.getD j tc0).select.length<=1048576/\(c.tiles.getD j tc0).drive.length<=1048576
def Kcfg.ok_small (h:c.ok):c.small:=by
 refine⟨by have:=h.1;omega,by have:=h.2.1.1;omega,fun j hj=>?_⟩;obtain⟨s1,s2⟩:=Kcfg.ok_sizes h (i:=j) (by have:=h.1;omega);omega
def qkH {β:Type}{f : α->β}{l:List α}(z : α) (h:i<l.length):(l.take (i+1)).map f=(l.take i).map f ++ [f (l.getD i z)]:=by
 rw[yaB h,yaz];simp[List.getD,h]
def Tryz.c_copyConfig (c:Kcfg) (h:c.small):Pure prog 82 [dK c] (dK c):=by
 have hq:=c_CloneQ c.pads h.2.1;refine qax func82 rfl ntmps82 fun ok=>?_
 simp only[go_sem,seval] at ok
 repeat' first|assumption|(simp (disch:=first|assumption|omega|(simp;done)|(simp;omega)) only[go_sem,seval,yaa,qam])|(with_reducible first|apply And.intro|intro _)|(refine qbr hq ?_)|((try rw[qaa]);omega)
 refine qaf (E:=env 0) tok (σ:=Nat) (fun i=>[(0,.d (dK c)),(1,.ptr 0 0),(2,.ptr 1 0),(3,.ptr 3 0),(11,.d (dTcs c.tiles)),(12,.d (dI c.tiles.length)),(13,.d (dI i))])
  (fun i=>[.box [.d (dTcs c.tiles),.d (dQs c.pads)],.box [.d .nil,.d .nil],.row 0 2 true (c.pads.map fun x=>dQ x),.box [.sl 4 i 4 0 i,.sl 2 0 2 0 c.pads.length],.row i 4 true ((c.tiles.take i).map fun x=>dTc x)]) (fun i=>i<=c.tiles.length) (fun i=>c.tiles.length-i) [(3,0,4,true)] [] 1000 1000 ?_ ?_
 ·simp only[go_sem,seval];exact⟨0,by omega,by simp⟩
 ·intro i hi;have hl1:=h.1;have hl2:=h.2.1;by_cases hlt:i<c.tiles.length
  ·obtain⟨s1,s2⟩:=h.2.2 i hlt
   repeat' first|assumption|(simp (disch:=first|assumption|omega|(simp;done)|(simp;omega)) only[go_sem,seval,yaa,qam])|(with_reducible first|apply And.intro|intro _)|((try rw[qaa]);omega)
   refine qpJ (E:=env 0) tok Tryz.follows 1000 1000 [7] (.fst 0 (.fst 1 (.fst 2 (.one 3 (.one 4 (.one 5 (.fst 6 (.one 7 (.done))))))))) (by kernel_rfl) ?_
   repeat' first|assumption|(simp (disch:=first|assumption|omega|(simp;done)|(simp;omega)) only[go_sem,seval,yaa,qam])|(with_reducible first|apply And.intro|intro _)|(refine qbr (c_copyTile _ s1 s2) ?_)|((try rw[qaa]);omega)
   ·simp;omega
   ·exact⟨i+1,by omega,by omega,rfl,rfl,rfl,(qkH tc0 hlt).symm⟩
  ·repeat' first|assumption|(simp (disch:=first|assumption|omega|(simp;done)|(simp;omega)) only[go_sem,seval,yaa,qam])|(with_reducible first|apply And.intro|intro _)|((try rw[qaa]);omega)
def setW (l:List Tcfg) (t:Nat) (k:Nat) (v:Int):List Tcfg:=l.set t { l.getD t tc0 with drive:=(l.getD t tc0).drive.set k v }
def qcm (l:List Tcfg) (ds:List (Int×Int)):List Tcfg:=ds.foldl (fun l d=>setW l d.1.toNat d.2.toNat 0) l
def qkI:(setW l a b v).length=l.length:=by simp[setW]
def qnw (j:Nat):(setW l a b v).getD j tc0=if j=a/\j<l.length then { l.getD a tc0 with drive:=(l.getD a tc0).drive.set b v } else l.getD j tc0:=by
 unfold setW;by_cases h:j=a
 ·subst h;by_cases h2:j<l.length
  ·rw[if_pos ⟨rfl,h2⟩,qak h2]
  ·rw[if_neg (by omega),yaY (by omega)]
 ·rw[if_neg (by omega),qbG (Ne.symm h)]
def qhk (ds:List (Int×Int)) : ∀ (l:List Tcfg),(qcm l ds).length=l.length:=by
 induction ds with
 | nil=>exact fun l=>rfl
 | cons d r ih=>
  intro l;show(qcm (setW l d.1.toNat d.2.toNat 0) r).length=_
  rw[ih,qkI]
def qmI (l:List Tcfg) (ds:List (Int×Int)) (h:i<ds.length) :
  qcm l (ds.take (i+1))=setW (qcm l (ds.take i)) (ds.getD i (0,0)).1.toNat (ds.getD i (0,0)).2.toNat 0:=by
 rw[yaB h,qcm,yaM];simp[List.getD,h,qcm]
def qhK (ds:List (Int×Int)) : ∀ (l:List Tcfg) (j:Nat),((qcm l ds).getD j tc0).select=(l.getD j tc0).select/\((qcm l ds).getD j tc0).drive.length=(l.getD j tc0).drive.length/\
  ((qcm l ds).getD j tc0).table=(l.getD j tc0).table/\((qcm l ds).getD j tc0).reg=(l.getD j tc0).reg:=by
 induction ds with
 | nil=>exact fun l j=>⟨rfl,rfl,rfl,rfl⟩
 | cons d r ih=>
  intro l j;have:=ih (setW l d.1.toNat d.2.toNat 0) j;rw[qnw] at this;by_cases h:j=d.1.toNat/\j<l.length
  ·rw[if_pos h] at this;obtain⟨rfl,h2⟩:=h;have e:qcm l (d::r)=qcm (setW l d.1.toNat d.2.toNat 0) r:=rfl;rw[e];simpa using this
  ·rw[if_neg h] at this;exact this
def qnx (c:Kcfg) (ds:List (Int×Int)):Kcfg:=⟨qcm c.tiles ds,c.pads⟩
def Tryz.c_Break (c:Kcfg) (ds:List (Int×Int)):Pure prog 20 [dK c,dPs ds] (dK (if c.ok/\defectsValid ds=true then qnx c ds else⟨[],[]⟩)):=by
 have hc:=c_ConfigValid c;have hd:=c_DefectsValid ds;by_cases h:c.ok/\defectsValid ds=true
 ·rw[if_pos h];rw[decide_eq_true h.1] at hc;rw[h.2] at hd;refine qax func20 rfl ntmps20 fun ok=>?_
  simp only[go_sem,seval] at ok
  repeat' first|assumption|(simp (disch:=first|assumption|omega|(simp;done)|(simp;omega)) only[go_sem,seval,yaa,qam])|(with_reducible first|apply And.intro|intro _)|(refine qac hc ?_)|(refine qaN (fun _=>hd) ?_)|(refine qbr (c_copyConfig c (Kcfg.ok_small h.1)) ?_)|((try rw[qaa]);omega)
  refine qaf (E:=env 0) tok (σ:=Nat) (fun i=>[(4,.ptr 1 0),(5,.ptr 4 0),(19,.d (dPs ds)),(20,.d (dI ds.length)),(21,.d (dI i))])
   (fun i=>[.dead 0,.box [.d .nil,.d .nil],.row 0 4 true ((qcm c.tiles (ds.take i)).map fun x=>dTc x),.row 0 2 true (c.pads.map fun x=>dQ x),.box [.sl 2 0 4 0 c.tiles.length,.sl 3 0 2 0 c.pads.length]]) (fun i=>i<=ds.length) (fun i=>ds.length-i) [] [] 1000 1000 ?_ ?_
  ·simp only[go_sem,seval];exact⟨0,by omega,rfl,rfl⟩
  ·intro i hi;by_cases hlt:i<ds.length
   ·have hl0:c.tiles.length=25:=h.1.1;have hd1:=defectOk_iff.1 ((qfg _ _ (0,0)).1 (by have:=h.2;simp only[defectsValid,yap] at this;exact this.2) i hlt);have hsn:=qmI c.tiles ds hlt;have hbl:=qhk (ds.take i) c.tiles;have hbs:=qhK (ds.take i) c.tiles (ds.getD i (0,0)).1.toNat;obtain⟨s1,s2⟩:=Kcfg.ok_sizes h.1 (i:=(ds.getD i (0,0)).1.toNat) (by omega);generalize hd9:ds.getD i (0,0)=d at *
    generalize qcm c.tiles (ds.take i)=b at *
    simp only[go_sem,seval,hd9];have hgt : ∀ z,(b.map fun x=>dTc x).getD d.1.toNat z=dTc (b.getD d.1.toNat tc0):=fun z=>qam (by omega)
    repeat' first|assumption|(simp (disch:=first|assumption|omega|(simp;done)|(simp;omega)) only[go_sem,seval,yaa,qam])|(with_reducible first|apply And.intro|intro _)|((try rw[qaa]);omega)
    refine qaL (n:=0) [10] (fsts [0,2,7,1,3,4,5,6,8,9] (.one 10 .done)) ?_
    repeat' first|assumption|(simp (disch:=first|assumption|omega|(simp;done)|(simp;omega)) only[go_sem,seval,hgt,yaa,qam])|(with_reducible first|apply And.intro|intro _)|((try rw[qaa]);omega)
    refine⟨i+1,by omega,by omega,rfl,?_⟩;rw[hsn];exact qhZ (z:=tc0) (by decide) (by omega) rfl
   ·have e1:qcm c.tiles ds=qcm c.tiles (ds.take i):=by rw[yaa (by omega)]
    have e2:=qhk ds c.tiles
    repeat' first|assumption|(simp (disch:=first|assumption|omega|(simp;done)|(simp;omega)) only[go_sem,seval,yaa,qam])|(with_reducible first|apply And.intro|intro _)|((try rw[qaa]);omega)
    all_goals rfl
 ·rw[if_neg h];refine qax func20 rfl ntmps20 fun ok=>?_
  simp only[go_sem,seval] at ok
  repeat' first|assumption|(simp (disch:=first|assumption|omega|(simp;done)|(simp;omega)) only[go_sem,seval,yaa,qam])|(with_reducible first|apply And.intro|intro _)|(refine qac hc ?_)|(refine qaN (fun _=>hd) ?_)|((try rw[qaa]);omega)
  rename_i h1;exact absurd h1 h

def frOk (p:Int×Tcfg):Bool:=(decide (0<=p.1)&&decide (p.1<=24))&&p.2.ok p.1
def frsOk (l:List (Int×Tcfg)):Prop:=∀ j,j<l.length->frOk (l.getD j (0,tc0))=true
noncomputable instance (l:List (Int×Tcfg)):Decidable (frsOk l):=Classical.propDecidable _
def qtb (l:List Tcfg) (fs:List (Int×Tcfg)):List Tcfg:=fs.foldl (fun l f=>l.set f.1.toNat f.2) l
def applyOk (c:Kcfg) (fs:List (Int×Tcfg)) (ps:List (Int×Bool)):Prop:=c.ok/\qjR ps/\frsOk fs
noncomputable instance (c:Kcfg) (fs:List (Int×Tcfg)) (ps:List (Int×Bool)):Decidable (applyOk c fs ps):=Classical.propDecidable _

def qgJ {f : α->D}{k n:Nat}{l:List α}{x c:D}{off:Nat}(h:l.length=n):putC k (l.map f ++ [x]) n off c=l.map f ++ [putE (decide (k=1)) k x off c]:=by subst h;exact qpH
def k0:Kcfg:=⟨[],[]⟩
def getD_k {l:List Kcfg}{z:D}(h:i<l.length):(l.map fun x=>dK x).getD i z=dK (l.getD i k0):=getD_lt _ _ _ _ _ h
def qaX:Tcfg:=⟨0,[15,15,15],false,[0,0,0,0,0,0,0,0]⟩
def er (fs:List (Int×Tcfg)):List (Int×Tcfg):=fs.map fun f=>(f.1,qaX)
def qtc (t:List Tcfg) (p:List (Int×Bool)) (fs:List (Int×Tcfg)) (n:Nat):List Kcfg:=(List.range n).map fun j=>⟨qtb t (fs.take (j+1)),p⟩
def steps (a:Kcfg) (fs:List (Int×Tcfg)):List Kcfg:=qtc a.tiles a.pads (er fs) fs.length++qtc (qtb a.tiles (er fs)) a.pads fs fs.length
def Tryz.c_emptyTile:Pure prog 120 [] (dTc qaX):=by
 refine qax func120 rfl ntmps120 fun ok=>?_
 simp only[go_sem,seval] at ok
 repeat' first|assumption|(simp (disch:=first|assumption|omega|(simp;done)|(simp;omega)) only[go_sem,seval,yaa])|(with_reducible first|apply And.intro|intro _)|((try rw[qaa]);omega)
 all_goals rfl
def Tryz.c_sEmptyConfig:Pure prog 142 [] (dK ⟨List.replicate 25 qaX,List.replicate 3 (15,false)⟩):=by
 refine qax func142 rfl ntmps142 fun ok=>?_
 simp only[go_sem,seval] at ok
 repeat' first|assumption|(simp (disch:=first|assumption|omega|(simp;done)|(simp;omega)) only[go_sem,seval,yaa])|(with_reducible first|apply And.intro|intro _)|((try rw[qaa]);omega)
 refine qaf (E:=env 0) tok (σ:=Nat) (fun i=>[(0,.ptr 0 0),(1,.ptr 1 0),(2,.d (dI i))])
  (fun i=>[.box [.d .nil,.d .nil],.box [.sl 2 i 4 0 i,.d .nil],.row i 4 true ((List.replicate i qaX).map fun x=>dTc x)]) (fun i=>i<=25) (fun i=>25-i) [(1,0,4,true)] [] 1000 1000 ?_ ?_
 ·simp only[go_sem,seval];exact⟨0,by omega,by simp⟩
 ·intro i hi;by_cases hlt:i<25
  ·repeat' first|assumption|(simp (disch:=first|assumption|omega|(simp;done)|(simp;omega)) only[go_sem,seval,yaa])|(with_reducible first|apply And.intro|intro _)|((try rw[qaa]);omega)
   refine qaf (E:=env 0) tok (σ:=Nat) (fun n=>[(0,.ptr 0 0),(1,.ptr 1 0),(2,.d (dI i)),(3,.ptr 4 0),(4,.d (dI n))])
    (fun n=>[.box [.d .nil,.d .nil],.box [.sl 2 i 4 0 i,.d .nil],.row i 4 true ((List.replicate i qaX).map fun x=>dTc x),.row 0 1 true ((List.replicate 8 (0:Int)).map (D.int .i64)),.box [.d (dI 0),.sl 5 n 1 0 n,.d (dB false),.sl 3 0 1 0 8],.row n 1 true ((List.replicate n (15:Int)).map (D.int .i64))]) (fun n=>n<=3) (fun n=>3-n) [(4,1,1,true)] [] 1000 1000 ?_ ?_
   ·simp only[go_sem,seval];exact⟨0,by omega,by simp⟩
   ·intro n hn;by_cases hnt:n<3
    ·repeat' first|assumption|(simp (disch:=first|assumption|omega|(simp;done)|(simp;omega)) only[go_sem,seval,yaa])|(with_reducible first|apply And.intro|intro _)|((try rw[qaa]);omega)
     exact⟨n+1,by omega,by omega,rfl,rfl,rfl,by rw[ybh]⟩
    ·obtain rfl:n=3:=by omega
     repeat' first|assumption|(simp (disch:=first|assumption|omega|(simp;done)|(simp;omega)) only[go_sem,seval,yaa])|(with_reducible first|apply And.intro|intro _)|((try rw[qaa]);omega)
     ·simp[qiK]
     ·refine⟨i+1,by omega,by omega,rfl,rfl,rfl,?_⟩;rw[qgJ (by simp),qgJ (by simp),show List.replicate (i+1) qaX=List.replicate i qaX ++ [qaX] from ybh,yaz];rfl
  ·obtain rfl:i=25:=by omega
   repeat' first|assumption|(simp (disch:=first|assumption|omega|(simp;done)|(simp;omega)) only[go_sem,seval,yaa])|(with_reducible first|apply And.intro|intro _)|((try rw[qaa]);omega)
   refine qaf (E:=env 0) tok (σ:=Nat) (fun n=>[(0,.ptr 0 0),(1,.ptr 1 0),(5,.d (dI n))])
    (fun n=>[.box [.d .nil,.d .nil],.box [.sl 2 25 4 0 25,.sl 3 n 2 0 n],.row 25 4 true ((List.replicate 25 qaX).map fun x=>dTc x),.row n 2 true ((List.replicate n ((15:Int),false)).map fun x=>dQ x)]) (fun n=>n<=3) (fun n=>3-n) [(1,1,2,true)] [] 1000 1000 ?_ ?_
   ·simp only[go_sem,seval];exact⟨0,by omega,by simp⟩
   ·intro n hn;by_cases hnt:n<3
    ·repeat' first|assumption|(simp (disch:=first|assumption|omega|(simp;done)|(simp;omega)) only[go_sem,seval,yaa])|(with_reducible first|apply And.intro|intro _)|((try rw[qaa]);omega)
     refine⟨n+1,by omega,by omega,rfl,rfl,rfl,?_⟩;rw[ybh,yaz];rfl
    ·obtain rfl:n=3:=by omega
     repeat' first|assumption|(simp (disch:=first|assumption|omega|(simp;done)|(simp;omega)) only[go_sem,seval,yaa])|(with_reducible first|apply And.intro|intro _)|((try rw[qaa]);omega)
end Go.Proofs
