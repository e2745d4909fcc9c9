/- Contracts, plain definitions and lemmas. Conditions: none; lemmas. -/
import Derived.Test.YteikeianenfhaaaGreatC11
import Derived.Test.YteikeianenfhaaaGreatVM8
set_option maxRecDepth 20000
set_option linter.unusedSimpArgs false
set_option linter.unusedVariables false
set_option maxHeartbeats 2000000
namespace Go.Proofs
set_option linter.defProp false
open Go Go.VL Tryz
variable {t:Int}{f i:Nat}{l:List (Int×Bool)}{z:D}{α:Type}
structure Tcfg where
 table:Int
 select:List Int
 reg:Bool
 drive:List Int
noncomputable instance:DecidableEq Tcfg:=fun _ _=>Classical.propDecidable _
variable {x:Tcfg}
abbrev dTc (t:Tcfg):D:=.agg [dI t.table,dIs t.select,dB t.reg,dIs t.drive]
abbrev dFr (n:Int) (t:Tcfg):D:=.agg [dI n,dI t.table,dIs t.select,dB t.reg,dIs t.drive]
def qcf (n:Int):Bool:=(decide (0<=n)&&decide (n<=7)) || decide (n=15)
def nbUp (t:Int):Int:=if 5<=t then t-5 else -1
def qdY (t:Int):Int:=if 0<t%5 then t-1 else -1
def qcG (t:Int):Int:=if t%5<4 then t+1 else -1
def qdZ (t:Int):Int:=if t<20 then t+5 else -1
def nb (t d:Int):Int:=if d=2 then nbUp t else if d=3 then qdY t else if d=4 then qcG t else if d=5 then qdZ t else -1
def qaV (t d:Int):Bool:=decide (d=0∨d=1∨(2<=d/\d<=5/\0<=nb t d)∨(d=6/\t%5=0/\t/5<4))
def Tcfg.ok (t:Int) (x:Tcfg):Bool:=(decide (0<=x.table)&&decide (x.table<256))&&decide (x.select.length=3)&&decide (x.drive.length=8)&&x.select.all qcf&&x.drive.all (qaV t)
def Tryz.c_isTrack (n:Int):Pure prog 184 [dI n] (.bool (qcf n)):=by
 refine qaC func184 rfl ntmps184 fun ok=>?_
 simp only[go_sem,seval] at ok⊢;simp only[qcf];rw[Bool.eq_iff_iff];simp;omega
def Tryz.c_l9Track (n:Int):Pure prog 182 [dI n] (.bool (qcf n)):=by
 refine qaC func182 rfl ntmps182 fun ok=>?_
 simp only[go_sem,seval] at ok⊢;refine qad (c_l1In _ _ _) ?_;simp only[go_sem,seval];simp[qcf]
def Tryz.c_neighbours (t:Int) (ht:0<=t/\t<=24):Pure prog 185 [dI t] (.agg [dI (nbUp t),dI (qdY t),dI (qcG t),dI (qdZ t)]):=by
 refine qaC func185 rfl ntmps185 fun ok=>?_
 simp only[go_sem,seval] at ok⊢
 repeat' first|assumption|(simp (disch:=first|assumption|omega|(simp;done)|(simp;omega)) only[qac];try simp only[go_sem,seval])|(with_reducible first|apply And.intro|intro _)|((try rw[qaa]);omega)
 all_goals (simp only[nbUp,qdY,qcG,qdZ];first|rw[if_pos (by assumption)]|rw[if_neg (by assumption)])
def Tryz.c_l9Neighbour (t d:Int) (ht:0<=t/\t<=24):Pure prog 196 [dI t,dI d] (dI (nb t d)):=by
 refine qaC func196 rfl ntmps196 fun ok=>?_
 simp only[go_sem,seval] at ok⊢
 repeat' first|assumption|(simp (disch:=first|assumption|omega|(simp;done)|(simp;omega)) only[qac];try simp only[go_sem,seval])|(with_reducible first|apply And.intro|intro _)|((try rw[qaa]);omega)
 all_goals (simp only[nb,nbUp,qdY,qcG,qdZ];(repeat' split) <;> omega)
def Tcfg.ok_iff:x.ok t=true↔(0<=x.table/\x.table<256)/\x.select.length=3/\x.drive.length=8/\(∀ j,j<x.select.length->qcf (x.select.getD j 0)=true)/\∀ j,j<x.drive.length->qaV t (x.drive.getD j 0)=true:=by
 simp only[Tcfg.ok,yam,decide_eq_true_eq,qiC _ _ (0:Int),and_assoc]
def Tcfg.ok_no (h:x.ok t=true->False):false=x.ok t:=by
 cases e:x.ok t with
 | false=>rfl
 | true=>exact absurd e h
def Tryz.c_tileValid (x:Tcfg) (t:Int) (ht:0<=t/\t<=24):Pure prog 124 [dTc x,dI t] (.bool (x.ok t)):=by
 refine qaC func124 rfl ntmps124 fun ok=>?_
 simp only[go_sem,seval] at ok⊢;refine⟨fun h=>Tcfg.ok_no fun h2=>by rw[Tcfg.ok_iff] at h2;omega,fun h=>?_⟩;refine qaB (E:=env 0) tok (σ:=Nat) (fun i=>[(1,.d (dI t)),(2,.ptr 0 0),(31,.d (dIs x.select)),(32,.d (dI x.select.length)),(33,.d (dI i))]) (fun i=>[.box [.d (dI x.table),.d (dIs x.select),.d (dB x.reg),.d (dIs x.drive)]])
  (fun i=>i<=x.select.length/\∀ j,j<i->qcf (x.select.getD j 0)=true) (fun i=>x.select.length-i) [] 1000 1000 ?_ ?_ ?_
 ·simp only[go_sem,seval]
 ·simp only[go_sem,seval];exact⟨0,⟨by omega,fun j hj=>absurd hj (by omega)⟩,rfl⟩
 ·rintro i ⟨hi,hinv⟩;simp only[go_sem,seval]
  repeat' first|assumption|(simp (disch:=first|assumption|omega|(simp;done)|(simp;omega)) only[qac];try simp only[go_sem,seval])|(with_reducible first|apply And.intro|intro _)|(refine qad (c_isTrack _) ?_;simp only[go_sem,seval])|(refine qad (c_neighbours t ht) ?_;simp only[go_sem,seval])|((try rw[qaa]);omega)
  ·rename_i h1 h2;refine Tcfg.ok_no fun h3=>?_
   have:=(Tcfg.ok_iff.1 h3).2.2.2.1 i h1;rw[h2] at this;exact absurd this (by simp)
  ·rename_i h1 h2;refine⟨i+1,⟨by omega,fun j hj=>?_⟩,by omega,rfl⟩;by_cases hji:j=i
   ·subst hji;exact h2
   ·exact hinv j (by omega)
  ·rename_i h1;have hs : ∀ j,j<x.select.length->qcf (x.select.getD j 0)=true:=fun j hj=>hinv j (by omega)
   clear hinv hi h1;refine qaB (E:=env 0) tok (σ:=Nat) (fun i=>[(1,.d (dI t)),(2,.ptr 0 0),(7,.ptr 1 0),(44,.d (dIs x.drive)),(45,.d (dI x.drive.length)),(46,.d (dI i))]) (fun i=>[.box [.d (dI x.table),.d (dIs x.select),.d (dB x.reg),.d (dIs x.drive)],.box [.d (dI (nbUp t)),.d (dI (qdY t)),.d (dI (qcG t)),.d (dI (qdZ t))]])
    (fun i=>i<=x.drive.length/\∀ j,j<i->qaV t (x.drive.getD j 0)=true) (fun i=>x.drive.length-i) [] 1000 1000 ?_ ?_ ?_
   ·simp only[go_sem,seval]
   ·simp only[go_sem,seval];exact⟨0,⟨by omega,fun j hj=>absurd hj (by omega)⟩,rfl⟩
   ·rintro i ⟨hi,hinv⟩;have step:i<x.drive.length->qaV t (x.drive.getD i 0)=true->∃ s',(s'<=x.drive.length/\∀ j,j<s'->qaV t (x.drive.getD j 0)=true)/\x.drive.length-s'<x.drive.length-i/\i+1=s':=by
     intro h1 h2;refine⟨i+1,⟨by omega,fun j hj=>?_⟩,by omega,rfl⟩;by_cases hji:j=i
     ·subst hji;exact h2
     ·exact hinv j (by omega)
    have stop:i<x.drive.length->qaV t (x.drive.getD i 0)=false->false=x.ok t:=by
     intro h1 h2;refine Tcfg.ok_no fun h3=>?_
     have:=(Tcfg.ok_iff.1 h3).2.2.2.2 i h1;rw[h2] at this;exact absurd this (by simp)
    have fin : ¬ i<x.drive.length->true=x.ok t:=fun hge=>(Tcfg.ok_iff.2 ⟨by omega,by omega,by omega,hs,fun j hj=>hinv j (by omega)⟩).symm
    have hd:x.drive.getD i 0=0∨x.drive.getD i 0=1∨x.drive.getD i 0=2∨x.drive.getD i 0=3∨x.drive.getD i 0=4∨x.drive.getD i 0=5∨x.drive.getD i 0=6∨(x.drive.getD i 0<0∨6<x.drive.getD i 0):=by omega
    rcases hd with hd|hd|hd|hd|hd|hd|hd|hd
    ·simp only[go_sem,seval,hd];rw[hd] at step stop
     repeat' first|assumption|(simp (disch:=first|assumption|omega|(simp;done)|(simp;omega)) only[qac];try simp only[go_sem,seval])|(with_reducible first|apply And.intro|intro _)|((try rw[qaa]);omega)
     all_goals first
      | exact fin (by assumption)
      | exact stop (by assumption) (by simp[qaV,nb];omega)
      | exact step (by assumption) (by simp[qaV,nb] <;> omega)
    ·simp only[go_sem,seval,hd];rw[hd] at step stop
     repeat' first|assumption|(simp (disch:=first|assumption|omega|(simp;done)|(simp;omega)) only[qac];try simp only[go_sem,seval])|(with_reducible first|apply And.intro|intro _)|((try rw[qaa]);omega)
     all_goals first
      | exact fin (by assumption)
      | exact stop (by assumption) (by simp[qaV,nb];omega)
      | exact step (by assumption) (by simp[qaV,nb] <;> omega)
    ·simp only[go_sem,seval,hd];rw[hd] at step stop
     repeat' first|assumption|(simp (disch:=first|assumption|omega|(simp;done)|(simp;omega)) only[qac];try simp only[go_sem,seval])|(with_reducible first|apply And.intro|intro _)|((try rw[qaa]);omega)
     all_goals first
      | exact fin (by assumption)
      | exact stop (by assumption) (by simp[qaV,nb];omega)
      | exact step (by assumption) (by simp[qaV,nb] <;> omega)
    ·simp only[go_sem,seval,hd];rw[hd] at step stop
     repeat' first|assumption|(simp (disch:=first|assumption|omega|(simp;done)|(simp;omega)) only[qac];try simp only[go_sem,seval])|(with_reducible first|apply And.intro|intro _)|((try rw[qaa]);omega)
     all_goals first
      | exact fin (by assumption)
      | exact stop (by assumption) (by simp[qaV,nb];omega)
      | exact step (by assumption) (by simp[qaV,nb] <;> omega)
    ·simp only[go_sem,seval,hd];rw[hd] at step stop
     repeat' first|assumption|(simp (disch:=first|assumption|omega|(simp;done)|(simp;omega)) only[qac];try simp only[go_sem,seval])|(with_reducible first|apply And.intro|intro _)|((try rw[qaa]);omega)
     all_goals first
      | exact fin (by assumption)
      | exact stop (by assumption) (by simp[qaV,nb];omega)
      | exact step (by assumption) (by simp[qaV,nb] <;> omega)
    ·simp only[go_sem,seval,hd];rw[hd] at step stop
     repeat' first|assumption|(simp (disch:=first|assumption|omega|(simp;done)|(simp;omega)) only[qac];try simp only[go_sem,seval])|(with_reducible first|apply And.intro|intro _)|((try rw[qaa]);omega)
     all_goals first
      | exact fin (by assumption)
      | exact stop (by assumption) (by simp[qaV,nb];omega)
      | exact step (by assumption) (by simp[qaV,nb] <;> omega)
    ·simp only[go_sem,seval,hd];rw[hd] at step stop
     repeat' first|assumption|(simp (disch:=first|assumption|omega|(simp;done)|(simp;omega)) only[qac];try simp only[go_sem,seval])|(with_reducible first|apply And.intro|intro _)|((try rw[qaa]);omega)
     all_goals first
      | exact fin (by assumption)
      | exact stop (by assumption) (by simp[qaV,nb];omega)
      | exact step (by assumption) (by simp[qaV,nb] <;> omega)
    ·simp only[go_sem,seval]
     repeat' first|assumption|(simp (disch:=first|assumption|omega|(simp;done)|(simp;omega)) only[qac];try simp only[go_sem,seval])|(with_reducible first|apply And.intro|intro _)|((try rw[qaa]);omega)
     all_goals first
      | exact fin (by assumption)
      | exact stop (by assumption) (by simp only[qaV,decide_eq_false_iff_not];omega)
      | exact step (by assumption) (by simp only[qaV,decide_eq_true_eq];omega)
def Tryz.c_l9Tile (x:Tcfg) (t:Int) (ht:0<=t/\t<=24):Pure prog 180 [dTc x,dI t] (.bool (x.ok t)):=by
 refine qaC func180 rfl ntmps180 fun ok=>?_
 simp only[go_sem,seval] at ok⊢;refine qad (c_l1In _ _ _) ?_;simp only[go_sem,seval];refine⟨fun h=>Tcfg.ok_no fun h2=>by rw[Tcfg.ok_iff] at h2;omega,fun h=>?_⟩;refine qaB (E:=env 0) tok (σ:=Nat) (fun i=>[(1,.d (dI t)),(2,.ptr 0 0),(5,.d (dI i))]) (fun i=>[.box [.d (dI x.table),.d (dIs x.select),.d (dB x.reg),.d (dIs x.drive)]])
  (fun i=>i<=3/\∀ j,j<i->qcf (x.select.getD j 0)=true) (fun i=>3-i) [] 1000 1000 ?_ ?_ ?_
 ·simp only[go_sem,seval]
 ·simp only[go_sem,seval];exact⟨0,⟨by omega,fun j hj=>absurd hj (by omega)⟩,rfl⟩
 ·rintro i ⟨hi,hinv⟩;simp only[go_sem,seval]
  repeat' first|assumption|(simp (disch:=first|assumption|omega|(simp;done)|(simp;omega)) only[qac];try simp only[go_sem,seval])|(with_reducible first|apply And.intro|intro _)|(refine qad (c_l9Track _) ?_;simp only[go_sem,seval])|((try rw[qaa]);omega)
  ·rename_i h1 h2;refine Tcfg.ok_no fun h3=>?_
   have:=(Tcfg.ok_iff.1 h3).2.2.2.1 i (by omega);rw[h2] at this;exact absurd this (by simp)
  ·rename_i h1 h2;refine⟨i+1,⟨by omega,fun j hj=>?_⟩,by omega,rfl⟩;by_cases hji:j=i
   ·subst hji;exact h2
   ·exact hinv j (by omega)
  ·rename_i h1;have hs : ∀ j,j<x.select.length->qcf (x.select.getD j 0)=true:=fun j hj=>hinv j (by omega)
   clear hinv hi h1;refine qaB (E:=env 0) tok (σ:=Nat) (fun i=>[(1,.d (dI t)),(2,.ptr 0 0),(6,.d (dI i))]) (fun i=>[.box [.d (dI x.table),.d (dIs x.select),.d (dB x.reg),.d (dIs x.drive)]])
    (fun i=>i<=8/\∀ j,j<i->qaV t (x.drive.getD j 0)=true) (fun i=>8-i) [] 1000 1000 ?_ ?_ ?_
   ·simp only[go_sem,seval]
   ·simp only[go_sem,seval];exact⟨0,⟨by omega,fun j hj=>absurd hj (by omega)⟩,rfl⟩
   ·rintro i ⟨hi,hinv⟩;simp only[go_sem,seval]
    repeat' first|assumption|(simp (disch:=first|assumption|omega|(simp;done)|(simp;omega)) only[qac];try simp only[go_sem,seval])|(with_reducible first|apply And.intro|intro _)|(refine qad (c_l1In _ _ _) ?_;simp only[go_sem,seval])|(refine qaK (fun hg=>c_l1In _ _ _) ?_;simp only[go_sem,seval])|(refine qaK (fun hg=>c_l9Neighbour _ _ (by omega)) ?_;simp only[go_sem,seval])|((try rw[qaa]);omega)
    ·rename_i h1 h2;refine Tcfg.ok_no fun h3=>?_
     have:=(Tcfg.ok_iff.1 h3).2.2.2.2 i (by omega);simp only[qaV,decide_eq_true_eq] at this;omega
    ·rename_i h1 h2;exact qiD (by omega) (by simp only[qaV,decide_eq_true_eq];omega) hinv
    ·exact(Tcfg.ok_iff.2 ⟨by omega,by omega,by omega,hs,fun j hj=>hinv j (by omega)⟩).symm

def Tryz.shp_ints (y:D) (h:shp tyT (f+2) 23 y) : ∃ l:List Int,y=dIs l:=
 shp_slice ty23 ty3 (fun y h=>shp_int ty3 h) h
def Tryz.shp_Gate (y:D) (h:shp tyT (f+2) 216 y) : ∃ a:Int×Int,y=dP a:=by
 obtain⟨ys,rfl,k0⟩:=shp_struct ty216 h;obtain⟨y1,r1,rfl,h1,k1⟩:=qht k0;obtain⟨y2,r2,rfl,h2,k2⟩:=qht k1;obtain rfl:=qpl k2;obtain⟨n,rfl⟩:=shp_int ty3 h1;obtain⟨m,rfl⟩:=shp_int ty3 h2;exact⟨(n,m),rfl⟩
def Tryz.shp_Gates (y:D) (h:shp tyT (f+3) 47 y) : ∃ l:List (Int×Int),y=dPs l:=
 shp_slice ty47 ty216 shp_Gate h
def Tryz.shp_Circuit (y:D) (h:shp tyT (f+4) 49 y) : ∃ c:Circ,y=dC c:=by
 obtain⟨ys,rfl,k0⟩:=shp_struct ty49 h;obtain⟨y1,r1,rfl,h1,k1⟩:=qht k0;obtain⟨y2,r2,rfl,h2,k2⟩:=qht k1;obtain⟨y3,r3,rfl,h3,k3⟩:=qht k2;obtain⟨y4,r4,rfl,h4,k4⟩:=qht k3;obtain rfl:=qpl k4;obtain⟨n,rfl⟩:=shp_int ty3 h1;obtain⟨a,rfl⟩:=shp_ints _ h2;obtain⟨b,rfl⟩:=shp_Gates _ h3;obtain⟨d,rfl⟩:=shp_ints _ h4;exact⟨⟨n,a,b,d⟩,rfl⟩

abbrev dQ (p:Int×Bool):D:=.agg [dI p.1,dB p.2]
abbrev dTcs (l:List Tcfg):D:=.lst 4 (l.map fun x=>dTc x)
abbrev dQs (l:List (Int×Bool)):D:=.lst 2 (l.map fun x=>dQ x)
structure Kcfg where
 tiles:List Tcfg
 pads:List (Int×Bool)
noncomputable instance:DecidableEq Kcfg:=fun _ _=>Classical.propDecidable _
abbrev dK (k:Kcfg):D:=.agg [dTcs k.tiles,dQs k.pads]
def tc0:Tcfg:=⟨0,[],false,[]⟩
abbrev dFp (p:Int×Tcfg):D:=dFr p.1 p.2
def qag {l:List Tcfg}(h:i<l.length):(l.map fun x=>dTc x).getD i z=dTc (l.getD i tc0):=getD_lt _ _ _ _ _ h
def qal (h:i<l.length):(l.map fun x=>dQ x).getD i z=dQ (l.getD i (0,false)):=getD_lt _ _ _ _ _ h
def getD_fp {l:List (Int×Tcfg)}(h:i<l.length):(l.map fun x=>dFp x).getD i z=dFp (l.getD i (0,tc0)):=getD_lt _ _ _ _ _ h
@[go_sem] def zqw:scalars (l.map fun x=>dQ x)=true:=by induction l with|nil=>rfl|cons x r ih=>simp[scalars,D.cells,D.scalar,ih]

def qab {l:List α}{x z : α}(h:i<l.length):(l.set i x).getD i z=x:=by simp[List.getD,h]
def qbs {l:List α}{j:Nat}{x z : α}(h:i≠j):(l.set i x).getD j z=l.getD j z:=by simp[List.getD,List.getElem?_set,h]

def qjG (l:List (Int×Bool)):Prop:=l.length=3/\∀ j,j<l.length->qcf (l.getD j (0,false)).1=true
def Kcfg.ok (c:Kcfg):Prop:=c.tiles.length=25/\qjG c.pads/\∀ j,j<c.tiles.length->(c.tiles.getD j tc0).ok (j:Int)=true
noncomputable instance (l:List (Int×Bool)):Decidable (qjG l):=Classical.propDecidable _
noncomputable instance (c:Kcfg):Decidable c.ok:=Classical.propDecidable _
def Tryz.c_padsValid (l:List (Int×Bool)):Pure prog 123 [dQs l] (.bool (decide (qjG l))):=by
 refine qaC func123 rfl ntmps123 fun ok=>?_
 simp only[go_sem,seval] at ok⊢;refine qaB (E:=env 0) tok (σ:=Nat) (fun i=>[(5,.d (dQs l)),(6,.d (dI l.length)),(7,.d (dI i)),(0,.d (dQs l))]) (fun _=>[]) (fun i=>i<=l.length/\∀ j,j<i->qcf (l.getD j (0,false)).1=true) (fun i=>l.length-i) [] 1000 1000 ?_ ?_ ?_
 ·simp only[go_sem,seval]
 ·simp only[go_sem,seval];exact⟨0,⟨by omega,fun j hj=>absurd hj (by omega)⟩,rfl⟩
 ·rintro i ⟨hi,hinv⟩;by_cases hlt:i<l.length
  ·repeat' first|assumption|(simp (disch:=first|assumption|omega|(simp;done)|(simp;omega)) only[go_sem,seval,qag,qal])|(with_reducible first|apply And.intro|intro _)|(refine qad (c_isTrack _) ?_)|exact lexT|((try rw[qaa]);omega)
   ·rename_i h1;simp only[false_eq_decide_iff];intro h2;have:=h2.2 i hlt;rw[h1] at this;exact absurd this (by simp)
   ·rename_i h1;refine⟨i+1,⟨by omega,fun j hj=>?_⟩,by omega,rfl⟩;by_cases hji:j=i
    ·subst hji;exact h1
    ·exact hinv j (by omega)
  ·repeat' first|assumption|(simp (disch:=first|assumption|omega|(simp;done)|(simp;omega)) only[go_sem,seval,qag,qal])|(with_reducible first|apply And.intro|intro _)|exact lexT|((try rw[qaa]);omega)
   have:qjG l↔(l.length:Int)=3:=⟨fun h=>by have:=h.1;omega,fun h=>⟨by omega,fun j hj=>hinv j (by omega)⟩⟩;by_cases h3:(l.length:Int)=3
   ·simp[h3,this.2 h3]
   ·simp[h3,show ¬ qjG l from fun h=>h3 (this.1 h)]
def Tryz.c_ConfigValid (c:Kcfg):Pure prog 64 [dK c] (.bool (decide c.ok)):=by
 have hp:=c_padsValid c.pads;refine qaC func64 rfl ntmps64 fun ok=>?_
 simp only[go_sem,seval] at ok
 repeat' first|assumption|(simp (disch:=first|assumption|omega|(simp;done)|(simp;omega)) only[go_sem,seval,qag,qal])|(with_reducible first|apply And.intro|intro _)|(refine qaK (fun _=>hp) ?_)|exact lexT|((try rw[qaa]);omega)
 ·rename_i h;simp only[false_eq_decide_iff];intro h2;rcases h with h|h
  ·exact h (by have:=h2.1;omega)
  ·exact h h2.2.1
 rename_i h;refine qaB (E:=env 0) tok (σ:=Nat) (fun i=>[(1,.ptr 0 0),(16,.d (dTcs c.tiles)),(17,.d (dI c.tiles.length)),(18,.d (dI i))]) (fun _=>[.box [.d (dTcs c.tiles),.d (dQs c.pads)]]) (fun i=>i<=c.tiles.length/\∀ j,j<i->(c.tiles.getD j tc0).ok (j:Int)=true) (fun i=>c.tiles.length-i) [] 1000 1000 ?_ ?_ ?_
 ·simp only[go_sem,seval]
 ·simp only[go_sem,seval];exact⟨0,⟨by omega,fun j hj=>absurd hj (by omega)⟩,rfl⟩
 ·rintro i ⟨hi,hinv⟩;by_cases hlt:i<c.tiles.length
  ·repeat' first|assumption|(simp (disch:=first|assumption|omega|(simp;done)|(simp;omega)) only[go_sem,seval,qag,qal])|(with_reducible first|apply And.intro|intro _)|(refine qad (c_tileValid _ (i:Int) (by omega)) ?_)|exact lexT|((try rw[qaa]);omega)
   ·rename_i h1;simp only[false_eq_decide_iff];intro h2;have:=h2.2.2 i hlt;rw[h1] at this;exact absurd this (by simp)
   ·rename_i h1;refine⟨i+1,⟨by omega,fun j hj=>?_⟩,by omega,rfl⟩;by_cases hji:j=i
    ·subst hji;exact h1
    ·exact hinv j (by omega)
  ·repeat' first|assumption|(simp (disch:=first|assumption|omega|(simp;done)|(simp;omega)) only[go_sem,seval,qag,qal])|(with_reducible first|apply And.intro|intro _)|exact lexT|((try rw[qaa]);omega)
   simp only[true_eq_decide_iff];exact⟨by omega,h.2,fun j hj=>hinv j (by omega)⟩
def Kcfg.ok_sizes {c:Kcfg}(h:c.ok) (hi:i<25):(c.tiles.getD i tc0).select.length=3/\(c.tiles.getD i tc0).drive.length=8:=by
 have:=Tcfg.ok_iff.1 (h.2.2 i (by have:=h.1;omega));exact⟨this.2.1,this.2.2.1⟩
def Tryz.c_sConfigValid (c:Kcfg):Pure prog 118 [dK c] (.bool (decide c.ok)):=by
 refine qaC func118 rfl ntmps118 fun ok=>?_
 simp only[go_sem,seval] at ok
 repeat' first|assumption|(simp (disch:=first|assumption|omega|(simp;done)|(simp;omega)) only[go_sem,seval,qag,qal])|(with_reducible first|apply And.intro|intro _)|exact lexT|((try rw[qaa]);omega)
 ·rename_i h;simp only[false_eq_decide_iff];intro h2;rcases h with h|h
  ·exact h (by have:=h2.1;omega)
  ·exact h (by have:=h2.2.1.1;omega)
 rename_i h;refine qaB (E:=env 0) tok (σ:=Nat) (fun i=>[(1,.ptr 0 0),(3,.d (dI i))]) (fun _=>[.box [.d (dTcs c.tiles),.d (dQs c.pads)]]) (fun i=>i<=c.tiles.length/\∀ j,j<i->(c.tiles.getD j tc0).ok (j:Int)=true) (fun i=>c.tiles.length-i) [] 1000 1000 ?_ ?_ ?_
 ·simp only[go_sem,seval]
 ·simp only[go_sem,seval];exact⟨0,⟨by omega,fun j hj=>absurd hj (by omega)⟩,rfl⟩
 ·rintro i ⟨hi,hinv⟩;by_cases hlt:i<c.tiles.length
  ·repeat' first|assumption|(simp (disch:=first|assumption|omega|(simp;done)|(simp;omega)) only[go_sem,seval,qag,qal])|(with_reducible first|apply And.intro|intro _)|(refine qad (c_l9Tile _ (i:Int) (by omega)) ?_)|exact lexT|((try rw[qaa]);omega)
   ·rename_i h1;simp only[false_eq_decide_iff];intro h2;have:=h2.2.2 i hlt;rw[h1] at this;exact absurd this (by simp)
   ·rename_i h1;refine⟨i+1,⟨by omega,fun j hj=>?_⟩,by omega,rfl⟩;by_cases hji:j=i
    ·subst hji;exact h1
    ·exact hinv j (by omega)
  ·repeat' first|assumption|(simp (disch:=first|assumption|omega|(simp;done)|(simp;omega)) only[go_sem,seval,qag,qal])|(with_reducible first|apply And.intro|intro _)|exact lexT|((try rw[qaa]);omega)
   have ht : ∀ j,j<c.tiles.length->(c.tiles.getD j tc0).ok (j:Int)=true:=fun j hj=>hinv j (by omega)
   clear hinv hi hlt;refine qaB (E:=env 0) tok (σ:=Nat) (fun i=>[(1,.ptr 0 0),(4,.d (dI i))]) (fun _=>[.box [.d (dTcs c.tiles),.d (dQs c.pads)]]) (fun i=>i<=c.pads.length/\∀ j,j<i->qcf (c.pads.getD j (0,false)).1=true) (fun i=>c.pads.length-i) [] 1000 1000 ?_ ?_ ?_
   ·simp only[go_sem,seval]
   ·simp only[go_sem,seval];exact⟨0,⟨by omega,fun j hj=>absurd hj (by omega)⟩,rfl⟩
   ·rintro i ⟨hi,hinv⟩;by_cases hlt:i<c.pads.length
    ·repeat' first|assumption|(simp (disch:=first|assumption|omega|(simp;done)|(simp;omega)) only[go_sem,seval,qag,qal])|(with_reducible first|apply And.intro|intro _)|(refine qad (c_l9Track _) ?_)|exact lexT|((try rw[qaa]);omega)
     ·rename_i h1;simp only[false_eq_decide_iff];intro h2;have:=h2.2.1.2 i hlt;rw[h1] at this;exact absurd this (by simp)
     ·rename_i h1;refine⟨i+1,⟨by omega,fun j hj=>?_⟩,by omega,rfl⟩;by_cases hji:j=i
      ·subst hji;exact h1
      ·exact hinv j (by omega)
    ·repeat' first|assumption|(simp (disch:=first|assumption|omega|(simp;done)|(simp;omega)) only[go_sem,seval,qag,qal])|(with_reducible first|apply And.intro|intro _)|exact lexT|((try rw[qaa]);omega)
     simp only[true_eq_decide_iff];exact⟨by omega,⟨by omega,fun j hj=>hinv j (by omega)⟩,ht⟩

def Tryz.shp_KDefect (y:D) (h:shp tyT (f+2) 171 y) : ∃ a:Int×Int,y=dP a:=by
 obtain⟨ys,rfl,k0⟩:=shp_struct ty171 h;obtain⟨y1,r1,rfl,h1,k1⟩:=qht k0;obtain⟨y2,r2,rfl,h2,k2⟩:=qht k1;obtain rfl:=qpl k2;obtain⟨n,rfl⟩:=shp_int ty3 h1;obtain⟨m,rfl⟩:=shp_int ty3 h2;exact⟨(n,m),rfl⟩
def Tryz.shp_KDefects (y:D) (h:shp tyT (f+3) 92 y) : ∃ l:List (Int×Int),y=dPs l:=
 shp_slice ty92 ty171 shp_KDefect h

def Kcfg.small (c:Kcfg):Prop:=c.tiles.length<=1048576/\c.pads.length<=1048576/\∀ j,j<c.tiles.length->(c.tiles.getD j tc0).select.length<=1048576/\(c.tiles.getD j tc0).drive.length<=1048576
end Go.Proofs
