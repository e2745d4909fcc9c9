/- Contracts, plain definitions and lemmas. Conditions: none; lemmas. -/
import Derived.Test.YteikeianenfhaaaGreatC32
import Derived.Test.YteikeianenfhaaaGreatC36
set_option maxRecDepth 20000
set_option linter.unusedSimpArgs false
set_option linter.unusedVariables false
set_option maxHeartbeats 2000000
namespace Go.Proofs
set_option linter.defProp false
open Go Go.VL Tryz
variable {x:Int}{l:List (Int×Bool)}{i j first:Nat}{z:D}{α:Type}{u v:List Bool}{g:List (Int×Int)}{m:List Int}{share:Bool}{s:ud}
structure az where
 table:Int
 select:List Int
 ge:Bool
 drive:List Int
noncomputable instance:DecidableEq az:=fun _ _=>Classical.propDecidable _
abbrev iC (t:az):D:=.agg [dI t.table,ai t.select,dB t.ge,ai t.drive]
abbrev MT (n:Int) (t:az):D:=.agg [dI n,dI t.table,ai t.select,dB t.ge,ai t.drive]
def jR (n:Int):Bool:=(decide (0<=n)&&decide (n<=7)) || decide (n=15)
def gQ (t:Int):Int:=if 5<=t then t-5 else -1
def oS (t:Int):Int:=if 0<t%5 then t-1 else -1
def om (t:Int):Int:=if t%5<4 then t+1 else -1
def oT (t:Int):Int:=if t<20 then t+5 else -1
def nb (t d:Int):Int:=if d=2 then gQ t else if d=3 then oS t else if d=4 then om t else if d=5 then oT t else -1
def fH (t d:Int):Bool:=decide (d=0∨d=1∨(2<=d/\d<=5/\0<=nb t d)∨(d=6/\t%5=0/\t/5<4))
def az.ok (t:Int) (x:az):Bool:=(decide (0<=x.table)&&decide (x.table<256))&&decide (x.select.length=3)&&decide (x.drive.length=8)&&x.select.all jR&&x.drive.all (fH t)
def Tryz.km (n:Int):Pure prog 184 [dI n] (.bool (jR n)):=by
 refine bw func184 rfl ntmps184 fun ok=>?_
 simp only[go_sem,seval] at ok⊢;simp only[jR];rw[Bool.eq_iff_iff];simp;omega
def Tryz.kq (n:Int):Pure prog 182 [dI n] (.bool (jR n)):=by
 refine bw func182 rfl ntmps182 fun ok=>?_
 simp only[go_sem,seval] at ok⊢;refine aA (gX _ _ _) ?_;simp only[go_sem,seval];simp[jR]
def Tryz.ew (t:Int) (ht:0<=t/\t<=24):Pure prog 185 [dI t] (.agg [dI (gQ t),dI (oS t),dI (om t),dI (oT t)]):=by
 refine bw func185 rfl ntmps185 fun ok=>?_
 simp only[go_sem,seval] at ok⊢
 repeat' first|assumption|simp (disch:=first|assumption|omega|simp;try omega) only[aB];try simp only[go_sem,seval]|(with_reducible first|apply aa|intro)|(try rw[ae]);omega
 all_goals (simp only[gQ,oS,om,oT];first|rw[if_pos (by assumption)]|rw[if_neg (by assumption)])
def Tryz.fG (t d:Int) (ht:0<=t/\t<=24):Pure prog 196 [dI t,dI d] (dI (nb t d)):=by
 refine bw func196 rfl ntmps196 fun ok=>?_
 simp only[go_sem,seval] at ok⊢
 repeat' first|assumption|simp (disch:=first|assumption|omega|simp;try omega) only[aB];try simp only[go_sem,seval]|(with_reducible first|apply aa|intro)|(try rw[ae]);omega
 all_goals (simp only[nb,gQ,oS,om,oT];(repeat' split) <;> omega)
def az.cA {t:Int}{x:az}:x.ok t=true↔(0<=x.table/\x.table<256)/\x.select.length=3/\x.drive.length=8/\(∀ j,j<x.select.length->jR (x.select.getD j 0)=true)/\∀ j,j<x.drive.length->fH t (x.drive.getD j 0)=true:=by
 simp only[az.ok,gN,decide_eq_true_eq,BZ _ _ (0:Int),and_assoc]
def az.kp {t:Int}{x:az}(h:x.ok t=true->False):false=x.ok t:=by
 cases e:x.ok t with
 | false=>rfl
 | true=>exact absurd e h
def Tryz.mp (x:az) (t:Int) (ht:0<=t/\t<=24):Pure prog 124 [iC x,dI t] (.bool (x.ok t)):=by
 refine bw func124 rfl ntmps124 fun ok=>?_
 simp only[go_sem,seval] at ok⊢;refine⟨fun h=>az.kp fun h2=>by rw[az.cA] at h2;omega,fun h=>?_⟩;refine ce (E:=env 0) tok (σ:=Nat) (fun i=>[(1,.d (dI t)),(2,.ptr 0 0),(31,.d (ai x.select)),(32,.d (dI x.select.length)),(33,.d (dI i))]) (fun i=>[.box [.d (dI x.table),.d (ai x.select),.d (dB x.ge),.d (ai x.drive)]])
  (fun i=>i<=x.select.length/\∀ j,j<i->jR (x.select.getD j 0)=true) (fun i=>x.select.length-i) [] 1000 1000 ?_ ?_ ?_
 ·simp only[go_sem,seval]
 ·simp only[go_sem,seval];exact⟨0,⟨by omega,fun j hj=>absurd hj (by omega)⟩,rfl⟩
 ·rintro i ⟨hi,hinv⟩;simp only[go_sem,seval]
  repeat' first|assumption|simp (disch:=first|assumption|omega|simp;try omega) only[aB];try simp only[go_sem,seval]|(with_reducible first|apply aa|intro)|(refine aA (km _) ?_;simp only[go_sem,seval])|(refine aA (ew t ht) ?_;simp only[go_sem,seval])|(try rw[ae]);omega
  ·rename_i h1 h2;refine az.kp fun h3=>?_
   have:=(az.cA.1 h3).2.2.2.1 i h1;rw[h2] at this;exact absurd this (by simp)
  ·rename_i h1 h2;refine⟨i+1,⟨by omega,fun j hj=>?_⟩,by omega,rfl⟩;by_cases hji:j=i
   ·subst hji;exact h2
   ·exact hinv j (by omega)
  ·rename_i h1;have hs : ∀ j,j<x.select.length->jR (x.select.getD j 0)=true:=fun j hj=>hinv j (by omega)
   clear hinv hi h1;refine ce (E:=env 0) tok (σ:=Nat) (fun i=>[(1,.d (dI t)),(2,.ptr 0 0),(7,.ptr 1 0),(44,.d (ai x.drive)),(45,.d (dI x.drive.length)),(46,.d (dI i))]) (fun i=>[.box [.d (dI x.table),.d (ai x.select),.d (dB x.ge),.d (ai x.drive)],.box [.d (dI (gQ t)),.d (dI (oS t)),.d (dI (om t)),.d (dI (oT t))]])
    (fun i=>i<=x.drive.length/\∀ j,j<i->fH t (x.drive.getD j 0)=true) (fun i=>x.drive.length-i) [] 1000 1000 ?_ ?_ ?_
   ·simp only[go_sem,seval]
   ·simp only[go_sem,seval];exact⟨0,⟨by omega,fun j hj=>absurd hj (by omega)⟩,rfl⟩
   ·rintro i ⟨hi,hinv⟩;have step:i<x.drive.length->fH t (x.drive.getD i 0)=true->∃ s',(s'<=x.drive.length/\∀ j,j<s'->fH t (x.drive.getD j 0)=true)/\x.drive.length-s'<x.drive.length-i/\i+1=s':=by
     intro h1 h2;refine⟨i+1,⟨by omega,fun j hj=>?_⟩,by omega,rfl⟩;by_cases hji:j=i
     ·subst hji;exact h2
     ·exact hinv j (by omega)
    have stop:i<x.drive.length->fH t (x.drive.getD i 0)=false->false=x.ok t:=by
     intro h1 h2;refine az.kp fun h3=>?_
     have:=(az.cA.1 h3).2.2.2.2 i h1;rw[h2] at this;exact absurd this (by simp)
    have fin : ¬ i<x.drive.length->true=x.ok t:=fun hge=>(az.cA.2 ⟨by omega,by omega,by omega,hs,fun j hj=>hinv j (by omega)⟩).symm
    have hd:x.drive.getD i 0=0∨x.drive.getD i 0=1∨x.drive.getD i 0=2∨x.drive.getD i 0=3∨x.drive.getD i 0=4∨x.drive.getD i 0=5∨x.drive.getD i 0=6∨(x.drive.getD i 0<0∨6<x.drive.getD i 0):=by omega
    rcases hd with hd|hd|hd|hd|hd|hd|hd|hd
    ·simp only[go_sem,seval,hd];rw[hd] at step stop
     repeat' first|assumption|simp (disch:=first|assumption|omega|simp;try omega) only[aB];try simp only[go_sem,seval]|(with_reducible first|apply aa|intro)|(try rw[ae]);omega
     all_goals first
      | exact fin (by assumption)
      | exact stop (by assumption) (by simp[fH,nb];omega)
      | exact step (by assumption) (by simp[fH,nb] <;> omega)
    ·simp only[go_sem,seval,hd];rw[hd] at step stop
     repeat' first|assumption|simp (disch:=first|assumption|omega|simp;try omega) only[aB];try simp only[go_sem,seval]|(with_reducible first|apply aa|intro)|(try rw[ae]);omega
     all_goals first
      | exact fin (by assumption)
      | exact stop (by assumption) (by simp[fH,nb];omega)
      | exact step (by assumption) (by simp[fH,nb] <;> omega)
    ·simp only[go_sem,seval,hd];rw[hd] at step stop
     repeat' first|assumption|simp (disch:=first|assumption|omega|simp;try omega) only[aB];try simp only[go_sem,seval]|(with_reducible first|apply aa|intro)|(try rw[ae]);omega
     all_goals first
      | exact fin (by assumption)
      | exact stop (by assumption) (by simp[fH,nb];omega)
      | exact step (by assumption) (by simp[fH,nb] <;> omega)
    ·simp only[go_sem,seval,hd];rw[hd] at step stop
     repeat' first|assumption|simp (disch:=first|assumption|omega|simp;try omega) only[aB];try simp only[go_sem,seval]|(with_reducible first|apply aa|intro)|(try rw[ae]);omega
     all_goals first
      | exact fin (by assumption)
      | exact stop (by assumption) (by simp[fH,nb];omega)
      | exact step (by assumption) (by simp[fH,nb] <;> omega)
    ·simp only[go_sem,seval,hd];rw[hd] at step stop
     repeat' first|assumption|simp (disch:=first|assumption|omega|simp;try omega) only[aB];try simp only[go_sem,seval]|(with_reducible first|apply aa|intro)|(try rw[ae]);omega
     all_goals first
      | exact fin (by assumption)
      | exact stop (by assumption) (by simp[fH,nb];omega)
      | exact step (by assumption) (by simp[fH,nb] <;> omega)
    ·simp only[go_sem,seval,hd];rw[hd] at step stop
     repeat' first|assumption|simp (disch:=first|assumption|omega|simp;try omega) only[aB];try simp only[go_sem,seval]|(with_reducible first|apply aa|intro)|(try rw[ae]);omega
     all_goals first
      | exact fin (by assumption)
      | exact stop (by assumption) (by simp[fH,nb];omega)
      | exact step (by assumption) (by simp[fH,nb] <;> omega)
    ·simp only[go_sem,seval,hd];rw[hd] at step stop
     repeat' first|assumption|simp (disch:=first|assumption|omega|simp;try omega) only[aB];try simp only[go_sem,seval]|(with_reducible first|apply aa|intro)|(try rw[ae]);omega
     all_goals first
      | exact fin (by assumption)
      | exact stop (by assumption) (by simp[fH,nb];omega)
      | exact step (by assumption) (by simp[fH,nb] <;> omega)
    ·simp only[go_sem,seval]
     repeat' first|assumption|simp (disch:=first|assumption|omega|simp;try omega) only[aB];try simp only[go_sem,seval]|(with_reducible first|apply aa|intro)|(try rw[ae]);omega
     all_goals first
      | exact fin (by assumption)
      | exact stop (by assumption) (by simp only[fH,decide_eq_false_iff_not];omega)
      | exact step (by assumption) (by simp only[fH,decide_eq_true_eq];omega)
def Tryz.qp (x:az) (t:Int) (ht:0<=t/\t<=24):Pure prog 180 [iC x,dI t] (.bool (x.ok t)):=by
 refine bw func180 rfl ntmps180 fun ok=>?_
 simp only[go_sem,seval] at ok⊢;refine aA (gX _ _ _) ?_;simp only[go_sem,seval];refine⟨fun h=>az.kp fun h2=>by rw[az.cA] at h2;omega,fun h=>?_⟩;refine ce (E:=env 0) tok (σ:=Nat) (fun i=>[(1,.d (dI t)),(2,.ptr 0 0),(5,.d (dI i))]) (fun i=>[.box [.d (dI x.table),.d (ai x.select),.d (dB x.ge),.d (ai x.drive)]])
  (fun i=>i<=3/\∀ j,j<i->jR (x.select.getD j 0)=true) (fun i=>3-i) [] 1000 1000 ?_ ?_ ?_
 ·simp only[go_sem,seval]
 ·simp only[go_sem,seval];exact⟨0,⟨by omega,fun j hj=>absurd hj (by omega)⟩,rfl⟩
 ·rintro i ⟨hi,hinv⟩;simp only[go_sem,seval]
  repeat' first|assumption|simp (disch:=first|assumption|omega|simp;try omega) only[aB];try simp only[go_sem,seval]|(with_reducible first|apply aa|intro)|(refine aA (kq _) ?_;simp only[go_sem,seval])|(try rw[ae]);omega
  ·rename_i h1 h2;refine az.kp fun h3=>?_
   have:=(az.cA.1 h3).2.2.2.1 i (by omega);rw[h2] at this;exact absurd this (by simp)
  ·rename_i h1 h2;refine⟨i+1,⟨by omega,fun j hj=>?_⟩,by omega,rfl⟩;by_cases hji:j=i
   ·subst hji;exact h2
   ·exact hinv j (by omega)
  ·rename_i h1;have hs : ∀ j,j<x.select.length->jR (x.select.getD j 0)=true:=fun j hj=>hinv j (by omega)
   clear hinv hi h1;refine ce (E:=env 0) tok (σ:=Nat) (fun i=>[(1,.d (dI t)),(2,.ptr 0 0),(6,.d (dI i))]) (fun i=>[.box [.d (dI x.table),.d (ai x.select),.d (dB x.ge),.d (ai x.drive)]])
    (fun i=>i<=8/\∀ j,j<i->fH t (x.drive.getD j 0)=true) (fun i=>8-i) [] 1000 1000 ?_ ?_ ?_
   ·simp only[go_sem,seval]
   ·simp only[go_sem,seval];exact⟨0,⟨by omega,fun j hj=>absurd hj (by omega)⟩,rfl⟩
   ·rintro i ⟨hi,hinv⟩;simp only[go_sem,seval]
    repeat' first|assumption|simp (disch:=first|assumption|omega|simp;try omega) only[aB];try simp only[go_sem,seval]|(with_reducible first|apply aa|intro)|(refine aA (gX _ _ _) ?_;simp only[go_sem,seval])|(refine io (fun hg=>gX _ _ _) ?_;simp only[go_sem,seval])|(refine io (fun hg=>fG _ _ (by omega)) ?_;simp only[go_sem,seval])|(try rw[ae]);omega
    ·rename_i h1 h2;refine az.kp fun h3=>?_
     have:=(az.cA.1 h3).2.2.2.2 i (by omega);simp only[fH,decide_eq_true_eq] at this;omega
    ·rename_i h1 h2;exact Dz (by omega) (by simp only[fH,decide_eq_true_eq];omega) hinv
    ·exact(az.cA.2 ⟨by omega,by omega,by omega,hs,fun j hj=>hinv j (by omega)⟩).symm

abbrev dQ (p:Int×Bool):D:=.agg [dI p.1,dB p.2]
abbrev fq (l:List az):D:=.lst 4 (l.map fun x=>iC x)
abbrev mE (l:List (Int×Bool)):D:=.lst 2 (l.map fun x=>dQ x)
structure bu where
 tiles:List az
 pads:List (Int×Bool)
noncomputable instance:DecidableEq bu:=fun _ _=>Classical.propDecidable _
abbrev dK (k:bu):D:=.agg [fq k.tiles,mE k.pads]
def bE:az:=⟨0,[],false,[]⟩
abbrev Kg (p:Int×az):D:=MT p.1 p.2
def bV {l:List az}(h:i<l.length):(l.map fun x=>iC x).getD i z=iC (l.getD i bE):=ck _ _ _ _ _ h
def bU (h:i<l.length):(l.map fun x=>dQ x).getD i z=dQ (l.getD i (0,false)):=ck _ _ _ _ _ h
def BC {l:List (Int×az)}(h:i<l.length):(l.map fun x=>Kg x).getD i z=Kg (l.getD i (0,bE)):=ck _ _ _ _ _ h
@[go_sem] def zqT:ar (l.map fun x=>dQ x)=true:=by induction l with|nil=>rfl|cons x r ih=>simp[ar,D.cells,D.scalar,ih]

def dY {l:List α}{x z : α}(h:i<l.length):(l.set i x).getD i z=x:=by simp[List.getD,h]
def oA {l:List α}{x z : α}(h:i≠j):(l.set i x).getD j z=l.getD j z:=by simp[List.getD,List.getElem?_set,h]

inductive Used (c:ac):Nat->Prop where
 | root {j:Nat}{l:Int}:l∈c.outs++c.next->l/2=c.first+(j:Int)->Used c j
 | op {i j:Nat}{l:Int}:i<c.gates.length->Used c i->(l=(c.gates.getD i (0,0)).1∨l=(c.gates.getD i (0,0)).2)->l/2=c.first+(j:Int)->Used c j
def Dw {first r:Int}(hj:j<u.length):(kw first u r).getD j false=true↔u.getD j false=true∨r/2=first+(j:Int):=by
 unfold kw;split
 ·by_cases e:(r/2-first).toNat=j
  ·rw[e,dY hj];simp only[true_iff];right;omega
  ·rw[oA e];constructor
   ·exact .inl
   ·rintro(h|h)
    ·exact h
    ·omega
 ·constructor
  ·exact .inl
  ·rintro(h|h)
   ·exact h
   ·omega
def Cs {first:Int}{l:List Int}{u:List Bool}{j:Nat}(hj:j<u.length) : ∀ k,(jx first l u k).getD j false=true↔u.getD j false=true∨∃ i,i<k/\(l.getD i 0)/2=first+(j:Int)
 | 0=>by
  constructor
  ·exact .inl
  ·rintro(h|⟨i,hi,-⟩)
   ·exact h
   ·omega
 | k+1=>by
  rw[jx,Dw (by rw[BJ];exact hj),Cs hj k];constructor
  ·rintro((h|⟨i,hi,h⟩)|h)
   ·exact .inl h
   ·exact .inr ⟨i,by omega,h⟩
   ·exact .inr ⟨k,by omega,h⟩
  ·rintro(h|⟨i,hi,h⟩)
   ·exact .inl (.inl h)
   ·by_cases e:i=k
    ·subst e;exact .inr h
    ·exact .inl (.inr ⟨i,by omega,h⟩)
def ze {c:ac}(hj:j<u.length):(iP c u i 2).getD j false=true↔u.getD j false=true∨u.getD i false=true/\((c.gates.getD i (0,0)).1/2=c.first+(j:Int)∨(c.gates.getD i (0,0)).2/2=c.first+(j:Int)):=by
 have e:iP c u i 2=if u.getD i false then kw c.first (kw c.first u (c.gates.getD i (0,0)).1) (c.gates.getD i (0,0)).2 else u:=rfl
 rw[e];split
 ·rename_i h;rw[Dw (by rw[BI];exact hj),Dw hj,h];simp only[true_and,or_assoc]
 ·rename_i h;constructor
  ·exact .inl
  ·rintro(h2|⟨h2,-⟩)
   ·exact h2
   ·exact absurd h2 h
def CL {c:ac}{j:Nat}(hj:j<c.gates.length) {k:Nat} : ∀ d,(aV c k).getD j false=true->(aV c (k+d)).getD j false=true
 | 0,h=>h
 | d+1,h=>by
  have ih:=CL hj d h;rw[<-jy,aV,ze (by rw[sU];exact hj)];exact .inl ih
def Ig {c:ac}(hv:c.Valid) {i:Nat}(hi:i<c.gates.length) : ∀ d,c.gates.length-1-i+d<=c.gates.length->((aV c (c.gates.length-1-i+d)).getD i false=true↔(aV c (c.gates.length-1-i)).getD i false=true)
 | 0,_=>Iff.rfl
 | d+1,h=>by
  rw[<-jy,aV,ze (by rw[sU];exact hi),Ig hv hi d (by omega)];have hg:=hv.g (c.gates.length-1-(c.gates.length-1-i+d)) (by omega);unfold bj at hg;constructor
  ·rintro(h2|⟨-,h2|h2⟩)
   ·exact h2
   ·omega
   ·omega
  ·exact .inl
def Dd {c:ac}(hv:c.Valid) (hj:j<c.gates.length):(aV c c.gates.length).getD j false=true↔Used c j:=by
 have base : ∀ {j:Nat},j<c.gates.length->((aV c 0).getD j false=true↔∃ l∈c.outs++c.next,l/2=c.first+(j:Int)):=by
  intro j hj;rw[aV,Cs (by simpa using hj)];have e:(List.replicate c.gates.length false).getD j false=false:=by
   rw[List.getD_eq_getElem?_getD,List.getElem?_replicate];split <;> rfl
  rw[e];constructor
  ·rintro(h|⟨i,hi,h⟩)
   ·cases h
   ·exact⟨_,aP hi,h⟩
  ·rintro⟨l,hl,h⟩;obtain⟨i,hi,rfl⟩:=fO (0:Int) hl;exact .inr ⟨i,hi,h⟩
 constructor
 ·have key : ∀ k,k<=c.gates.length->∀ j,j<c.gates.length->(aV c k).getD j false=true->Used c j:=by
   intro k;induction k with
   | zero=>
    intro _ j hj h;obtain⟨l,hl,e⟩:=(base hj).1 h;exact .root hl e
   | succ k ih=>
    intro hk j hj h;rw[aV,ze (by rw[sU];exact hj)] at h;rcases h with h|⟨h1,h2|h2⟩
    ·exact ih (by omega) j hj h
    ·exact .op (i:=c.gates.length-1-k) (by omega) (ih (by omega) _ (by omega) h1) (.inl rfl) h2
    ·exact .op (i:=c.gates.length-1-k) (by omega) (ih (by omega) _ (by omega) h1) (.inr rfl) h2
  exact key _ (aC _) j hj
 ·intro h;induction h with
  | root hl e=>
   have:=CL hj c.gates.length ((base hj).2 ⟨_,hl,e⟩)
   rwa [lc] at this
  | @op i j l hi hu hl e ih=>
   have h1:=ih hi;have h2:=(Ig hv hi (i+1) (by omega)).1 (by rw[show c.gates.length-1-i+(i+1)=c.gates.length by omega];exact h1);have h3:(aV c (c.gates.length-1-i+1)).getD j false=true:=by
    rw[aV,ze (by rw[sU];exact hj),show c.gates.length-1-(c.gates.length-1-i)=i by omega];refine .inr ⟨h2,?_⟩;rcases hl with rfl|rfl
    ·exact .inl e
    ·exact .inr e
   have:=CL hj i h3
   rwa [show c.gates.length-1-i+1+i=c.gates.length by omega] at this
def bA (v:List Bool) (g:List (Int×Int)):List Bool:=g.foldl (fun v p=>v ++ [aY v p.1&&aY v p.2]) v
def zq (v:List Bool) (g:List (Int×Int)) (p:Int×Int):bA v (g ++ [p])=bA v g ++ [aY (bA v g) p.1&&aY (bA v g) p.2]:=by simp[bA]
def AH (v:List Bool) : ∀ (h g:List (Int×Int)),∃ r,bA v (g++h)=bA v g++r
 | [],g=>⟨[],by simp⟩
 | p::h,g=>by
  obtain⟨r,e⟩:=AH v h (g ++ [p]);refine⟨(aY (bA v g) p.1&&aY (bA v g) p.2)::r,?_⟩;rw[fS] at e;rw[show g++p::h=g++([p]++h) from rfl,e,zq,fS];rfl
def wo : ∀ (g:List (Int×Int)) (v:List Bool),(bA v g).length=v.length+g.length
 | [],v=>rfl
 | p::g,v=>by
  show(bA (v ++ [_]) g).length=_
  rw[wo g];simp;omega
def DJ {h:List (Int×Int)}{l:Int}(h0:0<=l) (hl:l<2*((v.length+g.length:Nat):Int)):aY (bA v (g++h)) l=aY (bA v g) l:=by
 obtain⟨r,e⟩:=AH v h g;rw[e];exact Nu h0 (by rw[wo];exact hl)
def EA (h:0<=x):aY v (flip x) = !aY v x:=by
 unfold flip aY;split
 ·rename_i h2;rw[show(x+1)/2=x/2 by omega,decide_eq_true (by omega),decide_eq_false (by omega)];cases v.getD (x/2).toNat false <;> rfl
 ·rename_i h2;rw[show(x-1)/2=x/2 by omega,decide_eq_false (by omega),decide_eq_true (by omega)];cases v.getD (x/2).toNat false <;> rfl
structure GN (first:Nat) (g:List (Int×Int)):Prop where
 nf : ∀ i,i<g.length->2<=(g.getD i (0,0)).1/\(g.getD i (0,0)).1/2<(g.getD i (0,0)).2/2/\(g.getD i (0,0)).2<2*((first:Int)+(i:Int))
 nd : ∀ i j,i<g.length->j<g.length->g.getD i (0,0)=g.getD j (0,0)->i=j
def GN.nil:GN first []:=⟨fun i h=>by simp at h,fun i j h=>by simp at h⟩
def pq {l:List α}{x z : α}:(l ++ [x]).getD l.length z=x:=by simp[List.getD]
def GN.push (h:GN first g) {p:Int×Int}(h1:2<=p.1) (h2:p.1/2<p.2/2) (h3:p.2<2*((first:Int)+(g.length:Int))) (h4:p∉g):GN first (g ++ [p]):=by
 refine⟨fun i hi=>?_,fun i j hi hj e=>?_⟩
 ·rw[cr,mr] at hi;by_cases e:i=g.length
  ·subst e;rw[pq];exact⟨h1,h2,h3⟩
  ·rw[cZ (by omega)];exact h.nf i (by omega)
 ·rw[cr,mr] at hi hj;by_cases ei:i=g.length
  ·by_cases ej:j=g.length
   ·omega
   ·subst ei;rw[pq,cZ (by omega)] at e;exact absurd (by rw[e];exact aP (by omega)) h4
  ·by_cases ej:j=g.length
   ·subst ej;rw[pq,cZ (by omega)] at e;exact absurd (by rw[<-e];exact aP (by omega)) h4
   ·rw[cZ (by omega),cZ (by omega)] at e;exact h.nd i j (by omega) (by omega) e
def r9 (hl:v.length=first) (hi:i<g.length) (h:0<=(g.getD i (0,0)).1/\(g.getD i (0,0)).1<2*((first:Int)+(i:Int))/\0<=(g.getD i (0,0)).2/\(g.getD i (0,0)).2<2*((first:Int)+(i:Int))) :
  (bA v g).getD (first+i) false=(aY (bA v g) (g.getD i (0,0)).1&&aY (bA v g) (g.getD i (0,0)).2):=by
 have e:g=g.take i++([g.getD i (0,0)]++g.drop (i+1)):=by
  have h1:g.getD i (0,0)=g[i]:=by simp[List.getD,hi]
  rw[h1,List.singleton_append,<-qQ hi,x9]
 have htl:(g.take i).length=i:=by simp;omega
 generalize hp:g.getD i (0,0)=p at *
 rw[e];rw[DJ (g:=g.take i) h.1 (by rw[hl,htl];omega),DJ (g:=g.take i) h.2.2.1 (by rw[hl,htl];omega),<-fS];obtain⟨r,e2⟩:=AH v (g.drop (i+1)) (g.take i ++ [p]);rw[e2,zq,fS,List.getD_eq_getElem?_getD,List.getElem?_append_right (by rw[wo,hl,htl];exact aC _),wo,hl,htl,Nat.sub_self];rfl
def O2 (hl:v.length=first) (hf:1<=first) (h0:v.getD 0 false=false) (hg:GN first g) {y:Int}(hx:0<=x/\x<2*((first:Int)+(g.length:Int))) (hy:0<=y/\y<2*((first:Int)+(g.length:Int))) :
  GN first (gz first g x y).1/\aY (bA v (gz first g x y).1) (gz first g x y).2=(aY (bA v g) x&&aY (bA v g) y)/\
  ∃ t,(gz first g x y).1=g++t:=by
 have hlo:cf x y=x/\bW x y=y∨cf x y=y/\bW x y=x:=by unfold cf bW;split <;> simp
 have hle:cf x y<=bW x y:=by unfold cf bW;split <;> omega
 have hsw:(aY (bA v g) x&&aY (bA v g) y)=(aY (bA v g) (cf x y)&&aY (bA v g) (bW x y)):=by
  rcases hlo with⟨e1,e2⟩|⟨e1,e2⟩ <;> rw[e1,e2]
  rw[Bool.and_comm]
 rw[hsw];have ha:0<=cf x y/\cf x y<2*((first:Int)+(g.length:Int)):=by rcases hlo with⟨e1,e2⟩|⟨e1,e2⟩ <;> rw[e1] <;> assumption
 have hb:0<=bW x y/\bW x y<2*((first:Int)+(g.length:Int)):=by rcases hlo with⟨e1,e2⟩|⟨e1,e2⟩ <;> rw[e2] <;> assumption
 unfold gz;generalize cf x y=a at *
 generalize bW x y=b at *
 have hz:aY (bA v g) 0=false:=by
  have:(bA v g).getD 0 false=false:=by
   obtain⟨r,e⟩:=AH v g [];rw[List.nil_append] at e;rw[e,show bA v []=v from rfl,cZ (by omega),h0]
  unfold aY;rw[show((0:Int)/2).toNat=0 by rfl,this];rfl
 have hone:aY (bA v g) 1=true:=by
  have:=EA (v:=bA v g) (x:=0) (by omega);rw[hz] at this;exact this
 by_cases h1:a=0∨a=flip b
 ·rw[if_pos h1];refine⟨hg,?_,[],by simp⟩;simp only;rw[hz];rcases h1 with rfl|rfl
  ·rw[hz];rfl
  ·rw[EA hb.1];cases aY (bA v g) b <;> rfl
 ·rw[if_neg h1];by_cases h2:a=1∨a=b
  ·rw[if_pos h2];refine⟨hg,?_,[],by simp⟩;simp only;rcases h2 with rfl|rfl
   ·rw[hone,rp]
   ·rw[Bool.and_self]
  ·rw[if_neg h2];by_cases h3:(a,b)∈g
   ·rw[if_pos h3];refine⟨hg,?_,[],by simp⟩;simp only;have hi:=y5 h3;have hp:g.getD (iI g (a,b)) (0,0)=(a,b):=by
     have:=List.findIdx_getElem (xs:=g) (p:=fun q=>decide (q=(a,b))) (w:=hi);simp only[decide_eq_true_eq] at this;simp[List.getD,hi];exact this
    generalize iI g (a,b)=k at *
    have hn:=hg.nf k hi;have:=r9 (g:=g) hl hi (by omega);rw[hp] at this;unfold aY at this ⊢;rw[show(2*((first:Int)+(k:Int))/2).toNat=first+k by omega,this,show decide (2*((first:Int)+(k:Int))%2=1)=false from decide_eq_false (by omega)];cases(_&&_) <;> rfl
   ·rw[if_neg h3];have hfl:a<b/\a/2<b/2:=by
     unfold flip at h1;split at h1 <;> omega
    refine⟨hg.push (p:=(a,b)) (by simp only;omega) hfl.2 hb.2 h3,?_,[(a,b)],rfl⟩;simp only;rw[zq];have hrl:(bA v g).length=first+g.length:=by rw[wo,hl]
    unfold aY;rw[show(2*((first:Int)+(g.length:Int))/2).toNat=(bA v g).length by omega,pq,show decide (2*((first:Int)+(g.length:Int))%2=1)=false from decide_eq_false (by omega)];cases(_&&_) <;> rfl

def lf {c:ac}(hv:c.Valid):c.first=(aj c:Int):=by have:=hv.i0;unfold ac.first aj;omega
def AA {r:List Int}{l:Int}(h0:0<=l) (h:l<2*(m.length:Int)):lmap (m++r) l=lmap m l:=by
 unfold lmap;rw[cZ (by omega)]
def Oe {V:List Bool}{l:Int}(hm:0<=m.getD (l/2).toNat 0):aY V (lmap m l)=(aY V (m.getD (l/2).toNat 0) != decide (l%2=1)):=by
 unfold lmap;split
 ·rename_i h;rw[EA hm,decide_eq_true h];cases aY V (m.getD (l/2).toNat 0) <;> rfl
 ·rename_i h;rw[decide_eq_false h];cases aY V (m.getD (l/2).toNat 0) <;> rfl
def yZ {c:ac}(h:u.getD i false=false):mD c u share i s=⟨s.gates,s.m ++ [0]⟩:=by
 unfold mD;rw[h];rfl
def I1 {c:ac}(h:u.getD i false=true):mD c u true i s=⟨(gz (aj c) s.gates (lmap s.m ((c.gates.getD i (0,0)).1)) (lmap s.m ((c.gates.getD i (0,0)).2))).1,s.m ++ [(gz (aj c) s.gates (lmap s.m ((c.gates.getD i (0,0)).1)) (lmap s.m ((c.gates.getD i (0,0)).2))).2]⟩:=by
 unfold mD;rw[h];rfl
def Am {c:ac}(h:u.getD i false=true):mD c u false i s=⟨s.gates ++ [(lmap s.m ((c.gates.getD i (0,0)).1),lmap s.m ((c.gates.getD i (0,0)).2))],s.m ++ [2*((aj c:Int)+(s.gates.length:Int))]⟩:=by
 unfold mD;rw[h];rfl
def jj (c:ac) (u:List Bool) (v:Nat):Prop:=v<aj c∨u.getD (v-aj c) false=true
def dg (c:ac) (u:List Bool):Prop:=∀ i,i<c.gates.length->u.getD i false=true->jj c u ((c.gates.getD i (0,0)).1/2).toNat/\jj c u ((c.gates.getD i (0,0)).2/2).toNat
def Hk {c:ac}(hv:c.Valid):dg c (aV c c.gates.length):=by
 intro i hi hu;have hU:=(Dd hv hi).1 hu;have hg:=hv.g i hi;have hf:=lf hv;unfold bj at hg;have key : ∀ l,(l=(c.gates.getD i (0,0)).1∨l=(c.gates.getD i (0,0)).2)->jj c (aV c c.gates.length) (l/2).toNat:=by
  intro l hl;have hb:0<=l/\l<2*(c.first+(i:Int)):=by rcases hl with rfl|rfl <;> omega
  by_cases h:(l/2).toNat<aj c
  ·exact .inl h
  ·refine .inr ((Dd hv (by omega)).2 (.op hi hU hl ?_));omega
 exact⟨key _ (.inl rfl),key _ (.inr rfl)⟩
def MW {c:ac}(hv:c.Valid) {l:Int}(hl:l∈c.outs++c.next):(0<=l/\l<2*c.vars)/\jj c (aV c c.gates.length) (l/2).toNat:=by
 have hf:=lf hv;have hb:bj l c.vars:=by
  rcases List.mem_append.1 hl with h|h
  ·exact hv.o l h
  ·exact hv.n l h
 refine⟨hb,?_⟩;unfold bj at hb;unfold ac.vars at hb;by_cases h:(l/2).toNat<aj c
 ·exact .inl h
 ·exact .inr ((Dd hv (by omega)).2 (.root hl (by omega)))
structure vS (c:ac) (u:List Bool) (share:Bool) (v0:List Bool) (i:Nat) (s:ud):Prop where
 pre : ∀ v,v<aj c->s.m.getD v 0=2*(v:Int)
 gn:share=true->GN (aj c) s.gates
 val : ∀ v,v<aj c+i->jj c u v->aY (bA v0 s.gates) (s.m.getD v 0)=(bA v0 (c.gates.take i)).getD v false
def ki {c:ac}(h:i<c.gates.length):c.gates.take (i+1)=c.gates.take i ++ [c.gates.getD i (0,0)]:=by
 rw[m6 (by omega)];simp[List.getD,h]
def D2 {c:ac}(hv:c.Valid) (hc:dg c u) {v0:List Bool}(hl:v0.length=aj c) (hi:i<c.gates.length) (hs:vS c u share v0 i s) (hb:zS c i s) {t:List (Int×Int)}(hgn:share=true->GN (aj c) (s.gates++t))
  (hx:u.getD i false=true->aY (bA v0 (s.gates++t)) x=(aY (bA v0 s.gates) (lmap s.m ((c.gates.getD i (0,0)).1))&&aY (bA v0 s.gates) (lmap s.m ((c.gates.getD i (0,0)).2)))):vS c u share v0 (i+1) ⟨s.gates++t,s.m ++ [x]⟩:=by
 have hml:=hb.ml;have hg:=hv.g i hi;have hf:=lf hv;unfold bj at hg;have hw:(bA v0 (c.gates.take i)).length=aj c+i:=by rw[wo,hl];simp;omega
 refine⟨fun v h=>?_,hgn,fun v h hgd=>?_⟩
 ·simp only;rw[cZ (by omega)];exact hs.pre v h
 ·rw[ki hi,zq];simp only;by_cases e:v<aj c+i
  ·rw[cZ (by omega),cZ (by omega)];have hm:=hb.mb _ (aP (l:=s.m) (i:=v) (z:=0) (by omega));rw[DJ hm.1 (by rw[hl];omega)];exact hs.val v e hgd
  ·obtain rfl:v=aj c+i:=by omega
   have hu:u.getD i false=true:=by
    rcases hgd with h2|h2
    ·omega
    ·rw[Nat.add_sub_cancel_left] at h2;exact h2
   obtain⟨c1,c2⟩:=hc i hi hu;rw[show aj c+i=s.m.length by omega,pq,hx hu,show s.m.length=(bA v0 (c.gates.take i)).length by omega,pq];have lit : ∀ l:Int,0<=l->l<2*(c.first+(i:Int))->jj c u (l/2).toNat->aY (bA v0 s.gates) (lmap s.m l)=aY (bA v0 (c.gates.take i)) l:=by
    intro l l0 l1 lg;have hm:=hb.mb _ (aP (l:=s.m) (i:=(l/2).toNat) (z:=0) (by omega));rw[Oe hm.1,hs.val _ (by omega) lg];rfl
   rw[lit _ hg.1.1 hg.1.2 c1,lit _ hg.2.1 hg.2.2 c2]
def FT {c:ac}(hv:c.Valid) {u:List Bool}(hc:dg c u) {share:Bool}{v0:List Bool}(hl:v0.length=aj c) (h0:v0.getD 0 false=false) : ∀ i,i<=c.gates.length->vS c u share v0 i (ak c u share i)
 | 0,_=>by
  have hm : ∀ v,v<aj c->(ak c u share 0).m.getD v 0=2*(v:Int):=fun v h=>by simp[ak,List.getD,h]
  refine⟨hm,fun _=>GN.nil,fun v h hgd=>?_⟩;rw[hm v (by omega)];show aY v0 _=v0.getD v false
  unfold aY;rw[show(2*(v:Int)/2).toNat=v by omega,decide_eq_false (by omega)];cases v0.getD v false <;> rfl
 | i+1,hi=>by
  have hs:=FT hv hc (share:=share) hl h0 i (by omega);have hb:=n6 hv u share i (by omega);have hg:=hv.g i (by omega);have hf:=lf hv;have hml:=hb.ml;unfold bj at hg;rw[ak];generalize ak c u share i=s at *
  have hA:=lI (m:=s.m) (l:=(c.gates.getD i (0,0)).1) hb.mb (by omega);have hB:=lI (m:=s.m) (l:=(c.gates.getD i (0,0)).2) hb.mb (by omega);cases hu:u.getD i false with
  | false=>
   rw[yZ hu];have:=D2 hv hc hl (by omega) hs hb (t:=[]) (x:=0) (fun h=>by rw[jN];exact hs.gn h) (fun h=>by rw[hu] at h;cases h)
   rwa [jN] at this
  | true=>
   cases share with
   | true=>
    rw[I1 hu];obtain⟨q1,q2,t,q3⟩:=O2 (v:=v0) hl (by unfold aj;omega) h0 (hs.gn rfl) hA hB;rw[q3] at q1 q2 ⊢;exact D2 hv hc hl (by omega) hs hb (fun _=>q1) (fun _=>q2)
   | false=>
    rw[Am hu];refine D2 hv hc hl (by omega) hs hb (fun h=>by cases h) (fun _=>?_);rw[zq];have hrl:(bA v0 s.gates).length=aj c+s.gates.length:=by rw[wo,hl]
    unfold aY;rw[show(2*((aj c:Int)+(s.gates.length:Int))/2).toNat=(bA v0 s.gates).length by omega,pq,show decide (2*((aj c:Int)+(s.gates.length:Int))%2=1)=false from decide_eq_false (by omega)];cases(_&&_) <;> rfl
section sem
variable {c:ac}{st ins:List Bool}
end sem
def OL {c:ac}(hv:c.Valid):GN (aj c) (built c true).gates:=by
 have h0:(List.replicate (aj c) false).getD 0 false=false:=by
  rw[List.getD_eq_getElem?_getD,List.getElem?_replicate];split <;> rfl
 exact(FT hv (Hk hv) (share:=true) (v0:=List.replicate (aj c) false) (by simp) h0 c.gates.length (aC _)).gn rfl
def M5 {c:ac}(hv:c.Valid) (share:Bool) (hg:GN (aj c) (built c share).gates):(built c share).Valid:=by
 have hb:=n6 hv (aV c c.gates.length) share c.gates.length (aC _);have hf:=lf hv;have hl:=hb.gl;have hml:=hb.ml;have hlg:=hv.lg;have hbf:(built c share).first=(aj c:Int):=by
  rw[<-hf];unfold ac.first built;simp
 have hbv:(built c share).vars=(aj c:Int)+((built c share).gates.length:Int):=by unfold ac.vars;rw[hbf]
 have lit : ∀ l,bj l c.vars->bj (lmap (uj c share).m l) (built c share).vars:=by
  intro l h;unfold bj at h ⊢;unfold ac.vars at h;rw[hbv];exact lI hb.mb (by omega)
 refine⟨hv.i0,hv.i1,by simpa [built] using hv.ln,?_,by simpa [built] using hv.lo,fun i hi=>?_,fun x hx=>?_,fun x hx=>?_⟩
 ·show(ak c (aV c c.gates.length) share c.gates.length).gates.length<=14
  omega
 ·have:=hg.nf i hi;rw[hbf];unfold bj;omega
 ·obtain⟨l,h,rfl⟩:=List.mem_map.1 hx;exact lit l (hv.n l h)
 ·obtain⟨l,h,rfl⟩:=List.mem_map.1 hx;exact lit l (hv.o l h)
def Cx {c:ac}(hv:c.Valid):(built c true).Valid:=M5 hv true (OL hv)
structure Ob (c:ac) (u:List Bool) (i:Nat) (s:ud):Prop where
 pre : ∀ v,v<aj c->s.m.getD v 0=2*(v:Int)
 up : ∀ j,j<i->u.getD j false=true->∃ k,k<s.gates.length/\s.m.getD (aj c+j) 0=2*((aj c:Int)+(k:Int))/\s.gates.getD k (0,0)=(lmap s.m ((c.gates.getD j (0,0)).1),lmap s.m ((c.gates.getD j (0,0)).2))
 dn : ∀ k,k<s.gates.length->∃ j,j<i/\u.getD j false=true/\s.m.getD (aj c+j) 0=2*((aj c:Int)+(k:Int))
 mono : ∀ a b,a<b->b<aj c+i->jj c u a->jj c u b->s.m.getD a 0<s.m.getD b 0
def JW {c:ac}(hv:c.Valid) {u:List Bool} : ∀ i,i<=c.gates.length->Ob c u i (ak c u false i)
 | 0,_=>by
  have hm : ∀ v,v<aj c->(ak c u false 0).m.getD v 0=2*(v:Int):=fun v h=>by simp[ak,List.getD,h]
  refine⟨hm,fun j h=>by omega,fun k h=>by simp[ak] at h,fun a b h1 h2 _ _=>?_⟩;rw[hm a (by omega),hm b (by omega)];omega
 | i+1,hi=>by
  have hs:=JW hv (u:=u) i (by omega);have hb:=n6 hv u false i (by omega);have hg:=fun j (h:j<c.gates.length)=>hv.g j h
  have hf:=lf hv;have hml:=hb.ml;unfold bj at hg;rw[ak];generalize ak c u false i=s at *
  have hlm : ∀ j,j<i->∀ x,lmap (s.m ++ [x]) ((c.gates.getD j (0,0)).1)=lmap s.m ((c.gates.getD j (0,0)).1)/\lmap (s.m ++ [x]) ((c.gates.getD j (0,0)).2)=lmap s.m ((c.gates.getD j (0,0)).2):=fun j hj x=>by
   have:=hg j (by omega);exact⟨AA (by omega) (by omega),AA (by omega) (by omega)⟩
  cases hu:u.getD i false with
  | false=>
   rw[yZ hu];refine⟨fun v h=>?_,fun j hj h=>?_,fun k h=>?_,fun a b h1 h2 g1 g2=>?_⟩
   ·simp only;rw[cZ (by omega)];exact hs.pre v h
   ·have hji:j<i:=by
     by_cases e:j=i
     ·subst e;rw[hu] at h;cases h
     ·omega
    obtain⟨k,k1,k2,k3⟩:=hs.up j hji h;refine⟨k,k1,?_,?_⟩
    ·simp only;rw[cZ (by omega)];exact k2
    ·simp only;rw[(hlm j hji 0).1,(hlm j hji 0).2];exact k3
   ·obtain⟨j,j1,j2,j3⟩:=hs.dn k h;refine⟨j,by omega,j2,?_⟩;simp only;rw[cZ (by omega)];exact j3
   ·have hbi:b≠aj c+i:=by
     rintro rfl;rcases g2 with h|h
     ·omega
     ·rw[Nat.add_sub_cancel_left,hu] at h;cases h
    simp only;rw[cZ (by omega),cZ (by omega)];exact hs.mono a b h1 (by omega) g1 g2
  | true=>
   rw[Am hu];refine⟨fun v h=>?_,fun j hj h=>?_,fun k h=>?_,fun a b h1 h2 g1 g2=>?_⟩
   ·simp only;rw[cZ (by omega)];exact hs.pre v h
   ·by_cases e:j=i
    ·subst e;refine⟨s.gates.length,by simp,?_,?_⟩
     ·simp only;rw[show aj c+j=s.m.length by omega,pq]
     ·simp only;have:=hg j (by omega);rw[pq,AA (by omega) (by omega),AA (by omega) (by omega)]
    ·have hji:j<i:=by omega
     obtain⟨k,k1,k2,k3⟩:=hs.up j hji h;refine⟨k,by simp;omega,?_,?_⟩
     ·simp only;rw[cZ (by omega)];exact k2
     ·simp only;rw[(hlm j hji _).1,(hlm j hji _).2,cZ k1];exact k3
   ·simp only[cr,mr] at h;by_cases e:k=s.gates.length
    ·subst e;refine⟨i,by omega,hu,?_⟩;simp only;rw[show aj c+i=s.m.length by omega,pq]
    ·obtain⟨j,j1,j2,j3⟩:=hs.dn k (by omega);refine⟨j,by omega,j2,?_⟩;simp only;rw[cZ (by omega)];exact j3
   ·simp only;by_cases e:b=aj c+i
    ·subst e;rw[cZ (by omega),show aj c+i=s.m.length by omega,pq];have hm:=hb.mb _ (aP (l:=s.m) (i:=a) (z:=0) (by omega));omega
    ·rw[cZ (by omega),cZ (by omega)];exact hs.mono a b h1 (by omega) g1 g2
section prune
variable {c:ac}
def Pr {l:Int}(h:m.getD (l/2).toNat 0%2=0):lmap m l=m.getD (l/2).toNat 0+l%2:=by
 unfold lmap;split
 ·rw[flip,if_pos h];omega
 ·omega
end prune

def wn (c:ac) (u:List Bool) (i:Nat):List Bool:=
 if u.getD (aj c+i) false=true then(u.set ((c.gates.getD i (0,0)).1/2).toNat true).set ((c.gates.getD i (0,0)).2/2).toNat true else u
def n4 (l:List Int) (u:List Bool):Nat->List Bool
 | 0=>u
 | k+1=>(n4 l u k).set ((l.getD k 0)/2).toNat true
def jG (c:ac):Nat->List Bool
 | 0=>n4 c.roots (List.replicate (aj c+c.gates.length) false) c.roots.length
 | k+1=>wn c (jG c k) (c.gates.length-1-k)
def As {l:List Int}{u:List Bool} : ∀ k,(n4 l u k).length=u.length
 | 0=>rfl
 | k+1=>by rw[n4,fB,As k]
def Nq {c:ac}:(wn c u i).length=u.length:=by unfold wn;split <;> simp
def zY {c:ac} : ∀ k,(jG c k).length=aj c+c.gates.length
 | 0=>by rw[jG,As,mB]
 | k+1=>by rw[jG,Nq,zY k]
set_option maxHeartbeats 4000000 in
def Tryz.kj (c:ac) (hv:c.Valid):Pure prog 160 [pC c] (eZ (jG c c.gates.length)):=by
 refine bw func160 rfl ntmps160 fun ok=>?_
 simp only[go_sem,seval] at ok;have hfb:=hv.am;have hvb:=hv.aM;have hln:=hv.ln;have hlg:=hv.lg;have hlo:=hv.lo;have hi0:=hv.i0;have hi1:=hv.i1;have hcf:=lf hv;have hva:c.vars=c.first+c.gates.length:=rfl
 have hvn:c.vars.toNat=aj c+c.gates.length:=by omega
 simp only[go_sem,seval]
 repeat' first|assumption|simp (disch:=first|assumption|omega|simp;try omega) only[];try simp only[go_sem,seval]|(with_reducible first|apply aa|intro)|(refine aA (jq c (by omega)) ?_;simp only[go_sem,seval])|(refine aA (kU c (by omega)) ?_;simp only[go_sem,seval])|(try rw[ae]);omega
 rw[hvn];have hrl : ∀ i,i<c.roots.length->bj (c.roots.getD i 0) c.vars:=fun i hi=>by
  have:=aP (l:=c.roots) (i:=i) (z:=0) hi;unfold ac.roots at this;rcases List.mem_append.1 this with h|h
  ·first|exact hv.o _ h|exact hv.n _ h
  ·first|exact hv.n _ h|exact hv.o _ h
 have hll:c.roots.length<=100:=by unfold ac.roots;simp;omega
 have hq:jG c 0=n4 c.roots (List.replicate (aj c+c.gates.length) false) c.roots.length:=rfl;generalize c.roots=rs at *
 refine ce (E:=env 0) tok (σ:=Nat) (fun i=>[(0,.d (pC c)),(3,.sl 0 0 1 0 (aj c+c.gates.length)),(11,.d (ai rs)),(12,.d (dI rs.length)),(13,.d (dI i))])
  (fun i=>[.row 0 1 true ((n4 rs (List.replicate (aj c+c.gates.length) false) i).map D.bool)]) (fun i=>i<=rs.length) (fun i=>rs.length-i) [] 1000 1000 ?_ ?_ ?_
 ·simp only[go_sem,seval]
 ·simp only[go_sem,seval];exact⟨0,by omega,rfl,rfl⟩
 ·intro i hi;have hml:(n4 rs (List.replicate (aj c+c.gates.length) false) i).length=aj c+c.gates.length:=by rw[As];simp
  have hs:n4 rs (List.replicate (aj c+c.gates.length) false) (i+1)=(n4 rs (List.replicate (aj c+c.gates.length) false) i).set ((rs.getD i 0)/2).toNat true:=rfl;have hr:=hrl i;unfold bj at hr;by_cases hlt:i<rs.length
  ·have hr:=hr hlt;simp only[go_sem,seval]
   repeat' first|assumption|simp (disch:=first|assumption|omega|simp;try omega) only[];try simp only[go_sem,seval]|(with_reducible first|apply aa|intro)|(try rw[ae]);omega
   exact⟨i+1,by omega,by omega,rfl,hs.symm⟩
  ·obtain rfl:i=rs.length:=by omega
   simp only[go_sem,seval]
   repeat' first|assumption|simp (disch:=first|assumption|omega|simp;try omega) only[];try simp only[go_sem,seval]|(with_reducible first|apply aa|intro)|(try rw[ae]);omega
   rw[<-hq];refine ce (E:=env 0) tok (σ:=Nat) (fun k=>[(0,.d (pC c)),(3,.sl 0 0 1 0 (aj c+c.gates.length)),(6,.d (dI ((c.gates.length:Int)-1-(k:Int))))])
    (fun k=>[.row 0 1 true ((jG c k).map D.bool)]) (fun k=>k<=c.gates.length) (fun k=>c.gates.length-k) [] 1000 1000 ?_ ?_ ?_
   ·simp only[go_sem,seval]
   ·simp only[go_sem,seval];exact⟨0,by omega,by simp,rfl⟩
   ·intro k hk;have hul:=zY (c:=c) k;have hfg:=bq c (by omega);by_cases hlt:k<c.gates.length
    ·have hg:=hv.g (c.gates.length-1-k) (by omega);unfold bj at hg;have hki:((c.gates.length:Int)-1-(k:Int)).toNat=c.gates.length-1-k:=by omega
     have hs2:jG c (k+1)=wn c (jG c k) (c.gates.length-1-k):=rfl;have hfi:(c.first+((c.gates.length:Int)-1-(k:Int))).toNat=aj c+(c.gates.length-1-k):=by omega
     simp only[go_sem,seval,hki]
     repeat' first|assumption|simp (disch:=first|assumption|omega|simp;try omega) only[];try simp only[go_sem,seval,hki,hfi]|(with_reducible first|apply aa|intro)|(refine aA hfg ?_;simp only[go_sem,seval,hki,hfi])|(try rw[ae]);omega
     ·rename_i h1;exact⟨k+1,by omega,by omega,by omega,by rw[hs2,wn,if_pos h1]⟩
     ·rename_i h1;exact⟨k+1,by omega,by omega,by omega,by rw[hs2,wn,if_neg (by rw[h1];decide)]⟩
    ·obtain rfl:k=c.gates.length:=by omega
     simp only[go_sem,seval]
     repeat' first|assumption|simp (disch:=first|assumption|omega|simp;try omega) only[];try simp only[go_sem,seval]|(with_reducible first|apply aa|intro)|(try rw[ae]);omega
def E9 {l:List Int}{u:List Bool}{j:Nat}(hj:j<u.length) : ∀ k,(n4 l u k).getD j false=true↔u.getD j false=true∨∃ i,i<k/\((l.getD i 0)/2).toNat=j
 | 0=>by simp[n4]
 | k+1=>by
  have hl:j<(n4 l u k).length:=by rw[As];exact hj
  rw[n4];by_cases e:((l.getD k 0)/2).toNat=j
  ·rw[e,dY hl];exact⟨fun _=>.inr ⟨k,by omega,e⟩,fun _=>rfl⟩
  ·rw[oA e,E9 hj k];constructor
   ·rintro(h|⟨i,h1,h2⟩)
    ·exact .inl h
    ·exact .inr ⟨i,by omega,h2⟩
   ·rintro(h|⟨i,h1,h2⟩)
    ·exact .inl h
    ·refine .inr ⟨i,?_,h2⟩;by_cases hik:i=k
     ·subst hik;exact absurd h2 e
     ·omega
def Tryz.oz (c:ac) (hv:c.Valid):Pure prog 161 [pC c] (ai ((List.range (aj c)).map fun(v:Nat)=>2*(v:Int))):=by
 refine bw func161 rfl ntmps161 fun ok=>?_
 simp only[go_sem,seval] at ok;have hfb:=hv.am;have hi0:=hv.i0;have hi1:=hv.i1;have hcf:=lf hv;have hfg:=bq c (by omega);simp only[go_sem,seval]
 repeat' first|assumption|simp (disch:=first|assumption|omega|simp;try omega) only[];try simp only[go_sem,seval]|(with_reducible first|apply aa|intro)|(refine aA hfg ?_;simp only[go_sem,seval])|(try rw[ae]);omega
 refine ce (E:=env 0) tok (σ:=Nat) (fun i=>[(0,.d (pC c)),(3,.sl 0 i 1 0 i),(6,.d (dI c.first)),(7,.d (dI i))])
  (fun i=>[.row i 1 true (((List.range i).map fun(v:Nat)=>2*(v:Int)).map (D.int .i64))]) (fun i=>i<=aj c) (fun i=>aj c-i) [(3,1,true)] 1000 1000 ?_ ?_ ?_
 ·simp only[go_sem,seval]
 ·simp only[go_sem,seval];exact⟨0,by omega,by simp⟩
 ·intro i hi;have hl:((List.range i).map fun(v:Nat)=>2*(v:Int)).length=i:=by simp
  have hst:((List.range (i+1)).map fun(v:Nat)=>2*(v:Int))=((List.range i).map fun(v:Nat)=>2*(v:Int)) ++ [2*(i:Int)]:=by rw[kK,iz];rfl
  by_cases hlt:i<aj c
  ·simp only[go_sem,seval]
   repeat' first|assumption|simp (disch:=first|assumption|omega|simp;try omega) only[];try simp only[go_sem,seval]|(with_reducible first|apply aa|intro)|(try rw[ae]);omega
   ·simp
   ·exact⟨i+1,by omega,by omega,rfl,rfl,hst.symm⟩
  ·obtain rfl:i=aj c:=by omega
   simp only[go_sem,seval]
   repeat' first|assumption|simp (disch:=first|assumption|omega|simp;try omega) only[];try simp only[go_sem,seval]|(with_reducible first|apply aa|intro)|(try rw[ae]);omega
   simp

def Tryz.jd (m:List Int) (l:Int) (h:0<=l/\l<2*m.length) (hm : ∀ x∈m,0<=x):Pure prog 204 [dI l,.ptr [ai m]] (dI (lmap m l)):=by
 have hx:0<=m.getD (l/2).toNat 0:=hm _ (aP (by omega));refine bw func204 rfl ntmps204 fun ok=>?_
 simp only[go_sem,seval] at ok⊢
 repeat' first|assumption|simp (disch:=first|assumption|omega|simp;try omega) only[];try simp only[go_sem,seval]|(with_reducible first|apply aa|intro)|(try rw[ae]);omega
 have k:=xe h.1;rcases Int.emod_two_eq l with e|e
 ·rw[e] at k;have k2:l.toNat &&& 1=0:=by omega
  rw[k2,Nat.xor_zero,lmap,if_neg (by omega)];omega
 ·rw[e] at k;have k2:l.toNat &&& 1=1:=by omega
  rw[k2,lmap,if_pos e];exact pZ hx
def Tryz.oh (m:List Int) (l:Int) (h:0<=l/\l<2*m.length) (hm : ∀ x∈m,0<=x/\x<=1000000):Pure prog 205 [dI l,.ptr [ai m]] (dI (2*m.getD (l/2).toNat 0+l%2)):=by
 have hx:=hm _ (aP (l:=m) (i:=(l/2).toNat) (z:=0) (by omega));refine bw func205 rfl ntmps205 fun ok=>?_
 simp only[go_sem,seval] at ok⊢
 repeat' first|assumption|simp (disch:=first|assumption|omega|simp;try omega) only[];try simp only[go_sem,seval]|(with_reducible first|apply aa|intro)|(try rw[ae]);omega
 ·rw[xe h.1,ae];omega
 ·rw[xe h.1]
def Tryz.nc (g:Nat) (b:dm) (hb:b.Ok) (c:ac) (m:List Int) (hl:c.next.length<=1000/\c.outs.length<=1000) (hm : ∀ x∈m,0<=x) (hn : ∀ l∈c.next,0<=l/\l<2*m.length) (ho : ∀ l∈c.outs,0<=l/\l<2*m.length) :
  la prog 163 [.ptr 0 0,.d (pC c),.sl 4 g 1 0 m.length] (bH b ++ [.row g 1 true (m.map (D.int .i64))]) (.agg [.d (dI c.inputs),.d (ai (c.next.map (lmap m))),.sl 1 b.gates.length 2 0 b.gates.length,.d (ai (c.outs.map (lmap m)))]) (bH b ++ [.row g 1 true (m.map (D.int .i64))]):=by
 refine xU (E:=env 5) tok rfl 1000 func163 rfl rfl ntmps163 (by simp) ?_;have hr:=jm ⟨c.inputs,c.next,[],c.outs⟩ 204 [.ptr [ai m]] (lmap m) rfl ⟨by simp;omega,by simp,by simp;omega⟩
  (fun l hl=>jd m l (hn l hl) hm) (fun l hl=>jd m l (ho l hl) hm) (fun p hp=>by cases hp)
 have hr2:=hr.args (ds':=[.ptr [dI c.inputs,ai c.next,.nil,ai c.outs],.fn 204 [.ptr [ai m]]])
  ⟨.ptr rfl (xK (l:=[dI c.inputs,ai c.next,.nil,ai c.outs]) (l':=[dI c.inputs,ai c.next,aO [],ai c.outs]) ⟨.refl _,.refl _,.nil (by omega),.refl _,trivial⟩).2,.refl _,trivial⟩
 simp only[bH];simp only[go_sem,seval]
 repeat' first|assumption|simp (disch:=first|assumption|omega|simp;try omega) only[];try simp only[go_sem,seval]|(with_reducible first|apply aa|intro)|(try rw[ae]);omega
 refine cg (n:=5) [17] (aw [0,1,2,4,5,6,8,9,10,14,3,7,11,12] (.two 13 (.two 15 (.one 16 (.one 17 .done)) 16 (.one 15 (.one 17 .done))) 16 (.one 13 (.one 15 (.one 17 .done))))) ?_;simp only[go_sem,seval]
 repeat' first|assumption|simp (disch:=first|assumption|omega|simp;try omega) only[];try simp only[go_sem,seval]|(with_reducible first|apply aa|intro)|(refine aA hr2 ?_;simp only[go_sem,seval])|(try rw[ae]);omega
 all_goals rfl

def dT (c:ac):Nat->List Int×Int
 | 0=>(List.replicate (aj c+c.gates.length) 0,c.first)
 | i+1=>if(i:Int)<c.first then((dT c i).1.set i (i:Int),(dT c i).2) else if(jG c c.gates.length).getD i false=true then((dT c i).1.set i (dT c i).2,(dT c i).2+1) else dT c i
def wI {c:ac} : ∀ i,(dT c i).1.length=aj c+c.gates.length
 | 0=>by simp[dT]
 | i+1=>by
  rw[dT];split
  ·rw[fB];exact wI i
  ·split
   ·rw[fB];exact wI i
   ·exact wI i
def Dm {c:ac}(hf:0<=c.first) : ∀ i,c.first<=(dT c i).2/\(dT c i).2<=c.first+(i:Int)
 | 0=>by simp[dT]
 | i+1=>by
  have:=Dm hf i;rw[dT];split
  ·show c.first<=(dT c i).2/\(dT c i).2<=_;omega
  ·split
   ·show c.first<=(dT c i).2+1/\(dT c i).2+1<=_;omega
   ·omega
def Im {c:ac}(hf:0<=c.first) : ∀ i,∀ x∈(dT c i).1,0<=x/\x<=c.first+(i:Int)
 | 0,x,hx=>by
  simp only[dT,List.mem_replicate] at hx;omega
 | i+1,x,hx=>by
  have ih:=Im hf i;have hb:=Dm hf i;rw[dT] at hx;split at hx
  ·rcases ui hx with h|h
   ·have:=ih x h;omega
   ·omega
  ·split at hx
   ·rcases ui hx with h|h
    ·have:=ih x h;omega
    ·omega
   ·have:=ih x hx;omega
def sH (c:ac):List Int:=(dT c (aj c+c.gates.length)).1
def ig (c:ac) (l:Int):Int:=2*(sH c).getD (l/2).toNat 0+l%2
def kv (c:ac):Nat->List (Int×Int)
 | 0=>[]
 | i+1=>if(jG c c.gates.length).getD (aj c+i) false=true then kv c i ++ [(ig c (c.gates.getD i (0,0)).1,ig c (c.gates.getD i (0,0)).2)] else kv c i
def Fi (c:ac) : ∀ i,(kv c i).length<=i
 | 0=>by simp[kv]
 | i+1=>by
  have:=Fi c i;rw[kv];split
  ·rw[cr];show _+1<=_;omega
  ·omega
def w7 (c:ac):ac:=⟨c.inputs,c.next.map (ig c),kv c c.gates.length,c.outs.map (ig c)⟩
set_option maxHeartbeats 4000000 in
def Tryz.qt (c:ac) (hv:c.Valid):Pure prog 164 [pC c] (dC (w7 c)):=by
 refine bw func164 rfl ntmps164 fun ok=>?_
 simp only[go_sem,seval] at ok;have hfb:=hv.am;have hvb:=hv.aM;have hln:=hv.ln;have hlg:=hv.lg;have hlo:=hv.lo;have hi0:=hv.i0;have hi1:=hv.i1;have hcf:=lf hv;have hva:c.vars=c.first+c.gates.length:=rfl
 have hvn:c.vars.toNat=aj c+c.gates.length:=by omega
 have hfg:=bq c (by omega);have hre:=kj c hv;simp only[go_sem,seval]
 repeat' first|assumption|simp (disch:=first|assumption|omega|simp;try omega) only[ag];try simp only[go_sem,seval]|(with_reducible first|apply aa|intro)|(refine aA (jq c (by omega)) ?_;simp only[go_sem,seval])|(refine aA hre ?_;simp only[go_sem,seval])|(refine aA hfg ?_;simp only[go_sem,seval])|(try rw[ae]);omega
 rw[hvn];have hrl:=zY (c:=c) c.gates.length;refine ce (E:=env 0) tok (σ:=Nat) (fun i=>[(0,.d (pC c)),(2,.ptr 0 0),(3,.d (eZ (jG c c.gates.length))),(4,.ptr 2 0),(5,.d (dI (dT c i).2)),(19,.d (dI ((aj c+c.gates.length:Nat):Int))),(20,.d (dI i))])
  (fun i=>[.box [.d (dI 0),.d .nil,.d .nil,.d .nil],.row 0 1 true ((dT c i).1.map (D.int .i64)),.box [.sl 1 0 1 0 (aj c+c.gates.length)]])
  (fun i=>i<=aj c+c.gates.length) (fun i=>aj c+c.gates.length-i) [] 1000 1000 ?_ ?_ ?_
 ·simp only[go_sem,seval]
 ·simp only[go_sem,seval];exact⟨0,by omega,⟨rfl,rfl⟩,rfl⟩
 ·intro i hi;have hpl:=wI (c:=c) i;have hpb:=Dm (c:=c) (by omega) i;by_cases hlt:i<aj c+c.gates.length
  ·have hst:dT c (i+1)=if(i:Int)<c.first then((dT c i).1.set i (i:Int),(dT c i).2) else if(jG c c.gates.length).getD i false=true then((dT c i).1.set i (dT c i).2,(dT c i).2+1) else dT c i:=rfl
   simp only[go_sem,seval]
   repeat' first|assumption|simp (disch:=first|assumption|omega|simp;try omega) only[ag];try simp only[go_sem,seval]|(with_reducible first|apply aa|intro)|(refine aA hfg ?_;simp only[go_sem,seval])|(try rw[ae]);omega
   ·rename_i h1;refine⟨i+1,by omega,by omega,⟨?_,rfl⟩,?_⟩ <;> rw[hst,if_pos h1]
   ·rename_i h1 h2;refine⟨i+1,by omega,by omega,⟨?_,rfl⟩,?_⟩ <;> rw[hst,if_neg h1,if_pos h2]
   ·rename_i h1 h2;refine⟨i+1,by omega,by omega,⟨?_,rfl⟩,?_⟩ <;> rw[hst,if_neg h1,if_neg (by rw[h2];decide)]
  ·obtain rfl:i=aj c+c.gates.length:=by omega
   simp only[go_sem,seval]
   repeat' first|assumption|simp (disch:=first|assumption|omega|simp;try omega) only[ag];try simp only[go_sem,seval]|(with_reducible first|apply aa|intro)|(try rw[ae]);omega
   have hmem:=Im (c:=c) (by omega) (aj c+c.gates.length);have hP:(dT c (aj c+c.gates.length)).1=sH c:=rfl;rw[hP] at *
   have hpc:(sH c).length=aj c+c.gates.length:=wI _;have hlt9 : ∀ l,0<=l/\l<2*c.vars->Pure prog 205 [dI l,.ptr [ai (sH c)]] (dI (ig c l)):=fun l hl=>
    oh (sH c) l (by rw[hpc];omega) (fun x hx=>by have:=hmem x hx;omega)
   have hrep:=jm c 205 [.ptr [ai (sH c)]] (ig c) rfl ⟨by omega,by omega,by omega⟩ (fun l hl=>hlt9 l (hv.n l hl)) (fun l hl=>hlt9 l (hv.o l hl))
    (fun p hp=>by
     obtain⟨j,hj,rfl⟩:=fO (0,0) hp;have hg:=hv.g j hj;unfold bj at hg;exact⟨hlt9 _ (by omega),hlt9 _ (by omega)⟩)
   try rw[ag (by omega)]
   refine lu hrep ?_;simp only[go_sem,seval]
   repeat' first|assumption|simp (disch:=first|assumption|omega|simp;try omega) only[ag];try simp only[go_sem,seval]|(with_reducible first|apply aa|intro)|(try rw[ae]);omega
   have hG:(ja (ig c) c).gates=c.gates.map (fun p=>(ig c p.1,ig c p.2)):=rfl;have hgl:(ja (ig c) c).gates.length=c.gates.length:=by rw[hG,ie]
   have hgg : ∀ j,j<c.gates.length->(ja (ig c) c).gates.getD j (0,0)=(ig c (c.gates.getD j (0,0)).1,ig c (c.gates.getD j (0,0)).2):=fun j hj=>by
    rw[hG];simp[List.getD,hj]
   have hI:(ja (ig c) c).inputs=c.inputs:=rfl;have hN:(ja (ig c) c).next=c.next.map (ig c):=rfl;have hO:(ja (ig c) c).outs=c.outs.map (ig c):=rfl;rw[hI];generalize (ja (ig c) c).gates=G at *
   generalize (ja (ig c) c).next=N at *
   generalize (ja (ig c) c).outs=O at *
   refine Bw (E:=env 0) tok (σ:=Nat) (fun i=>[(0,.d (pC c)),(2,.ptr 0 0),(3,.d (eZ (jG c c.gates.length))),(7,.ptr 6 0),(50,.sl 4 0 2 0 G.length),(51,.d (dI G.length)),(52,.d (dI i))])
    (fun i=>[.box [.d (dI 0),.d .nil,.d .nil,.d .nil],.row 0 1 true ((sH c).map (D.int .i64)),.box [.sl 1 0 1 0 (aj c+c.gates.length)],
     .row 0 1 true (N.map (D.int .i64)),.row 0 2 true (G.map dP),.row 0 1 true (O.map (D.int .i64)),
     .box [.d (dI c.inputs),.sl 3 0 1 0 N.length,.sl 7 (kv c i).length 2 0 (kv c i).length,.sl 5 0 1 0 O.length],.row (kv c i).length 2 true ((kv c i).map dP)])
    (fun i=>i<=G.length) (fun i=>G.length-i) [(6,2,2,true)] [] 1000 1000 ?_ ?_ ?_ ?_
   ·simp only[go_sem,seval]
   ·simp only[go_sem,seval]
   ·simp only[go_sem,seval];exact⟨0,by omega,rfl,by simp[ja,kv]⟩
   ·intro i hi;by_cases hlt:i<G.length
    ·have hpg:kv c (i+1)=if(jG c c.gates.length).getD (aj c+i) false=true then kv c i ++ [(ig c (c.gates.getD i (0,0)).1,ig c (c.gates.getD i (0,0)).2)] else kv c i:=rfl;have hgi:=hgg i (by omega);have hfi:(c.first+(i:Int)).toNat=aj c+i:=by omega
     simp only[go_sem,seval];have hpl2:=Fi c i
     repeat' first|assumption|simp (disch:=first|assumption|omega|simp;try omega) only[ag];try simp only[go_sem,seval,hfi]|(with_reducible first|apply aa|intro)|(refine aA hfg ?_;simp only[go_sem,seval,hfi])|(try rw[ae]);omega
     ·rename_i h1;rw[if_pos h1] at hpg;have el:(kv c (i+1)).length=(kv c i).length+1:=by rw[hpg];simp
      exact⟨i+1,by omega,by omega,rfl,by rw[el],el.symm,by rw[hpg,<-hgi]⟩
     ·rename_i h1;rw[if_neg (by rw[h1];decide)] at hpg;exact⟨i+1,by omega,by omega,rfl,by rw[hpg],by rw[hpg],by rw[hpg]⟩
    ·obtain rfl:i=G.length:=by omega
     simp only[go_sem,seval]
     repeat' first|assumption|simp (disch:=first|assumption|omega|simp;try omega) only[ag];try simp only[go_sem,seval]|(with_reducible first|apply aa|intro)|(try rw[ae]);omega
     all_goals first
      | rfl
      | (rw[hgl];rfl)
      | (rw[show kv c G.length=kv c c.gates.length by rw[hgl]];rfl)
      | trace_state
end Go.Proofs
