/- Contracts, plain definitions and lemmas. Conditions: none; lemmas. -/
import Derived.Test.YteikeianenfhaaaGreatC10
import Derived.Test.YteikeianenfhaaaGreatC13
import Derived.Test.YteikeianenfhaaaGreatC6
import Derived.Test.YteikeianenfhaaaGreatVM8
set_option maxRecDepth 20000
set_option linter.unusedSimpArgs false
set_option linter.unusedVariables false
namespace Go.Proofs
open Go Go.VL
abbrev dQ (p:Int×Bool):D:=.agg [dI p.1,dB p.2]
abbrev dTcs (l:List Tcfg):D:=.lst 4 (l.map fun x=>dTc x)
abbrev dQs (l:List (Int×Bool)):D:=.lst 2 (l.map fun x=>dQ x)
structure Kcfg where
 tiles:List Tcfg
 pads:List (Int×Bool)
noncomputable instance:DecidableEq Kcfg:=fun _ _=>Classical.propDecidable _
abbrev dK (k:Kcfg):D:=.agg [dTcs k.tiles,dQs k.pads]
def tc0:Tcfg:=⟨0,[],false,[]⟩
abbrev dFp (p:Int×Tcfg):D:=dFr p.1 p.2
theorem qan {l:List Tcfg}{i:Nat}{z:D}(h:i<l.length):(l.map fun x=>dTc x).getD i z=dTc (l.getD i tc0):=getD_lt _ _ _ _ _ h
theorem qau {l:List (Int×Bool)}{i:Nat}{z:D}(h:i<l.length):(l.map fun x=>dQ x).getD i z=dQ (l.getD i (0,false)):=getD_lt _ _ _ _ _ h
theorem qaI {l:List (Int×Tcfg)}{i:Nat}{z:D}(h:i<l.length):(l.map fun x=>dFp x).getD i z=dFp (l.getD i (0,tc0)):=getD_lt _ _ _ _ _ h
@[go_sem] theorem scalars_q {l:List (Int×Bool)}:scalars (l.map fun x=>dQ x)=true:=by induction l with|nil=>rfl|cons x r ih=>simp[scalars,D.cells,D.scalar,ih]
def wT (t:Tcfg):Nat:=t.select.length+t.drive.length
def sumB {α : Type}(f : α->Nat) (l:List α):Nat:=(l.map f).sum
theorem qlw {α : Type}{f : α->Nat}{l:List α}{i:Nat}(z : α) (h:i<l.length):sumB f (l.take (i+1))=sumB f (l.take i)+f (l.getD i z):=by
 rw[yaL h,sumB,sumB,yaC,List.sum_append];simp[List.getD,h]
theorem qpx {α : Type}{f : α->Nat}{l:List α}(i:Nat):sumB f (l.take i)<=sumB f l:=by
 have:sumB f l=sumB f (l.take i)+sumB f (l.drop i):=by
  rw[sumB,sumB,sumB,<-List.sum_append,<-yaC,ybl]
 omega
def wK (k:Kcfg):Nat:=k.tiles.length+sumB wT k.tiles+k.pads.length
theorem Tryz.c_eqTileConfigS (a b:List Tcfg):Pure Tryz.prog 110 [dTcs a,dTcs b] (.bool (decide (a=b))):=by
 refine qas (E:=Tryz.env 0) Tryz.tok rfl 1000 Tryz.func110 rfl rfl Tryz.ntmps110 (by simp) fun ok=>?_
 simp only[go_sem,seval] at ok;simp only[go_sem,seval];refine⟨fun h=>?_,fun hlen=>?_⟩
 ·simp only[false_eq_decide_iff];rintro rfl;exact h rfl
 refine qaF (E:=Tryz.env 0) Tryz.tok (σ:=Nat) (fun i=>[(0,.d (dTcs a)),(1,.d (dTcs b)),(5,.d (dI i))]) (fun _=>[]) (fun i=>i<=a.length/\∀ j,j<i->a.getD j tc0=b.getD j tc0) (fun i=>a.length-i) [] 1000 1000 ?_ ?_ ?_
 ·simp only[go_sem,seval]
 ·simp only[go_sem,seval];exact⟨0,⟨by omega,by omega⟩,rfl⟩
 ·rintro i ⟨hi,hinv⟩;by_cases hlt:i<a.length
  ·simp only[go_sem,seval]
   repeat' first|assumption|(simp (disch:=first|assumption|omega|(simp;done)|(simp;omega)) only[qaa,qac,yaa,qab,qan,qau,qaI];try simp only[go_sem,seval])|(with_reducible first|refine And.intro ?_ ?_|intro _)|(refine qb6 (fun _=>⟨Tryz.c_eqTileConfig _ _,trivial⟩) ?_;simp only[go_sem,seval])|((with_reducible (show Region.lexB _ _=true));kernel_rfl)|((try rw[qad]);omega)
   ·rename_i h1;simp only[false_eq_decide_iff];rintro rfl;exact h1 rfl
   ·rename_i h1;exact qgg hlt h1 hinv
  ·simp only[go_sem,seval]
   repeat' first|assumption|(simp (disch:=first|assumption|omega|(simp;done)|(simp;omega)) only[qaa,qac,yaa,qab,qan,qau,qaI];try simp only[go_sem,seval])|(with_reducible first|refine And.intro ?_ ?_|intro _)|((with_reducible (show Region.lexB _ _=true));kernel_rfl)|((try rw[qad]);omega)
   simp only[true_eq_decide_iff];exact qbz tc0 hlen fun j hj=>hinv j (by omega)
theorem Tryz.c_eqPadConfig (p q:Int×Bool):Pure Tryz.prog 178 [dQ p,dQ q] (.bool (decide (p=q))):=by
 refine qas (E:=Tryz.env 0) Tryz.tok rfl 1000 Tryz.func178 rfl rfl Tryz.ntmps178 (by simp) fun ok=>?_
 simp only[go_sem,seval] at ok;simp only[go_sem,seval];obtain⟨a,b⟩:=p;obtain⟨c,d⟩:=q
 repeat' first|assumption|(simp (disch:=first|assumption|omega|(simp;done)|(simp;omega)) only[qaa,qac,yaa,qab,qan,qau,qaI];try simp only[go_sem,seval])|(with_reducible first|refine And.intro ?_ ?_|intro _)|((with_reducible (show Region.lexB _ _=true));kernel_rfl)|((try rw[qad]);omega)
 all_goals simp_all
theorem Tryz.c_eqPadConfigS (a b:List (Int×Bool)):Pure Tryz.prog 111 [dQs a,dQs b] (.bool (decide (a=b))):=by
 refine qas (E:=Tryz.env 0) Tryz.tok rfl 1000 Tryz.func111 rfl rfl Tryz.ntmps111 (by simp) fun ok=>?_
 simp only[go_sem,seval] at ok;simp only[go_sem,seval];refine⟨fun h=>?_,fun hlen=>?_⟩
 ·simp only[false_eq_decide_iff];rintro rfl;exact h rfl
 refine qaF (E:=Tryz.env 0) Tryz.tok (σ:=Nat) (fun i=>[(0,.d (dQs a)),(1,.d (dQs b)),(5,.d (dI i))]) (fun _=>[]) (fun i=>i<=a.length/\∀ j,j<i->a.getD j (0,false)=b.getD j (0,false)) (fun i=>a.length-i) [] 1000 1000 ?_ ?_ ?_
 ·simp only[go_sem,seval]
 ·simp only[go_sem,seval];exact⟨0,⟨by omega,by omega⟩,rfl⟩
 ·rintro i ⟨hi,hinv⟩;by_cases hlt:i<a.length
  ·simp only[go_sem,seval]
   repeat' first|assumption|(simp (disch:=first|assumption|omega|(simp;done)|(simp;omega)) only[qaa,qac,yaa,qab,qan,qau,qaI];try simp only[go_sem,seval])|(with_reducible first|refine And.intro ?_ ?_|intro _)|(refine qb6 (fun _=>⟨Tryz.c_eqPadConfig _ _,trivial⟩) ?_;simp only[go_sem,seval])|((with_reducible (show Region.lexB _ _=true));kernel_rfl)|((try rw[qad]);omega)
   ·rename_i h1;simp only[false_eq_decide_iff];rintro rfl;exact h1 rfl
   ·rename_i h1;exact qgg hlt h1 hinv
  ·simp only[go_sem,seval]
   repeat' first|assumption|(simp (disch:=first|assumption|omega|(simp;done)|(simp;omega)) only[qaa,qac,yaa,qab,qan,qau,qaI];try simp only[go_sem,seval])|(with_reducible first|refine And.intro ?_ ?_|intro _)|((with_reducible (show Region.lexB _ _=true));kernel_rfl)|((try rw[qad]);omega)
   simp only[true_eq_decide_iff];exact qbz (0,false) hlen fun j hj=>hinv j (by omega)
theorem Tryz.c_eqConfig (a b:Kcfg):Pure Tryz.prog 52 [dK a,dK b] (.bool (decide (a=b))):=by
 refine qas (E:=Tryz.env 0) Tryz.tok rfl 1000 Tryz.func52 rfl rfl Tryz.ntmps52 (by simp) fun ok=>?_
 simp only[go_sem,seval] at ok;simp only[go_sem,seval];obtain⟨t,p⟩:=a;obtain⟨t',p'⟩:=b
 repeat' first|assumption|(simp (disch:=first|assumption|omega|(simp;done)|(simp;omega)) only[qaa,qac,yaa,qab,qan,qau,qaI];try simp only[go_sem,seval])|(with_reducible first|refine And.intro ?_ ?_|intro _)|(refine qaj (Tryz.c_eqTileConfigS _ _) ?_;simp only[go_sem,seval])|(refine qaj (Tryz.c_eqPadConfigS _ _) ?_;simp only[go_sem,seval])|((with_reducible (show Region.lexB _ _=true));kernel_rfl)|((try rw[qad]);omega)
 all_goals simp_all

def mI (k:Int) (n:Nat):List Int:=(List.range n).map fun(j:Nat)=>k+(j:Int)
theorem qsl (k:Int) (n:Nat):(mI k n).length=n:=by simp[mI]
def qkq (t:Tcfg) (k:Int):Tcfg:=⟨k,mI (k+1) t.select.length,decide ((k+1+t.select.length)%3=0),mI (k+1+t.select.length+1) t.drive.length⟩
def wM (t:Tcfg):Nat:=2+t.select.length+t.drive.length
def mTs (l:List Tcfg) (k:Int):List Tcfg:=(List.range l.length).map fun j=>qkq (l.getD j tc0) (k+(sumB wM (l.take j):Int))
theorem qpy (l:List Tcfg) (k:Int):(mTs l k).length=l.length:=by simp[mTs]
theorem qpz (l:List Tcfg) (k:Int) {j:Nat}(h:j<l.length):(mTs l k).getD j tc0=qkq (l.getD j tc0) (k+(sumB wM (l.take j):Int)):=by simp[mTs,List.getD,h]
theorem set_tcs {b:List Tcfg}{i:Nat}{t:Tcfg}:(b.map fun x=>dTc x).set i (dTc t)=(b.set i t).map fun x=>dTc x:=by rw[ybm]
theorem qag {α : Type}{l:List α}{i:Nat}{x z : α}(h:i<l.length):(l.set i x).getD i z=x:=by simp[List.getD,h]
theorem qbt {α : Type}{l:List α}{i j:Nat}{x z : α}(h:i≠j):(l.set i x).getD j z=l.getD j z:=by simp[List.getD,List.getElem?_set,h]
theorem Tryz.c_markTileConfigS (g:Nat) (l:List Tcfg) (k:Int) (hk:0<=k/\k+sumB wM l<=1000000000000) (hl:l.length<=1000000000000) :
  ICall Tryz.prog 112 [.sl 0 g 4 0 l.length,.d (dI k)] [.row g 4 true (l.map fun x=>dTc x)] (fun r H'=>r=.d (dI (k+(sumB wM l:Int)))/\H'=[.row g 4 true ((mTs l k).map fun x=>dTc x)]):=by
 refine qaO (E:=Tryz.env 1) Tryz.tok rfl 1000 Tryz.func112 rfl rfl Tryz.ntmps112 (by simp) ?_;simp only[go_sem,seval];refine qap (E:=Tryz.env 1) Tryz.tok (σ:=Nat×List Tcfg) (fun s=>[(0,.sl 0 g 4 0 l.length),(1,.d (dI (k+(sumB wM (l.take s.1):Int)))),(5,.d (dI s.1))]) (fun s=>[.row g 4 true (s.2.map fun x=>dTc x)]) (fun s=>s.1<=l.length/\s.2.length=l.length/\(∀ (j:Nat),j<s.1->s.2.getD j tc0=qkq (l.getD j tc0) (k+(sumB wM (l.take j):Int)))/\∀ (j:Nat),s.1<=j->s.2.getD j tc0=l.getD j tc0) (fun s=>l.length-s.1) [] [] 1000 1000 ?_ ?_
 ·simp only[go_sem,seval];exact⟨(0,l),⟨by omega,rfl,fun j hj=>absurd hj (by simp),fun j hj=>rfl⟩,by simp[sumB]⟩
 ·rintro⟨i,b⟩ ⟨hi,hb,hlo,hhi⟩;simp only at hi hb hlo hhi;by_cases hlt:i<l.length
  ·have e1:=qlw (f:=wM) tc0 hlt;have e2:=qpx (f:=wM) (l:=l) (i+1);have e3:wM (l.getD i tc0)=2+(l.getD i tc0).select.length+(l.getD i tc0).drive.length:=rfl;have e4:=hhi i (by omega);have hnext : ∃ s':Nat×List Tcfg,(s'.1<=l.length/\s'.2.length=l.length/\(∀ (j:Nat),j<s'.1->s'.2.getD j tc0=qkq (l.getD j tc0) (k+(sumB wM (l.take j):Int)))/\∀ (j:Nat),s'.1<=j->s'.2.getD j tc0=l.getD j tc0)/\s'.1=i+1/\
     s'.2=b.set i (qkq (l.getD i tc0) (k+(sumB wM (l.take i):Int))):=by
    refine⟨(i+1,b.set i (qkq (l.getD i tc0) (k+(sumB wM (l.take i):Int)))),⟨by omega,by simpa using hb,fun j hj=>?_,fun j hj=>?_⟩,rfl,rfl⟩
    ·simp only at hj ⊢;by_cases hji:j=i
     ·subst hji;rw[qag (by omega)]
     ·rw[qbt (Ne.symm hji)];exact hlo j (by omega)
    ·simp only at hj ⊢;rw[qbt (by omega)];exact hhi j (by omega)
   generalize hkk:k+(sumB wM (l.take i):Int)=kk at *
   generalize l.getD i tc0=t at *
   have hr:=qab (y:=3) (show(0:Int)<=kk+1+t.select.length by omega);simp only[go_sem,seval]
   repeat' first|assumption|(simp (disch:=first|assumption|omega|(simp;done)|(simp;omega)) only[qaa,qac,yaa,qab,qan,qau,qaI,qag];try simp only[go_sem,seval,e4])|(with_reducible first|refine And.intro ?_ ?_|intro _)|((try rw[qad]);omega)
   refine qea (Tryz.c_markIntS 1 t.select (kk+1) (by omega) (by omega)) [1] (by simp only[go_sem,seval]) ?_;simp only[go_sem,seval]
   repeat' first|assumption|(simp (disch:=first|assumption|omega|(simp;done)|(simp;omega)) only[qaa,qac,yaa,qab,qan,qau,qaI,qag];try simp only[go_sem,seval,e4])|(with_reducible first|refine And.intro ?_ ?_|intro _)|((try rw[qad]);omega)
   refine qea (Tryz.c_markIntS 1 t.drive (kk+1+t.select.length+1) (by omega) (by omega)) [2] (by simp only[go_sem,seval]) ?_;simp only[go_sem,seval]
   repeat' first|assumption|(simp (disch:=first|assumption|omega|(simp;done)|(simp;omega)) only[qaa,qac,yaa,qab,qan,qau,qaI,qag];try simp only[go_sem,seval,e4])|(with_reducible first|refine And.intro ?_ ?_|intro _)|((try rw[qad]);omega)
   ·obtain⟨s',h1,h2,h3⟩:=hnext;refine⟨s',h1,by omega,⟨by rw[h2];omega,by omega⟩,?_⟩;rw[List.set_set,h3,<-set_tcs];rfl
  ·simp only[go_sem,seval]
   repeat' first|assumption|(simp (disch:=first|assumption|omega|(simp;done)|(simp;omega)) only[qaa,qac,yaa,qab,qan,qau,qaI,qag];try simp only[go_sem,seval])|(with_reducible first|refine And.intro ?_ ?_|intro _)|((try rw[qad]);omega)
   refine qci ⟨rfl,?_⟩;have e:b=mTs l k:=qbz tc0 (by rw[hb,qpy]) fun j hj=>by rw[hlo j (by omega),qpz l k (by omega)]
   rw[e]
theorem Tryz.c_heldTileConfigS (l:List Tcfg) (k:Int) (hk:0<=k/\k+sumB wM l<=1000000000000):Pure Tryz.prog 114 [dTcs (mTs l k),dI k] (dI (k+(sumB wM l:Int))):=by
 refine qas (E:=Tryz.env 0) Tryz.tok rfl 1000 Tryz.func114 rfl rfl Tryz.ntmps114 (by simp) fun ok=>?_
 simp only[go_sem,seval] at ok;have hlen:=qpy l k;simp only[go_sem,seval];refine qaF (E:=Tryz.env 0) Tryz.tok (σ:=Nat) (fun i=>[(0,.d (dTcs (mTs l k))),(1,.d (dI (k+(sumB wM (l.take i):Int)))),(5,.d (dI i))]) (fun _=>[]) (fun i=>i<=l.length) (fun i=>l.length-i) [] 1000 1000 ?_ ?_ ?_
 ·simp only[go_sem,seval]
 ·simp only[go_sem,seval];exact⟨0,by omega,by simp[sumB]⟩
 ·intro i hi;by_cases hlt:i<l.length
  ·have e1:=qlw (f:=wM) tc0 hlt;have e2:=qpx (f:=wM) (l:=l) (i+1);have e3:wM (l.getD i tc0)=2+(l.getD i tc0).select.length+(l.getD i tc0).drive.length:=rfl;have e4:=qpz l k hlt;generalize hkk:k+(sumB wM (l.take i):Int)=kk at *
   generalize l.getD i tc0=t at *
   have hr:=qab (y:=3) (show(0:Int)<=kk+1+t.select.length by omega);have h1:=Tryz.c_heldIntS (mI (kk+1) t.select.length) (kk+1) (by rw[qsl];omega);have h2:=Tryz.c_heldIntS (mI (kk+1+t.select.length+1) t.drive.length) (kk+1+t.select.length+1) (by rw[qsl];omega);rw[show Tryz.held (mI (kk+1) t.select.length) (kk+1)=kk+1+(t.select.length:Int) from Tryz.held_mark _ _] at h1;rw[show Tryz.held (mI (kk+1+t.select.length+1) t.drive.length) (kk+1+t.select.length+1)=kk+1+t.select.length+1+(t.drive.length:Int) from Tryz.held_mark _ _] at h2;simp only[go_sem,seval]
   repeat' first|assumption|(simp (disch:=first|assumption|omega|(simp;done)|(simp;omega)) only[qaa,qac,yaa,qab,qan,qau,qaI,qag];try simp only[go_sem,seval,e4,qkq,hlen,hr])|(with_reducible first|refine And.intro ?_ ?_|intro _)|(refine qaj h1 ?_;simp only[go_sem,seval,e4,qkq,hlen,hr])|(refine qaj h2 ?_;simp only[go_sem,seval,e4,qkq,hlen,hr])|((try rw[qad]);omega)
   exact⟨i+1,by omega,by omega,by omega,rfl⟩
  ·have e1:sumB wM l=sumB wM (l.take i):=by rw[yaa (by omega)]
   simp only[go_sem,seval]
   repeat' first|assumption|(simp (disch:=first|assumption|omega|(simp;done)|(simp;omega)) only[qaa,qac,yaa,qab,qan,qau,qaI,qag];try simp only[go_sem,seval,hlen])|(with_reducible first|refine And.intro ?_ ?_|intro _)|((try rw[qad]);omega)
def mQs (l:List (Int×Bool)) (k:Int):List (Int×Bool):=(List.range l.length).map fun(j:Nat)=>(k+2*(j:Int),decide ((k+2*(j:Int)+1)%3=0))
theorem qpA (l:List (Int×Bool)) (k:Int):(mQs l k).length=l.length:=by simp[mQs]
theorem qpB (l:List (Int×Bool)) (k:Int) {j:Nat}(h:j<l.length):(mQs l k).getD j (0,false)=(k+2*(j:Int),decide ((k+2*(j:Int)+1)%3=0)):=by simp[mQs,List.getD,h]
theorem Tryz.c_markPadConfigS (g:Nat) (l:List (Int×Bool)) (k:Int) (hk:0<=k/\k+2*l.length<=1000000000000) :
  ICall Tryz.prog 113 [.sl 0 g 2 0 l.length,.d (dI k)] [.row g 2 true (l.map fun x=>dQ x)] (fun r H'=>r=.d (dI (k+2*(l.length:Int)))/\H'=[.row g 2 true ((mQs l k).map fun x=>dQ x)]):=by
 refine qaO (E:=Tryz.env 1) Tryz.tok rfl 1000 Tryz.func113 rfl rfl Tryz.ntmps113 (by simp) ?_;simp only[go_sem,seval];refine qap (E:=Tryz.env 1) Tryz.tok (σ:=Nat×List (Int×Bool)) (fun s=>[(0,.sl 0 g 2 0 l.length),(1,.d (dI (k+2*(s.1:Int)))),(5,.d (dI s.1))]) (fun s=>[.row g 2 true (s.2.map fun x=>dQ x)]) (fun s=>s.1<=l.length/\s.2.length=l.length/\∀ (j:Nat),j<s.1->s.2.getD j (0,false)=(k+2*(j:Int),decide ((k+2*(j:Int)+1)%3=0))) (fun s=>l.length-s.1) [] [] 1000 1000 ?_ ?_
 ·simp only[go_sem,seval];exact⟨(0,l),⟨by omega,rfl,fun j hj=>absurd hj (by simp)⟩,by simp⟩
 ·rintro⟨i,b⟩ ⟨hi,hb,hlo⟩;simp only at hi hb hlo;by_cases hlt:i<l.length
  ·have hr:=qab (y:=3) (show(0:Int)<=k+2*(i:Int)+1 by omega);simp only[go_sem,seval]
   repeat' first|assumption|(simp (disch:=first|assumption|omega|(simp;done)|(simp;omega)) only[qaa,qac,yaa,qab,qan,qau,qaI,qag];try simp only[go_sem,seval,hr])|(with_reducible first|refine And.intro ?_ ?_|intro _)|((try rw[qad]);omega)
   refine⟨(i+1,b.set i (k+2*(i:Int),decide ((k+2*(i:Int)+1)%3=0))),⟨by omega,by simpa using hb,fun j hj=>?_⟩,by omega,⟨by simp only;omega,rfl⟩,?_⟩
   ·simp only at hj ⊢;by_cases hji:j=i
    ·subst hji;rw[qag (by omega)]
    ·rw[qbt (Ne.symm hji)];exact hlo j (by omega)
   ·rw[List.set_set,ybm]
  ·simp only[go_sem,seval]
   repeat' first|assumption|(simp (disch:=first|assumption|omega|(simp;done)|(simp;omega)) only[qaa,qac,yaa,qab,qan,qau,qaI,qag];try simp only[go_sem,seval])|(with_reducible first|refine And.intro ?_ ?_|intro _)|((try rw[qad]);omega)
   refine qci ⟨by rw[show i=l.length by omega],?_⟩;have e:b=mQs l k:=qbz (0,false) (by rw[hb,qpA]) fun j hj=>by rw[hlo j (by omega),qpB l k (by omega)]
   rw[e]
theorem Tryz.c_heldPadConfigS (l:List (Int×Bool)) (k:Int) (hk:0<=k/\k+2*l.length<=1000000000000):Pure Tryz.prog 115 [dQs (mQs l k),dI k] (dI (k+2*(l.length:Int))):=by
 refine qas (E:=Tryz.env 0) Tryz.tok rfl 1000 Tryz.func115 rfl rfl Tryz.ntmps115 (by simp) fun ok=>?_
 simp only[go_sem,seval] at ok;have hlen:=qpA l k;simp only[go_sem,seval];refine qaF (E:=Tryz.env 0) Tryz.tok (σ:=Nat) (fun i=>[(0,.d (dQs (mQs l k))),(1,.d (dI (k+2*(i:Int)))),(5,.d (dI i))]) (fun _=>[]) (fun i=>i<=l.length) (fun i=>l.length-i) [] 1000 1000 ?_ ?_ ?_
 ·simp only[go_sem,seval]
 ·simp only[go_sem,seval];exact⟨0,by omega,by simp⟩
 ·intro i hi;by_cases hlt:i<l.length
  ·have e4:=qpB l k hlt;have hr:=qab (y:=3) (show(0:Int)<=k+2*(i:Int)+1 by omega);simp only[go_sem,seval]
   repeat' first|assumption|(simp (disch:=first|assumption|omega|(simp;done)|(simp;omega)) only[qaa,qac,yaa,qab,qan,qau,qaI,qag];try simp only[go_sem,seval,e4,hlen,hr])|(with_reducible first|refine And.intro ?_ ?_|intro _)|((try rw[qad]);omega)
   exact⟨i+1,by omega,by omega,by omega,rfl⟩
  ·simp only[go_sem,seval]
   repeat' first|assumption|(simp (disch:=first|assumption|omega|(simp;done)|(simp;omega)) only[qaa,qac,yaa,qab,qan,qau,qaI,qag];try simp only[go_sem,seval,hlen])|(with_reducible first|refine And.intro ?_ ?_|intro _)|((try rw[qad]);omega)
def mK (c:Kcfg) (k:Int):Kcfg:=⟨mTs c.tiles k,mQs c.pads (k+(sumB wM c.tiles:Int))⟩
def wKM (c:Kcfg):Nat:=sumB wM c.tiles+2*c.pads.length
theorem Tryz.c_markConfig (g g':Nat) (c:Kcfg) (k:Int) (hk:0<=k/\k+wKM c<=1000000000000) (hl:c.tiles.length<=1000000000000) :
  ICall Tryz.prog 53 [.agg [.sl 0 g 4 0 c.tiles.length,.sl 1 g' 2 0 c.pads.length],.d (dI k)] [.row g 4 true (c.tiles.map fun x=>dTc x),.row g' 2 true (c.pads.map fun x=>dQ x)]
   (fun r H'=>r=.d (dI (k+(wKM c:Int)))/\H'=[.row g 4 true ((mK c k).tiles.map fun x=>dTc x),.row g' 2 true ((mK c k).pads.map fun x=>dQ x)]):=by
 have e:wKM c=sumB wM c.tiles+2*c.pads.length:=rfl;refine qaO (E:=Tryz.env 2) Tryz.tok rfl 1000 Tryz.func53 rfl rfl Tryz.ntmps53 (by simp) ?_;simp only[go_sem,seval];refine qaB (Tryz.c_markTileConfigS g c.tiles k (by omega) (by omega)) [0] (by simp only[go_sem,seval]) ?_;rintro r0 H1 ⟨rfl,rfl⟩;simp only[go_sem,seval]
 repeat' first|assumption|(simp (disch:=first|assumption|omega|(simp;done)|(simp;omega)) only[qaa,qac,yaa,qab,qan,qau,qaI,qag];try simp only[go_sem,seval])|(with_reducible first|refine And.intro ?_ ?_|intro _)|((try rw[qad]);omega)
 refine qaB (Tryz.c_markPadConfigS g' c.pads (k+(sumB wM c.tiles:Int)) (by omega)) [1] (by simp only[go_sem,seval]) ?_;rintro r0 H1 ⟨rfl,rfl⟩;simp only[go_sem,seval]
 repeat' first|assumption|(simp (disch:=first|assumption|omega|(simp;done)|(simp;omega)) only[qaa,qac,yaa,qab,qan,qau,qaI,qag];try simp only[go_sem,seval])|(with_reducible first|refine And.intro ?_ ?_|intro _)|((try rw[qad]);omega)
 refine qcH (by simp) (by simp[go_sem]) ?_;simp only[go_sem,seval];have e5:k+(sumB wM c.tiles:Int)+2*(c.pads.length:Int)=k+(wKM c:Int):=by omega
 rw[e5];exact⟨rfl,rfl⟩
theorem Tryz.c_heldConfig (c:Kcfg) (k:Int) (hk:0<=k/\k+wKM c<=1000000000000):Pure Tryz.prog 54 [dK (mK c k),dI k] (dI (k+(wKM c:Int))):=by
 have e:wKM c=sumB wM c.tiles+2*c.pads.length:=rfl;have h1:=Tryz.c_heldTileConfigS c.tiles k (by omega);have h2:=Tryz.c_heldPadConfigS c.pads (k+(sumB wM c.tiles:Int)) (by omega);refine qas (E:=Tryz.env 0) Tryz.tok rfl 1000 Tryz.func54 rfl rfl Tryz.ntmps54 (by simp) fun ok=>?_
 simp only[go_sem,seval] at ok;simp only[go_sem,seval]
 repeat' first|assumption|(simp (disch:=first|assumption|omega|(simp;done)|(simp;omega)) only[qaa,qac,yaa,qab,qan,qau,qaI,qag];try simp only[go_sem,seval])|(with_reducible first|refine And.intro ?_ ?_|intro _)|(refine qaj h1 ?_;simp only[go_sem,seval])|(refine qaj h2 ?_;simp only[go_sem,seval])|((try rw[qad]);omega)
theorem Tryz.c_markDefectS (g:Nat) (l:List (Int×Int)) (k:Int) (hk:0<=k/\k+2*l.length<=1000000000000) :
  ICall Tryz.prog 63 [.sl 0 g 2 0 l.length,.d (dI k)] [.row g 2 true (l.map dP)] (fun r H'=>r=.d (dI (k+2*(l.length:Int)))/\∃ b:List (Int×Int),H'=[.row g 2 true (b.map dP)]):=by
 refine qaO (E:=Tryz.env 1) Tryz.tok rfl 1000 Tryz.func63 rfl rfl Tryz.ntmps63 (by simp) ?_;simp only[go_sem,seval];refine qap (E:=Tryz.env 1) Tryz.tok (σ:=Nat×List (Int×Int)) (fun s=>[(0,.sl 0 g 2 0 l.length),(1,.d (dI (k+2*(s.1:Int)))),(5,.d (dI s.1))]) (fun s=>[.row g 2 true (s.2.map dP)]) (fun s=>s.1<=l.length/\s.2.length=l.length) (fun s=>l.length-s.1) [] [] 1000 1000 ?_ ?_
 ·simp only[go_sem,seval];exact⟨(0,l),⟨by omega,rfl⟩,by simp⟩
 ·rintro⟨i,b⟩ ⟨hi,hb⟩;simp only at hi hb;by_cases hlt:i<l.length
  ·simp only[go_sem,seval]
   repeat' first|assumption|(simp (disch:=first|assumption|omega|(simp;done)|(simp;omega)) only[qaa,qac,yaa,qab,qan,qau,qaI,qag];try simp only[go_sem,seval])|(with_reducible first|refine And.intro ?_ ?_|intro _)|((try rw[qad]);omega)
   exact⟨(i+1,(b.set i (k+2*(i:Int),(b.getD i (0,0)).snd)).set i (k+2*(i:Int),k+2*(i:Int)+1)),⟨by simp only;omega,by simpa using hb⟩,by simp only;omega,⟨by simp only;omega,rfl⟩,rfl⟩
  ·simp only[go_sem,seval]
   repeat' first|assumption|(simp (disch:=first|assumption|omega|(simp;done)|(simp;omega)) only[qaa,qac,yaa,qab,qan,qau,qaI,qag];try simp only[go_sem,seval])|(with_reducible first|refine And.intro ?_ ?_|intro _)|((try rw[qad]);omega)
   exact qci ⟨by rw[show i=l.length by omega],b,rfl⟩

def qpC (l:List (Int×Bool)):Prop:=l.length=3/\∀ j,j<l.length->qg5 (l.getD j (0,false)).1=true
def Kcfg.ok (c:Kcfg):Prop:=c.tiles.length=25/\qpC c.pads/\∀ j,j<c.tiles.length->(c.tiles.getD j tc0).ok (j:Int)=true
noncomputable instance (l:List (Int×Bool)):Decidable (qpC l):=Classical.propDecidable _
noncomputable instance (c:Kcfg):Decidable c.ok:=Classical.propDecidable _
theorem Kcfg.ok_sizes {c:Kcfg}(h:c.ok) {i:Nat}(hi:i<25):(c.tiles.getD i tc0).select.length=3/\(c.tiles.getD i tc0).drive.length=8:=by
 have:=Tcfg.ok_iff.1 (h.2.2 i (by have:=h.1;omega));exact⟨this.2.1,this.2.2.1⟩

theorem Tryz.shp_KDefect {f:Nat}(y:D) (h:shp Tryz.tyT (f+2) 171 y) : ∃ a:Int×Int,y=dP a:=by
 obtain⟨ys,rfl,k0⟩:=shp_struct Tryz.ty171 h;obtain⟨y1,r1,rfl,h1,k1⟩:=qho k0;obtain⟨y2,r2,rfl,h2,k2⟩:=qho k1;obtain rfl:=qoW k2;obtain⟨n,rfl⟩:=shp_int Tryz.ty3 h1;obtain⟨m,rfl⟩:=shp_int Tryz.ty3 h2;exact⟨(n,m),rfl⟩
theorem Tryz.shp_KDefects {f:Nat}(y:D) (h:shp Tryz.tyT (f+3) 92 y) : ∃ l:List (Int×Int),y=dPs l:=
 shp_slice Tryz.ty92 Tryz.ty171 Tryz.shp_KDefect h

theorem wT_le (t:Tcfg):wM t=2+wT t:=by simp only[wM,wT];omega
theorem sumB_wM (l:List Tcfg):sumB wM l=2*l.length+sumB wT l:=by
 induction l with
 | nil=>rfl
 | cons x r ih=>
  have e1:sumB wM (x::r)=wM x+sumB wM r:=by simp[sumB]
  have e2:sumB wT (x::r)=wT x+sumB wT r:=by simp[sumB]
  rw[e1,e2,ih,wT_le,yae];omega
theorem wKM_le (c:Kcfg):wKM c<=3*wK c:=by
 have e1:wKM c=sumB wM c.tiles+2*c.pads.length:=rfl;have e2:wK c=c.tiles.length+sumB wT c.tiles+c.pads.length:=rfl;rw[e1,e2,sumB_wM];omega

def Kcfg.small (c:Kcfg):Prop:=c.tiles.length<=1048576/\c.pads.length<=1048576/\∀ j,j<c.tiles.length->(c.tiles.getD j tc0).select.length<=1048576/\(c.tiles.getD j tc0).drive.length<=1048576

def frOk (p:Int×Tcfg):Bool:=(decide (0<=p.1)&&decide (p.1<=24))&&p.2.ok p.1
def frsOk (l:List (Int×Tcfg)):Prop:=∀ j,j<l.length->frOk (l.getD j (0,tc0))=true
noncomputable instance (l:List (Int×Tcfg)):Decidable (frsOk l):=Classical.propDecidable _
def qsm (l:List Tcfg) (fs:List (Int×Tcfg)):List Tcfg:=fs.foldl (fun l f=>l.set f.1.toNat f.2) l
def applyOk (c:Kcfg) (fs:List (Int×Tcfg)) (ps:List (Int×Bool)):Prop:=c.ok/\qpC ps/\frsOk fs
noncomputable instance (c:Kcfg) (fs:List (Int×Tcfg)) (ps:List (Int×Bool)):Decidable (applyOk c fs ps):=Classical.propDecidable _
end Go.Proofs
