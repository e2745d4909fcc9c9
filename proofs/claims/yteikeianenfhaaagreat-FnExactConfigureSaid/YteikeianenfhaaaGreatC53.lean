/- Contracts, plain definitions and lemmas. Conditions: none; lemmas. -/
import Derived.Test.YteikeianenfhaaaGreatC45
import Derived.Test.YteikeianenfhaaaGreatC92
import Derived.Test.YteikeianenfhaaaGreatVM8
set_option maxRecDepth 20000
set_option linter.unusedSimpArgs false
set_option linter.unusedVariables false
set_option maxHeartbeats 2000000
namespace Go.Proofs
open Go Go.VL Tryz
def mI (k:Int) (n:Nat):List Int:=(List.range n).map fun(j:Nat)=>k+(j:Int)
theorem qsh (k:Int) (n:Nat):(mI k n).length=n:=by simp[mI]
def qmo (t:Tcfg) (k:Int):Tcfg:=⟨k,mI (k+1) t.select.length,decide ((k+1+t.select.length)%3=0),mI (k+1+t.select.length+1) t.drive.length⟩
def wM (t:Tcfg):Nat:=2+t.select.length+t.drive.length
def mTs (l:List Tcfg) (k:Int):List Tcfg:=(List.range l.length).map fun j=>qmo (l.getD j tc0) (k+(sumB wM (l.take j):Int))
theorem qpt (l:List Tcfg) (k:Int):(mTs l k).length=l.length:=by simp[mTs]
theorem qpu (l:List Tcfg) (k:Int) {j:Nat}(h:j<l.length):(mTs l k).getD j tc0=qmo (l.getD j tc0) (k+(sumB wM (l.take j):Int)):=by simp[mTs,List.getD,h]
theorem set_tcs {b:List Tcfg}{i:Nat}{t:Tcfg}:(b.map fun x=>dTc x).set i (dTc t)=(b.set i t).map fun x=>dTc x:=by rw[ybl]
theorem qaf {α : Type}{l:List α}{i:Nat}{x z : α}(h:i<l.length):(l.set i x).getD i z=x:=by simp[List.getD,h]
theorem qbl {α : Type}{l:List α}{i j:Nat}{x z : α}(h:i≠j):(l.set i x).getD j z=l.getD j z:=by simp[List.getD,List.getElem?_set,h]
theorem Tryz.c_markTileConfigS (g:Nat) (l:List Tcfg) (k:Int) (hk:0<=k/\k+sumB wM l<=1000000000000) (hl:l.length<=1000000000000) :
  ICall prog 112 [.sl 0 g 4 0 l.length,.d (dI k)] [.row g 4 true (l.map fun x=>dTc x)] (fun r H'=>r=.d (dI (k+(sumB wM l:Int)))/\H'=[.row g 4 true ((mTs l k).map fun x=>dTc x)]):=by
 refine qaJ (E:=env 1) tok rfl 1000 func112 rfl rfl ntmps112 (by simp) ?_;simp only[go_sem,seval];refine qai (E:=env 1) tok (σ:=Nat×List Tcfg) (fun s=>[(0,.sl 0 g 4 0 l.length),(1,.d (dI (k+(sumB wM (l.take s.1):Int)))),(5,.d (dI s.1))]) (fun s=>[.row g 4 true (s.2.map fun x=>dTc x)]) (fun s=>s.1<=l.length/\s.2.length=l.length/\(∀ (j:Nat),j<s.1->s.2.getD j tc0=qmo (l.getD j tc0) (k+(sumB wM (l.take j):Int)))/\∀ (j:Nat),s.1<=j->s.2.getD j tc0=l.getD j tc0) (fun s=>l.length-s.1) [] [] 1000 1000 ?_ ?_
 ·simp only[go_sem,seval];exact⟨(0,l),⟨by omega,rfl,fun j hj=>absurd hj (by simp),fun j hj=>rfl⟩,by simp[sumB]⟩
 ·rintro⟨i,b⟩ ⟨hi,hb,hlo,hhi⟩;simp only at hi hb hlo hhi;by_cases hlt:i<l.length
  ·have e1:=qlq (f:=wM) tc0 hlt;have e2:=qps (f:=wM) (l:=l) (i+1);have e3:wM (l.getD i tc0)=2+(l.getD i tc0).select.length+(l.getD i tc0).drive.length:=rfl;have e4:=hhi i (by omega);have hnext : ∃ s':Nat×List Tcfg,(s'.1<=l.length/\s'.2.length=l.length/\(∀ (j:Nat),j<s'.1->s'.2.getD j tc0=qmo (l.getD j tc0) (k+(sumB wM (l.take j):Int)))/\∀ (j:Nat),s'.1<=j->s'.2.getD j tc0=l.getD j tc0)/\s'.1=i+1/\
     s'.2=b.set i (qmo (l.getD i tc0) (k+(sumB wM (l.take i):Int))):=by
    refine⟨(i+1,b.set i (qmo (l.getD i tc0) (k+(sumB wM (l.take i):Int)))),⟨by omega,by simpa using hb,fun j hj=>?_,fun j hj=>?_⟩,rfl,rfl⟩
    ·simp only at hj ⊢;by_cases hji:j=i
     ·subst hji;rw[qaf (by omega)]
     ·rw[qbl (Ne.symm hji)];exact hlo j (by omega)
    ·simp only at hj ⊢;rw[qbl (by omega)];exact hhi j (by omega)
   generalize hkk:k+(sumB wM (l.take i):Int)=kk at *
   generalize l.getD i tc0=t at *
   have hr:=qab (y:=3) (show(0:Int)<=kk+1+t.select.length by omega);simp only[go_sem,seval]
   repeat' first|assumption|(simp (disch:=first|assumption|omega|(simp;done)|(simp;omega)) only[go_sem,seval,e4,yaa,qab,qam,qat,qaf])|(with_reducible first|apply And.intro|intro _)|((try rw[qaa]);omega)
   refine qd4 (c_markIntS 1 t.select (kk+1) (by omega) (by omega)) [1] (by simp only[go_sem,seval]) ?_;simp only[go_sem,seval]
   repeat' first|assumption|(simp (disch:=first|assumption|omega|(simp;done)|(simp;omega)) only[go_sem,seval,e4,yaa,qab,qam,qat,qaf])|(with_reducible first|apply And.intro|intro _)|((try rw[qaa]);omega)
   refine qd4 (c_markIntS 1 t.drive (kk+1+t.select.length+1) (by omega) (by omega)) [2] (by simp only[go_sem,seval]) ?_;simp only[go_sem,seval]
   repeat' first|assumption|(simp (disch:=first|assumption|omega|(simp;done)|(simp;omega)) only[go_sem,seval,e4,yaa,qab,qam,qat,qaf])|(with_reducible first|apply And.intro|intro _)|((try rw[qaa]);omega)
   ·obtain⟨s',h1,h2,h3⟩:=hnext;refine⟨s',h1,by omega,⟨by rw[h2];omega,by omega⟩,?_⟩;rw[List.set_set,h3,<-set_tcs];rfl
  ·repeat' first|assumption|(simp (disch:=first|assumption|omega|(simp;done)|(simp;omega)) only[go_sem,seval,yaa,qab,qam,qat,qaf])|(with_reducible first|apply And.intro|intro _)|((try rw[qaa]);omega)
   refine qci ⟨rfl,?_⟩;have e:b=mTs l k:=qbD tc0 (by rw[hb,qpt]) fun j hj=>by rw[hlo j (by omega),qpu l k (by omega)]
   rw[e]
theorem Tryz.c_heldTileConfigS (l:List Tcfg) (k:Int) (hk:0<=k/\k+sumB wM l<=1000000000000):Pure prog 114 [dTcs (mTs l k),dI k] (dI (k+(sumB wM l:Int))):=by
 refine qav func114 rfl ntmps114 fun ok=>?_
 simp only[go_sem,seval] at ok;have hlen:=qpt l k;simp only[go_sem,seval];refine qaF (E:=env 0) tok (σ:=Nat) (fun i=>[(0,.d (dTcs (mTs l k))),(1,.d (dI (k+(sumB wM (l.take i):Int)))),(5,.d (dI i))]) (fun _=>[]) (fun i=>i<=l.length) (fun i=>l.length-i) [] 1000 1000 ?_ ?_ ?_
 ·simp only[go_sem,seval]
 ·simp only[go_sem,seval];exact⟨0,by omega,by simp[sumB]⟩
 ·intro i hi;by_cases hlt:i<l.length
  ·have e1:=qlq (f:=wM) tc0 hlt;have e2:=qps (f:=wM) (l:=l) (i+1);have e3:wM (l.getD i tc0)=2+(l.getD i tc0).select.length+(l.getD i tc0).drive.length:=rfl;have e4:=qpu l k hlt;generalize hkk:k+(sumB wM (l.take i):Int)=kk at *
   generalize l.getD i tc0=t at *
   have hr:=qab (y:=3) (show(0:Int)<=kk+1+t.select.length by omega);have h1:=c_heldIntS (mI (kk+1) t.select.length) (kk+1) (by rw[qsh];omega);have h2:=c_heldIntS (mI (kk+1+t.select.length+1) t.drive.length) (kk+1+t.select.length+1) (by rw[qsh];omega);rw[show Tryz.held (mI (kk+1) t.select.length) (kk+1)=kk+1+(t.select.length:Int) from held_mark _ _] at h1;rw[show Tryz.held (mI (kk+1+t.select.length+1) t.drive.length) (kk+1+t.select.length+1)=kk+1+t.select.length+1+(t.drive.length:Int) from held_mark _ _] at h2;simp only[go_sem,seval]
   repeat' first|assumption|(simp (disch:=first|assumption|omega|(simp;done)|(simp;omega)) only[go_sem,seval,e4,qmo,hlen,hr,yaa,qab,qam,qat,qaf])|(with_reducible first|apply And.intro|intro _)|(refine qad h1 ?_)|(refine qad h2 ?_)|((try rw[qaa]);omega)
   exact⟨i+1,by omega,by omega,by omega,rfl⟩
  ·have e1:sumB wM l=sumB wM (l.take i):=by rw[yaa (by omega)]
   simp only[go_sem,seval]
   repeat' first|assumption|(simp (disch:=first|assumption|omega|(simp;done)|(simp;omega)) only[go_sem,seval,hlen,yaa,qab,qam,qat,qaf])|(with_reducible first|apply And.intro|intro _)|((try rw[qaa]);omega)
def mQs (l:List (Int×Bool)) (k:Int):List (Int×Bool):=(List.range l.length).map fun(j:Nat)=>(k+2*(j:Int),decide ((k+2*(j:Int)+1)%3=0))
theorem qpv (l:List (Int×Bool)) (k:Int):(mQs l k).length=l.length:=by simp[mQs]
theorem qpw (l:List (Int×Bool)) (k:Int) {j:Nat}(h:j<l.length):(mQs l k).getD j (0,false)=(k+2*(j:Int),decide ((k+2*(j:Int)+1)%3=0)):=by simp[mQs,List.getD,h]
theorem Tryz.c_markPadConfigS (g:Nat) (l:List (Int×Bool)) (k:Int) (hk:0<=k/\k+2*l.length<=1000000000000) :
  ICall prog 113 [.sl 0 g 2 0 l.length,.d (dI k)] [.row g 2 true (l.map fun x=>dQ x)] (fun r H'=>r=.d (dI (k+2*(l.length:Int)))/\H'=[.row g 2 true ((mQs l k).map fun x=>dQ x)]):=by
 refine qaJ (E:=env 1) tok rfl 1000 func113 rfl rfl ntmps113 (by simp) ?_;simp only[go_sem,seval];refine qai (E:=env 1) tok (σ:=Nat×List (Int×Bool)) (fun s=>[(0,.sl 0 g 2 0 l.length),(1,.d (dI (k+2*(s.1:Int)))),(5,.d (dI s.1))]) (fun s=>[.row g 2 true (s.2.map fun x=>dQ x)]) (fun s=>s.1<=l.length/\s.2.length=l.length/\∀ (j:Nat),j<s.1->s.2.getD j (0,false)=(k+2*(j:Int),decide ((k+2*(j:Int)+1)%3=0))) (fun s=>l.length-s.1) [] [] 1000 1000 ?_ ?_
 ·simp only[go_sem,seval];exact⟨(0,l),⟨by omega,rfl,fun j hj=>absurd hj (by simp)⟩,by simp⟩
 ·rintro⟨i,b⟩ ⟨hi,hb,hlo⟩;simp only at hi hb hlo;by_cases hlt:i<l.length
  ·have hr:=qab (y:=3) (show(0:Int)<=k+2*(i:Int)+1 by omega);simp only[go_sem,seval]
   repeat' first|assumption|(simp (disch:=first|assumption|omega|(simp;done)|(simp;omega)) only[go_sem,seval,hr,yaa,qab,qam,qat,qaf])|(with_reducible first|apply And.intro|intro _)|((try rw[qaa]);omega)
   refine⟨(i+1,b.set i (k+2*(i:Int),decide ((k+2*(i:Int)+1)%3=0))),⟨by omega,by simpa using hb,fun j hj=>?_⟩,by omega,⟨by simp only;omega,rfl⟩,?_⟩
   ·simp only at hj ⊢;by_cases hji:j=i
    ·subst hji;rw[qaf (by omega)]
    ·rw[qbl (Ne.symm hji)];exact hlo j (by omega)
   ·rw[List.set_set,ybl]
  ·repeat' first|assumption|(simp (disch:=first|assumption|omega|(simp;done)|(simp;omega)) only[go_sem,seval,yaa,qab,qam,qat,qaf])|(with_reducible first|apply And.intro|intro _)|((try rw[qaa]);omega)
   refine qci ⟨by rw[show i=l.length by omega],?_⟩;have e:b=mQs l k:=qbD (0,false) (by rw[hb,qpv]) fun j hj=>by rw[hlo j (by omega),qpw l k (by omega)]
   rw[e]
theorem Tryz.c_heldPadConfigS (l:List (Int×Bool)) (k:Int) (hk:0<=k/\k+2*l.length<=1000000000000):Pure prog 115 [dQs (mQs l k),dI k] (dI (k+2*(l.length:Int))):=by
 refine qav func115 rfl ntmps115 fun ok=>?_
 simp only[go_sem,seval] at ok;have hlen:=qpv l k;simp only[go_sem,seval];refine qaF (E:=env 0) tok (σ:=Nat) (fun i=>[(0,.d (dQs (mQs l k))),(1,.d (dI (k+2*(i:Int)))),(5,.d (dI i))]) (fun _=>[]) (fun i=>i<=l.length) (fun i=>l.length-i) [] 1000 1000 ?_ ?_ ?_
 ·simp only[go_sem,seval]
 ·simp only[go_sem,seval];exact⟨0,by omega,by simp⟩
 ·intro i hi;by_cases hlt:i<l.length
  ·have e4:=qpw l k hlt;have hr:=qab (y:=3) (show(0:Int)<=k+2*(i:Int)+1 by omega);simp only[go_sem,seval]
   repeat' first|assumption|(simp (disch:=first|assumption|omega|(simp;done)|(simp;omega)) only[go_sem,seval,e4,hlen,hr,yaa,qab,qam,qat,qaf])|(with_reducible first|apply And.intro|intro _)|((try rw[qaa]);omega)
   exact⟨i+1,by omega,by omega,by omega,rfl⟩
  ·simp only[go_sem,seval]
   repeat' first|assumption|(simp (disch:=first|assumption|omega|(simp;done)|(simp;omega)) only[go_sem,seval,hlen,yaa,qab,qam,qat,qaf])|(with_reducible first|apply And.intro|intro _)|((try rw[qaa]);omega)
def mK (c:Kcfg) (k:Int):Kcfg:=⟨mTs c.tiles k,mQs c.pads (k+(sumB wM c.tiles:Int))⟩
def wKM (c:Kcfg):Nat:=sumB wM c.tiles+2*c.pads.length
theorem Tryz.c_markConfig (g g':Nat) (c:Kcfg) (k:Int) (hk:0<=k/\k+wKM c<=1000000000000) (hl:c.tiles.length<=1000000000000) :
  ICall prog 53 [.agg [.sl 0 g 4 0 c.tiles.length,.sl 1 g' 2 0 c.pads.length],.d (dI k)] [.row g 4 true (c.tiles.map fun x=>dTc x),.row g' 2 true (c.pads.map fun x=>dQ x)]
   (fun r H'=>r=.d (dI (k+(wKM c:Int)))/\H'=[.row g 4 true ((mK c k).tiles.map fun x=>dTc x),.row g' 2 true ((mK c k).pads.map fun x=>dQ x)]):=by
 have e:wKM c=sumB wM c.tiles+2*c.pads.length:=rfl;refine qaJ (E:=env 2) tok rfl 1000 func53 rfl rfl ntmps53 (by simp) ?_;simp only[go_sem,seval];refine qaA (c_markTileConfigS g c.tiles k (by omega) (by omega)) [0] (by simp only[go_sem,seval]) ?_;rintro r0 H1 ⟨rfl,rfl⟩
 repeat' first|assumption|(simp (disch:=first|assumption|omega|(simp;done)|(simp;omega)) only[go_sem,seval,yaa,qab,qam,qat,qaf])|(with_reducible first|apply And.intro|intro _)|((try rw[qaa]);omega)
 refine qaA (c_markPadConfigS g' c.pads (k+(sumB wM c.tiles:Int)) (by omega)) [1] (by simp only[go_sem,seval]) ?_;rintro r0 H1 ⟨rfl,rfl⟩
 repeat' first|assumption|(simp (disch:=first|assumption|omega|(simp;done)|(simp;omega)) only[go_sem,seval,yaa,qab,qam,qat,qaf])|(with_reducible first|apply And.intro|intro _)|((try rw[qaa]);omega)
 refine qcB (by simp) (by simp[go_sem]) ?_;simp only[go_sem,seval];have e5:k+(sumB wM c.tiles:Int)+2*(c.pads.length:Int)=k+(wKM c:Int):=by omega
 rw[e5];exact⟨rfl,rfl⟩
theorem Tryz.c_heldConfig (c:Kcfg) (k:Int) (hk:0<=k/\k+wKM c<=1000000000000):Pure prog 54 [dK (mK c k),dI k] (dI (k+(wKM c:Int))):=by
 have e:wKM c=sumB wM c.tiles+2*c.pads.length:=rfl;have h1:=c_heldTileConfigS c.tiles k (by omega);have h2:=c_heldPadConfigS c.pads (k+(sumB wM c.tiles:Int)) (by omega);refine qav func54 rfl ntmps54 fun ok=>?_
 simp only[go_sem,seval] at ok
 repeat' first|assumption|(simp (disch:=first|assumption|omega|(simp;done)|(simp;omega)) only[go_sem,seval,yaa,qab,qam,qat,qaf])|(with_reducible first|apply And.intro|intro _)|(refine qad h1 ?_)|(refine qad h2 ?_)|((try rw[qaa]);omega)

def qpx (l:List (Int×Bool)):Prop:=l.length=3/\∀ j,j<l.length->qgX (l.getD j (0,false)).1=true
def Kcfg.ok (c:Kcfg):Prop:=c.tiles.length=25/\qpx c.pads/\∀ j,j<c.tiles.length->(c.tiles.getD j tc0).ok (j:Int)=true
noncomputable instance (l:List (Int×Bool)):Decidable (qpx l):=Classical.propDecidable _
noncomputable instance (c:Kcfg):Decidable c.ok:=Classical.propDecidable _
theorem Kcfg.ok_sizes {c:Kcfg}(h:c.ok) {i:Nat}(hi:i<25):(c.tiles.getD i tc0).select.length=3/\(c.tiles.getD i tc0).drive.length=8:=by
 have:=Tcfg.ok_iff.1 (h.2.2 i (by have:=h.1;omega));exact⟨this.2.1,this.2.2.1⟩

theorem Tryz.shp_KDefect {f:Nat}(y:D) (h:shp tyT (f+2) 171 y) : ∃ a:Int×Int,y=dP a:=by
 obtain⟨ys,rfl,k0⟩:=shp_struct ty171 h;obtain⟨y1,r1,rfl,h1,k1⟩:=qhg k0;obtain⟨y2,r2,rfl,h2,k2⟩:=qhg k1;obtain rfl:=qoQ k2;obtain⟨n,rfl⟩:=shp_int ty3 h1;obtain⟨m,rfl⟩:=shp_int ty3 h2;exact⟨(n,m),rfl⟩
theorem Tryz.shp_KDefects {f:Nat}(y:D) (h:shp tyT (f+3) 92 y) : ∃ l:List (Int×Int),y=dPs l:=
 shp_slice ty92 ty171 shp_KDefect h

theorem wT_le (t:Tcfg):wM t=2+wT t:=by simp only[wM,wT];omega
theorem sumB_wM (l:List Tcfg):sumB wM l=2*l.length+sumB wT l:=by
 induction l with
 | nil=>rfl
 | cons x r ih=>
  have e1:sumB wM (x::r)=wM x+sumB wM r:=by simp[sumB]
  have e2:sumB wT (x::r)=wT x+sumB wT r:=by simp[sumB]
  rw[e1,e2,ih,wT_le,yaf];omega
theorem wKM_le (c:Kcfg):wKM c<=3*wK c:=by
 have e1:wKM c=sumB wM c.tiles+2*c.pads.length:=rfl;have e2:wK c=c.tiles.length+sumB wT c.tiles+c.pads.length:=rfl;rw[e1,e2,sumB_wM];omega

def Kcfg.small (c:Kcfg):Prop:=c.tiles.length<=1048576/\c.pads.length<=1048576/\∀ j,j<c.tiles.length->(c.tiles.getD j tc0).select.length<=1048576/\(c.tiles.getD j tc0).drive.length<=1048576

def frOk (p:Int×Tcfg):Bool:=(decide (0<=p.1)&&decide (p.1<=24))&&p.2.ok p.1
def frsOk (l:List (Int×Tcfg)):Prop:=∀ j,j<l.length->frOk (l.getD j (0,tc0))=true
noncomputable instance (l:List (Int×Tcfg)):Decidable (frsOk l):=Classical.propDecidable _
def qsi (l:List Tcfg) (fs:List (Int×Tcfg)):List Tcfg:=fs.foldl (fun l f=>l.set f.1.toNat f.2) l
def applyOk (c:Kcfg) (fs:List (Int×Tcfg)) (ps:List (Int×Bool)):Prop:=c.ok/\qpx ps/\frsOk fs
noncomputable instance (c:Kcfg) (fs:List (Int×Tcfg)) (ps:List (Int×Bool)):Decidable (applyOk c fs ps):=Classical.propDecidable _

theorem qgr {α : Type}{f : α->D}{k n:Nat}{l:List α}{x c:D}{off:Nat}(h:l.length=n):putC k (l.map f ++ [x]) n off c=l.map f ++ [putE (decide (k=1)) k x off c]:=by subst h;exact qoW
def k0:Kcfg:=⟨[],[]⟩
def qaT:Tcfg:=⟨0,[15,15,15],false,[0,0,0,0,0,0,0,0]⟩
def er (fs:List (Int×Tcfg)):List (Int×Tcfg):=fs.map fun f=>(f.1,qaT)
def qsj (t:List Tcfg) (p:List (Int×Bool)) (fs:List (Int×Tcfg)) (n:Nat):List Kcfg:=(List.range n).map fun j=>⟨qsi t (fs.take (j+1)),p⟩
def steps (a:Kcfg) (fs:List (Int×Tcfg)):List Kcfg:=qsj a.tiles a.pads (er fs) fs.length++qsj (qsi a.tiles (er fs)) a.pads fs fs.length
theorem Tryz.c_emptyTile:Pure prog 120 [] (dTc qaT):=by
 refine qav func120 rfl ntmps120 fun ok=>?_
 simp only[go_sem,seval] at ok
 repeat' first|assumption|(simp (disch:=first|assumption|omega|(simp;done)|(simp;omega)) only[go_sem,seval,yaa])|(with_reducible first|apply And.intro|intro _)|((try rw[qaa]);omega)
 all_goals rfl
theorem Tryz.c_sEmptyConfig:Pure prog 142 [] (dK ⟨List.replicate 25 qaT,List.replicate 3 (15,false)⟩):=by
 refine qav func142 rfl ntmps142 fun ok=>?_
 simp only[go_sem,seval] at ok
 repeat' first|assumption|(simp (disch:=first|assumption|omega|(simp;done)|(simp;omega)) only[go_sem,seval,yaa])|(with_reducible first|apply And.intro|intro _)|((try rw[qaa]);omega)
 refine qai (E:=env 0) tok (σ:=Nat) (fun i=>[(0,.ptr 0 0),(1,.ptr 1 0),(2,.d (dI i))])
  (fun i=>[.box [.d .nil,.d .nil],.box [.sl 2 i 4 0 i,.d .nil],.row i 4 true ((List.replicate i qaT).map fun x=>dTc x)]) (fun i=>i<=25) (fun i=>25-i) [(1,0,4,true)] [] 1000 1000 ?_ ?_
 ·simp only[go_sem,seval];exact⟨0,by omega,by simp⟩
 ·intro i hi;by_cases hlt:i<25
  ·repeat' first|assumption|(simp (disch:=first|assumption|omega|(simp;done)|(simp;omega)) only[go_sem,seval,yaa])|(with_reducible first|apply And.intro|intro _)|((try rw[qaa]);omega)
   refine qai (E:=env 0) tok (σ:=Nat) (fun n=>[(0,.ptr 0 0),(1,.ptr 1 0),(2,.d (dI i)),(3,.ptr 4 0),(4,.d (dI n))])
    (fun n=>[.box [.d .nil,.d .nil],.box [.sl 2 i 4 0 i,.d .nil],.row i 4 true ((List.replicate i qaT).map fun x=>dTc x),.row 0 1 true ((List.replicate 8 (0:Int)).map (D.int .i64)),.box [.d (dI 0),.sl 5 n 1 0 n,.d (dB false),.sl 3 0 1 0 8],.row n 1 true ((List.replicate n (15:Int)).map (D.int .i64))]) (fun n=>n<=3) (fun n=>3-n) [(4,1,1,true)] [] 1000 1000 ?_ ?_
   ·simp only[go_sem,seval];exact⟨0,by omega,by simp⟩
   ·intro n hn;by_cases hnt:n<3
    ·repeat' first|assumption|(simp (disch:=first|assumption|omega|(simp;done)|(simp;omega)) only[go_sem,seval,yaa])|(with_reducible first|apply And.intro|intro _)|((try rw[qaa]);omega)
     exact⟨n+1,by omega,by omega,rfl,rfl,rfl,by rw[ybb]⟩
    ·obtain rfl:n=3:=by omega
     repeat' first|assumption|(simp (disch:=first|assumption|omega|(simp;done)|(simp;omega)) only[go_sem,seval,yaa])|(with_reducible first|apply And.intro|intro _)|((try rw[qaa]);omega)
     ·simp[qig]
     ·refine⟨i+1,by omega,by omega,rfl,rfl,rfl,?_⟩;rw[qgr (by simp),qgr (by simp),show List.replicate (i+1) qaT=List.replicate i qaT ++ [qaT] from ybb,yaB];rfl
  ·obtain rfl:i=25:=by omega
   repeat' first|assumption|(simp (disch:=first|assumption|omega|(simp;done)|(simp;omega)) only[go_sem,seval,yaa])|(with_reducible first|apply And.intro|intro _)|((try rw[qaa]);omega)
   refine qai (E:=env 0) tok (σ:=Nat) (fun n=>[(0,.ptr 0 0),(1,.ptr 1 0),(5,.d (dI n))])
    (fun n=>[.box [.d .nil,.d .nil],.box [.sl 2 25 4 0 25,.sl 3 n 2 0 n],.row 25 4 true ((List.replicate 25 qaT).map fun x=>dTc x),.row n 2 true ((List.replicate n ((15:Int),false)).map fun x=>dQ x)]) (fun n=>n<=3) (fun n=>3-n) [(1,1,2,true)] [] 1000 1000 ?_ ?_
   ·simp only[go_sem,seval];exact⟨0,by omega,by simp⟩
   ·intro n hn;by_cases hnt:n<3
    ·repeat' first|assumption|(simp (disch:=first|assumption|omega|(simp;done)|(simp;omega)) only[go_sem,seval,yaa])|(with_reducible first|apply And.intro|intro _)|((try rw[qaa]);omega)
     refine⟨n+1,by omega,by omega,rfl,rfl,rfl,?_⟩;rw[ybb,yaB];rfl
    ·obtain rfl:n=3:=by omega
     repeat' first|assumption|(simp (disch:=first|assumption|omega|(simp;done)|(simp;omega)) only[go_sem,seval,yaa])|(with_reducible first|apply And.intro|intro _)|((try rw[qaa]);omega)
end Go.Proofs
