/- Contracts, plain definitions and lemmas. Conditions: none; lemmas. -/
import Derived.Test.YteikeianenfhaaaGreatE2
import Derived.Test.YteikeianenfhaaaGreatC53
import Derived.Test.YteikeianenfhaaaGreatVM8
import Derived.Test.YteikeianenfhaaaGreatC74
set_option maxRecDepth 20000
set_option linter.unusedVariables false
set_option linter.unusedSimpArgs false
set_option maxHeartbeats 2000000
namespace Go.Proofs
set_option linter.defProp false
open Go Go.VL Tryz
def dk (c:ac) (net:Int) (h:Int×Int):Int:=
 if h.2<0 then(if net<=c.inputs then 6 else 1)
 else if nb h.1 2=h.2 then 2 else if nb h.1 3=h.2 then 3 else if nb h.1 4=h.2 then 4 else if nb h.1 5=h.2 then 5 else 0
def Tryz.m9 (c:ac) (hc : -1000<=c.inputs/\c.inputs<=1000) (net:Int) (h:Int×Int) (hh:0<=h.1/\h.1<=24):Pure prog 144 [dC c,dI net,dP h] (dI (dk c net h)):=by
 refine bw func144 rfl ntmps144 fun ok=>?_
 simp only[go_sem,seval] at ok
 repeat' first|assumption|simp (disch:=first|assumption|omega|simp;try omega) only[go_sem,seval,b8]|(with_reducible first|apply aa|intro)|exact ah|(try rw[ae]);omega
 ·rw[dk,if_pos (by omega),if_pos (by omega)]
 ·rw[dk,if_pos (by omega),if_neg (by omega)]
 ·have hs:dk c net h=if nb h.1 2=h.2 then 2 else if nb h.1 3=h.2 then 3 else if nb h.1 4=h.2 then 4 else if nb h.1 5=h.2 then 5 else 0:=by rw[dk,if_neg (by omega)]
  have hn : ∀ d,Pure prog 196 [dI h.1,dI d] (dI (nb h.1 d)):=fun d=>fG h.1 d hh
  refine ce (E:=env 0) tok (σ:=Nat) (fun k=>[(2,.d (dP h)),(5,.ptr 1 0),(7,.d (dI k))]) (fun _=>[.box [.d (dI c.inputs),.d (ai c.next),.d (aO c.gates),.d (ai c.outs)],.box [.d (dI h.1),.d (dI h.2)]])
   (fun k=>2<=k/\k<=6/\∀ j:Nat,2<=j->j<k->nb h.1 j≠h.2) (fun k=>6-k) [] 1000 1000 ?_ ?_ ?_
  ·simp only[go_sem,seval]
  ·simp only[go_sem,seval];exact⟨2,⟨by omega,by omega,fun j h1 h2=>by omega⟩,rfl⟩
  ·rintro k ⟨hk2,hk6,hk⟩;by_cases hlt:k<6
   ·have hb : -1<=nb h.1 k/\nb h.1 k<=24:=by
     unfold nb gQ oS om oT
     repeat' split
     all_goals omega
    repeat' first|assumption|simp (disch:=first|assumption|omega|simp;try omega) only[go_sem,seval,b8]|(with_reducible first|apply aa|intro)|(refine nP (fun _=>⟨hn k,by show cp .i64 _;rw[ae];omega⟩) ?_)|exact ah|(try rw[ae]);omega
    ·rename_i h9;rw[hs];have a2:2<k->nb h.1 2≠h.2:=fun h7=>hk 2 (by omega) h7
     have a3:3<k->nb h.1 3≠h.2:=fun h7=>hk 3 (by omega) h7
     have a4:4<k->nb h.1 4≠h.2:=fun h7=>hk 4 (by omega) h7
     have a5:5<k->nb h.1 5≠h.2:=fun h7=>hk 5 (by omega) h7
     obtain rfl|rfl|rfl|rfl:k=2∨k=3∨k=4∨k=5:=by omega
     ·have h2:nb h.1 2=h.2:=h9;rw[if_pos h2];rfl
     ·have h3:nb h.1 3=h.2:=h9;rw[if_neg (a2 (by omega)),if_pos h3];rfl
     ·have h4:nb h.1 4=h.2:=h9;rw[if_neg (a2 (by omega)),if_neg (a3 (by omega)),if_pos h4];rfl
     ·have h5:nb h.1 5=h.2:=h9;rw[if_neg (a2 (by omega)),if_neg (a3 (by omega)),if_neg (a4 (by omega)),if_pos h5];rfl
    ·rename_i h9;refine⟨k+1,⟨by omega,by omega,fun j h1 h2=>?_⟩,by omega,rfl⟩;by_cases hj:j=k
     ·subst hj;exact h9
     ·exact hk j h1 (by omega)
   ·obtain rfl:k=6:=by omega
    repeat' first|assumption|simp (disch:=first|assumption|omega|simp;try omega) only[go_sem,seval,b8]|(with_reducible first|apply aa|intro)|exact ah|(try rw[ae]);omega
    have a2:nb h.1 2≠h.2:=hk 2 (by omega) (by omega);have a3:nb h.1 3≠h.2:=hk 3 (by omega) (by omega);have a4:nb h.1 4≠h.2:=hk 4 (by omega) (by omega);have a5:nb h.1 5≠h.2:=hk 5 (by omega) (by omega);rw[hs,if_neg a2,if_neg a3,if_neg a4,if_neg a5]
def jb (vars:Nat) (rs:List Rt) (k:Nat):List Int:=(rs.take k).foldl (fun l r=>l.set r.net.toNat r.track) (List.replicate vars 15)
def e6 (vars:Nat) (rs:List Rt):List Int:=jb vars rs rs.length
def Ir {vars:Nat}{rs:List Rt}{k:Nat}:(jb vars rs k).length=vars:=by
 unfold jb;generalize rs.take k=l;have : ∀ (l:List Rt) (q:List Int),(l.foldl (fun l r=>l.set r.net.toNat r.track) q).length=q.length:=by
  intro l;induction l with
  | nil=>intro q;rfl
  | cons a l ih=>intro q;rw[eO,ih,fB]
 rw[this,mB]
def OT {vars:Nat}{rs:List Rt}{k:Nat}(hk:k<rs.length):jb vars rs (k+1)=(jb vars rs k).set (rs.getD k eQ).net.toNat (rs.getD k eQ).track:=
 gI (f:=fun(l:List Int) (r:Rt)=>l.set r.net.toNat r.track) (b:=List.replicate vars 15) eQ hk
def Tryz.nv (vars:Nat) (hv:vars<=100) (rs:List Rt) (hr : ∀ r∈rs,0<=r.net/\r.net<vars):Pure prog 143 [dI vars,gW rs] (ai (e6 vars rs)):=by
 refine bw func143 rfl ntmps143 fun ok=>?_
 simp only[go_sem,seval] at ok
 repeat' first|assumption|simp (disch:=first|assumption|omega|simp;try omega) only[go_sem,seval,b8]|(with_reducible first|apply aa|intro)|exact ah|(try rw[ae]);omega
 refine ce (E:=env 0) tok (σ:=Nat) (fun k=>[(0,.d (dI vars)),(1,.d (gW rs)),(5,.sl 0 k 1 0 k),(6,.d (dI k))]) (fun k=>[.row k 1 true ((List.replicate k 15).map (D.int .i64))]) (fun k=>k<=vars) (fun k=>vars-k) [] 1000 1000 ?_ ?_ ?_
 ·simp only[go_sem,seval]
 ·simp only[go_sem,seval];exact⟨0,by omega,by simp,by simp,rfl⟩
 ·intro k hk;by_cases hlt:k<vars
  ·repeat' first|assumption|simp (disch:=first|assumption|omega|simp;try omega) only[go_sem,seval,b8]|(with_reducible first|apply aa|intro)|exact ah|(try rw[ae]);omega
   exact⟨k+1,by omega,by omega,rfl,rfl,List.replicate_succ'.symm⟩
  ·obtain rfl:k=vars:=by omega
   repeat' first|assumption|simp (disch:=first|assumption|omega|simp;try omega) only[go_sem,seval,b8]|(with_reducible first|apply aa|intro)|exact ah|(try rw[ae]);omega
   have e0:List.replicate k 15=jb k rs 0:=rfl;rw[e0];refine ce (E:=env 0) tok (σ:=Nat) (fun i=>[(1,.d (gW rs)),(5,.sl 0 k 1 0 k),(7,.d (dI i))]) (fun i=>[.row k 1 true ((jb k rs i).map (D.int .i64))]) (fun i=>i<=rs.length) (fun i=>rs.length-i) [] 1000 1000 ?_ ?_ ?_
   ·simp only[go_sem,seval]
   ·simp only[go_sem,seval];exact⟨0,by omega,by simp,rfl⟩
   ·intro i hi;have htl:=@Ir k rs i;by_cases hlt:i<rs.length
    ·have hst:=@OT k rs i hlt;have hrr:=hr _ (aP hlt:rs.getD i eQ∈rs);generalize hr9:rs.getD i eQ=r at *
     generalize jb k rs i=q at *
     repeat' first|assumption|simp (disch:=first|assumption|omega|simp;try omega) only[go_sem,seval,hr9,b8]|(with_reducible first|apply aa|intro)|exact ah|(try rw[ae]);omega
     refine cg (n:=0) [12] (aw [0,1,2,3,4,6,7,8,9,5,10,11] (.one 12 .done)) ?_
     repeat' first|assumption|simp (disch:=first|assumption|omega|simp;try omega) only[go_sem,seval,hr9,htl,b8]|(with_reducible first|apply aa|intro)|exact ah|(try rw[ae]);omega
     exact⟨i+1,by omega,by omega,rfl,hst.symm⟩
    ·obtain rfl:i=rs.length:=by omega
     rw[e6]
     repeat' first|assumption|simp (disch:=first|assumption|omega|simp;try omega) only[go_sem,seval,b8]|(with_reducible first|apply aa|intro)|exact ah|(try rw[ae]);omega
end Go.Proofs

set_option maxRecDepth 20000
set_option linter.unusedVariables false
set_option linter.unusedSimpArgs false
namespace Go.Proofs
set_option linter.defProp false
open Go Go.VL
variable {a i:Nat}{s:List Int}{b:Int}{c:ac}{T:List az}{t:az}{r:Rt}
def g8:(a+1=a)=False:=by simp
def g7:(a+2=a)=False:=by simp
def gU:(a+3=a)=False:=by simp
def cO (s v:List Int):List Int:=v++s.drop v.length
def wr {a:Int}(h:s.length=3):s.set 0 a=cO s [a]:=by
 match s,h with
 | [_,_,_],_=>rfl
def wc {a:Int}(h:s.length=3):(s.set 0 a).set 1 b=cO s [a,b]:=by
 match s,h with
 | [_,_,_],_=>rfl
def v3 {a c:Int}(h:s.length=3):((s.set 0 a).set 1 b).set 2 c=cO s [a,b,c]:=by
 match s,h with
 | [_,_,_],_=>rfl
def zM:((T.set i t).map fun x=>iC x)=(T.map fun x=>iC x).set i (iC t):=List.map_set
def jc (trk:List Int) (x:bR) (t:az):az:=⟨x.table,cO t.select (x.inputs.map fun v=>trk.getD v.toNat 0),x.ge,t.drive⟩
def fT (trk:List Int) (cells:List bR) (place:List Int) (T:List az):Nat->List az
 | 0=>T
 | i+1=>(fT trk cells place T i).set (place.getD i 0).toNat (jc trk (cells.getD i bI) ((fT trk cells place T i).getD (place.getD i 0).toNat bE))
def eG (c:ac) (r:Rt) (T:List az) (h:Int×Int):List az:=
 T.set h.1.toNat ⟨(T.getD h.1.toNat bE).table,(T.getD h.1.toNat bE).select,(T.getD h.1.toNat bE).ge,(T.getD h.1.toNat bE).drive.set r.track.toNat (dk c r.net h)⟩
def cP (c:ac) (r:Rt) (T:List az) (n:Nat):List az:=(r.ab.take n).foldl (eG c r) T
def de (c:ac) (rs:List Rt) (T:List az) (n:Nat):List az:=(rs.take n).foldl (fun T r=>cP c r T r.ab.length) T
def iq (c:ac) (trk:List Int) (n:Nat):List (Int×Bool):=
 (List.range n).foldl (fun p o=>p.set o (trk.getD (c.outs.getD o 0/2).toNat 0,decide (c.outs.getD o 0%2=1))) (List.replicate 3 (15,false))
def tW (c:ac) (cells:List bR) (place:List Int) (rs:List Rt):bu:=
 ⟨de c rs (fT (e6 c.vars.toNat rs) cells place (List.replicate 25 dH) cells.length) rs.length,iq c (e6 c.vars.toNat rs) c.outs.length⟩
def zZ (t:az):Prop:=t.select.length=3/\t.drive.length=8
def fE (T:List az):Prop:=T.length=25/\∀ t∈T,zZ t
def fE.get (h:fE T) (hi:i<25):zZ (T.getD i bE):=h.2 _ (aP (by rw[h.1];exact hi))
def fE.set {T:List az}(h:fE T) {i:Nat}{t:az}(ht:zZ t):fE (T.set i t):=
 ⟨by rw[fB];exact h.1,fun x hx=>(ui hx).elim (h.2 x) (fun e=>e▸ht)⟩
def fE.empty:fE (List.replicate 25 dH):=⟨by simp,fun t ht=>by rw[(List.mem_replicate.1 ht).2];exact⟨rfl,rfl⟩⟩
def Mp {trk:List Int}{x:bR}(ht:zZ t) (hx:x.inputs.length<=3):zZ (jc trk x t):=by
 refine⟨?_,ht.2⟩;have:=ht.1;simp only[jc,cO,cr,ie,tI];omega
def xL {trk:List Int}{cells:List bR}{place:List Int}{T:List az}(hT:fE T) (hci : ∀ x∈cells,x.inputs.length<=3) (hp:ay cells.length place) : ∀ i,i<=cells.length->fE (fT trk cells place T i)
 | 0,_=>hT
 | i+1,h=>by
  have ih:=xL (trk:=trk) hT hci hp i (by omega);have:=hp.get (i:=i) (by omega);exact ih.set (Mp (ih.get (by omega)) (hci _ (aP (by omega))))
def AD (hT:fE T) {h:Int×Int}(hh:0<=h.1/\h.1<=24):fE (eG c r T h):=by
 have:=hT.get (i:=h.1.toNat) (by omega);exact hT.set ⟨this.1,by simp only[fB];exact this.2⟩
def xG (hT:fE T) (hh : ∀ h∈r.ab,0<=h.1/\h.1<=24) (n:Nat):fE (cP c r T n):=by
 have : ∀ (l:List (Int×Int)),(∀ h∈l,0<=h.1/\h.1<=24)->∀ T,fE T->fE (l.foldl (eG c r) T):=by
  intro l;induction l with
  | nil=>intro _ T h;exact h
  | cons a l ih=>intro hl T h;exact ih (fun x hx=>hl x (fP _ hx)) _ (AD h (hl a (ld ..)))
 exact this _ (fun x hx=>hh x (jX hx)) T hT
def A6 {rs:List Rt}(hT:fE T) (hh : ∀ r∈rs,0<=r.net/\r.net<c.vars/\0<=r.track/\r.track<=7/\∀ h∈r.ab,0<=h.1/\h.1<=24) (n:Nat):fE (de c rs T n):=by
 have : ∀ (l:List Rt),(∀ r∈l,∀ h∈r.ab,0<=h.1/\h.1<=24)->∀ T,fE T->fE (l.foldl (fun T r=>cP c r T r.ab.length) T):=by
  intro l;induction l with
  | nil=>intro _ T h;exact h
  | cons a l ih=>intro hl T h;exact ih (fun x hx=>hl x (fP _ hx)) _ (xG h (hl a (ld ..)) _)
 exact this _ (fun r hr=>(hh r (jX hr)).2.2.2.2) T hT
def cE {c:ac}{trk:List Int}{n:Nat}:(iq c trk n).length=3:=by
 unfold iq;have : ∀ (l:List Nat) (p:List (Int×Bool)),(l.foldl (fun p o=>p.set o (trk.getD (c.outs.getD o 0/2).toNat 0,decide (c.outs.getD o 0%2=1))) p).length=p.length:=by
  intro l;induction l with
  | nil=>intro p;rfl
  | cons a l ih=>intro p;rw[eO,ih,fB]
 rw[this];rfl
set_option maxHeartbeats 4000000 in
def Tryz.ot (c:ac) (hc:c.Valid) (cells:List bR) (hcl:cells.length<=25) (hci : ∀ x∈cells,x.inputs.length<=3) (place:List Int) (hp:ay cells.length place) (hcv : ∀ x∈cells,∀ v∈x.inputs,0<=v/\v<c.vars)
  (rs:List Rt) (hrt : ∀ r∈rs,0<=r.net/\r.net<c.vars/\0<=r.track/\r.track<=7/\∀ h∈r.ab,0<=h.1/\h.1<=24) (hrl : ∀ r∈rs,r.ab.length<=1000) :
  Pure prog 77 [dC c,cd cells,ai place,gW rs] (dK (tW c cells place rs)):=by
 have hf:=hc.am;have hv:=hc.aM;have hi0:=hc.i0;have hi1:=hc.i1;have hvv:c.vars=c.first+(c.gates.length:Int):=rfl
 have hfst:=ba c (by omega);have k3:dR (dI c.first):=by show cp .i64 _;rw[ae];omega
 have htr:=nv c.vars.toNat (by omega) rs (fun r hr=>by have:=hrt r hr;omega);have hvn:((c.vars.toNat:Nat):Int)=c.vars:=by omega
 rw[hvn] at htr;have htr:Pure prog 143 [dI (c.first+(c.gates.length:Int)),gW rs] (ai (e6 c.vars.toNat rs)):=htr;have htl:(e6 c.vars.toNat rs).length=c.vars.toNat:=Ir;have hB:tW c cells place rs=⟨de c rs (fT (e6 c.vars.toNat rs) cells place (List.replicate 25 dH) cells.length) rs.length,iq c (e6 c.vars.toNat rs) c.outs.length⟩:=rfl;rw[hB];clear hB;generalize e6 c.vars.toNat rs=trk at *
 refine l4 (E:=env 0) tok rfl 1000 func77 rfl rfl ntmps77 (by simp) fun ok=>?_
 simp only[go_sem,seval,-List.reduceReplicate] at ok
 repeat' first|assumption|simp (disch:=first|assumption|omega|simp;try omega) only[go_sem,seval,-List.reduceReplicate,ag,aB,aW,b8,bV,bU]|(with_reducible first|apply aa|intro)|(refine lu ju ?_)|(try rw[ae]);omega
 refine cg (n:=0) [] (aw [2,6,0,3,4] (.one 1 (.fst 5 (.one 7 (.fst 8 .done))))) ?_
 repeat' first|assumption|simp (disch:=first|assumption|omega|simp;try omega) only[go_sem,seval,-List.reduceReplicate,ag,aB,aW,b8,bV,bU]|(with_reducible first|apply aa|intro)|(refine aA hfst ?_)|(refine aA htr ?_)|(try rw[ae]);omega
 refine bt (E:=env 0) tok (σ:=Nat) (fun i=>[(0,.d (dC c)),(1,.d (cd cells)),(2,.d (ai place)),(3,.d (gW rs)),(4,.ptr 0 0),(8,.ptr 1 0),(9,.ptr 4 0),(10,.d (ai trk)),(11,.d (dI i))])
  (fun i=>[.box [.d (dI c.inputs),.d (ai c.next),.d (aO c.gates),.d (ai c.outs)],.box [.d .nil,.d .nil],.row 0 4 true ((fT trk cells place (List.replicate 25 dH) i).map fun x=>iC x),.row 0 2 true ((List.replicate 3 ((15:Int),false)).map fun x=>dQ x),.box [.sl 2 0 4 0 25,.sl 3 0 2 0 3]]) (fun i=>i<=cells.length) (fun i=>cells.length-i) [] [] 1000 1000 ?_ ?_
 ·simp only[go_sem,seval,-List.reduceReplicate];exact⟨0,by omega,by simp[fT]⟩
 ·intro i hi;have hsz:=xL (trk:=trk) fE.empty hci hp i hi;by_cases hlt:i<cells.length
  ·have hst:fT trk cells place (List.replicate 25 dH) (i+1)=(fT trk cells place (List.replicate 25 dH) i).set (place.getD i 0).toNat (jc trk (cells.getD i bI) ((fT trk cells place (List.replicate 25 dH) i).getD (place.getD i 0).toNat bE)):=rfl;have hp1:=hp.get hlt;have hpl:=hp.len;have hxi:=hci _ (aP hlt:cells.getD i bI∈cells);have hxv:=hcv _ (aP hlt:cells.getD i bI∈cells);have hts:=hsz.get (i:=(place.getD i 0).toNat) (by omega);have hTl:=hsz.1;generalize fT trk cells place (List.replicate 25 dH) i=T at *
   generalize hp9:place.getD i 0=p at *
   generalize hx9:cells.getD i bI=x at *
   generalize ht9:T.getD p.toNat bE=t at *
   repeat' first|assumption|simp (disch:=first|assumption|omega|simp;try omega) only[go_sem,seval,-List.reduceReplicate,hp9,hx9,ht9,g8,g7,gU,ag,aB,aW,b8,bV,bU]|(with_reducible first|apply aa|intro)|(try rw[ae]);omega
   refine cg (n:=0) [9] (aw [0,2,3,4,1,5,6,7] (.one 8 (.one 9 .done))) ?_
   repeat' first|assumption|simp (disch:=first|assumption|omega|simp;try omega) only[go_sem,seval,-List.reduceReplicate,hp9,hx9,ht9,g8,g7,gU,ag,aB,aW,b8,bV,bU]|(with_reducible first|apply aa|intro)|(try rw[ae]);omega
   obtain⟨xn,xi,xt,xr⟩:=x;simp only at hxi hxv;have hsl:t.select.length=3:=hts.1;have hdl:t.drive.length=8:=hts.2;refine A5 (E:=env 0) tok 4 1000 1000 ?_;match xi,hxi,hxv,hx9,hst with
   | [],hxi,hxv,hx9,hst=>
    refine kS ?_
    repeat' first|assumption|simp (disch:=first|assumption|omega|simp;try omega) only[go_sem,seval,-List.reduceReplicate,g8,g7,gU,hp9,ht9,jQ,j5,cU,fm,hx9,ag,aB,aW,b8,bV,bU]|(with_reducible first|apply aa|intro)|(try rw[ae]);omega
    refine cg (n:=0) [8] (aw [0,2,3,4,1,5,6,7] (.one 8 .done)) ?_
    repeat' first|assumption|simp (disch:=first|assumption|omega|simp;try omega) only[go_sem,seval,-List.reduceReplicate,g8,g7,gU,hp9,ht9,jQ,j5,cU,fm,hx9,ag,aB,aW,b8,bV,bU]|(with_reducible first|apply aa|intro)|(try rw[ae]);omega
    refine⟨i+1,by omega,by omega,rfl,?_⟩;rw[hst,zM];congr 1
   | [a1],hxi,hxv,hx9,hst=>
    have b1:=hxv a1 (by simp);refine kS ?_
    repeat' first|assumption|simp (disch:=first|assumption|omega|simp;try omega) only[go_sem,seval,-List.reduceReplicate,g8,g7,gU,hp9,ht9,jQ,j5,cU,fm,hx9,ag,aB,aW,b8,bV,bU]|(with_reducible first|apply aa|intro)|(try rw[ae]);omega
    refine cg (n:=0) [15] (aw [0,2,3,4,5,6,7,9,1,8,10,11,12,13,14] (.one 15 .done)) ?_
    repeat' first|assumption|simp (disch:=first|assumption|omega|simp;try omega) only[go_sem,seval,-List.reduceReplicate,g8,g7,gU,hp9,ht9,jQ,j5,cU,fm,hx9,ag,aB,aW,b8,bV,bU]|(with_reducible first|apply aa|intro)|(try rw[ae]);omega
    refine kS ?_
    repeat' first|assumption|simp (disch:=first|assumption|omega|simp;try omega) only[go_sem,seval,-List.reduceReplicate,g8,g7,gU,hp9,ht9,jQ,j5,cU,fm,hx9,ag,aB,aW,b8,bV,bU]|(with_reducible first|apply aa|intro)|(try rw[ae]);omega
    refine cg (n:=0) [8] (aw [0,2,3,4,1,5,6,7] (.one 8 .done)) ?_
    repeat' first|assumption|simp (disch:=first|assumption|omega|simp;try omega) only[go_sem,seval,-List.reduceReplicate,g8,g7,gU,hp9,ht9,jQ,j5,cU,fm,hx9,ag,aB,aW,b8,bV,bU]|(with_reducible first|apply aa|intro)|(try rw[ae]);omega
    refine⟨i+1,by omega,by omega,rfl,?_⟩;rw[hst,zM];congr 1;rw[show t.select.set 0 (trk.getD a1.toNat 0)=cO t.select [trk.getD a1.toNat 0] from wr hsl];rfl
   | [a1,a2],hxi,hxv,hx9,hst=>
    have b1:=hxv a1 (by simp);have b2:=hxv a2 (by simp);refine kS ?_
    repeat' first|assumption|simp (disch:=first|assumption|omega|simp;try omega) only[go_sem,seval,-List.reduceReplicate,g8,g7,gU,hp9,ht9,jQ,j5,cU,fm,hx9,ag,aB,aW,b8,bV,bU]|(with_reducible first|apply aa|intro)|(try rw[ae]);omega
    refine cg (n:=0) [15] (aw [0,2,3,4,5,6,7,9,1,8,10,11,12,13,14] (.one 15 .done)) ?_
    repeat' first|assumption|simp (disch:=first|assumption|omega|simp;try omega) only[go_sem,seval,-List.reduceReplicate,g8,g7,gU,hp9,ht9,jQ,j5,cU,fm,hx9,ag,aB,aW,b8,bV,bU]|(with_reducible first|apply aa|intro)|(try rw[ae]);omega
    refine kS ?_
    repeat' first|assumption|simp (disch:=first|assumption|omega|simp;try omega) only[go_sem,seval,-List.reduceReplicate,g8,g7,gU,hp9,ht9,jQ,j5,cU,fm,hx9,ag,aB,aW,b8,bV,bU]|(with_reducible first|apply aa|intro)|(try rw[ae]);omega
    refine cg (n:=0) [15] (aw [0,2,3,4,5,6,7,9,1,8,10,11,12,13,14] (.one 15 .done)) ?_
    repeat' first|assumption|simp (disch:=first|assumption|omega|simp;try omega) only[go_sem,seval,-List.reduceReplicate,g8,g7,gU,hp9,ht9,jQ,j5,cU,fm,hx9,ag,aB,aW,b8,bV,bU]|(with_reducible first|apply aa|intro)|(try rw[ae]);omega
    refine kS ?_
    repeat' first|assumption|simp (disch:=first|assumption|omega|simp;try omega) only[go_sem,seval,-List.reduceReplicate,g8,g7,gU,hp9,ht9,jQ,j5,cU,fm,hx9,ag,aB,aW,b8,bV,bU]|(with_reducible first|apply aa|intro)|(try rw[ae]);omega
    refine cg (n:=0) [8] (aw [0,2,3,4,1,5,6,7] (.one 8 .done)) ?_
    repeat' first|assumption|simp (disch:=first|assumption|omega|simp;try omega) only[go_sem,seval,-List.reduceReplicate,g8,g7,gU,hp9,ht9,jQ,j5,cU,fm,hx9,ag,aB,aW,b8,bV,bU]|(with_reducible first|apply aa|intro)|(try rw[ae]);omega
    refine⟨i+1,by omega,by omega,rfl,?_⟩;rw[hst,zM];congr 1;rw[show(t.select.set 0 (trk.getD a1.toNat 0)).set 1 (trk.getD a2.toNat 0)=cO t.select [trk.getD a1.toNat 0,trk.getD a2.toNat 0] from wc hsl];rfl
   | [a1,a2,a3],hxi,hxv,hx9,hst=>
    have b1:=hxv a1 (by simp);have b2:=hxv a2 (by simp);have b3:=hxv a3 (by simp);refine kS ?_
    repeat' first|assumption|simp (disch:=first|assumption|omega|simp;try omega) only[go_sem,seval,-List.reduceReplicate,g8,g7,gU,hp9,ht9,jQ,j5,cU,fm,hx9,ag,aB,aW,b8,bV,bU]|(with_reducible first|apply aa|intro)|(try rw[ae]);omega
    refine cg (n:=0) [15] (aw [0,2,3,4,5,6,7,9,1,8,10,11,12,13,14] (.one 15 .done)) ?_
    repeat' first|assumption|simp (disch:=first|assumption|omega|simp;try omega) only[go_sem,seval,-List.reduceReplicate,g8,g7,gU,hp9,ht9,jQ,j5,cU,fm,hx9,ag,aB,aW,b8,bV,bU]|(with_reducible first|apply aa|intro)|(try rw[ae]);omega
    refine kS ?_
    repeat' first|assumption|simp (disch:=first|assumption|omega|simp;try omega) only[go_sem,seval,-List.reduceReplicate,g8,g7,gU,hp9,ht9,jQ,j5,cU,fm,hx9,ag,aB,aW,b8,bV,bU]|(with_reducible first|apply aa|intro)|(try rw[ae]);omega
    refine cg (n:=0) [15] (aw [0,2,3,4,5,6,7,9,1,8,10,11,12,13,14] (.one 15 .done)) ?_
    repeat' first|assumption|simp (disch:=first|assumption|omega|simp;try omega) only[go_sem,seval,-List.reduceReplicate,g8,g7,gU,hp9,ht9,jQ,j5,cU,fm,hx9,ag,aB,aW,b8,bV,bU]|(with_reducible first|apply aa|intro)|(try rw[ae]);omega
    refine kS ?_
    repeat' first|assumption|simp (disch:=first|assumption|omega|simp;try omega) only[go_sem,seval,-List.reduceReplicate,g8,g7,gU,hp9,ht9,jQ,j5,cU,fm,hx9,ag,aB,aW,b8,bV,bU]|(with_reducible first|apply aa|intro)|(try rw[ae]);omega
    refine cg (n:=0) [15] (aw [0,2,3,4,5,6,7,9,1,8,10,11,12,13,14] (.one 15 .done)) ?_
    repeat' first|assumption|simp (disch:=first|assumption|omega|simp;try omega) only[go_sem,seval,-List.reduceReplicate,g8,g7,gU,hp9,ht9,jQ,j5,cU,fm,hx9,ag,aB,aW,b8,bV,bU]|(with_reducible first|apply aa|intro)|(try rw[ae]);omega
    refine kS ?_
    repeat' first|assumption|simp (disch:=first|assumption|omega|simp;try omega) only[go_sem,seval,-List.reduceReplicate,g8,g7,gU,hp9,ht9,jQ,j5,cU,fm,hx9,ag,aB,aW,b8,bV,bU]|(with_reducible first|apply aa|intro)|(try rw[ae]);omega
    refine cg (n:=0) [8] (aw [0,2,3,4,1,5,6,7] (.one 8 .done)) ?_
    repeat' first|assumption|simp (disch:=first|assumption|omega|simp;try omega) only[go_sem,seval,-List.reduceReplicate,g8,g7,gU,hp9,ht9,jQ,j5,cU,fm,hx9,ag,aB,aW,b8,bV,bU]|(with_reducible first|apply aa|intro)|(try rw[ae]);omega
    refine⟨i+1,by omega,by omega,rfl,?_⟩;rw[hst,zM];congr 1;rw[show((t.select.set 0 (trk.getD a1.toNat 0)).set 1 (trk.getD a2.toNat 0)).set 2 (trk.getD a3.toNat 0)=cO t.select [trk.getD a1.toNat 0,trk.getD a2.toNat 0,trk.getD a3.toNat 0] from v3 hsl];rfl
  ·obtain rfl:i=cells.length:=by omega
   have hsz0:=hsz;generalize fT trk cells place (List.replicate 25 dH) cells.length=T0 at *
   repeat' first|assumption|simp (disch:=first|assumption|omega|simp;try omega) only[go_sem,seval,-List.reduceReplicate,ag,aB,aW,b8,bV,bU]|(with_reducible first|apply aa|intro)|(try rw[ae]);omega
   refine bt (E:=env 0) tok (σ:=Nat) (fun i=>[(0,.d (dC c)),(3,.d (gW rs)),(4,.ptr 0 0),(8,.ptr 1 0),(9,.ptr 4 0),(10,.d (ai trk)),(14,.d (dI i))])
    (fun i=>[.box [.d (dI c.inputs),.d (ai c.next),.d (aO c.gates),.d (ai c.outs)],.box [.d .nil,.d .nil],.row 0 4 true ((de c rs T0 i).map fun x=>iC x),.row 0 2 true ((List.replicate 3 ((15:Int),false)).map fun x=>dQ x),.box [.sl 2 0 4 0 25,.sl 3 0 2 0 3]]) (fun i=>i<=rs.length) (fun i=>rs.length-i) [] [] 1000 1000 ?_ ?_
   ·simp only[go_sem,seval,-List.reduceReplicate];exact⟨0,by omega,by simp,by simp[de]⟩
   ·intro i hi;have hsz:=A6 hsz0 hrt i;by_cases hlt:i<rs.length
    ·have hst:de c rs T0 (i+1)=cP c (rs.getD i eQ) (de c rs T0 i) (rs.getD i eQ).ab.length:=gI (f:=fun T (r:Rt)=>cP c r T r.ab.length) (b:=T0) eQ hlt;have hrr:=hrt _ (aP hlt:rs.getD i eQ∈rs);have hhl:=hrl _ (aP hlt:rs.getD i eQ∈rs);generalize de c rs T0 i=T at *
     generalize hr9:rs.getD i eQ=r at *
     repeat' first|assumption|simp (disch:=first|assumption|omega|simp;try omega) only[go_sem,seval,-List.reduceReplicate,hr9,ag,aB,aW,b8,bV,bU]|(with_reducible first|apply aa|intro)|(try rw[ae]);omega
     refine bt (E:=env 0) tok (σ:=Nat) (fun j=>[(0,.d (dC c)),(3,.d (gW rs)),(4,.ptr 0 0),(8,.ptr 1 0),(9,.ptr 4 0),(10,.d (ai trk)),(14,.d (dI i)),(15,.d (dI j))])
      (fun j=>[.box [.d (dI c.inputs),.d (ai c.next),.d (aO c.gates),.d (ai c.outs)],.box [.d .nil,.d .nil],.row 0 4 true ((cP c r T j).map fun x=>iC x),.row 0 2 true ((List.replicate 3 ((15:Int),false)).map fun x=>dQ x),.box [.sl 2 0 4 0 25,.sl 3 0 2 0 3]]) (fun j=>j<=r.ab.length) (fun j=>r.ab.length-j) [] [] 1000 1000 ?_ ?_
     ·simp only[go_sem,seval,-List.reduceReplicate];exact⟨0,by omega,by simp,by simp[cP]⟩
     ·intro j hj;have hszj:=xG (c:=c) hsz hrr.2.2.2.2 j;by_cases hjt:j<r.ab.length
      ·have hsj:cP c r T (j+1)=eG c r (cP c r T j) (r.ab.getD j (0,0)):=gI (f:=eG c r) (b:=T) ((0,0):Int×Int) hjt;have hh:=hrr.2.2.2.2 _ (aP hjt:r.ab.getD j (0,0)∈r.ab);have hsrc:=m9 c (by omega) r.net _ hh;generalize cP c r T j=U at *
       generalize hh9:r.ab.getD j (0,0)=h at *
       have htsu:=hszj.get (i:=h.1.toNat) (by omega);have hUl:=hszj.1;have hdl:(U.getD h.1.toNat bE).drive.length=8:=htsu.2;generalize hu9:U.getD h.1.toNat bE=u at *
       repeat' first|assumption|simp (disch:=first|assumption|omega|simp;try omega) only[go_sem,seval,-List.reduceReplicate,hr9,hh9,hu9,ag,aB,aW,b8,bV,bU]|(with_reducible first|apply aa|intro)|(try rw[ae]);omega
       refine cg (n:=0) [21] (aw [0,2,7,8,9,10,13,14,15,16,1,3,4,5,6,11,12,17,18] (.one 19 (.fst 20 (.one 21 .done)))) ?_
       repeat' first|assumption|simp (disch:=first|assumption|omega|simp;try omega) only[go_sem,seval,-List.reduceReplicate,hr9,hh9,hu9,g8,g7,gU,ag,aB,aW,b8,bV,bU]|(with_reducible first|apply aa|intro)|(refine aA hsrc ?_)|(try rw[ae]);omega
       ·refine⟨j+1,by omega,by omega,rfl,?_⟩;rw[hsj];unfold eG;rw[hu9];refine CM (by decide) (z:=bE) (by omega) ?_;rw[hu9];rfl
      ·obtain rfl:j=r.ab.length:=by omega
       repeat' first|assumption|simp (disch:=first|assumption|omega|simp;try omega) only[go_sem,seval,-List.reduceReplicate,hr9,ag,aB,aW,b8,bV,bU]|(with_reducible first|apply aa|intro)|(try rw[ae]);omega
       exact⟨i+1,by omega,by omega,rfl,by rw[hst]⟩
    ·obtain rfl:i=rs.length:=by omega
     repeat' first|assumption|simp (disch:=first|assumption|omega|simp;try omega) only[go_sem,seval,-List.reduceReplicate,ag,aB,aW,b8,bV,bU]|(with_reducible first|apply aa|intro)|(try rw[ae]);omega
     refine bt (E:=env 0) tok (σ:=Nat) (fun i=>[(0,.d (dC c)),(4,.ptr 0 0),(8,.ptr 1 0),(9,.ptr 4 0),(10,.d (ai trk)),(17,.d (dI i))])
      (fun i=>[.box [.d (dI c.inputs),.d (ai c.next),.d (aO c.gates),.d (ai c.outs)],.box [.d .nil,.d .nil],.row 0 4 true ((de c rs T0 rs.length).map fun x=>iC x),.row 0 2 true ((iq c trk i).map fun x=>dQ x),.box [.sl 2 0 4 0 25,.sl 3 0 2 0 3]]) (fun i=>i<=c.outs.length) (fun i=>c.outs.length-i) [] [] 1000 1000 ?_ ?_
     ·simp only[go_sem,seval,-List.reduceReplicate];exact⟨0,by omega,by simp,by simp[iq]⟩
     ·intro o ho;have hlo:=hc.lo;by_cases hlt:o<c.outs.length
      ·have hov:=hc.o _ (aP hlt:c.outs.getD o 0∈c.outs);have hst:iq c trk (o+1)=(iq c trk o).set o (trk.getD (c.outs.getD o 0/2).toNat 0,decide (c.outs.getD o 0%2=1)):=by simp only[iq,kK,mM,eO,List.foldl_nil]
       have hpl:=@cE c trk o;generalize iq c trk o=q at *
       generalize ho9:c.outs.getD o 0=v at *
       have hov1:0<=v/\v<2*c.vars:=by
        have:=hov;unfold bj at this;omega
       repeat' first|assumption|simp (disch:=first|assumption|omega|simp;try omega) only[go_sem,seval,-List.reduceReplicate,ho9,ag,aB,aW,b8,bV,bU]|(with_reducible first|apply aa|intro)|(try rw[ae]);omega
       refine cg (n:=0) [21] (aw [0,2,3,4,6,12,14,1,5,7,8,9,10,11,13,15,16,17,18,19,20] (.one 21 .done)) ?_
       repeat' first|assumption|simp (disch:=first|assumption|omega|simp;try omega) only[go_sem,seval,-List.reduceReplicate,ho9,ag,aB,aW,b8,bV,bU]|(with_reducible first|apply aa|intro)|(try rw[ae]);omega
       refine⟨o+1,by omega,by omega,rfl,?_⟩;rw[hst];rw[List.map_set]
      ·obtain rfl:o=c.outs.length:=by omega
       repeat' first|assumption|simp (disch:=first|assumption|omega|simp;try omega) only[go_sem,seval,-List.reduceReplicate,ag,aB,aW,b8,bV,bU]|(with_reducible first|apply aa|intro)|(try rw[ae]);omega
       ·exact(A6 hsz0 hrt _).1.symm
       ·exact cE.symm
end Go.Proofs

set_option linter.unusedVariables false
set_option linter.unusedSimpArgs false
namespace Go.VL
set_option linter.defProp false
variable {c:ac}{cells:List bR}{place:List Int}
def zJ (cells:List bR) (place:List Int) (net:Int):Nat->List Int
 | 0=>[]
 | i+1=>zJ cells place net i++(if net∈(cells.getD i bI).inputs then [place.getD i 0] else [])
def FW {cells:List bR}{place:List Int}{net t:Int} : ∀ {n:Nat},t∈zJ cells place net n↔∃ i:Nat,i<n/\net∈(cells.getD i bI).inputs/\t=place.getD i 0
 | 0=>by simp[zJ]
 | n+1=>by
  rw[zJ,fV,FW];constructor
  ·rintro(⟨o,h1,h2,h3⟩|h)
   ·exact⟨o,by omega,h2,h3⟩
   ·split at h
    ·rename_i h2;exact⟨n,by omega,h2,by simpa using h⟩
    ·simp at h
  ·rintro⟨o,h1,h2,h3⟩;by_cases ho:o<n
   ·exact .inl ⟨o,ho,h2,h3⟩
   ·obtain rfl:o=n:=by omega
    rw[if_pos h2];exact .inr (by simp[h3])
def EK (c:ac) (cells:List bR) (place:List Int) (net:Int):List Int:=zJ cells place net cells.length++dS c net c.outs.length
def GM {net t:Int}:t∈EK c cells place net↔t∈fe c cells place net:=by
 rw[EK,fV,FW,Ds,yW]
def pP (cells:List bR) (place:List Int) (net:Int):Nat->Int
 | 0=>(net-1)*5
 | k+1=>if(cells.getD k bI).net=net then place.getD k 0 else pP cells place net k
def Dl {cells:List bR}{place:List Int}{net:Int} : ∀ k,pP cells place net k=if 0<=iN cells net k then place.getD (iN cells net k).toNat 0 else(net-1)*5
 | 0=>by simp[pP,iN]
 | k+1=>by
  rw[pP,iN];by_cases h:(cells.getD k bI).net=net
  ·rw[if_pos h,if_pos h,if_pos (by omega),tZ]
  ·rw[if_neg h,if_neg h];exact Dl k
def Ef {k:Nat}{n:Int}:n∈o9 c cells place k↔(1<=n/\n<=k)/\i8 c cells place n≠[]:=by
 rw[o9,List.mem_filter,decide_eq_true_eq];refine and_congr_left fun _=>?_
 constructor
 ·intro h;obtain⟨j,hj,rfl⟩:=List.mem_map.1 h;have:=List.mem_range.1 hj;omega
 ·rintro⟨h1,h2⟩;exact List.mem_map.2 ⟨(n-1).toNat,List.mem_range.2 (by omega),by omega⟩
def IE (hc:c.Valid) {busy0 busy:List (List Bool)}{rs:List Rt}(h:jf c (ax c) place busy0 (c.vars.toNat-1) busy rs) {r:Rt}(hr:r∈rs) :
  (∀ t∈EK c (ax c) place r.net,t∈a9 r.ab)/\(r.ab.getD 0 (0,0)).1=pP (ax c) place r.net (ax c).length:=by
 have hk:=h.each r hr;have hv:=hc.aM;have hf:=hc.am;have hn:r.net∈o9 c (ax c) place (c.vars.toNat-1):=by rw[<-h.nets];exact List.mem_map.2 ⟨r,hr,rfl⟩
 obtain⟨h1,h2⟩:=Ef.1 hn;have hu:fe c (ax c) place r.net≠[]:=fun h3=>h2 ((yN hc place h1.1 (by omega)).2 h3)
 have hp:=yX hc place h1.1 (by omega:r.net<c.vars) hu;refine⟨fun t ht=>hk.pins t ?_,?_⟩
 ·rw[hp,BK];exact .inr (GM.1 ht)
 ·obtain⟨q,hq⟩:=hk.src;obtain⟨r2,hr2⟩:=xJ (l:=fe c (ax c) place r.net) (out:=[kg (dZ c (ax c) r.net) place]);rw[hp,hr2] at hq;rw[hq,Dl];rfl
end Go.VL

set_option linter.unusedVariables false
set_option linter.unusedSimpArgs false
namespace Go.Proofs
set_option linter.defProp false
open Go Go.VL
variable {rs:List Rt}{i vars:Nat}
def dF (T:List az) (p:Nat) (A:az->az):List az:=T.set p (A (T.getD p bE))
def NB {A B:az->az}(h : ∀ t,A (B t)=B (A t)) (T:List az) (p q:Nat):dF (dF T p A) q B=dF (dF T q B) p A:=by
 unfold dF;by_cases hpq:p=q
 ·subst hpq;by_cases hp:p<T.length
  ·rw[dY hp,dY hp,List.set_set,List.set_set,h]
  ·have e : ∀ x,T.set p x=T:=fun x=>List.set_eq_of_length_le (by omega)
   simp only[e]
 ·have e1:(T.set p (A (T.getD p bE))).getD q bE=T.getD q bE:=by simp[List.getD,List.getElem?_set,hpq]
  have e2:(T.set q (B (T.getD q bE))).getD p bE=T.getD p bE:=by simp[List.getD,List.getElem?_set,Ne.symm hpq]
  rw[e1,e2,List.set_comm _ _ hpq]
def qE (c:ac) (r:Rt) (h:Int×Int) (t:az):az:=⟨t.table,t.select,t.ge,t.drive.set r.track.toNat (dk c r.net h)⟩
def Bi (c:ac) (r:Rt) (T:List az) (h:Int×Int):eG c r T h=dF T h.1.toNat (qE c r h):=rfl
def yg (trk:List Int) (cells:List bR) (place:List Int) (T:List az) (i:Nat):fT trk cells place T (i+1)=dF (fT trk cells place T i) (place.getD i 0).toNat (jc trk (cells.getD i bI)):=rfl
def ID {c:ac}{r:Rt}{p:Nat}{A:az->az}(hA : ∀ h t,A (qE c r h t)=qE c r h (A t)) : ∀ (l:List (Int×Int)) (T:List az),l.foldl (eG c r) (dF T p A)=dF (l.foldl (eG c r) T) p A
 | [],T=>rfl
 | h::l,T=>by
  rw[eO,eO,Bi,NB (hA h),<-Bi];exact ID hA l (eG c r T h)
def Ht {c:ac}{p:Nat}{A:az->az}(hA : ∀ r h t,A (qE c r h t)=qE c r h (A t)) : ∀ (l:List Rt) (T:List az),l.foldl (fun T r=>cP c r T r.ab.length) (dF T p A)=dF (l.foldl (fun T r=>cP c r T r.ab.length) T) p A
 | [],T=>rfl
 | r::l,T=>by
  rw[eO,eO];have e:cP c r (dF T p A) r.ab.length=dF (cP c r T r.ab.length) p A:=ID (hA r) (r.ab.take r.ab.length) T;rw[e];exact Ht hA l _
def Hm {c:ac}{trk:List Int}{cells:List bR}{place:List Int}{rs:List Rt}{T:List az}{n:Nat} : ∀ i,fT trk cells place (de c rs T n) i=de c rs (fT trk cells place T i) n
 | 0=>rfl
 | i+1=>by
  rw[yg,yg,Hm i];exact(Ht (fun r h t=>rfl) (rs.take n) _).symm
def nw (rs:List Rt):List (D×D):=rs.map fun r=>(dI r.net,dI r.track)
def EU (x:Int) : ∀ rs:List Rt,fX (nw rs) (dI x)=(rs.find? fun r=>decide (r.net=x)).map fun r=>dI r.track
 | []=>rfl
 | r::l=>by
  have ih:=EU x l;show fX ((dI r.net,dI r.track)::nw l) _=_
  rw[Ch,x3];by_cases h:r.net=x
  ·subst h;simp
  ·rw[decide_eq_false (fun h2=>h h2.symm)];simp only[eV,if_false,ih];simp[h]
def JZ (x:Int) (v:D) : ∀ rs:List Rt,(∀ r∈rs,r.net≠x)->cw (nw rs) (dI x) v=nw rs ++ [(dI x,v)]
 | [],_=>rfl
 | r::l,hx=>by
  have ih:=JZ x v l (fun y hy=>hx y (fP _ hy));show cw ((dI r.net,dI r.track)::nw l) _ _=_
  rw[cw,x3,decide_eq_false (fun h2=>hx r (ld ..) h2.symm)];simp only[eV,if_false,ih];rfl
def F7 (rs:List Rt):jL (.int .i64) (nw rs):=by
 rw[Bc];intro e he;obtain⟨x,_,rfl⟩:=List.mem_map.1 he;exact rfl
def LR (hi:i<rs.length):nw (rs.take (i+1))=nw (rs.take i) ++ [(dI (rs.getD i eQ).net,dI (rs.getD i eQ).track)]:=mz eQ hi
def Eo (hn:(rs.map (·.net)).Nodup) (hi:i<rs.length) : ∀ r∈rs.take i,r.net≠(rs.getD i eQ).net:=by
 intro r hr e;have h1:(rs.take (i+1)).map (·.net)=(rs.take i).map (·.net) ++ [(rs.getD i eQ).net]:=mz eQ hi;have h2:((rs.take (i+1)).map (·.net)).Nodup:=by
  rw[List.map_take];exact hn.sublist (List.take_sublist _ _)
 rw[h1,uf] at h2;exact h2.2.2 _ (vP hr) _ (by simp) e
def CP {v:Nat} : ∀ (l:List Rt) (q:List Int),(∀ r∈l,r.net.toNat≠v)->(l.foldl (fun l r=>l.set r.net.toNat r.track) q).getD v 0=q.getD v 0
 | [],q,_=>rfl
 | r::l,q,h=>by
  rw[eO,CP l _ (fun y hy=>h y (fP _ hy))];simp[List.getD,List.getElem?_set,h r (ld ..)]
def EJ : ∀ (l:List Rt) (q:List Int),(l.map (·.net)).Nodup->(∀ r∈l,0<=r.net/\r.net<q.length)->∀ r∈l,(l.foldl (fun l r=>l.set r.net.toNat r.track) q).getD r.net.toNat 0=r.track
 | [],q,_,_,r,hr=>by cases hr
 | a::l,q,hn,hb,r,hr=>by
  rw[jC,List.nodup_cons] at hn;rw[eO];have ha:=hb a (ld ..);rcases List.mem_cons.1 hr with rfl|h
  ·rw[CP l _ (fun y hy e=>hn.1 (by
    have:=hb y (fP _ hy);have:y.net=r.net:=by omega
    rw[<-this];exact vP hy)),rg (by omega),if_pos rfl]
  ·exact EJ l _ hn.2 (fun y hy=>by rw[fB];exact hb y (fP _ hy)) r h
def O3 (hn:(rs.map (·.net)).Nodup) (hb : ∀ r∈rs,0<=r.net/\r.net<vars) {v:Int}(hv : ∃ r∈rs,r.net=v):fX (nw rs) (dI v)=some (dI ((e6 vars rs).getD v.toNat 0)):=by
 obtain⟨r,hr,rfl⟩:=hv;have h1:=EJ rs (List.replicate vars 15) hn (by simpa using hb) r hr;rw[e6,jb,iA,h1,EU];have:rs.find? (fun x=>decide (x.net=r.net))=some r:=by
  cases h:rs.find? (fun x=>decide (x.net=r.net)) with
  | none=>rw[List.find?_eq_none] at h;exact absurd (h r hr) (by simp)
  | some x=>
   have h2:=List.find?_some h;have h3:=List.mem_of_find?_eq_some h;rw[decide_eq_true_iff] at h2;congr 1;obtain⟨i,hi,rfl⟩:=fO eQ h3;obtain⟨j,hj,rfl⟩:=fO eQ hr;rcases Nat.lt_trichotomy i j with h4|h4|h4
   ·exact absurd h2 (Eo hn hj _ (by
     have:rs.getD i eQ=(rs.take j).getD i eQ:=by simp[List.getD,List.getElem?_take,h4]
     rw[this];exact aP (by simp;omega)))
   ·rw[h4]
   ·exact absurd h2.symm (Eo hn hi _ (by
     have:rs.getD j eQ=(rs.take i).getD j eQ:=by simp[List.getD,List.getElem?_take,h4]
     rw[this];exact aP (by simp;omega)))
 rw[this];rfl
def Da (h0:0<vars) (hb : ∀ r∈rs,1<=r.net):(e6 vars rs).getD 0 0=15:=by
 rw[e6,jb,iA,CP rs _ (fun r hr=>by have:=hb r hr;omega)];simp[List.getD,h0]
def AX {c:ac}{trk:List Int} : ∀ (n o:Nat),n<=o->o<3->(iq c trk n).getD o (0,false)=(15,false)
 | 0,o,_,h=>by
  obtain rfl|rfl|rfl:o=0∨o=1∨o=2:=by omega
  all_goals rfl
 | n+1,o,h,h3=>by
  have hs:iq c trk (n+1)=(iq c trk n).set n (trk.getD (c.outs.getD n 0/2).toNat 0,decide (c.outs.getD n 0%2=1)):=by simp only[iq,kK,mM,eO,List.foldl_nil]
  rw[hs];have:=AX (c:=c) (trk:=trk) n o (by omega) h3;rw[<-this];simp[List.getD,List.getElem?_set,show ¬ n=o by omega]
end Go.Proofs
