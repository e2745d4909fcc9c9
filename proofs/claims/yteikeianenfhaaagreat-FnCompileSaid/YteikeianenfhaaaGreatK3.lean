/- Contracts, plain definitions and lemmas. Conditions: none; lemmas. -/
import Derived.Test.YteikeianenfhaaaGreatD8
import Derived.Test.YteikeianenfhaaaGreatC53
import Derived.Test.YteikeianenfhaaaGreatVM8
import Derived.Test.YteikeianenfhaaaGreatC73
set_option maxRecDepth 20000
set_option linter.unusedVariables false
set_option linter.unusedSimpArgs false
set_option maxHeartbeats 2000000
set_option linter.defProp false
namespace Go.Proofs
open Go Go.VL Tryz
def dy (c:ac) (net:Int) (h:Int×Int):Int:=
 if h.2<0 then(if net<=c.inputs then 6 else 1)
 else if nb h.1 2=h.2 then 2 else if nb h.1 3=h.2 then 3 else if nb h.1 4=h.2 then 4 else if nb h.1 5=h.2 then 5 else 0
def Tryz.nJ (c:ac) (hc : -1000<=c.inputs/\c.inputs<=1000) (net:Int) (h:Int×Int) (hh:0<=h.1/\h.1<=24):Pure prog 144 [dC c,dI net,dP h] (dI (dy c net h)):=by
 refine bz func144 rfl ntmps144 fun ok=>?_
 simp only[go_sem,seval] at ok
 repeat' first|simp (disch:=omega) only[go_sem,seval,db]|(with_reducible first|apply aa|intro)|exact ah|(try rw[ae]);omega
 ·rw[dy,if_pos (by omega),if_pos (by omega)]
 ·rw[dy,if_pos (by omega),if_neg (by omega)]
 ·have hs:dy c net h=if nb h.1 2=h.2 then 2 else if nb h.1 3=h.2 then 3 else if nb h.1 4=h.2 then 4 else if nb h.1 5=h.2 then 5 else 0:=by rw[dy,if_neg (by omega)]
  have hn : ∀ d,Pure prog 196 [dI h.1,dI d] (dI (nb h.1 d)):=fun d=>gt h.1 d hh
  refine cQ (σ:=Nat) (fun k=>[(2,.d (dP h)),(5,.ptr 1 0),(7,.d (dI k))]) (fun _=>[.box [.d (dI c.inputs),.d (aj c.next),.d (aY c.gates),.d (aj c.outs)],.box [.d (dI h.1),.d (dI h.2)]])
   (fun k=>2<=k/\k<=6/\∀ j:Nat,2<=j->j<k->nb h.1 j≠h.2) (fun k=>6-k) [] 1000 1000 ?_ ?_ ?_
  ·simp only[go_sem,seval]
  ·simp only[go_sem,seval];exact⟨2,⟨by omega,by omega,fun j h1 h2=>by omega⟩,rfl⟩
  ·rintro k ⟨hk2,hk6,hk⟩;by_cases hlt:k<6
   ·have hb : -1<=nb h.1 k/\nb h.1 k<=24:=by
     unfold nb gV oS oF oP
     repeat' split
     all_goals omega
    repeat' first|simp (disch:=omega) only[go_sem,seval,db]|(with_reducible first|apply aa|intro)|(refine qD (fun _=>⟨hn k,by show cp .i64 _;rw[ae];omega⟩) ?_)|exact ah|(try rw[ae]);omega
    ·rename_i h9;rw[hs];have a2:2<k->nb h.1 2≠h.2:=fun h7=>hk 2 (by omega) h7
     have a3:3<k->nb h.1 3≠h.2:=fun h7=>hk 3 (by omega) h7
     have a4:4<k->nb h.1 4≠h.2:=fun h7=>hk 4 (by omega) h7
     have a5:5<k->nb h.1 5≠h.2:=fun h7=>hk 5 (by omega) h7
     obtain rfl|rfl|rfl|rfl:k=2∨k=3∨k=4∨k=5:=by omega
     ·have h2:nb h.1 2=h.2:=h9;rw[if_pos h2];rfl
     ·have h3:nb h.1 3=h.2:=h9;rw[if_neg (a2 (by omega)),if_pos h3];rfl
     ·have h4:nb h.1 4=h.2:=h9;rw[if_neg (a2 (by omega)),if_neg (a3 (by omega)),if_pos h4];rfl
     ·have h5:nb h.1 5=h.2:=h9;rw[if_neg (a2 (by omega)),if_neg (a3 (by omega)),if_neg (a4 (by omega)),if_pos h5];rfl
    ·rename_i h9;refine⟨k+1,⟨by omega,by omega,fun j h1 h2=>?_⟩,by omega,rfl⟩;by_cases hj:j=k
     ·subst hj;exact h9
     ·exact hk j h1 (by omega)
   ·obtain rfl:k=6:=by omega
    repeat' first|simp (disch:=omega) only[go_sem,seval,db]|(with_reducible first|apply aa|intro)|exact ah|(try rw[ae]);omega
    have a2:nb h.1 2≠h.2:=hk 2 (by omega) (by omega);have a3:nb h.1 3≠h.2:=hk 3 (by omega) (by omega);have a4:nb h.1 4≠h.2:=hk 4 (by omega) (by omega);have a5:nb h.1 5≠h.2:=hk 5 (by omega) (by omega);rw[hs,if_neg a2,if_neg a3,if_neg a4,if_neg a5]
def jQ (vars:Nat) (rs:List Rt) (k:Nat):ZA:=(rs.take k).foldl (fun l r=>l.set r.net.toNat r.track) (List.replicate vars 15)
def fN (vars:Nat) (rs:List Rt):ZA:=jQ vars rs rs.length
def Ks {vars:Nat}{rs:List Rt}{k:Nat}:(jQ vars rs k).length=vars:=by
 unfold jQ;generalize rs.take k=l;have : ∀ (l:List Rt) (q:ZA),(l.foldl (fun l r=>l.set r.net.toNat r.track) q).length=q.length:=by
  intro l;induction l with
  | nil=>intro q;rfl
  | cons a l ih=>intro q;rw[e6,ih,gh]
 rw[this,m9]
def Q2 {vars:Nat}{rs:List Rt}{k:Nat}(hk:k<rs.length):jQ vars rs (k+1)=(jQ vars rs k).set (rs.getD k fC).net.toNat (rs.getD k fC).track:=
 iH (f:=fun(l:ZA) (r:Rt)=>l.set r.net.toNat r.track) (b:=List.replicate vars 15) fC hk
def Tryz.nw (vars:Nat) (hv:vars<=100) (rs:List Rt) (hr : ∀ r∈rs,0<=r.net/\r.net<vars):Pure prog 143 [dI vars,iK rs] (aj (fN vars rs)):=by
 refine bz func143 rfl ntmps143 fun ok=>?_
 simp only[go_sem,seval] at ok
 repeat' first|simp (disch:=omega) only[go_sem,seval,db]|(with_reducible first|apply aa|intro)|exact ah|(try rw[ae]);omega
 refine cQ (σ:=Nat) (fun k=>[(0,.d (dI vars)),(1,.d (iK rs)),(5,.sl 0 k 1 0 k),(6,.d (dI k))]) (fun k=>[.row k 1 true ((List.replicate k 15).map (D.int .i64))]) (fun k=>k<=vars) (fun k=>vars-k) [] 1000 1000 ?_ ?_ ?_
 ·simp only[go_sem,seval]
 ·simp only[go_sem,seval];exact⟨0,by omega,by simp,by simp,rfl⟩
 ·intro k hk;by_cases hlt:k<vars
  ·repeat' first|simp (disch:=omega) only[go_sem,seval,db]|(with_reducible first|apply aa|intro)|exact ah|(try rw[ae]);omega
   exact⟨k+1,by omega,by omega,rfl,rfl,List.replicate_succ'.symm⟩
  ·obtain rfl:k=vars:=by omega
   repeat' first|simp (disch:=omega) only[go_sem,seval,db]|(with_reducible first|apply aa|intro)|exact ah|(try rw[ae]);omega
   have e0:List.replicate k 15=jQ k rs 0:=rfl;rw[e0];refine cQ (σ:=Nat) (fun i=>[(1,.d (iK rs)),(5,.sl 0 k 1 0 k),(7,.d (dI i))]) (fun i=>[.row k 1 true ((jQ k rs i).map (D.int .i64))]) (fun i=>i<=rs.length) (fun i=>rs.length-i) [] 1000 1000 ?_ ?_ ?_
   ·simp only[go_sem,seval]
   ·simp only[go_sem,seval];exact⟨0,by omega,by simp,rfl⟩
   ·intro i hi;have htl:=@Ks k rs i;by_cases hlt:i<rs.length
    ·have hst:=@Q2 k rs i hlt;have hrr:=hr _ (aO hlt:rs.getD i fC∈rs);generalize hr9:rs.getD i fC=r at *
     generalize jQ k rs i=q at *
     repeat' first|simp (disch:=omega) only[go_sem,seval,hr9,db]|(with_reducible first|apply aa|intro)|exact ah|(try rw[ae]);omega
     refine co (n:=0) [12] (ax [0,1,2,3,4,6,7,8,9,5,10,11] (.one 12 .done)) ?_
     repeat' first|simp (disch:=omega) only[go_sem,seval,hr9,htl,db]|(with_reducible first|apply aa|intro)|exact ah|(try rw[ae]);omega
     exact⟨i+1,by omega,by omega,rfl,hst.symm⟩
    ·obtain rfl:i=rs.length:=by omega
     rw[fN]
     repeat' first|simp (disch:=omega) only[go_sem,seval,db]|(with_reducible first|apply aa|intro)|exact ah|(try rw[ae]);omega
end Go.Proofs

namespace Go.Proofs
open Go Go.VL
variable {a i:Nat}{s:ZA}{b:Int}{c:ac}{T:List ar}{t:ar}{r:Rt}
def sy:(a+1=a)=False:=by simp
def sr:(a+2=a)=False:=by simp
def sD:(a+3=a)=False:=by simp
def c9 (s v:ZA):ZA:=v++s.drop v.length
def xD {a:Int}(h:s.length=3):s.set 0 a=c9 s [a]:=by
 match s,h with
 | [_,_,_],_=>rfl
def wY {a:Int}(h:s.length=3):(s.set 0 a).set 1 b=c9 s [a,b]:=by
 match s,h with
 | [_,_,_],_=>rfl
def xG {a c:Int}(h:s.length=3):((s.set 0 a).set 1 b).set 2 c=c9 s [a,b,c]:=by
 match s,h with
 | [_,_,_],_=>rfl
def Ky:((T.set i t).map fun x=>fO x)=(T.map fun x=>fO x).set i (fO t):=List.map_set
def kg (trk:ZA) (x:bW) (t:ar):ar:=⟨x.table,c9 t.select (x.inputs.map fun v=>trk.getD v.toNat 0),x.gj,t.drive⟩
def gE (trk:ZA) (cells:List bW) (place:ZA) (T:List ar):Nat->List ar
 | 0=>T
 | i+1=>(gE trk cells place T i).set (place.getD i 0).toNat (kg trk (cells.getD i bP) ((gE trk cells place T i).getD (place.getD i 0).toNat ba))
def fo (c:ac) (r:Rt) (T:List ar) (h:Int×Int):List ar:=
 T.set h.1.toNat ⟨(T.getD h.1.toNat ba).table,(T.getD h.1.toNat ba).select,(T.getD h.1.toNat ba).gj,(T.getD h.1.toNat ba).drive.set r.track.toNat (dy c r.net h)⟩
def c8 (c:ac) (r:Rt) (T:List ar) (n:Nat):List ar:=(r.ab.take n).foldl (fo c r) T
def dA (c:ac) (rs:List Rt) (T:List ar) (n:Nat):List ar:=(rs.take n).foldl (fun T r=>c8 c r T r.ab.length) T
def iW (c:ac) (trk:ZA) (n:Nat):List (Int×Bool):=
 (List.range n).foldl (fun p o=>p.set o (trk.getD (c.outs.getD o 0/2).toNat 0,decide (c.outs.getD o 0%2=1))) (List.replicate 3 (15,false))
def vK (c:ac) (cells:List bW) (place:ZA) (rs:List Rt):aG:=
 ⟨dA c rs (gE (fN c.vars.toNat rs) cells place (List.replicate 25 dY) cells.length) rs.length,iW c (fN c.vars.toNat rs) c.outs.length⟩
def BN (t:ar):Prop:=t.select.length=3/\t.drive.length=8
def fV (T:List ar):Prop:=T.length=25/\∀ t∈T,BN t
def fV.get (h:fV T) (hi:i<25):BN (T.getD i ba):=h.2 _ (aO (by rw[h.1];exact hi))
def fV.set {T:List ar}(h:fV T) {i:Nat}{t:ar}(ht:BN t):fV (T.set i t):=
 ⟨by rw[gh];exact h.1,fun x hx=>(wd hx).elim (h.2 x) (fun e=>e▸ht)⟩
def fV.empty:fV (List.replicate 25 dY):=⟨by simp,fun t ht=>by rw[(List.mem_replicate.1 ht).2];exact⟨rfl,rfl⟩⟩
def Pv {trk:ZA}{x:bW}(ht:BN t) (hx:x.inputs.length<=3):BN (kg trk x t):=by
 refine⟨?_,ht.2⟩;have:=ht.1;simp only[kg,c9,b8,gQ,wl];omega
def zZ {trk:ZA}{cells:List bW}{place:ZA}{T:List ar}(hT:fV T) (hci : ∀ x∈cells,x.inputs.length<=3) (hp:ay cells.length place) : ∀ i,i<=cells.length->fV (gE trk cells place T i)
 | 0,_=>hT
 | i+1,h=>by
  have ih:=zZ (trk:=trk) hT hci hp i (by omega);have:=hp.get (i:=i) (by omega);exact ih.set (Pv (ih.get (by omega)) (hci _ (aO (by omega))))
def B8 (hT:fV T) {h:Int×Int}(hh:0<=h.1/\h.1<=24):fV (fo c r T h):=by
 have:=hT.get (i:=h.1.toNat) (by omega);exact hT.set ⟨this.1,by simp only[gh];exact this.2⟩
def yX (hT:fV T) (hh : ∀ h∈r.ab,0<=h.1/\h.1<=24) (n:Nat):fV (c8 c r T n):=by
 have : ∀ (l:List (Int×Int)),(∀ h∈l,0<=h.1/\h.1<=24)->∀ T,fV T->fV (l.foldl (fo c r) T):=by
  intro l;induction l with
  | nil=>intro _ T h;exact h
  | cons a l ih=>intro hl T h;exact ih (fun x hx=>hl x (fX _ hx)) _ (B8 h (hl a (kE ..)))
 exact this _ (fun x hx=>hh x (kG hx)) T hT
def C1 {rs:List Rt}(hT:fV T) (hh : ∀ r∈rs,0<=r.net/\r.net<c.vars/\0<=r.track/\r.track<=7/\∀ h∈r.ab,0<=h.1/\h.1<=24) (n:Nat):fV (dA c rs T n):=by
 have : ∀ (l:List Rt),(∀ r∈l,∀ h∈r.ab,0<=h.1/\h.1<=24)->∀ T,fV T->fV (l.foldl (fun T r=>c8 c r T r.ab.length) T):=by
  intro l;induction l with
  | nil=>intro _ T h;exact h
  | cons a l ih=>intro hl T h;exact ih (fun x hx=>hl x (fX _ hx)) _ (yX h (hl a (kE ..)) _)
 exact this _ (fun r hr=>(hh r (kG hr)).2.2.2.2) T hT
def cI {c:ac}{trk:ZA}{n:Nat}:(iW c trk n).length=3:=by
 unfold iW;have : ∀ (l:ZC) (p:List (Int×Bool)),(l.foldl (fun p o=>p.set o (trk.getD (c.outs.getD o 0/2).toNat 0,decide (c.outs.getD o 0%2=1))) p).length=p.length:=by
  intro l;induction l with
  | nil=>intro p;rfl
  | cons a l ih=>intro p;rw[e6,ih,gh]
 rw[this];rfl
set_option maxHeartbeats 4000000 in
def Tryz.pS (c:ac) (hc:c.Valid) (cells:List bW) (hcl:cells.length<=25) (hci : ∀ x∈cells,x.inputs.length<=3) (place:ZA) (hp:ay cells.length place) (hcv : ∀ x∈cells,∀ v∈x.inputs,0<=v/\v<c.vars)
  (rs:List Rt) (hrt : ∀ r∈rs,0<=r.net/\r.net<c.vars/\0<=r.track/\r.track<=7/\∀ h∈r.ab,0<=h.1/\h.1<=24) (hrl : ∀ r∈rs,r.ab.length<=1000) :
  Pure prog 77 [dC c,cm cells,aj place,iK rs] (dK (vK c cells place rs)):=by
 have hf:=hc.al;have hv:=hc.aN;have hi0:=hc.i0;have hi1:=hc.i1;have hvv:c.vars=c.first+(c.gates.length:Int):=rfl
 have hfst:=br c (by omega);have k3:eW (dI c.first):=by show cp .i64 _;rw[ae];omega
 have htr:=nw c.vars.toNat (by omega) rs (fun r hr=>by have:=hrt r hr;omega);have hvn:((c.vars.toNat:Nat):Int)=c.vars:=by omega
 rw[hvn] at htr;have htr:Pure prog 143 [dI (c.first+(c.gates.length:Int)),iK rs] (aj (fN c.vars.toNat rs)):=htr;have htl:(fN c.vars.toNat rs).length=c.vars.toNat:=Ks;have hB:vK c cells place rs=⟨dA c rs (gE (fN c.vars.toNat rs) cells place (List.replicate 25 dY) cells.length) rs.length,iW c (fN c.vars.toNat rs) c.outs.length⟩:=rfl;rw[hB];clear hB;generalize fN c.vars.toNat rs=trk at *
 refine l9 rfl 1000 func77 rfl rfl ntmps77 (by simp) fun ok=>?_
 simp only[go_sem,seval,-List.reduceReplicate] at ok
 repeat' first|assumption|simp (disch:=first|assumption|omega|simp;try omega) only[go_sem,seval,-List.reduceReplicate,ag,aC,bB,db,cE,bw]|(with_reducible first|apply aa|intro)|(refine me ke ?_)|(try rw[ae]);omega
 refine co (n:=0) [] (ax [2,6,0,3,4] (.one 1 (.fst 5 (.one 7 (.fst 8 .done))))) ?_
 repeat' first|assumption|simp (disch:=first|assumption|omega|simp;try omega) only[go_sem,seval,-List.reduceReplicate,ag,aC,bB,db,cE,bw]|(with_reducible first|apply aa|intro)|(refine az hfst ?_)|(refine az htr ?_)|(try rw[ae]);omega
 refine cD (σ:=Nat) (fun i=>[(0,.d (dC c)),(1,.d (cm cells)),(2,.d (aj place)),(3,.d (iK rs)),(4,.ptr 0 0),(8,.ptr 1 0),(9,.ptr 4 0),(10,.d (aj trk)),(11,.d (dI i))])
  (fun i=>[.box [.d (dI c.inputs),.d (aj c.next),.d (aY c.gates),.d (aj c.outs)],.box [.d .nil,.d .nil],.row 0 4 true ((gE trk cells place (List.replicate 25 dY) i).map fun x=>fO x),.row 0 2 true ((List.replicate 3 ((15:Int),false)).map fun x=>dQ x),.box [.sl 2 0 4 0 25,.sl 3 0 2 0 3]]) (fun i=>i<=cells.length) (fun i=>cells.length-i) [] [] 1000 1000 ?_ ?_
 ·simp only[go_sem,seval,-List.reduceReplicate];exact⟨0,by omega,by simp[gE]⟩
 ·intro i hi;have hsz:=zZ (trk:=trk) fV.empty hci hp i hi;by_cases hlt:i<cells.length
  ·have hst:gE trk cells place (List.replicate 25 dY) (i+1)=(gE trk cells place (List.replicate 25 dY) i).set (place.getD i 0).toNat (kg trk (cells.getD i bP) ((gE trk cells place (List.replicate 25 dY) i).getD (place.getD i 0).toNat ba)):=rfl;have hp1:=hp.get hlt;have hpl:=hp.len;have hxi:=hci _ (aO hlt:cells.getD i bP∈cells);have hxv:=hcv _ (aO hlt:cells.getD i bP∈cells);have hts:=hsz.get (i:=(place.getD i 0).toNat) (by omega);have hTl:=hsz.1;generalize gE trk cells place (List.replicate 25 dY) i=T at *
   generalize hp9:place.getD i 0=p at *
   generalize hx9:cells.getD i bP=x at *
   generalize ht9:T.getD p.toNat ba=t at *
   repeat' first|assumption|simp (disch:=first|assumption|omega|simp;try omega) only[go_sem,seval,-List.reduceReplicate,hp9,hx9,ht9,sy,sr,sD,ag,aC,bB,db,cE,bw]|(with_reducible first|apply aa|intro)|(try rw[ae]);omega
   refine co (n:=0) [9] (ax [0,2,3,4,1,5,6,7] (.one 8 (.one 9 .done))) ?_
   repeat' first|assumption|simp (disch:=first|assumption|omega|simp;try omega) only[go_sem,seval,-List.reduceReplicate,hp9,hx9,ht9,sy,sr,sD,ag,aC,bB,db,cE,bw]|(with_reducible first|apply aa|intro)|(try rw[ae]);omega
   obtain⟨xn,xi,xt,xr⟩:=x;simp only at hxi hxv;have hsl:t.select.length=3:=hts.1;have hdl:t.drive.length=8:=hts.2;refine Eh 4 1000 1000 ?_;have hc4:xi=[]∨(∃ a1,xi=[a1])∨(∃ a1 a2,xi=[a1,a2])∨∃ a1 a2 a3,xi=[a1,a2,a3]:=by
    match xi,hxi with
    | [],_=>exact .inl rfl
    | [a1],_=>exact .inr (.inl ⟨a1,rfl⟩)
    | [a1,a2],_=>exact .inr (.inr (.inl ⟨a1,a2,rfl⟩))
    | [a1,a2,a3],_=>exact .inr (.inr (.inr ⟨a1,a2,a3,rfl⟩))
   rcases hc4 with rfl|⟨a1,rfl⟩|⟨a1,a2,rfl⟩|⟨a1,a2,a3,rfl⟩;all_goals (try simp only[List.forall_mem_cons] at hxv)
   all_goals (try obtain⟨b1,hxv⟩:=hxv)
   all_goals (try obtain⟨b2,hxv⟩:=hxv)
   all_goals (try obtain⟨b3,hxv⟩:=hxv)
   all_goals repeat (
    refine sM ?_
    repeat' first|assumption|simp (disch:=first|assumption|omega|simp;try omega) only[go_sem,seval,-List.reduceReplicate,sy,sr,sD,hp9,ht9,wK,List.getD_cons_succ,eD,kr,hx9,ag,aC,bB,db,cE,bw]|(with_reducible first|apply aa|intro)|(try rw[ae]);omega
    first
     | refine co (n:=0) [15] (ax [0,2,3,4,5,6,7,9,1,8,10,11,12,13,14] (.one 15 .done)) ?_ (id:=12)
     | refine co (n:=0) [8] (ax [0,2,3,4,1,5,6,7] (.one 8 .done)) ?_ (id:=13)
    simp only[go_sem,seval,-List.reduceReplicate,sy,sr,sD,hp9,ht9,wK,List.getD_cons_succ,eD,kr,hx9]
    repeat' first|assumption|simp (disch:=first|assumption|omega|simp;try omega) only[go_sem,seval,-List.reduceReplicate,sy,sr,sD,hp9,ht9,wK,List.getD_cons_succ,eD,kr,hx9,ag,aC,bB,db,cE,bw]|(with_reducible first|apply aa|intro)|(try rw[ae]);omega)
   all_goals (
    refine⟨i+1,by omega,by omega,rfl,?_⟩;rw[hst,Ky];congr 1)
   ·rw[show t.select.set 0 (trk.getD a1.toNat 0)=c9 t.select [trk.getD a1.toNat 0] from xD hsl];rfl
   ·rw[show(t.select.set 0 (trk.getD a1.toNat 0)).set 1 (trk.getD a2.toNat 0)=c9 t.select [trk.getD a1.toNat 0,trk.getD a2.toNat 0] from wY hsl];rfl
   ·rw[show((t.select.set 0 (trk.getD a1.toNat 0)).set 1 (trk.getD a2.toNat 0)).set 2 (trk.getD a3.toNat 0)=c9 t.select [trk.getD a1.toNat 0,trk.getD a2.toNat 0,trk.getD a3.toNat 0] from xG hsl];rfl
  ·obtain rfl:i=cells.length:=by omega
   have hsz0:=hsz;generalize gE trk cells place (List.replicate 25 dY) cells.length=T0 at *
   repeat' first|assumption|simp (disch:=first|assumption|omega|simp;try omega) only[go_sem,seval,-List.reduceReplicate,ag,aC,bB,db,cE,bw]|(with_reducible first|apply aa|intro)|(try rw[ae]);omega
   refine cD (σ:=Nat) (fun i=>[(0,.d (dC c)),(3,.d (iK rs)),(4,.ptr 0 0),(8,.ptr 1 0),(9,.ptr 4 0),(10,.d (aj trk)),(14,.d (dI i))])
    (fun i=>[.box [.d (dI c.inputs),.d (aj c.next),.d (aY c.gates),.d (aj c.outs)],.box [.d .nil,.d .nil],.row 0 4 true ((dA c rs T0 i).map fun x=>fO x),.row 0 2 true ((List.replicate 3 ((15:Int),false)).map fun x=>dQ x),.box [.sl 2 0 4 0 25,.sl 3 0 2 0 3]]) (fun i=>i<=rs.length) (fun i=>rs.length-i) [] [] 1000 1000 ?_ ?_
   ·simp only[go_sem,seval,-List.reduceReplicate];exact⟨0,by omega,by simp,by simp[dA]⟩
   ·intro i hi;have hsz:=C1 hsz0 hrt i;by_cases hlt:i<rs.length
    ·have hst:dA c rs T0 (i+1)=c8 c (rs.getD i fC) (dA c rs T0 i) (rs.getD i fC).ab.length:=iH (f:=fun T (r:Rt)=>c8 c r T r.ab.length) (b:=T0) fC hlt;have hrr:=hrt _ (aO hlt:rs.getD i fC∈rs);have hhl:=hrl _ (aO hlt:rs.getD i fC∈rs);generalize dA c rs T0 i=T at *
     generalize hr9:rs.getD i fC=r at *
     repeat' first|assumption|simp (disch:=first|assumption|omega|simp;try omega) only[go_sem,seval,-List.reduceReplicate,hr9,ag,aC,bB,db,cE,bw]|(with_reducible first|apply aa|intro)|(try rw[ae]);omega
     refine cD (σ:=Nat) (fun j=>[(0,.d (dC c)),(3,.d (iK rs)),(4,.ptr 0 0),(8,.ptr 1 0),(9,.ptr 4 0),(10,.d (aj trk)),(14,.d (dI i)),(15,.d (dI j))])
      (fun j=>[.box [.d (dI c.inputs),.d (aj c.next),.d (aY c.gates),.d (aj c.outs)],.box [.d .nil,.d .nil],.row 0 4 true ((c8 c r T j).map fun x=>fO x),.row 0 2 true ((List.replicate 3 ((15:Int),false)).map fun x=>dQ x),.box [.sl 2 0 4 0 25,.sl 3 0 2 0 3]]) (fun j=>j<=r.ab.length) (fun j=>r.ab.length-j) [] [] 1000 1000 ?_ ?_
     ·simp only[go_sem,seval,-List.reduceReplicate];exact⟨0,by omega,by simp,by simp[c8]⟩
     ·intro j hj;have hszj:=yX (c:=c) hsz hrr.2.2.2.2 j;by_cases hjt:j<r.ab.length
      ·have hsj:c8 c r T (j+1)=fo c r (c8 c r T j) (r.ab.getD j (0,0)):=iH (f:=fo c r) (b:=T) ((0,0):Int×Int) hjt;have hh:=hrr.2.2.2.2 _ (aO hjt:r.ab.getD j (0,0)∈r.ab);have hsrc:=nJ c (by omega) r.net _ hh;generalize c8 c r T j=U at *
       generalize hh9:r.ab.getD j (0,0)=h at *
       have htsu:=hszj.get (i:=h.1.toNat) (by omega);have hUl:=hszj.1;have hdl:(U.getD h.1.toNat ba).drive.length=8:=htsu.2;generalize hu9:U.getD h.1.toNat ba=u at *
       repeat' first|assumption|simp (disch:=first|assumption|omega|simp;try omega) only[go_sem,seval,-List.reduceReplicate,hr9,hh9,hu9,ag,aC,bB,db,cE,bw]|(with_reducible first|apply aa|intro)|(try rw[ae]);omega
       refine co (n:=0) [21] (ax [0,2,7,8,9,10,13,14,15,16,1,3,4,5,6,11,12,17,18] (.one 19 (.fst 20 (.one 21 .done)))) ?_
       repeat' first|assumption|simp (disch:=first|assumption|omega|simp;try omega) only[go_sem,seval,-List.reduceReplicate,hr9,hh9,hu9,sy,sr,sD,ag,aC,bB,db,cE,bw]|(with_reducible first|apply aa|intro)|(refine az hsrc ?_)|(try rw[ae]);omega
       ·refine⟨j+1,by omega,by omega,rfl,?_⟩;rw[hsj];unfold fo;rw[hu9];refine Ei (by decide) (z:=ba) (by omega) ?_;rw[hu9];rfl
      ·obtain rfl:j=r.ab.length:=by omega
       repeat' first|assumption|simp (disch:=first|assumption|omega|simp;try omega) only[go_sem,seval,-List.reduceReplicate,hr9,ag,aC,bB,db,cE,bw]|(with_reducible first|apply aa|intro)|(try rw[ae]);omega
       exact⟨i+1,by omega,by omega,rfl,by rw[hst]⟩
    ·obtain rfl:i=rs.length:=by omega
     repeat' first|assumption|simp (disch:=first|assumption|omega|simp;try omega) only[go_sem,seval,-List.reduceReplicate,ag,aC,bB,db,cE,bw]|(with_reducible first|apply aa|intro)|(try rw[ae]);omega
     refine cD (σ:=Nat) (fun i=>[(0,.d (dC c)),(4,.ptr 0 0),(8,.ptr 1 0),(9,.ptr 4 0),(10,.d (aj trk)),(17,.d (dI i))])
      (fun i=>[.box [.d (dI c.inputs),.d (aj c.next),.d (aY c.gates),.d (aj c.outs)],.box [.d .nil,.d .nil],.row 0 4 true ((dA c rs T0 rs.length).map fun x=>fO x),.row 0 2 true ((iW c trk i).map fun x=>dQ x),.box [.sl 2 0 4 0 25,.sl 3 0 2 0 3]]) (fun i=>i<=c.outs.length) (fun i=>c.outs.length-i) [] [] 1000 1000 ?_ ?_
     ·simp only[go_sem,seval,-List.reduceReplicate];exact⟨0,by omega,by simp,by simp[iW]⟩
     ·intro o ho;have hlo:=hc.lo;by_cases hlt:o<c.outs.length
      ·have hov:=hc.o _ (aO hlt:c.outs.getD o 0∈c.outs);have hst:iW c trk (o+1)=(iW c trk o).set o (trk.getD (c.outs.getD o 0/2).toNat 0,decide (c.outs.getD o 0%2=1)):=by simp only[iW,kO,ng,e6,List.foldl_nil]
       have hpl:=@cI c trk o;generalize iW c trk o=q at *
       generalize ho9:c.outs.getD o 0=v at *
       have hov1:0<=v/\v<2*c.vars:=by
        have:=hov;unfold bm at this;omega
       repeat' first|assumption|simp (disch:=first|assumption|omega|simp;try omega) only[go_sem,seval,-List.reduceReplicate,ho9,ag,aC,bB,db,cE,bw]|(with_reducible first|apply aa|intro)|(try rw[ae]);omega
       refine co (n:=0) [21] (ax [0,2,3,4,6,12,14,1,5,7,8,9,10,11,13,15,16,17,18,19,20] (.one 21 .done)) ?_
       repeat' first|assumption|simp (disch:=first|assumption|omega|simp;try omega) only[go_sem,seval,-List.reduceReplicate,ho9,ag,aC,bB,db,cE,bw]|(with_reducible first|apply aa|intro)|(try rw[ae]);omega
       refine⟨o+1,by omega,by omega,rfl,?_⟩;rw[hst];rw[List.map_set]
      ·obtain rfl:o=c.outs.length:=by omega
       repeat' first|assumption|simp (disch:=first|assumption|omega|simp;try omega) only[go_sem,seval,-List.reduceReplicate,ag,aC,bB,db,cE,bw]|(with_reducible first|apply aa|intro)|(try rw[ae]);omega
       ·exact(C1 hsz0 hrt _).1.symm
       ·exact cI.symm
end Go.Proofs

namespace Go.VL
variable {c:ac}{cells:List bW}{place:ZA}
def Af (cells:List bW) (place:ZA) (net:Int):Nat->ZA
 | 0=>[]
 | i+1=>Af cells place net i++(if net∈(cells.getD i bP).inputs then [place.getD i 0] else [])
def Hk {cells:List bW}{place:ZA}{net t:Int} : ∀ {n:Nat},t∈Af cells place net n↔∃ i:Nat,i<n/\net∈(cells.getD i bP).inputs/\t=place.getD i 0
 | 0=>by simp[Af]
 | n+1=>by
  rw[Af,gM,Hk];constructor
  ·rintro(⟨o,h1,h2,h3⟩|h)
   ·exact⟨o,by omega,h2,h3⟩
   ·split at h
    ·rename_i h2;exact⟨n,by omega,h2,by simpa using h⟩
    ·simp at h
  ·rintro⟨o,h1,h2,h3⟩;by_cases ho:o<n
   ·exact .inl ⟨o,ho,h2,h3⟩
   ·obtain rfl:o=n:=by omega
    rw[if_pos h2];exact .inr (by simp[h3])
def FI (c:ac) (cells:List bW) (place:ZA) (net:Int):ZA:=Af cells place net cells.length++eG c net c.outs.length
def Hy {net t:Int}:t∈FI c cells place net↔t∈fU c cells place net:=by
 rw[FI,gM,Hk,Et,AW]
def qF (cells:List bW) (place:ZA) (net:Int):Nat->Int
 | 0=>(net-1)*5
 | k+1=>if(cells.getD k bP).net=net then place.getD k 0 else qF cells place net k
def EV {cells:List bW}{place:ZA}{net:Int} : ∀ k,qF cells place net k=if 0<=jh cells net k then place.getD (jh cells net k).toNat 0 else(net-1)*5
 | 0=>by simp[qF,jh]
 | k+1=>by
  rw[qF,jh];by_cases h:(cells.getD k bP).net=net
  ·rw[if_pos h,if_pos h,if_pos (by omega),wc]
  ·rw[if_neg h,if_neg h];exact EV k
def EX {k:Nat}{n:Int}:n∈pe c cells place k↔(1<=n/\n<=k)/\jG c cells place n≠[]:=by
 rw[pe,List.mem_filter,decide_eq_true_eq];refine and_congr_left fun _=>?_
 constructor
 ·intro h;obtain⟨j,hj,rfl⟩:=List.mem_map.1 h;have:=List.mem_range.1 hj;omega
 ·rintro⟨h1,h2⟩;exact List.mem_map.2 ⟨(n-1).toNat,List.mem_range.2 (by omega),by omega⟩
def MQ (hc:c.Valid) {busy0 busy:List ZB}{rs:List Rt}(h:kb c (aw c) place busy0 (c.vars.toNat-1) busy rs) {r:Rt}(hr:r∈rs) :
  (∀ t∈FI c (aw c) place r.net,t∈a9 r.ab)/\(r.ab.getD 0 (0,0)).1=qF (aw c) place r.net (aw c).length:=by
 have hk:=h.each r hr;have hv:=hc.aN;have hf:=hc.al;have hn:r.net∈pe c (aw c) place (c.vars.toNat-1):=by rw[<-h.nets];exact List.mem_map.2 ⟨r,hr,rfl⟩
 obtain⟨h1,h2⟩:=EX.1 hn;have hu:fU c (aw c) place r.net≠[]:=fun h3=>h2 ((AP hc place h1.1 (by omega)).2 h3)
 have hp:=BO hc place h1.1 (by omega:r.net<c.vars) hu;refine⟨fun t ht=>hk.pins t ?_,?_⟩
 ·rw[hp,B4];exact .inr (Hy.1 ht)
 ·obtain⟨q,hq⟩:=hk.src;obtain⟨r2,hr2⟩:=ze (l:=fU c (aw c) place r.net) (out:=[kL (eU c (aw c) r.net) place]);rw[hp,hr2] at hq;rw[hq,EV];rfl
end Go.VL

namespace Go.Proofs
open Go Go.VL
variable {rs:List Rt}{i vars:Nat}
def dT (T:List ar) (p:Nat) (A:ar->ar):List ar:=T.set p (A (T.getD p ba))
def RV {A B:ar->ar}(h : ∀ t,A (B t)=B (A t)) (T:List ar) (p q:Nat):dT (dT T p A) q B=dT (dT T q B) p A:=by
 unfold dT;by_cases hpq:p=q
 ·subst hpq;by_cases hp:p<T.length
  ·rw[eO hp,eO hp,List.set_set,List.set_set,h]
  ·have e : ∀ x,T.set p x=T:=fun x=>List.set_eq_of_length_le (by omega)
   simp only[e]
 ·have e1:(T.set p (A (T.getD p ba))).getD q ba=T.getD q ba:=by simp[List.getD,List.getElem?_set,hpq]
  have e2:(T.set q (B (T.getD q ba))).getD p ba=T.getD p ba:=by simp[List.getD,List.getElem?_set,Ne.symm hpq]
  rw[e1,e2,List.set_comm _ _ hpq]
def rU (c:ac) (r:Rt) (h:Int×Int) (t:ar):ar:=⟨t.table,t.select,t.gj,t.drive.set r.track.toNat (dy c r.net h)⟩
def Ci (c:ac) (r:Rt) (T:List ar) (h:Int×Int):fo c r T h=dT T h.1.toNat (rU c r h):=rfl
def zU (trk:ZA) (cells:List bW) (place:ZA) (T:List ar) (i:Nat):gE trk cells place T (i+1)=dT (gE trk cells place T i) (place.getD i 0).toNat (kg trk (cells.getD i bP)):=rfl
def KA {c:ac}{r:Rt}{p:Nat}{A:ar->ar}(hA : ∀ h t,A (rU c r h t)=rU c r h (A t)) : ∀ (l:List (Int×Int)) (T:List ar),l.foldl (fo c r) (dT T p A)=dT (l.foldl (fo c r) T) p A
 | [],T=>rfl
 | h::l,T=>by
  rw[e6,e6,Ci,RV (hA h),<-Ci];exact KA hA l (fo c r T h)
def LY {c:ac}{p:Nat}{A:ar->ar}(hA : ∀ r h t,A (rU c r h t)=rU c r h (A t)) : ∀ (l:List Rt) (T:List ar),l.foldl (fun T r=>c8 c r T r.ab.length) (dT T p A)=dT (l.foldl (fun T r=>c8 c r T r.ab.length) T) p A
 | [],T=>rfl
 | r::l,T=>by
  rw[e6,e6];have e:c8 c r (dT T p A) r.ab.length=dT (c8 c r T r.ab.length) p A:=KA (hA r) (r.ab.take r.ab.length) T;rw[e];exact LY hA l _
def Ht {c:ac}{trk:ZA}{cells:List bW}{place:ZA}{rs:List Rt}{T:List ar}{n:Nat} : ∀ i,gE trk cells place (dA c rs T n) i=dA c rs (gE trk cells place T i) n
 | 0=>rfl
 | i+1=>by
  rw[zU,zU,Ht i];exact(LY (fun r h t=>rfl) (rs.take n) _).symm
def nA (rs:List Rt):List (D×D):=rs.map fun r=>(dI r.net,dI r.track)
def Lk (x:Int) : ∀ rs:List Rt,fR (nA rs) (dI x)=(rs.find? fun r=>decide (r.net=x)).map fun r=>dI r.track
 | []=>rfl
 | r::l=>by
  have ih:=Lk x l;show fR ((dI r.net,dI r.track)::nA l) _=_
  rw[Bs,zV];by_cases h:r.net=x
  ·subst h;simp
  ·rw[decide_eq_false (fun h2=>h h2.symm)];simp only[eE,if_false,ih];simp[h]
def Hi (x:Int) (v:D) : ∀ rs:List Rt,(∀ r∈rs,r.net≠x)->bU (nA rs) (dI x) v=nA rs ++ [(dI x,v)]
 | [],_=>rfl
 | r::l,hx=>by
  have ih:=Hi x v l (fun y hy=>hx y (fX _ hy));show bU ((dI r.net,dI r.track)::nA l) _ _=_
  rw[bU,zV,decide_eq_false (fun h2=>hx r (kE ..) h2.symm)];simp only[eE,if_false,ih];rfl
def KC (rs:List Rt):jN (.int .i64) (nA rs):=by
 rw[y0];intro e he;obtain⟨x,_,rfl⟩:=List.mem_map.1 he;exact rfl
def RT (hi:i<rs.length):nA (rs.take (i+1))=nA (rs.take i) ++ [(dI (rs.getD i fC).net,dI (rs.getD i fC).track)]:=nm fC hi
def D9 (hn:(rs.map (·.net)).Nodup) (hi:i<rs.length) : ∀ r∈rs.take i,r.net≠(rs.getD i fC).net:=by
 intro r hr e;have h1:(rs.take (i+1)).map (·.net)=(rs.take i).map (·.net) ++ [(rs.getD i fC).net]:=nm fC hi;have h2:((rs.take (i+1)).map (·.net)).Nodup:=by
  rw[List.map_take];exact hn.sublist (List.take_sublist _ _)
 rw[h1,vF] at h2;exact h2.2.2 _ (vO hr) _ (by simp) e
def GU {v:Nat} : ∀ (l:List Rt) (q:ZA),(∀ r∈l,r.net.toNat≠v)->(l.foldl (fun l r=>l.set r.net.toNat r.track) q).getD v 0=q.getD v 0
 | [],q,_=>rfl
 | r::l,q,h=>by
  rw[e6,GU l _ (fun y hy=>h y (fX _ hy))];simp[List.getD,List.getElem?_set,h r (kE ..)]
def Ec : ∀ (l:List Rt) (q:ZA),(l.map (·.net)).Nodup->(∀ r∈l,0<=r.net/\r.net<q.length)->∀ r∈l,(l.foldl (fun l r=>l.set r.net.toNat r.track) q).getD r.net.toNat 0=r.track
 | [],q,_,_,r,hr=>by cases hr
 | a::l,q,hn,hb,r,hr=>by
  rw[js,List.nodup_cons] at hn;rw[e6];have ha:=hb a (kE ..);rcases List.mem_cons.1 hr with rfl|h
  ·rw[GU l _ (fun y hy e=>hn.1 (by
    have:=hb y (fX _ hy);have:y.net=r.net:=by omega
    rw[<-this];exact vO hy)),sL (by omega),if_pos rfl]
  ·exact Ec l _ hn.2 (fun y hy=>by rw[gh];exact hb y (fX _ hy)) r h
def Qz (hn:(rs.map (·.net)).Nodup) (hb : ∀ r∈rs,0<=r.net/\r.net<vars) {v:Int}(hv : ∃ r∈rs,r.net=v):fR (nA rs) (dI v)=some (dI ((fN vars rs).getD v.toNat 0)):=by
 obtain⟨r,hr,rfl⟩:=hv;have h1:=Ec rs (List.replicate vars 15) hn (by simpa using hb) r hr;rw[fN,jQ,ig,h1,Lk];have:rs.find? (fun x=>decide (x.net=r.net))=some r:=by
  cases h:rs.find? (fun x=>decide (x.net=r.net)) with
  | none=>rw[List.find?_eq_none] at h;exact absurd (h r hr) (by simp)
  | some x=>
   have h2:=List.find?_some h;have h3:=List.mem_of_find?_eq_some h;rw[decide_eq_true_iff] at h2;congr 1;obtain⟨i,hi,rfl⟩:=gm fC h3;obtain⟨j,hj,rfl⟩:=gm fC hr;rcases Nat.lt_trichotomy i j with h4|h4|h4
   ·exact absurd h2 (D9 hn hj _ (by
     have:rs.getD i fC=(rs.take j).getD i fC:=by simp[List.getD,List.getElem?_take,h4]
     rw[this];exact aO (by simp;omega)))
   ·rw[h4]
   ·exact absurd h2.symm (D9 hn hi _ (by
     have:rs.getD j fC=(rs.take i).getD j fC:=by simp[List.getD,List.getElem?_take,h4]
     rw[this];exact aO (by simp;omega)))
 rw[this];rfl
def F1 (h0:0<vars) (hb : ∀ r∈rs,1<=r.net):(fN vars rs).getD 0 0=15:=by
 rw[fN,jQ,ig,GU rs _ (fun r hr=>by have:=hb r hr;omega)];simp[List.getD,h0]
def DC {c:ac}{trk:ZA} : ∀ (n o:Nat),n<=o->o<3->(iW c trk n).getD o (0,false)=(15,false)
 | 0,o,_,h=>by
  obtain rfl|rfl|rfl:o=0∨o=1∨o=2:=by omega
  all_goals rfl
 | n+1,o,h,h3=>by
  have hs:iW c trk (n+1)=(iW c trk n).set n (trk.getD (c.outs.getD n 0/2).toNat 0,decide (c.outs.getD n 0%2=1)):=by simp only[iW,kO,ng,e6,List.foldl_nil]
  rw[hs];have:=DC (c:=c) (trk:=trk) n o (by omega) h3;rw[<-this];simp[List.getD,List.getElem?_set,show ¬ n=o by omega]
end Go.Proofs
