/- Contracts, plain definitions and lemmas. Conditions: none; lemmas. -/
import Derived.Test.YteikeianenfhaaaGreatO1
import Derived.Test.YteikeianenfhaaaGreatK3
import Derived.Test.YteikeianenfhaaaGreatE1
import Derived.Test.YteikeianenfhaaaGreatC53
set_option maxRecDepth 20000
set_option linter.unusedSimpArgs false
set_option linter.unusedVariables false
set_option maxHeartbeats 2000000
set_option linter.defProp false
namespace Go.Proofs
open Go Go.VL Tryz
variable {s v:ZA}{K:ZF}{i g idx off:Nat}{k:aG}{z:D}{α:Type}
def NY (h:v.length<=s.length):(c9 s v).length=s.length:=by
 simp only[c9,b8,wl];omega
def Se {a:Int}(h:v.length<s.length):(c9 s v).set v.length a=c9 s (v ++ [a]):=by
 unfold c9;rw[List.set_append_right _ _ (aD _),Nat.sub_self,qk h,List.set_cons_zero,b8,fA];rfl
@[go_sem] def zrw {k:Nat}{y:I}:cZ K (.eptr i g k idx off z) y=fK K (.eptr i g k idx off z) y:=xm nofun
@[go_sem] def zrx {x:I}{k:Nat}:fK K x (.eptr i g k idx off z)=(x=.eptr i g k idx off z):=rfl
def Tryz.kK:Pure prog 59 [] (dK ⟨List.replicate 25 dY,List.replicate 3 (15,false)⟩):=by
 have het:=mn;refine bz func59 rfl ntmps59 fun ok=>?_
 simp only[go_sem,seval,-List.reduceReplicate] at ok
 repeat' first|simp (disch:=first|assumption|omega|simp;try omega) only[go_sem,seval,-List.reduceReplicate,ag,bB,db,cE,bw,eO]|(with_reducible first|apply aa|intro)|exact ah|(try rw[ae]);omega
 refine cD (σ:=Nat) (fun i=>[(0,.ptr 0 0),(1,.ptr 1 0),(3,.d (dI i))])
  (fun i=>[.box [.d .nil,.d .nil],.box [.sl 2 i 4 0 i,.d .nil],.row i 4 true ((List.replicate i dY).map fun x=>fO x)]) (fun i=>i<=25) (fun i=>25-i) [(1,0,4,true)] [] 1000 1000 ?_ ?_
 ·simp only[go_sem,seval,-List.reduceReplicate];exact⟨0,by omega,by simp⟩
 ·intro i hi;by_cases hlt:i<25
  ·have hrs:List.replicate (i+1) dY=List.replicate i dY ++ [dY]:=yx;have hrl:(List.replicate i dY).length=i:=by simp
   generalize List.replicate i dY=q at *
   simp only[go_sem,seval,-List.reduceReplicate]
   repeat' first|simp (disch:=first|assumption|omega|simp;try omega) only[go_sem,seval,-List.reduceReplicate,hrl,ag,bB,db,cE,bw,eO]|(with_reducible first|apply aa|intro)|exact ah|(try rw[ae]);omega
   refine co (n:=0) [4,6] (ax [0,1] (.one 2 (.one 3 (.one 4 (.fst 5 (.one 6 .done)))))) ?_;simp only[go_sem,seval,-List.reduceReplicate]
   repeat' first|simp (disch:=first|assumption|omega|simp;try omega) only[go_sem,seval,-List.reduceReplicate,hrl,ag,bB,db,cE,bw,eO]|(with_reducible first|apply aa|intro)|(refine me het ?_)|exact ah|(try rw[ae]);omega
   ·simp[NC];omega
   ·refine⟨i+1,by omega,by omega,rfl,rfl,rfl,?_⟩;rw[Dd hrl,Dd hrl,hrs,gw];rfl
  ·obtain rfl:i=25:=by omega
   repeat' first|simp (disch:=first|assumption|omega|simp;try omega) only[go_sem,seval,-List.reduceReplicate,ag,bB,db,cE,bw,eO]|(with_reducible first|apply aa|intro)|exact ah|(try rw[ae]);omega
   refine cD (σ:=Nat) (fun n=>[(0,.ptr 0 0),(1,.ptr 1 0),(12,.d (dI n))])
    (fun n=>[.box [.d .nil,.d .nil],.box [.sl 2 25 4 0 25,.sl 3 n 2 0 n],.row 25 4 true ((List.replicate 25 dY).map fun x=>fO x),.row n 2 true ((List.replicate n ((15:Int),false)).map fun x=>dQ x)]) (fun n=>n<=3) (fun n=>3-n) [(1,1,2,true)] [] 1000 1000 ?_ ?_
   ·simp only[go_sem,seval,-List.reduceReplicate];exact⟨0,by omega,by simp⟩
   ·intro n hn;by_cases hnt:n<3
    ·repeat' first|simp (disch:=first|assumption|omega|simp;try omega) only[go_sem,seval,-List.reduceReplicate,ag,bB,db,cE,bw,eO]|(with_reducible first|apply aa|intro)|exact ah|(try rw[ae]);omega
     refine⟨n+1,by omega,by omega,rfl,rfl,rfl,?_⟩;rw[yx,gw];rfl
    ·obtain rfl:n=3:=by omega
     repeat' first|simp (disch:=first|assumption|omega|simp;try omega) only[go_sem,seval,-List.reduceReplicate,ag,bB,db,cE,bw,eO]|(with_reducible first|apply aa|intro)|exact ah|(try rw[ae]);omega
def Tryz.rP (c:ac) (hc : -1000<=c.inputs/\c.inputs<=1000) (net:Int) (h:Int×Int) (hh:0<=h.1/\h.1<=24):Pure prog 133 [pC c,dI net,dP h] (dI (dy c net h)):=by
 have hnb:=cC h.1 hh;refine bz func133 rfl ntmps133 fun ok=>?_
 simp only[go_sem,seval,-List.reduceReplicate] at ok
 repeat' first|simp (disch:=first|assumption|omega|simp;try omega) only[go_sem,seval,-List.reduceReplicate,ag,bB,db,cE,bw,eO]|(with_reducible first|apply aa|intro)|(refine az hnb ?_)|exact ah|(try rw[ae]);omega
 ·rw[dy,if_pos (by omega),if_pos (by omega)]
 ·rw[dy,if_pos (by omega),if_neg (by omega)]
 ·have hs:dy c net h=if nb h.1 2=h.2 then 2 else if nb h.1 3=h.2 then 3 else if nb h.1 4=h.2 then 4 else if nb h.1 5=h.2 then 5 else 0:=by rw[dy,if_neg (by omega)]
  have e2:nb h.1 2=gV h.1:=rfl;have e3:nb h.1 3=oS h.1:=rfl;have e4:nb h.1 4=oF h.1:=rfl;have e5:nb h.1 5=oP h.1:=rfl;rw[e2,e3,e4,e5] at hs;rw[hs];refine Eh 6 1000 1000 ?_;refine sM ?_
  repeat' first|simp (disch:=first|assumption|omega|simp;try omega) only[go_sem,seval,-List.reduceReplicate,ag,bB,db,cE,bw,eO]|(with_reducible first|apply aa|intro)|exact ah|(try rw[ae]);omega
  rename_i h9;rw[if_neg h9];refine sM ?_
  repeat' first|simp (disch:=first|assumption|omega|simp;try omega) only[go_sem,seval,-List.reduceReplicate,ag,bB,db,cE,bw,eO]|(with_reducible first|apply aa|intro)|exact ah|(try rw[ae]);omega
  rename_i h9;rw[if_neg h9];refine sM ?_
  repeat' first|simp (disch:=first|assumption|omega|simp;try omega) only[go_sem,seval,-List.reduceReplicate,ag,bB,db,cE,bw,eO]|(with_reducible first|apply aa|intro)|exact ah|(try rw[ae]);omega
  rename_i h9;rw[if_neg h9];refine sM ?_
  repeat' first|simp (disch:=first|assumption|omega|simp;try omega) only[go_sem,seval,-List.reduceReplicate,ag,bB,db,cE,bw,eO]|(with_reducible first|apply aa|intro)|exact ah|(try rw[ae]);omega
  rename_i h9;rw[if_neg h9];refine sM ?_
  repeat' first|simp (disch:=first|assumption|omega|simp;try omega) only[go_sem,seval,-List.reduceReplicate,ag,bB,db,cE,bw,eO]|(with_reducible first|apply aa|intro)|exact ah|(try rw[ae]);omega
set_option maxHeartbeats 4000000 in
def Tryz.mR (c:ac) (hc:c.Valid) (place:ZA) (hp:ay (aw c).length place) (rs:List Rt) (hrt : ∀ r∈rs,1<=r.net/\r.net<c.vars/\0<=r.track/\r.track<=7/\∀ h∈r.ab,0<=h.1/\h.1<=24) (hrl : ∀ r∈rs,r.ab.length<=1000) (hrr:rs.length<=1000)
  (hnd:(rs.map (·.net)).Nodup) (hin : ∀ x∈aw c,∀ v∈x.inputs,∃ r∈rs,r.net=v) (hout : ∀ l∈c.outs,1<l->∃ r∈rs,r.net=l/2) :
  Pure prog 71 [pC c,aj place,iK rs] (dK (vK c (aw c) place rs)):=by
 have hce:=hM c hc;have hcl:=qX hc;have hcx:=wv hc;refine l9 rfl 1000 func71 rfl rfl ntmps71 (by simp) fun ok=>?_
 simp only[go_sem,seval,-List.reduceReplicate] at ok
 repeat' first|simp (disch:=first|assumption|omega|simp;try omega) only[go_sem,seval,-List.reduceReplicate,ag,bB,db,cE,bw,eO]|(with_reducible first|apply aa|intro)|(refine me kK ?_)|(refine kN hce ?_)|exact ah|(try rw[ae]);omega
 have hB:vK c (aw c) place rs=⟨gE (fN c.vars.toNat rs) (aw c) place (dA c rs (List.replicate 25 dY) rs.length) (aw c).length,iW c (fN c.vars.toNat rs) c.outs.length⟩:=by rw[Ht];rfl
 rw[hB];clear hB;have hlook:=fun v=>Qz (vars:=c.vars.toNat) hnd (fun r hr=>by have:=hrt r hr;omega) (v:=v)
 have hz:(fN c.vars.toNat rs).getD 0 0=15:=F1 (by have:=hc.aN;have:=hc.al;omega) (fun r hr=>(hrt r hr).1);generalize fN c.vars.toNat rs=trk at *
 generalize aw c=cells at *
 refine cD (σ:=Nat) (fun i=>[(0,.d (pC c)),(1,.d (aj place)),(6,.ptr 0 0),(7,.ptr 3 0),(8,.map 4),(9,.d (cm cells)),(27,.d (iK rs)),(28,.d (dI rs.length)),(29,.d (dI i))])
  (fun i=>[.box [.d .nil,.d .nil],.row 0 4 true ((dA c rs (List.replicate 25 dY) i).map fun x=>fO x),.row 0 2 true ((List.replicate 3 ((15:Int),false)).map fun x=>dQ x),.box [.sl 1 0 4 0 25,.sl 2 0 2 0 3],.map (nA (rs.take i))]) (fun i=>i<=rs.length) (fun i=>rs.length-i) [] [] 1000 1000 ?_ ?_
 ·simp only[go_sem,seval,-List.reduceReplicate];refine⟨0,by omega,?_⟩
  repeat' apply And.intro
  all_goals rfl
 ·intro i hi;have hsz:=C1 (c:=c) fV.empty (fun r hr=>by have:=hrt r hr;exact⟨by omega,this.2⟩) i;by_cases hlt:i<rs.length
  ·have hst:dA c rs (List.replicate 25 dY) (i+1)=c8 c (rs.getD i fC) (dA c rs (List.replicate 25 dY) i) (rs.getD i fC).ab.length:=iH (f:=fun T (r:Rt)=>c8 c r T r.ab.length) (b:=List.replicate 25 dY) fC hlt;have hmE:=RT hlt;have hne:=D9 hnd hlt;have hrr2:=hrt _ (aO hlt:rs.getD i fC∈rs);have hhl:=hrl _ (aO hlt:rs.getD i fC∈rs);have hup:=Hi (rs.getD i fC).net (dI (rs.getD i fC).track) _ hne;have hks:=KC;generalize dA c rs (List.replicate 25 dY) i=T at *
   generalize hr9:rs.getD i fC=r at *
   generalize hm9:nA (rs.take i)=m at *
   repeat' first|simp (disch:=first|assumption|omega|simp;try omega) only[go_sem,seval,-List.reduceReplicate,hr9,hup,ag,bB,db,cE,bw,eO]|(with_reducible first|apply aa|intro)|exact ah|(try rw[ae]);omega
   all_goals first|(rw[<-hm9];exact hks _)|skip
   refine cD (σ:=Nat) (fun j=>[(0,.d (pC c)),(1,.d (aj place)),(6,.ptr 0 0),(7,.ptr 3 0),(8,.map 4),(9,.d (cm cells)),(27,.d (iK rs)),(28,.d (dI rs.length)),(29,.d (dI i)),(11,.ptr 5 0),(39,.d (aY r.ab)),(40,.d (dI r.ab.length)),(41,.d (dI j))])
    (fun j=>[.box [.d .nil,.d .nil],.row 0 4 true ((c8 c r T j).map fun x=>fO x),.row 0 2 true ((List.replicate 3 ((15:Int),false)).map fun x=>dQ x),.box [.sl 1 0 4 0 25,.sl 2 0 2 0 3],.map (m ++ [(dI r.net,dI r.track)]),.box [.d (dI r.net),.d (dI r.track),.d (aY r.ab)]]) (fun j=>j<=r.ab.length) (fun j=>r.ab.length-j) [] [] 1000 1000 ?_ ?_
   ·simp only[go_sem,seval,-List.reduceReplicate];exact⟨0,by omega,rfl,rfl⟩
   ·intro j hj;have hszj:=yX (c:=c) hsz hrr2.2.2.2.2 j;by_cases hjt:j<r.ab.length
    ·have hsj:c8 c r T (j+1)=fo c r (c8 c r T j) (r.ab.getD j (0,0)):=iH (f:=fo c r) (b:=T) ((0,0):Int×Int) hjt;have hh:=hrr2.2.2.2.2 _ (aO hjt:r.ab.getD j (0,0)∈r.ab);have hsrc:=rP c (by have:=hc.i0;have:=hc.i1;omega) r.net _ hh;generalize c8 c r T j=U at *
     generalize hh9:r.ab.getD j (0,0)=h at *
     have htsu:=hszj.get (i:=h.1.toNat) (by omega);have hUl:=hszj.1;have hdl:(U.getD h.1.toNat ba).drive.length=8:=htsu.2;generalize hu9:U.getD h.1.toNat ba=u at *
     repeat' first|simp (disch:=first|assumption|omega|simp;try omega) only[go_sem,seval,-List.reduceReplicate,hr9,hh9,hu9,ag,bB,db,cE,bw,eO]|(with_reducible first|apply aa|intro)|(refine az hsrc ?_)|exact ah|(try rw[ae]);omega
     refine co (n:=0) [15] (ax [0,2,7,9,10,1,3,4,5,6,8,11,12] (.one 13 (.fst 14 (.one 15 .done)))) ?_
     repeat' first|simp (disch:=first|assumption|omega|simp;try omega) only[go_sem,seval,-List.reduceReplicate,hr9,hh9,hu9,sy,sr,sD,ag,bB,db,cE,bw,eO]|(with_reducible first|apply aa|intro)|(refine az hsrc ?_)|exact ah|(try rw[ae]);omega
     refine⟨j+1,by omega,by omega,rfl,?_⟩;rw[hsj];unfold fo;rw[hu9];refine Ei (by decide) (z:=ba) (by omega) ?_;rw[hu9];rfl
    ·obtain rfl:j=r.ab.length:=by omega
     repeat' first|simp (disch:=first|assumption|omega|simp;try omega) only[go_sem,seval,-List.reduceReplicate,hr9,ag,bB,db,cE,bw,eO]|(with_reducible first|apply aa|intro)|exact ah|(try rw[ae]);omega
     refine⟨i+1,by omega,by omega,?_⟩;rw[hst,hmE];exact⟨rfl,rfl,rfl⟩
  ·obtain rfl:i=rs.length:=by omega
   rw[ig];generalize dA c rs (List.replicate 25 dY) rs.length=T0 at *
   have hks:=KC rs
   repeat' first|simp (disch:=first|assumption|omega|simp;try omega) only[go_sem,seval,-List.reduceReplicate,ag,bB,db,cE,bw,eO]|(with_reducible first|apply aa|intro)|exact ah|(try rw[ae]);omega
   refine cD (σ:=Nat) (fun i=>[(0,.d (pC c)),(1,.d (aj place)),(6,.ptr 0 0),(7,.ptr 3 0),(8,.map 4),(62,.d (cm cells)),(63,.d (dI cells.length)),(64,.d (dI i))])
    (fun i=>[.box [.d .nil,.d .nil],.row 0 4 true ((gE trk cells place T0 i).map fun x=>fO x),.row 0 2 true ((List.replicate 3 ((15:Int),false)).map fun x=>dQ x),.box [.sl 1 0 4 0 25,.sl 2 0 2 0 3],.map (nA rs)]) (fun i=>i<=cells.length) (fun i=>cells.length-i) [] [] 1000 1000 ?_ ?_
   ·simp only[go_sem,seval,-List.reduceReplicate];exact⟨0,by omega,rfl,rfl⟩
   ·intro i hi;have hszi:=zZ (trk:=trk) hsz (fun x hx=>(hcx x hx).1) hp i hi;by_cases hlt:i<cells.length
    ·have hst:gE trk cells place T0 (i+1)=(gE trk cells place T0 i).set (place.getD i 0).toNat (kg trk (cells.getD i bP) ((gE trk cells place T0 i).getD (place.getD i 0).toNat ba)):=rfl;have hp1:=hp.get hlt;have hpl:=hp.len;have hxi:=hcx _ (aO hlt:cells.getD i bP∈cells);have hxr:=hin _ (aO hlt:cells.getD i bP∈cells);have hts:=hszi.get (i:=(place.getD i 0).toNat) (by omega);have hTl:=hszi.1;generalize gE trk cells place T0 i=T at *
     generalize hp9:place.getD i 0=p at *
     generalize hx9:cells.getD i bP=x at *
     generalize ht9:T.getD p.toNat ba=t at *
     repeat' first|simp (disch:=first|assumption|omega|simp;try omega) only[go_sem,seval,-List.reduceReplicate,hp9,hx9,ht9,sy,sr,sD,ag,bB,db,cE,bw,eO]|(with_reducible first|apply aa|intro)|exact ah|(try rw[ae]);omega
     obtain⟨xn,xi,xt,xr⟩:=x;simp only at hxi hxr;have hsl:t.select.length=3:=hts.1;have hdl:t.drive.length=8:=hts.2;rw[List.set_set];refine cD (σ:=Nat) (fun n=>[(0,.d (pC c)),(1,.d (aj place)),(6,.ptr 0 0),(7,.ptr 3 0),(8,.map 4),(62,.d (cm cells)),(63,.d (dI cells.length)),(64,.d (dI i)),(16,.eptr 1 0 4 p.toNat 0 (.agg [.int .i64 0,.nil,.bool false,.nil])),(87,.d (aj xi)),(88,.d (dI xi.length)),(89,.d (dI n))])
      (fun n=>[.box [.d .nil,.d .nil],.row 0 4 true ((T.set p.toNat ⟨xt,c9 t.select ((xi.take n).map fun v=>trk.getD v.toNat 0),xr,t.drive⟩).map fun x=>fO x),.row 0 2 true ((List.replicate 3 ((15:Int),false)).map fun x=>dQ x),.box [.sl 1 0 4 0 25,.sl 2 0 2 0 3],.map (nA rs)]) (fun n=>n<=xi.length) (fun n=>xi.length-n) [] [] 1000 1000 ?_ ?_
     ·simp only[go_sem,seval,-List.reduceReplicate];refine⟨0,by omega,rfl,?_⟩;rw[Ky];rfl
     ·intro n hn;by_cases hnt:n<xi.length
      ·have hts2:=nm (f:=fun v:Int=>trk.getD v.toNat 0) (0:Int) hnt;have hlk:=hlook _ (hxr _ (aO hnt:xi.getD n 0∈xi));have hvl:((xi.take n).map fun v=>trk.getD v.toNat 0).length=n:=by rw[gQ,iy];omega
       have hss:=NY (s:=t.select) (v:=(xi.take n).map fun v=>trk.getD v.toNat 0) (by omega);have hsn:=Se (s:=t.select) (v:=(xi.take n).map fun v=>trk.getD v.toNat 0) (a:=trk.getD (xi.getD n 0).toNat 0) (by omega);rw[hvl,<-hts2] at hsn;generalize hv9:xi.getD n 0=v at *
       generalize hs9:c9 t.select ((xi.take n).map fun v=>trk.getD v.toNat 0)=sl at *
       have hTg : ∀ z,((T.set p.toNat ⟨xt,sl,xr,t.drive⟩).map fun x=>fO x).getD p.toNat z=fO ⟨xt,sl,xr,t.drive⟩:=fun z=>by rw[cE (by rw[gh];omega),eO (by omega)]
       have hsl3:sl.length=3:=by omega
       repeat' first|simp (disch:=first|assumption|omega|simp;try omega) only[go_sem,seval,-List.reduceReplicate,hv9,hTg,hlk,sy,sr,sD,ag,bB,db,cE,bw,eO]|(with_reducible first|apply aa|intro)|exact ah|(try rw[ae]);omega
       refine co (n:=0) [9] (ax [0,1,2,4,5,6,3,7,8] (.one 9 .done)) ?_
       repeat' first|simp (disch:=first|assumption|omega|simp;try omega) only[go_sem,seval,-List.reduceReplicate,hv9,hTg,hlk,sy,sr,sD,ag,bB,db,cE,bw,eO]|(with_reducible first|apply aa|intro)|exact ah|(try rw[ae]);omega
       refine⟨n+1,by omega,by omega,rfl,?_⟩;rw[hsn];have e:T.set p.toNat ⟨xt,c9 t.select ((xi.take (n+1)).map fun v=>trk.getD v.toNat 0),xr,t.drive⟩=(T.set p.toNat ⟨xt,sl,xr,t.drive⟩).set p.toNat ⟨xt,c9 t.select ((xi.take (n+1)).map fun v=>trk.getD v.toNat 0),xr,t.drive⟩:=by rw[List.set_set]
       rw[e];refine Ei (by decide) (z:=ba) (by rw[gh];omega) ?_;rw[eO (by omega)];rfl
      ·obtain rfl:n=xi.length:=by omega
       rw[ig]
       repeat' first|simp (disch:=first|assumption|omega|simp;try omega) only[go_sem,seval,-List.reduceReplicate,ag,bB,db,cE,bw,eO]|(with_reducible first|apply aa|intro)|exact ah|(try rw[ae]);omega
       refine⟨i+1,by omega,by omega,rfl,?_⟩;rw[hst];rfl
    ·obtain rfl:i=cells.length:=by omega
     generalize gE trk cells place T0 cells.length=T1 at *
     repeat' first|simp (disch:=first|assumption|omega|simp;try omega) only[go_sem,seval,-List.reduceReplicate,ag,bB,db,cE,bw,eO]|(with_reducible first|apply aa|intro)|exact ah|(try rw[ae]);omega
     refine cD (σ:=Nat) (fun o=>[(6,.ptr 0 0),(7,.ptr 3 0),(8,.map 4),(108,.d (aj c.outs)),(109,.d (dI c.outs.length)),(110,.d (dI o))])
      (fun o=>[.box [.d .nil,.d .nil],.row 0 4 true (T1.map fun x=>fO x),.row 0 2 true ((iW c trk o).map fun x=>dQ x),.box [.sl 1 0 4 0 25,.sl 2 0 2 0 3],.map (nA rs)]) (fun o=>o<=c.outs.length) (fun o=>c.outs.length-o) [] [] 1000 1000 ?_ ?_
     ·simp only[go_sem,seval,-List.reduceReplicate];refine⟨0,by omega,?_⟩
      repeat' apply And.intro
      all_goals rfl
     ·intro o ho;have hlo:=hc.lo;by_cases hlt:o<c.outs.length
      ·have hov:=hc.o _ (aO hlt:c.outs.getD o 0∈c.outs);have hou:=hout _ (aO hlt:c.outs.getD o 0∈c.outs);have hst:iW c trk (o+1)=(iW c trk o).set o (trk.getD (c.outs.getD o 0/2).toNat 0,decide (c.outs.getD o 0%2=1)):=by simp only[iW,kO,ng,e6,List.foldl_nil]
       have hpl:=@cI c trk o;have hrest:=DC (c:=c) (trk:=trk) o o (aD _) (by omega);generalize iW c trk o=q at *
       generalize ho9:c.outs.getD o 0=v at *
       have hov1:0<=v/\v<2*c.vars:=by
        have:=hov;unfold bm at this;omega
       have hqg : ∀ z,(q.map fun x=>dQ x).getD o z=dQ (15,false):=fun z=>by rw[bw (by omega),hrest]
       have hlk:1<v->fR (nA rs) (dI (v/2))=some (dI (trk.getD (v/2).toNat 0)):=fun h=>hlook _ (hou h)
       by_cases hv1:1<v
       ·have hlk1:=hlk hv1
        repeat' first|simp (disch:=first|assumption|omega|simp;try omega) only[go_sem,seval,-List.reduceReplicate,ho9,hqg,hlk1,ag,bB,db,cE,bw,eO]|(with_reducible first|apply aa|intro)|exact ah|(try rw[ae]);omega
        refine⟨o+1,by omega,by omega,rfl,?_⟩;rw[hst,List.set_set,zm hov1.1,List.map_set]
       ·repeat' first|simp (disch:=first|assumption|omega|simp;try omega) only[go_sem,seval,-List.reduceReplicate,ho9,hqg,ag,bB,db,cE,bw,eO]|(with_reducible first|apply aa|intro)|exact ah|(try rw[ae]);omega
        refine⟨o+1,by omega,by omega,rfl,?_⟩;rw[hst,zm hov1.1,List.map_set,show(v/2).toNat=0 by omega,hz]
      ·obtain rfl:o=c.outs.length:=by omega
       repeat' first|simp (disch:=first|assumption|omega|simp;try omega) only[go_sem,seval,-List.reduceReplicate,ag,bB,db,cE,bw,eO]|(with_reducible first|apply aa|intro)|exact ah|(try rw[ae]);omega
       ·exact hszi.1.symm
       ·exact cI.symm

abbrev Wr:=Int×Int
variable {w:Wr}
def go (k:aG) (w:Wr):Int:=(k.tiles.getD w.1.toNat ba).drive.getD w.2.toNat 0
def ir (k:aG) (w:Wr):List Wr:=
 if 2<=go k w/\go k w<=5 then [(nb w.1 (go k w),w.2)]
 else if go k w=1/\(k.tiles.getD w.1.toNat ba).gj=false then((k.tiles.getD w.1.toNat ba).select.filter fun s=>decide (s≠15)).map fun s=>(w.1,s)
 else []
def Rel (k:aG) (x w:Wr):Prop:=x∈ir k w
def qw (w:Wr):Prop:=(0<=w.1/\w.1<=24)/\(0<=w.2/\w.2<=7)
def Au {t d:Int}(ht:0<=t/\t<=24) (h:0<=nb t d):nb t d<=24:=by
 unfold nb gV oS oF oP at *
 split at h <;> (try split at h) <;> (try split at h) <;> (try split at h) <;> (try split at h) <;> simp_all <;> omega
def HU (hk:k.ok) (hw:qw w) : ∀ x∈ir k w,qw x:=by
 obtain⟨⟨h1,h2⟩,h3,h4⟩:=hw;have ht:=ar.b6.1 (hk.2.2 w.1.toNat (by have:=hk.1;omega));rw[show((w.1.toNat:Nat):Int)=w.1 by omega] at ht;intro x hx;unfold ir at hx;split at hx
 ·rename_i hd;have hdo:=ht.2.2.2.2 w.2.toNat (by omega);have hdo2:fB w.1 (go k w)=true:=hdo;simp only[fB,decide_eq_true_eq] at hdo2;have h5:0<=nb w.1 (go k w):=by omega
  obtain rfl:x=_:=by simpa using hx
  exact⟨⟨h5,Au ⟨h1,h2⟩ h5⟩,h3,h4⟩
 ·split at hx
  ·obtain⟨s,hs,rfl⟩:=List.mem_map.1 hx;obtain⟨hs1,hs2⟩:=List.mem_filter.1 hs;obtain⟨i,hi,rfl⟩:=gm (0:Int) hs1;have:=ht.2.2.2.1 i hi;simp only[ji,nM,gO,decide_eq_true_eq] at this;simp only[decide_eq_true_eq] at hs2;exact⟨⟨h1,h2⟩,by simp only;omega⟩
  ·simp at hx
def OZ (k:aG) (w:Wr) (h:(k.tiles.getD w.1.toNat ba).select.length=3):(ir k w).length<=3:=by
 unfold ir;split
 ·simp
 ·split
  ·simp only[gQ];have:=List.length_filter_le (fun s=>decide (s≠15)) (k.tiles.getD w.1.toNat ba).select;omega
  ·simp
def Wf (k:aG):Prop:=∀ w,qw w->Acc (Rel k) w
def Acc.sub {r s : α->α->Prop}{x : α}(h:Acc s x) (hs : ∀ a b,r a b->s a b):Acc r x:=by
 induction h with
 | intro x _ ih=>exact⟨_,fun y hy=>ih y (hs _ _ hy)⟩
def Wf.sub {k k':aG}(h:Wf k) (hs : ∀ w,∀ x∈ir k' w,x∈ir k w):Wf k':=fun w hw=>Acc.sub (h w hw) fun a b=>hs b a
def QC {r : α->α->Prop}{x : α}(h:Relation.TransGen r x x) : ¬ Acc r x:=fun ha=>by
 have hw : ∀ x,Acc r x->¬ Relation.TransGen r x x:=by
  intro x ha;induction ha with
  | intro x _ ih=>
   intro ht;cases ht with
   | single h=>exact ih _ h (.single h)
   | tail h1 h2=>exact ih _ h2 (Relation.TransGen.trans (.single h2) h1)
 exact hw x ha h
abbrev nG:=List (Wr×Int)
variable {m m':nG}
def mk (m:nG) (w:Wr):Int:=((m.find? fun e=>decide (e.1=w)).map fun e=>e.2).getD 0
def jr:nG->Wr->Int->nG
 | [],w,v=>[(w,v)]
 | e::r,w,v=>if e.1=w then(w,v)::r else e::jr r w v
def pZ (w:Wr) (v:Int) (u:Wr) : ∀ m,mk (jr m w v) u=if u=w then v else mk m u
 | []=>by by_cases h:u=w <;> simp[mk,jr,h,eq_comm]
 | e::r=>by
  have ih:=pZ w v u r;unfold jr;by_cases h:e.1=w
  ·rw[if_pos h];by_cases h2:u=w
   ·simp[mk,h2]
   ·have h3 : ¬ e.1=u:=fun h4=>h2 (by rw[<-h4,h])
    have h4 : ¬ w=u:=fun h5=>h2 h5.symm
    simp[mk,h2,h3,h4]
  ·rw[if_neg h];by_cases h3:e.1=u
   ·have h2 : ¬ u=w:=fun h4=>h (by rw[h3,h4])
    simp[mk,h2,h3]
   ·unfold mk at ih ⊢;simp only[List.find?_cons,decide_eq_false h3,ih]
def mE (m:nG):List (D×D):=m.map fun e=>(dP e.1,dI e.2)
def D0 (w:Wr) : ∀ m,(fR (mE m) (.agg [dI w.1,dI w.2])).getD (dI 0)=dI (mk m w)
 | []=>rfl
 | e::r=>by
  have ih:=D0 w r;show(fR ((dP e.1,dI e.2)::mE r) _).getD _=_
  rw[Bs,AD];by_cases h:e.1=w
  ·subst h;simp[mk]
  ·have h2 : ¬ (w.1=e.1.1/\w.2=e.1.2):=fun h3=>h (Prod.ext h3.1.symm h3.2.symm)
   rw[decide_eq_false h2];simp only[eE,if_false,ih];simp[mk,h]
def EO (w:Wr) (v:Int) : ∀ m,bU (mE m) (.agg [dI w.1,dI w.2]) (dI v)=mE (jr m w v)
 | []=>rfl
 | e::r=>by
  have ih:=EO w v r;show bU ((dP e.1,dI e.2)::mE r) _ _=_
  rw[bU,AD];by_cases h:e.1=w
  ·subst h;simp[jr,mE]
  ·have h2 : ¬ (w.1=e.1.1/\w.2=e.1.2):=fun h3=>h (Prod.ext h3.1.symm h3.2.symm)
   rw[decide_eq_false h2];simp only[eE,if_false,ih];simp[jr,mE,h]
def G5 {fs:List (Nat×Nat)}(h:fs.length=2) (m:nG):jN (.struct fs) (mE m):=by
 rw[y0];intro e he;obtain⟨x,_,rfl⟩:=List.mem_map.1 he;show(2=fs.length/\_)
 exact⟨h.symm,⟨rfl,rfl,trivial⟩⟩
structure kh (k:aG) (m:nG):Prop where
 rng : ∀ u,mk m u=0∨mk m u=1∨mk m u=2
 fin : ∀ u,mk m u=2->Acc (Rel k) u
def todo (m:nG):Nat:=(List.range 200).countP fun i=>decide (mk m (((i/8:Nat):Int),((i%8:Nat):Int))=0)
def uM (h : ∀ u,mk m' u=0->mk m u=0):todo m'<=todo m:=by
 unfold todo;refine List.countP_mono_left fun i _ hi=>?_
 simp only[decide_eq_true_eq] at hi ⊢;exact h _ hi
def KR {α : Type}{p q : α->Bool}(h : ∀ x,p x=true->q x=true) : ∀ {l:List α},(∃ x∈l,q x=true/\p x=false)->l.countP p<l.countP q
 | [],he=>by obtain⟨x,hx,_⟩:=he;simp at hx
 | y::l,he=>by
  have hm:l.countP p<=l.countP q:=List.countP_mono_left fun x _ hx=>h x hx
  obtain⟨x,hx,h1,h2⟩:=he;rw[List.countP_cons,List.countP_cons];rcases List.mem_cons.1 hx with rfl|hx
  ·rw[h1,h2];simp;omega
  ·have:=KR h (l:=l) ⟨x,hx,h1,h2⟩;cases hp:p y with
   | true=>rw[h y hp];simp;omega
   | false=>simp;split <;> omega
def tF (h : ∀ u,mk m' u=0->mk m u=0) (hw:qw w) (h0:mk m w=0) (h1:mk m' w≠0):todo m'<todo m:=by
 unfold todo;obtain⟨⟨a1,a2⟩,a3,a4⟩:=hw;have e1:(((w.1*8+w.2).toNat/8:Nat):Int)=w.1:=by omega
 have e2:(((w.1*8+w.2).toNat%8:Nat):Int)=w.2:=by omega
 refine KR (fun i hi=>?_) ⟨(w.1*8+w.2).toNat,List.mem_range.2 (by omega),?_,?_⟩
 ·simp only[decide_eq_true_eq] at hi ⊢;exact h _ hi
 ·rw[e1,e2];exact decide_eq_true h0
 ·rw[e1,e2];exact decide_eq_false h1
abbrev pK (k:aG):D:=.ptr [dm k.tiles,jV k.pads]
def Hz (hk:k.ok) (hw:qw w):go k w=0∨go k w=1∨(2<=go k w/\go k w<=5/\0<=nb w.1 (go k w))∨go k w=6:=by
 obtain⟨⟨h1,h2⟩,h3,h4⟩:=hw;have ht:=ar.b6.1 (hk.2.2 w.1.toNat (by have:=hk.1;omega));rw[show((w.1.toNat:Nat):Int)=w.1 by omega] at ht;have hdo:=ht.2.2.2.2 w.2.toNat (by omega);have hdo2:fB w.1 (go k w)=true:=hdo;simp only[fB,decide_eq_true_eq] at hdo2;omega
def kq (t:Int) (l:ZA) (n:Nat):List Wr:=((l.take n).filter fun s=>decide (s≠15)).map fun s=>(t,s)
def R4 (t:Int) {l:ZA}{n:Nat}(h:n<l.length):kq t l (n+1)=kq t l n++if l.getD n 0=15 then [] else [(t,l.getD n 0)]:=by
 unfold kq;rw[la h,List.filter_append,gw];congr 1;have e:l[n]=l.getD n 0:=by simp[List.getD,h]
 rw[e];generalize l.getD n 0=x;by_cases h2:x=15 <;> simp[h2]
def Qb (t:Int) (l:ZA) (n:Nat):(kq t l n).length<=n:=by
 unfold kq;rw[gQ];exact g6 (List.length_filter_le ..) (by rw[iy];omega)
def Tryz.ut (k:aG) (hk:k.ok) (w:Wr) (hw:qw w):Pure prog 181 [pK k,dP w] (aY (ir k w)):=by
 have hl:=hk.1;have hdc:=Hz hk hw;obtain⟨⟨h1,h2⟩,h3,h4⟩:=hw;obtain⟨s1,s2⟩:=aG.cA hk (i:=w.1.toNat) (by omega);have gx : ∀ z,(k.tiles.map fun x=>fO x).getD w.1.toNat z=fO (k.tiles.getD w.1.toNat ba):=fun z=>cE (by omega)
 have hnb:=cC w.1 (by omega);unfold ir;rw[show go k w=(k.tiles.getD w.1.toNat ba).drive.getD w.2.toNat 0 from rfl] at *
 generalize k.tiles.getD w.1.toNat ba=t at *
 generalize hd9:t.drive.getD w.2.toNat 0=d at *
 refine bz func181 rfl ntmps181 fun ok=>?_
 simp only[go_sem,seval] at ok;simp only[go_sem,seval,gx,hd9];have hlp : ∀ n,n<3->n<t.select.length:=fun n hn=>by omega
 obtain rfl|rfl|hd|rfl:=hdc
 ·repeat' first|simp (disch:=omega) only[];try simp only[go_sem,seval,gx,hd9]|(with_reducible first|apply aa|intro)|exact ah|(try rw[ae]);omega
  simp
 ·repeat' first|simp (disch:=omega) only[];try simp only[go_sem,seval,gx,hd9]|(with_reducible first|apply aa|intro)|exact ah|(try rw[ae]);omega
  ·rename_i hr;simp[hr]
  ·rename_i hr;refine cD (σ:=Nat) (fun n=>[(3,.ptr 0 0),(7,.sl 1 (kq w.1 t.select n).length 2 0 (kq w.1 t.select n).length),(50,.d (aj t.select)),(51,.d (dI t.select.length)),(52,.d (dI n))])
    (fun n=>[.box [.d (dI w.1),.d (dI w.2)],.row (kq w.1 t.select n).length 2 true ((kq w.1 t.select n).map fun x=>dP x)]) (fun n=>n<=3) (fun n=>3-n) [] [(7,2,true)] 1000 1000 ?_ ?_
   ·simp only[go_sem,seval];exact⟨0,by omega,by simp[kq]⟩
   ·intro n hn;by_cases hlt:n<3
    ·have e:=R4 w.1 (hlp n hlt);simp only[go_sem,seval]
     repeat' first|simp (disch:=omega) only[];try simp only[go_sem,seval]|(with_reducible first|apply aa|intro)|exact ah|(try rw[ae]);omega
     ·have:=Qb w.1 t.select n;omega
     ·rename_i h9;rw[if_neg h9] at e;exact⟨n+1,by omega,by omega,⟨by rw[e];simp,rfl⟩,by rw[e];simp,e.symm⟩
     ·rename_i h9;rw[if_pos h9,jq] at e;exact⟨n+1,by omega,by omega,⟨by rw[e],rfl⟩,by rw[e],by rw[e]⟩
    ·obtain rfl:n=3:=by omega
     simp only[go_sem,seval]
     repeat' first|simp (disch:=omega) only[];try simp only[go_sem,seval]|(with_reducible first|apply aa|intro)|exact ah|(try rw[ae]);omega
     rw[if_pos (by simpa using hr),kq,ag (by omega)]
 ·obtain h|h|h|h:d=2∨d=3∨d=4∨d=5:=by omega
  all_goals (
   subst h
   repeat' first|simp (disch:=omega) only[];try simp only[go_sem,seval,gx,hd9]|(with_reducible first|apply aa|intro)|(refine az hnb ?_;simp only[go_sem,seval,gx,hd9])|exact ah|(try rw[ae]);omega
   refine co (n:=0) [] (ax [0,3,4,6,1,7] (.one 2 (ax [5,8] (.one 9 (.fst 10 .done))))) ?_;simp only[go_sem,seval,gx,hd9]
   repeat' first|simp (disch:=omega) only[];try simp only[go_sem,seval,gx,hd9]|(with_reducible first|apply aa|intro)|(refine az hnb ?_;simp only[go_sem,seval,gx,hd9])|exact ah|(try rw[ae]);omega
   rfl)
 ·repeat' first|simp (disch:=omega) only[];try simp only[go_sem,seval,gx,hd9]|(with_reducible first|apply aa|intro)|exact ah|(try rw[ae]);omega
  simp
abbrev n7 (k:aG):R:=.box [.d (dm k.tiles),.d (jV k.pads)]
def uD (k:aG) (m:nG) (w:Wr) (b:Bool) (m':nG):Prop:=
 (b=true->¬ Acc (Rel k) w)/\(b=false->mk m' w=2/\(∀ u,mk m' u=1↔mk m u=1)/\(∀ u,mk m u=2->mk m' u=2)/\kh k m')
def Tryz.q6 (k:aG) (hk:k.ok) : ∀ (n:Nat) (m:nG) (w:Wr),todo m<n->qw w->kh k m->(∀ u,mk m u=1->Relation.TransGen (Rel k) w u)->
  aA prog 117 [.ptr 0 0,.d (dP w),.map 1] [n7 k,.map (mE m)] (fun r H'=>∃ (b:Bool) (m':nG),uD k m w b m'/\r=.d (dB b)/\H'=[n7 k,.map (mE m')]):=by
 intro n;induction n with
 | zero=>intro m w h;omega
 | succ n ih=>
  intro m w hn hw hm hp;have hnd:=ut k hk w hw;have ek:=D0 w m;have eu:=EO w 1 m;have hks:=fun m=>G5 (fs:=[(0,3),(1,3)]) rfl m
  have hln:=OZ k w (aG.cA hk (by have:=hw.1;omega)).1;have hno:=HU hk hw;have eg : ∀ j,((ir k w).map dP).getD j (D.agg [D.int .i64 0,D.int .i64 0])=dP ((ir k w).getD j (0,0)):=fun j=>Ar dP _ j (0,0)
  refine xN rfl 1000 func117 rfl rfl ntmps117 (by simp) ?_;simp only[go_sem,seval,ek,eu]
  repeat' first|simp (disch:=omega) only[];try simp only[go_sem,seval,ek,eu]|(with_reducible first|apply aa|intro)|(refine az hnd ?_;simp only[go_sem,seval,ek,eu])|exact ah|(try rw[ae]);omega
  all_goals try exact hks _
  ·rename_i h1;refine fI (r0:=.d (dB true)) (H1:=[n7 k,.map (mE m)]) ?_ ⟨true,m,⟨fun _=>QC (hp w h1),fun h=>by cases h⟩,rfl,rfl⟩;simp only[go_sem,seval]
  ·rename_i h1 h2;refine fI (r0:=.d (dB false)) (H1:=[n7 k,.map (mE m)]) ?_ ⟨false,m,⟨fun h=>by(try cases h),fun _=>⟨h2,fun u=>Iff.rfl,fun u h=>h,hm⟩⟩,rfl,rfl⟩;simp only[go_sem,seval]
  rename_i h1 h2;have h0:mk m w=0:=by have:=hm.rng w;omega
  have hz : ∀ u,mk (jr m w 1) u=0->mk m u=0:=fun u hu=>by
   rw[pZ] at hu;by_cases h:u=w
   ·rw[if_pos h] at hu;omega
   ·rwa [if_neg h] at hu
  have ht1:=tF hz hw h0 (by rw[pZ,if_pos rfl];decide);refine SA (σ:=Nat×nG) (fun s=>[(0,.ptr 0 0),(2,.map 1),(4,.ptr 2 0),(20,.d (aY (ir k w))),(21,.d (dI (ir k w).length)),(22,.d (dI s.1))]) (fun s=>[n7 k,.map (mE s.2),.box [.d (dI w.1),.d (dI w.2)]])
   (fun s=>s.1<=(ir k w).length/\(∀ j,j<s.1->mk s.2 ((ir k w).getD j (0,0))=2)/\(∀ u,mk s.2 u=1↔mk (jr m w 1) u=1)/\(∀ u,mk m u=2->mk s.2 u=2)/\kh k s.2/\todo s.2<=todo (jr m w 1)) (fun s=>(ir k w).length-s.1) [] 1000 1000 ?_ ?_ ?_
  ·simp only[go_sem,seval]
  ·simp only[go_sem,seval];refine⟨(0,jr m w 1),⟨by omega,fun j hj=>by omega,fun u=>Iff.rfl,fun u hu=>?_,⟨fun u=>?_,fun u hu=>?_⟩,aD _⟩,rfl,rfl⟩
   ·rw[pZ,if_neg (fun h=>by subst h;omega)];exact hu
   ·rw[pZ];split
    ·omega
    ·exact hm.rng u
   ·rw[pZ] at hu;split at hu
    ·omega
    ·exact hm.fin u hu
  ·rintro⟨i,mi⟩ ⟨hi,hj,h1s,h2s,hmi,htd⟩;have ek2:=D0 w mi;have eu2:=EO w 2 mi;simp only at hi hj h1s h2s hmi htd;by_cases hlt:i<(ir k w).length
   ·have hmem:(ir k w).getD i (0,0)∈ir k w:=aO hlt;have egi:=eg i;generalize hx9:(ir k w).getD i (0,0)=x at *
    have hih:=ih mi x (by omega) (hno x hmem) hmi (fun u hu=>by
     have h3:=(h1s u).1 hu;rw[pZ] at h3;split at h3
     ·rename_i h4;rw[h4];exact .single hmem
     ·exact Relation.TransGen.trans (.single hmem) (hp u h3))
    simp only[go_sem,seval,egi,ek2,eu2]
    repeat' first|simp (disch:=omega) only[];try simp only[go_sem,seval,egi,ek2,eu2]|(with_reducible first|apply aa|intro)|exact ah|(try rw[ae]);omega
    refine c7 hih [0,1] (by simp only[go_sem,seval]) ?_;rintro r0 H1 ⟨b,m',hpost,rfl,rfl⟩;simp only[go_sem,seval]
    repeat' first|simp (disch:=omega) only[];try simp only[go_sem,seval]|(with_reducible first|apply aa|intro)|exact ah|(try rw[ae]);omega
    ·rename_i hb9;refine fI (r0:=.d (dB true)) (H1:=[n7 k,.map (mE m')]) ?_ ⟨true,m',⟨fun _ ha=>hpost.1 hb9 (ha.inv hmem),fun h=>by cases h⟩,rfl,rfl⟩;simp only[go_sem,seval]
    ·rename_i hb9;obtain⟨p1,p2,p3,p4⟩:=hpost.2 (by simpa using hb9);have h2w : ∀ u,mk mi u≠0->mk m' u≠0:=fun u hu=>by
      have:=hmi.rng u;by_cases h1:mk mi u=1
      ·have:=(p2 u).2 h1;omega
      ·have:=p3 u (by omega);omega
     refine⟨(i+1,m'),⟨by simp only;omega,fun j hj2=>?_,fun u=>(p2 u).trans (h1s u),fun u hu=>p3 u (h2s u hu),p4,g6 (uM fun u hu=>?_) htd⟩,by simp only;omega,rfl,rfl⟩
     ·by_cases hji:j=i
      ·rw[hji,hx9];exact p1
      ·exact p3 _ (hj j (by simp only at hj2;omega))
     ·exact Decidable.byContradiction fun h=>h2w u h hu
   ·simp only[go_sem,seval,eg,ek2,eu2]
    repeat' first|simp (disch:=omega) only[];try simp only[go_sem,seval,eg,ek2,eu2]|(with_reducible first|apply aa|intro)|exact ah|(try rw[ae]);omega
    ·exact hks _
    ·obtain rfl:i=(ir k w).length:=by omega
     have hall : ∀ x∈ir k w,mk mi x=2:=(DD (0,0)).2 hj;have hacc:Acc (Rel k) w:=⟨_,fun x hx=>hmi.fin x (hall x hx)⟩;refine fI (r0:=.d (dB false)) (H1:=[n7 k,.map (mE (jr mi w 2))]) ?_ ⟨false,_,⟨fun h=>by(try cases h),fun _=>⟨by rw[pZ,if_pos rfl],fun u=>?_,fun u hu=>?_,⟨fun u=>?_,fun u hu=>?_⟩⟩⟩,rfl,rfl⟩
     ·simp only[go_sem,seval]
     ·rw[pZ];by_cases hu:u=w
      ·subst hu;rw[if_pos rfl];omega
      ·rw[if_neg hu,h1s,pZ,if_neg hu]
     ·rw[pZ];split
      ·rfl
      ·exact h2s u hu
     ·rw[pZ];split
      ·omega
      ·exact hmi.rng u
     ·rw[pZ] at hu;split at hu
      ·rename_i h4;rw[h4];exact hacc
      ·exact hmi.fin u hu
noncomputable instance (k:aG):Decidable (k.ok/\Wf k):=Classical.propDecidable _
def Tryz.jo (k:aG):Pure prog 57 [dK k] (.bool (decide (k.ok/\Wf k))):=by
 have hc:=gq k;refine bz func57 rfl ntmps57 fun ok=>?_
 simp only[go_sem,seval] at ok⊢
 repeat' first|simp (disch:=omega) only[];try simp only[go_sem,seval]|(with_reducible first|apply aa|intro)|(refine az hc ?_;simp only[go_sem,seval])|exact ah|(try rw[ae]);omega
 ·rename_i h;exact(decide_eq_false fun h2=>by simp_all).symm
 rename_i h;have hk:k.ok:=by simpa using h
 have hks:=fun m=>G5 (fs:=[(0,3),(1,3)]) rfl m
 refine cQ (σ:=Nat×nG) (fun s=>[(1,.ptr 0 0),(3,.map 1),(10,.d (dI s.1))]) (fun s=>[.box [.d (dm k.tiles),.d (jV k.pads)],.map (mE s.2)])
  (fun s=>s.1<=25/\kh k s.2/\(∀ u,mk s.2 u≠1)/\(∀ u,qw u->u.1<s.1->mk s.2 u=2)) (fun s=>25-s.1) [] 1000 1000 ?_ ?_ ?_
 ·simp only[go_sem,seval]
 ·simp only[go_sem,seval];refine⟨(0,[]),⟨by simp only;omega,⟨fun u=>.inl rfl,fun u hu=>absurd hu (by show ¬ (0:Int)=2;decide)⟩,fun u=>by show ¬ (0:Int)=1;decide,fun u hu h2=>?_⟩,rfl,rfl⟩;have:=hu.1;simp only at h2;omega
 ·rintro⟨t,m⟩ ⟨ht,hm,hno,hfin⟩;simp only at ht hm hno hfin;by_cases hlt:t<25
  ·simp only[go_sem,seval]
   repeat' first|simp (disch:=omega) only[];try simp only[go_sem,seval]|(with_reducible first|apply aa|intro)|exact ah|(try rw[ae]);omega
   refine cQ (σ:=Nat×nG) (fun s=>[(1,.ptr 0 0),(3,.map 1),(10,.d (dI t)),(4,.d (dI t)),(13,.d (dI s.1))]) (fun s=>[.box [.d (dm k.tiles),.d (jV k.pads)],.map (mE s.2)])
    (fun s=>s.1<=8/\kh k s.2/\(∀ u,mk s.2 u≠1)/\(∀ u,qw u->u.1<t∨(u.1=t/\u.2<s.1)->mk s.2 u=2)) (fun s=>8-s.1) [] 1000 1000 ?_ ?_ ?_
   ·simp only[go_sem,seval]
   ·simp only[go_sem,seval];refine⟨(0,m),⟨by simp only;omega,hm,hno,fun u hu h2=>?_⟩,rfl,rfl⟩;have:=hu.2;simp only at h2;exact hfin u hu (by omega)
   ·rintro⟨r,m2⟩ ⟨hr,hm2,hno2,hfin2⟩;simp only at hr hm2 hno2 hfin2;by_cases hlr:r<8
    ·simp only[go_sem,seval]
     repeat' first|simp (disch:=omega) only[];try simp only[go_sem,seval]|(with_reducible first|apply aa|intro)|exact ah|(try rw[ae]);omega
     refine c7 (q6 k hk _ m2 (t,r) (vt _) ⟨by simp only;omega,by simp only;omega⟩ hm2 (fun u hu=>absurd hu (hno2 u))) [0,1] (by simp only[go_sem,seval]) ?_;rintro r0 H1 ⟨b,m',hpost,rfl,rfl⟩;simp only[go_sem,seval]
     repeat' first|simp (disch:=omega) only[];try simp only[go_sem,seval]|(with_reducible first|apply aa|intro)|exact ah|(try rw[ae]);omega
     ·rename_i hb9;exact(decide_eq_false fun h2=>hpost.1 hb9 (h2.2 (t,r) ⟨by simp only;omega,by simp only;omega⟩)).symm
     ·rename_i hb9;obtain⟨p1,p2,p3,p4⟩:=hpost.2 (by simpa using hb9);refine⟨(r+1,m'),⟨by simp only;omega,p4,fun u hu=>hno2 u ((p2 u).1 hu),fun u hu h2=>?_⟩,by simp only;omega,rfl,rfl⟩;by_cases he:u=((t:Int),(r:Int))
      ·subst he;exact p1
      ·refine p3 u (hfin2 u hu ?_);simp only at h2;rcases h2 with h2|⟨h2,h3⟩
       ·exact .inl h2
       ·refine .inr ⟨h2,?_⟩;have:u.2≠(r:Int):=fun h=>he (Prod.ext h2 h)
        omega
    ·obtain rfl:r=8:=by omega
     simp only[go_sem,seval]
     repeat' first|simp (disch:=omega) only[];try simp only[go_sem,seval]|(with_reducible first|apply aa|intro)|exact ah|(try rw[ae]);omega
     refine⟨(t+1,m2),⟨by simp only;omega,hm2,hno2,fun u hu h2=>hfin2 u hu ?_⟩,by simp only;omega,rfl,rfl⟩;have:=hu.2;simp only at h2;omega
  ·obtain rfl:t=25:=by omega
   simp only[go_sem,seval]
   repeat' first|simp (disch:=omega) only[];try simp only[go_sem,seval]|(with_reducible first|apply aa|intro)|exact ah|(try rw[ae]);omega
   exact(decide_eq_true ⟨hk,fun w hw=>hm.fin w (hfin w hw (by have:=hw.1;omega))⟩).symm
end Go.Proofs
