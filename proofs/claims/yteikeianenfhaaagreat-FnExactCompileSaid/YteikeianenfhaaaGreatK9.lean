/- Contracts, plain definitions and lemmas. Conditions: none; lemmas. -/
import Derived.Test.YteikeianenfhaaaGreatO5
import Derived.Test.YteikeianenfhaaaGreatK3
import Derived.Test.YteikeianenfhaaaGreatE2
import Derived.Test.YteikeianenfhaaaGreatC53
import Derived.Test.YteikeianenfhaaaGreatC32
set_option maxRecDepth 20000
set_option linter.unusedSimpArgs false
set_option linter.unusedVariables false
set_option maxHeartbeats 2000000
namespace Go.Proofs
set_option linter.defProp false
open Go Go.VL Tryz
variable {s v:List Int}{K:List R}{i g k idx off p t n j:Nat}{z:D}{T:List az}{A:az->az}{r:Rt}{h:Int×Int}{st ins:List Bool}{rows:List (List Bool)}
def Lp (h:v.length<=s.length):(cO s v).length=s.length:=by
 simp only[cO,cr,tI];omega
def MU {a:Int}(h:v.length<s.length):(cO s v).set v.length a=cO s (v ++ [a]):=by
 unfold cO;rw[List.set_append_right _ _ (aC _),Nat.sub_self,qQ h,List.set_cons_zero,cr,fS];rfl
@[go_sem] def Un {y:I}:cQ K (.eptr i g k idx off z) y=eU K (.eptr i g k idx off z) y:=vV nofun
@[go_sem] def zqX {x:I}:eU K x (.eptr i g k idx off z)=(x=.eptr i g k idx off z):=rfl
def Tryz.jZ:Pure prog 59 [] (dK ⟨List.replicate 25 dH,List.replicate 3 (15,false)⟩):=by
 have het:=mg;refine bw func59 rfl ntmps59 fun ok=>?_
 simp only[go_sem,seval,-List.reduceReplicate] at ok
 repeat' first|assumption|simp (disch:=first|assumption|omega|simp;try omega) only[go_sem,seval,-List.reduceReplicate,ag,aW,b8,bV,bU,dY]|(with_reducible first|apply aa|intro)|exact ah|(try rw[ae]);omega
 refine bt (E:=env 0) tok (σ:=Nat) (fun i=>[(0,.ptr 0 0),(1,.ptr 1 0),(3,.d (dI i))])
  (fun i=>[.box [.d .nil,.d .nil],.box [.sl 2 i 4 0 i,.d .nil],.row i 4 true ((List.replicate i dH).map fun x=>iC x)]) (fun i=>i<=25) (fun i=>25-i) [(1,0,4,true)] [] 1000 1000 ?_ ?_
 ·simp only[go_sem,seval,-List.reduceReplicate];exact⟨0,by omega,by simp⟩
 ·intro i hi;by_cases hlt:i<25
  ·have hrs:List.replicate (i+1) dH=List.replicate i dH ++ [dH]:=wU;have hrl:(List.replicate i dH).length=i:=by simp
   generalize List.replicate i dH=q at *
   simp only[go_sem,seval,-List.reduceReplicate]
   repeat' first|assumption|simp (disch:=first|assumption|omega|simp;try omega) only[go_sem,seval,-List.reduceReplicate,hrl,ag,aW,b8,bV,bU,dY]|(with_reducible first|apply aa|intro)|exact ah|(try rw[ae]);omega
   refine cg (n:=0) [4,6] (aw [0,1] (.one 2 (.one 3 (.one 4 (.fst 5 (.one 6 .done)))))) ?_;simp only[go_sem,seval,-List.reduceReplicate]
   repeat' first|assumption|simp (disch:=first|assumption|omega|simp;try omega) only[go_sem,seval,-List.reduceReplicate,hrl,ag,aW,b8,bV,bU,dY]|(with_reducible first|apply aa|intro)|(refine lu het ?_)|exact ah|(try rw[ae]);omega
   ·simp[H6];omega
   ·refine⟨i+1,by omega,by omega,rfl,rfl,rfl,?_⟩;rw[A3 hrl,A3 hrl,hrs,iz];rfl
  ·obtain rfl:i=25:=by omega
   repeat' first|assumption|simp (disch:=first|assumption|omega|simp;try omega) only[go_sem,seval,-List.reduceReplicate,ag,aW,b8,bV,bU,dY]|(with_reducible first|apply aa|intro)|exact ah|(try rw[ae]);omega
   refine bt (E:=env 0) tok (σ:=Nat) (fun n=>[(0,.ptr 0 0),(1,.ptr 1 0),(12,.d (dI n))])
    (fun n=>[.box [.d .nil,.d .nil],.box [.sl 2 25 4 0 25,.sl 3 n 2 0 n],.row 25 4 true ((List.replicate 25 dH).map fun x=>iC x),.row n 2 true ((List.replicate n ((15:Int),false)).map fun x=>dQ x)]) (fun n=>n<=3) (fun n=>3-n) [(1,1,2,true)] [] 1000 1000 ?_ ?_
   ·simp only[go_sem,seval,-List.reduceReplicate];exact⟨0,by omega,by simp⟩
   ·intro n hn;by_cases hnt:n<3
    ·repeat' first|assumption|simp (disch:=first|assumption|omega|simp;try omega) only[go_sem,seval,-List.reduceReplicate,ag,aW,b8,bV,bU,dY]|(with_reducible first|apply aa|intro)|exact ah|(try rw[ae]);omega
     refine⟨n+1,by omega,by omega,rfl,rfl,rfl,?_⟩;rw[wU,iz];rfl
    ·obtain rfl:n=3:=by omega
     repeat' first|assumption|simp (disch:=first|assumption|omega|simp;try omega) only[go_sem,seval,-List.reduceReplicate,ag,aW,b8,bV,bU,dY]|(with_reducible first|apply aa|intro)|exact ah|(try rw[ae]);omega
def Tryz.qD (c:ac) (hc : -1000<=c.inputs/\c.inputs<=1000) (net:Int) (h:Int×Int) (hh:0<=h.1/\h.1<=24):Pure prog 133 [pC c,dI net,dP h] (dI (dk c net h)):=by
 have hnb:=ew h.1 hh;refine bw func133 rfl ntmps133 fun ok=>?_
 simp only[go_sem,seval,-List.reduceReplicate] at ok
 repeat' first|assumption|simp (disch:=first|assumption|omega|simp;try omega) only[go_sem,seval,-List.reduceReplicate,ag,aW,b8,bV,bU,dY]|(with_reducible first|apply aa|intro)|(refine aA hnb ?_)|exact ah|(try rw[ae]);omega
 ·rw[dk,if_pos (by omega),if_pos (by omega)]
 ·rw[dk,if_pos (by omega),if_neg (by omega)]
 ·have hs:dk c net h=if nb h.1 2=h.2 then 2 else if nb h.1 3=h.2 then 3 else if nb h.1 4=h.2 then 4 else if nb h.1 5=h.2 then 5 else 0:=by rw[dk,if_neg (by omega)]
  have e2:nb h.1 2=gQ h.1:=rfl;have e3:nb h.1 3=oS h.1:=rfl;have e4:nb h.1 4=om h.1:=rfl;have e5:nb h.1 5=oT h.1:=rfl;rw[e2,e3,e4,e5] at hs;rw[hs];refine A5 (E:=env 0) tok 6 1000 1000 ?_;refine kS ?_
  repeat' first|assumption|simp (disch:=first|assumption|omega|simp;try omega) only[go_sem,seval,-List.reduceReplicate,ag,aW,b8,bV,bU,dY]|(with_reducible first|apply aa|intro)|exact ah|(try rw[ae]);omega
  rename_i h9;rw[if_neg h9];refine kS ?_
  repeat' first|assumption|simp (disch:=first|assumption|omega|simp;try omega) only[go_sem,seval,-List.reduceReplicate,ag,aW,b8,bV,bU,dY]|(with_reducible first|apply aa|intro)|exact ah|(try rw[ae]);omega
  rename_i h9;rw[if_neg h9];refine kS ?_
  repeat' first|assumption|simp (disch:=first|assumption|omega|simp;try omega) only[go_sem,seval,-List.reduceReplicate,ag,aW,b8,bV,bU,dY]|(with_reducible first|apply aa|intro)|exact ah|(try rw[ae]);omega
  rename_i h9;rw[if_neg h9];refine kS ?_
  repeat' first|assumption|simp (disch:=first|assumption|omega|simp;try omega) only[go_sem,seval,-List.reduceReplicate,ag,aW,b8,bV,bU,dY]|(with_reducible first|apply aa|intro)|exact ah|(try rw[ae]);omega
  rename_i h9;rw[if_neg h9];refine kS ?_
  repeat' first|assumption|simp (disch:=first|assumption|omega|simp;try omega) only[go_sem,seval,-List.reduceReplicate,ag,aW,b8,bV,bU,dY]|(with_reducible first|apply aa|intro)|exact ah|(try rw[ae]);omega
set_option maxHeartbeats 4000000 in
def Tryz.mn (c:ac) (hc:c.Valid) (place:List Int) (hp:ay (ax c).length place) (rs:List Rt) (hrt : ∀ r∈rs,1<=r.net/\r.net<c.vars/\0<=r.track/\r.track<=7/\∀ h∈r.ab,0<=h.1/\h.1<=24) (hrl : ∀ r∈rs,r.ab.length<=1000) (hrr:rs.length<=1000)
  (hnd:(rs.map (·.net)).Nodup) (hin : ∀ x∈ax c,∀ v∈x.inputs,∃ r∈rs,r.net=v) (hout : ∀ l∈c.outs,1<l->∃ r∈rs,r.net=l/2) :
  Pure prog 71 [pC c,ai place,gW rs] (dK (tW c (ax c) place rs)):=by
 have hce:=gB c hc;have hcl:=qf hc;have hcx:=ut hc;refine l4 (E:=env 0) tok rfl 1000 func71 rfl rfl ntmps71 (by simp) fun ok=>?_
 simp only[go_sem,seval,-List.reduceReplicate] at ok
 repeat' first|assumption|simp (disch:=first|assumption|omega|simp;try omega) only[go_sem,seval,-List.reduceReplicate,ag,aW,b8,bV,bU,dY]|(with_reducible first|apply aa|intro)|(refine lu jZ ?_)|(refine kA hce ?_)|exact ah|(try rw[ae]);omega
 have hB:tW c (ax c) place rs=⟨fT (e6 c.vars.toNat rs) (ax c) place (de c rs (List.replicate 25 dH) rs.length) (ax c).length,iq c (e6 c.vars.toNat rs) c.outs.length⟩:=by rw[Hm];rfl
 rw[hB];clear hB;have hlook:=fun v=>O3 (vars:=c.vars.toNat) hnd (fun r hr=>by have:=hrt r hr;omega) (v:=v)
 have hz:(e6 c.vars.toNat rs).getD 0 0=15:=Da (by have:=hc.aM;have:=hc.am;omega) (fun r hr=>(hrt r hr).1);generalize e6 c.vars.toNat rs=trk at *
 generalize ax c=cells at *
 refine bt (E:=env 0) tok (σ:=Nat) (fun i=>[(0,.d (pC c)),(1,.d (ai place)),(6,.ptr 0 0),(7,.ptr 3 0),(8,.map 4),(9,.d (cd cells)),(27,.d (gW rs)),(28,.d (dI rs.length)),(29,.d (dI i))])
  (fun i=>[.box [.d .nil,.d .nil],.row 0 4 true ((de c rs (List.replicate 25 dH) i).map fun x=>iC x),.row 0 2 true ((List.replicate 3 ((15:Int),false)).map fun x=>dQ x),.box [.sl 1 0 4 0 25,.sl 2 0 2 0 3],.map (nw (rs.take i))]) (fun i=>i<=rs.length) (fun i=>rs.length-i) [] [] 1000 1000 ?_ ?_
 ·simp only[go_sem,seval,-List.reduceReplicate];refine⟨0,by omega,?_⟩
  repeat' apply And.intro
  all_goals rfl
 ·intro i hi;have hsz:=A6 (c:=c) fE.empty (fun r hr=>by have:=hrt r hr;exact⟨by omega,this.2⟩) i;by_cases hlt:i<rs.length
  ·have hst:de c rs (List.replicate 25 dH) (i+1)=cP c (rs.getD i eQ) (de c rs (List.replicate 25 dH) i) (rs.getD i eQ).ab.length:=gI (f:=fun T (r:Rt)=>cP c r T r.ab.length) (b:=List.replicate 25 dH) eQ hlt;have hmE:=LR hlt;have hne:=Eo hnd hlt;have hrr2:=hrt _ (aP hlt:rs.getD i eQ∈rs);have hhl:=hrl _ (aP hlt:rs.getD i eQ∈rs);have hup:=JZ (rs.getD i eQ).net (dI (rs.getD i eQ).track) _ hne;have hks:=F7;generalize de c rs (List.replicate 25 dH) i=T at *
   generalize hr9:rs.getD i eQ=r at *
   generalize hm9:nw (rs.take i)=m at *
   repeat' first|assumption|simp (disch:=first|assumption|omega|simp;try omega) only[go_sem,seval,-List.reduceReplicate,hr9,hup,ag,aW,b8,bV,bU,dY]|(with_reducible first|apply aa|intro)|exact ah|(try rw[ae]);omega
   all_goals first|(rw[<-hm9];exact hks _)|skip
   refine bt (E:=env 0) tok (σ:=Nat) (fun j=>[(0,.d (pC c)),(1,.d (ai place)),(6,.ptr 0 0),(7,.ptr 3 0),(8,.map 4),(9,.d (cd cells)),(27,.d (gW rs)),(28,.d (dI rs.length)),(29,.d (dI i)),(11,.ptr 5 0),(39,.d (aO r.ab)),(40,.d (dI r.ab.length)),(41,.d (dI j))])
    (fun j=>[.box [.d .nil,.d .nil],.row 0 4 true ((cP c r T j).map fun x=>iC x),.row 0 2 true ((List.replicate 3 ((15:Int),false)).map fun x=>dQ x),.box [.sl 1 0 4 0 25,.sl 2 0 2 0 3],.map (m ++ [(dI r.net,dI r.track)]),.box [.d (dI r.net),.d (dI r.track),.d (aO r.ab)]]) (fun j=>j<=r.ab.length) (fun j=>r.ab.length-j) [] [] 1000 1000 ?_ ?_
   ·simp only[go_sem,seval,-List.reduceReplicate];exact⟨0,by omega,rfl,rfl⟩
   ·intro j hj;have hszj:=xG (c:=c) hsz hrr2.2.2.2.2 j;by_cases hjt:j<r.ab.length
    ·have hsj:cP c r T (j+1)=eG c r (cP c r T j) (r.ab.getD j (0,0)):=gI (f:=eG c r) (b:=T) ((0,0):Int×Int) hjt;have hh:=hrr2.2.2.2.2 _ (aP hjt:r.ab.getD j (0,0)∈r.ab);have hsrc:=qD c (by have:=hc.i0;have:=hc.i1;omega) r.net _ hh;generalize cP c r T j=U at *
     generalize hh9:r.ab.getD j (0,0)=h at *
     have htsu:=hszj.get (i:=h.1.toNat) (by omega);have hUl:=hszj.1;have hdl:(U.getD h.1.toNat bE).drive.length=8:=htsu.2;generalize hu9:U.getD h.1.toNat bE=u at *
     repeat' first|assumption|simp (disch:=first|assumption|omega|simp;try omega) only[go_sem,seval,-List.reduceReplicate,hr9,hh9,hu9,ag,aW,b8,bV,bU,dY]|(with_reducible first|apply aa|intro)|(refine aA hsrc ?_)|exact ah|(try rw[ae]);omega
     refine cg (n:=0) [15] (aw [0,2,7,9,10,1,3,4,5,6,8,11,12] (.one 13 (.fst 14 (.one 15 .done)))) ?_
     repeat' first|assumption|simp (disch:=first|assumption|omega|simp;try omega) only[go_sem,seval,-List.reduceReplicate,hr9,hh9,hu9,g8,g7,gU,ag,aW,b8,bV,bU,dY]|(with_reducible first|apply aa|intro)|(refine aA hsrc ?_)|exact ah|(try rw[ae]);omega
     refine⟨j+1,by omega,by omega,rfl,?_⟩;rw[hsj];unfold eG;rw[hu9];refine CM (by decide) (z:=bE) (by omega) ?_;rw[hu9];rfl
    ·obtain rfl:j=r.ab.length:=by omega
     repeat' first|assumption|simp (disch:=first|assumption|omega|simp;try omega) only[go_sem,seval,-List.reduceReplicate,hr9,ag,aW,b8,bV,bU,dY]|(with_reducible first|apply aa|intro)|exact ah|(try rw[ae]);omega
     refine⟨i+1,by omega,by omega,?_⟩;rw[hst,hmE];exact⟨rfl,rfl,rfl⟩
  ·obtain rfl:i=rs.length:=by omega
   rw[iA];generalize de c rs (List.replicate 25 dH) rs.length=T0 at *
   have hks:=F7 rs
   repeat' first|assumption|simp (disch:=first|assumption|omega|simp;try omega) only[go_sem,seval,-List.reduceReplicate,ag,aW,b8,bV,bU,dY]|(with_reducible first|apply aa|intro)|exact ah|(try rw[ae]);omega
   refine bt (E:=env 0) tok (σ:=Nat) (fun i=>[(0,.d (pC c)),(1,.d (ai place)),(6,.ptr 0 0),(7,.ptr 3 0),(8,.map 4),(62,.d (cd cells)),(63,.d (dI cells.length)),(64,.d (dI i))])
    (fun i=>[.box [.d .nil,.d .nil],.row 0 4 true ((fT trk cells place T0 i).map fun x=>iC x),.row 0 2 true ((List.replicate 3 ((15:Int),false)).map fun x=>dQ x),.box [.sl 1 0 4 0 25,.sl 2 0 2 0 3],.map (nw rs)]) (fun i=>i<=cells.length) (fun i=>cells.length-i) [] [] 1000 1000 ?_ ?_
   ·simp only[go_sem,seval,-List.reduceReplicate];exact⟨0,by omega,rfl,rfl⟩
   ·intro i hi;have hszi:=xL (trk:=trk) hsz (fun x hx=>(hcx x hx).1) hp i hi;by_cases hlt:i<cells.length
    ·have hst:fT trk cells place T0 (i+1)=(fT trk cells place T0 i).set (place.getD i 0).toNat (jc trk (cells.getD i bI) ((fT trk cells place T0 i).getD (place.getD i 0).toNat bE)):=rfl;have hp1:=hp.get hlt;have hpl:=hp.len;have hxi:=hcx _ (aP hlt:cells.getD i bI∈cells);have hxr:=hin _ (aP hlt:cells.getD i bI∈cells);have hts:=hszi.get (i:=(place.getD i 0).toNat) (by omega);have hTl:=hszi.1;generalize fT trk cells place T0 i=T at *
     generalize hp9:place.getD i 0=p at *
     generalize hx9:cells.getD i bI=x at *
     generalize ht9:T.getD p.toNat bE=t at *
     repeat' first|assumption|simp (disch:=first|assumption|omega|simp;try omega) only[go_sem,seval,-List.reduceReplicate,hp9,hx9,ht9,g8,g7,gU,ag,aW,b8,bV,bU,dY]|(with_reducible first|apply aa|intro)|exact ah|(try rw[ae]);omega
     obtain⟨xn,xi,xt,xr⟩:=x;simp only at hxi hxr;have hsl:t.select.length=3:=hts.1;have hdl:t.drive.length=8:=hts.2;rw[List.set_set];refine bt (E:=env 0) tok (σ:=Nat) (fun n=>[(0,.d (pC c)),(1,.d (ai place)),(6,.ptr 0 0),(7,.ptr 3 0),(8,.map 4),(62,.d (cd cells)),(63,.d (dI cells.length)),(64,.d (dI i)),(16,.eptr 1 0 4 p.toNat 0 (.agg [.int .i64 0,.nil,.bool false,.nil])),(87,.d (ai xi)),(88,.d (dI xi.length)),(89,.d (dI n))])
      (fun n=>[.box [.d .nil,.d .nil],.row 0 4 true ((T.set p.toNat ⟨xt,cO t.select ((xi.take n).map fun v=>trk.getD v.toNat 0),xr,t.drive⟩).map fun x=>iC x),.row 0 2 true ((List.replicate 3 ((15:Int),false)).map fun x=>dQ x),.box [.sl 1 0 4 0 25,.sl 2 0 2 0 3],.map (nw rs)]) (fun n=>n<=xi.length) (fun n=>xi.length-n) [] [] 1000 1000 ?_ ?_
     ·simp only[go_sem,seval,-List.reduceReplicate];refine⟨0,by omega,rfl,?_⟩;rw[zM];rfl
     ·intro n hn;by_cases hnt:n<xi.length
      ·have hts2:=mz (f:=fun v:Int=>trk.getD v.toNat 0) (0:Int) hnt;have hlk:=hlook _ (hxr _ (aP hnt:xi.getD n 0∈xi));have hvl:((xi.take n).map fun v=>trk.getD v.toNat 0).length=n:=by rw[ie,fW];omega
       have hss:=Lp (s:=t.select) (v:=(xi.take n).map fun v=>trk.getD v.toNat 0) (by omega);have hsn:=MU (s:=t.select) (v:=(xi.take n).map fun v=>trk.getD v.toNat 0) (a:=trk.getD (xi.getD n 0).toNat 0) (by omega);rw[hvl,<-hts2] at hsn;generalize hv9:xi.getD n 0=v at *
       generalize hs9:cO t.select ((xi.take n).map fun v=>trk.getD v.toNat 0)=sl at *
       have hTg : ∀ z,((T.set p.toNat ⟨xt,sl,xr,t.drive⟩).map fun x=>iC x).getD p.toNat z=iC ⟨xt,sl,xr,t.drive⟩:=fun z=>by rw[bV (by rw[fB];omega),dY (by omega)]
       have hsl3:sl.length=3:=by omega
       repeat' first|assumption|simp (disch:=first|assumption|omega|simp;try omega) only[go_sem,seval,-List.reduceReplicate,hv9,hTg,hlk,g8,g7,gU,ag,aW,b8,bV,bU,dY]|(with_reducible first|apply aa|intro)|exact ah|(try rw[ae]);omega
       refine cg (n:=0) [9] (aw [0,1,2,4,5,6,3,7,8] (.one 9 .done)) ?_
       repeat' first|assumption|simp (disch:=first|assumption|omega|simp;try omega) only[go_sem,seval,-List.reduceReplicate,hv9,hTg,hlk,g8,g7,gU,ag,aW,b8,bV,bU,dY]|(with_reducible first|apply aa|intro)|exact ah|(try rw[ae]);omega
       refine⟨n+1,by omega,by omega,rfl,?_⟩;rw[hsn];have e:T.set p.toNat ⟨xt,cO t.select ((xi.take (n+1)).map fun v=>trk.getD v.toNat 0),xr,t.drive⟩=(T.set p.toNat ⟨xt,sl,xr,t.drive⟩).set p.toNat ⟨xt,cO t.select ((xi.take (n+1)).map fun v=>trk.getD v.toNat 0),xr,t.drive⟩:=by rw[List.set_set]
       rw[e];refine CM (by decide) (z:=bE) (by rw[fB];omega) ?_;rw[dY (by omega)];rfl
      ·obtain rfl:n=xi.length:=by omega
       rw[iA]
       repeat' first|assumption|simp (disch:=first|assumption|omega|simp;try omega) only[go_sem,seval,-List.reduceReplicate,ag,aW,b8,bV,bU,dY]|(with_reducible first|apply aa|intro)|exact ah|(try rw[ae]);omega
       refine⟨i+1,by omega,by omega,rfl,?_⟩;rw[hst];rfl
    ·obtain rfl:i=cells.length:=by omega
     generalize fT trk cells place T0 cells.length=T1 at *
     repeat' first|assumption|simp (disch:=first|assumption|omega|simp;try omega) only[go_sem,seval,-List.reduceReplicate,ag,aW,b8,bV,bU,dY]|(with_reducible first|apply aa|intro)|exact ah|(try rw[ae]);omega
     refine bt (E:=env 0) tok (σ:=Nat) (fun o=>[(6,.ptr 0 0),(7,.ptr 3 0),(8,.map 4),(108,.d (ai c.outs)),(109,.d (dI c.outs.length)),(110,.d (dI o))])
      (fun o=>[.box [.d .nil,.d .nil],.row 0 4 true (T1.map fun x=>iC x),.row 0 2 true ((iq c trk o).map fun x=>dQ x),.box [.sl 1 0 4 0 25,.sl 2 0 2 0 3],.map (nw rs)]) (fun o=>o<=c.outs.length) (fun o=>c.outs.length-o) [] [] 1000 1000 ?_ ?_
     ·simp only[go_sem,seval,-List.reduceReplicate];refine⟨0,by omega,?_⟩
      repeat' apply And.intro
      all_goals rfl
     ·intro o ho;have hlo:=hc.lo;by_cases hlt:o<c.outs.length
      ·have hov:=hc.o _ (aP hlt:c.outs.getD o 0∈c.outs);have hou:=hout _ (aP hlt:c.outs.getD o 0∈c.outs);have hst:iq c trk (o+1)=(iq c trk o).set o (trk.getD (c.outs.getD o 0/2).toNat 0,decide (c.outs.getD o 0%2=1)):=by simp only[iq,kK,mM,eO,List.foldl_nil]
       have hpl:=@cE c trk o;have hrest:=AX (c:=c) (trk:=trk) o o (aC _) (by omega);generalize iq c trk o=q at *
       generalize ho9:c.outs.getD o 0=v at *
       have hov1:0<=v/\v<2*c.vars:=by
        have:=hov;unfold bj at this;omega
       have hqg : ∀ z,(q.map fun x=>dQ x).getD o z=dQ (15,false):=fun z=>by rw[bU (by omega),hrest]
       have hlk:1<v->fX (nw rs) (dI (v/2))=some (dI (trk.getD (v/2).toNat 0)):=fun h=>hlook _ (hou h)
       by_cases hv1:1<v
       ·have hlk1:=hlk hv1
        repeat' first|assumption|simp (disch:=first|assumption|omega|simp;try omega) only[go_sem,seval,-List.reduceReplicate,ho9,hqg,hlk1,ag,aW,b8,bV,bU,dY]|(with_reducible first|apply aa|intro)|exact ah|(try rw[ae]);omega
        refine⟨o+1,by omega,by omega,rfl,?_⟩;rw[hst,List.set_set,xe hov1.1,List.map_set]
       ·repeat' first|assumption|simp (disch:=first|assumption|omega|simp;try omega) only[go_sem,seval,-List.reduceReplicate,ho9,hqg,ag,aW,b8,bV,bU,dY]|(with_reducible first|apply aa|intro)|exact ah|(try rw[ae]);omega
        refine⟨o+1,by omega,by omega,rfl,?_⟩;rw[hst,xe hov1.1,List.map_set,show(v/2).toNat=0 by omega,hz]
      ·obtain rfl:o=c.outs.length:=by omega
       repeat' first|assumption|simp (disch:=first|assumption|omega|simp;try omega) only[go_sem,seval,-List.reduceReplicate,ag,aW,b8,bV,bU,dY]|(with_reducible first|apply aa|intro)|exact ah|(try rw[ae]);omega
       ·exact hszi.1.symm
       ·exact cE.symm

abbrev Wr:=Int×Int
variable {w:Wr}
def mm (k:bu) (w:Wr):Int:=(k.tiles.getD w.1.toNat bE).drive.getD w.2.toNat 0
def yK (k:bu) (w:Wr):List Wr:=
 if 2<=mm k w/\mm k w<=5 then [(nb w.1 (mm k w),w.2)]
 else if mm k w=1/\(k.tiles.getD w.1.toNat bE).ge=false then((k.tiles.getD w.1.toNat bE).select.filter fun s=>decide (s≠15)).map fun s=>(w.1,s)
 else []
def Rel (k:bu) (x w:Wr):Prop:=x∈yK k w
def Dj (w:Wr):Prop:=(0<=w.1/\w.1<=24)/\(0<=w.2/\w.2<=7)
def Wf (k:bu):Prop:=∀ w,Dj w->Acc (Rel k) w
def Acc.sub {α : Type}{r s : α->α->Prop}{x : α}(h:Acc s x) (hs : ∀ a b,r a b->s a b):Acc r x:=by
 induction h with
 | intro x _ ih=>exact⟨_,fun y hy=>ih y (hs _ _ hy)⟩
def Wf.sub {k k':bu}(h:Wf k) (hs : ∀ w,∀ x∈yK k' w,x∈yK k w):Wf k':=fun w hw=>Acc.sub (h w hw) fun a b=>hs b a
abbrev Ky:=List (Wr×Int)
def mk (m:Ky) (w:Wr):Int:=((m.find? fun e=>decide (e.1=w)).map fun e=>e.2).getD 0
structure C1 (k:bu) (m:Ky):Prop where
 rng : ∀ u,mk m u=0∨mk m u=1∨mk m u=2
 fin : ∀ u,mk m u=2->Acc (Rel k) u
noncomputable instance (k:bu):Decidable (k.ok/\Wf k):=Classical.propDecidable _

def AQ {q:Nat}(hp:p<T.length):(dF T p A).getD q bE=if p=q then A (T.getD p bE) else T.getD q bE:=by
 unfold dF;by_cases h:p=q
 ·subst h;rw[if_pos rfl,dY hp]
 ·rw[if_neg h,oA h]
def LS:(dF T p A).length=T.length:=by simp[dF]
def fK (T:List az) (t u:Nat):Int:=(T.getD t bE).drive.getD u 0
def Kq {c:ac}{u:Nat}(hT:fE T) (hh:0<=h.1/\h.1<=24) (hu:0<=r.track/\r.track<=7):fK (eG c r T h) t u=if h.1.toNat=t/\r.track.toNat=u then dk c r.net h else fK T t u:=by
 have hsz:=hT.get (i:=h.1.toNat) (by omega);have hl:=hT.1;unfold fK;rw[Bi,AQ (by omega)];by_cases e:h.1.toNat=t
 ·subst e;rw[if_pos rfl];show((T.getD h.1.toNat bE).drive.set r.track.toNat (dk c r.net h)).getD u 0=_
  by_cases e2:r.track.toNat=u
  ·subst e2;rw[if_pos ⟨rfl,rfl⟩,dY (by have:=hsz.2;omega)]
  ·rw[if_neg (fun h=>e2 h.2),oA e2]
 ·rw[if_neg e,if_neg (fun h=>e h.1)]
def Cn {c:ac}{r:Rt}(hu:0<=r.track/\r.track<=7) {t u:Nat} : ∀ (l:List (Int×Int)) (T:List az),fE T->(∀ h∈l,0<=h.1/\h.1<=24)->(r.track.toNat=u->∀ h∈l,h.1.toNat≠t)->fK (l.foldl (eG c r) T) t u=fK T t u
 | [],T,_,_,_=>rfl
 | h::l,T,hT,hl,hn=>by
  have h1:=hl h (ld ..);rw[eO,Cn hu l _ (AD hT h1) (fun x hx=>hl x (fP _ hx)) (fun e x hx=>hn e x (fP _ hx)),Kq hT h1 hu,if_neg (fun e=>hn e.2 h (ld ..) e.1)]
def Jc {c:ac}{r:Rt}(hu:0<=r.track/\r.track<=7) : ∀ (l:List (Int×Int)) (T:List az),fE T->(∀ h∈l,0<=h.1/\h.1<=24)->(a9 l).Nodup->∀ h∈l,fK (l.foldl (eG c r) T) h.1.toNat r.track.toNat=dk c r.net h
 | [],T,_,_,_,h,hm=>by cases hm
 | a::l,T,hT,hl,hn,h,hm=>by
  have h1:=hl a (ld ..);rw[a9,jC,List.nodup_cons] at hn;rw[eO];rcases List.mem_cons.1 hm with rfl|h2
  ·rw[Cn hu l _ (AD hT h1) (fun x hx=>hl x (fP _ hx)) (fun _ x hx e=>hn.1 (by
    have:=hl x (fP _ hx);have e2:x.1=h.1:=by omega
    rw[<-e2];exact vP hx)),Kq hT h1 hu,if_pos ⟨rfl,rfl⟩]
  ·exact Jc hu l _ (AD hT h1) (fun x hx=>hl x (fP _ hx)) hn.2 h h2
def x5 (l:List Rt):Prop:=∀ r∈l,(0<=r.track/\r.track<=7)/\∀ h∈r.ab,0<=h.1/\h.1<=24
def x5.tail {l:List Rt}(h:x5 (r::l)):x5 l:=fun x hx=>h x (fP _ hx)
def Db {c:ac}{t u:Nat} : ∀ (l:List Rt) (T:List az),fE T->x5 l->(∀ r∈l,r.track.toNat=u->∀ h∈r.ab,h.1.toNat≠t)->fK (l.foldl (fun T r=>cP c r T r.ab.length) T) t u=fK T t u
 | [],T,_,_,_=>rfl
 | r::l,T,hT,hl,hn=>by
  obtain⟨h1,h2⟩:=hl r (ld ..);rw[eO,Db l _ (xG hT h2 _) hl.tail (fun x hx=>hn x (fP _ hx))];unfold cP;rw[iA];exact Cn h1 r.ab T hT h2 (hn r (ld ..))
def Gf {c:ac} : ∀ (l:List Rt) (T:List az),fE T->x5 l->l.Pairwise Ek->(∀ r∈l,(a9 r.ab).Nodup)->∀ r∈l,∀ h∈r.ab,fK (l.foldl (fun T r=>cP c r T r.ab.length) T) h.1.toNat r.track.toNat=dk c r.net h
 | [],T,_,_,_,_,r,hr=>by cases hr
 | a::l,T,hT,hl,hp,hn,r,hr=>by
  intro h hh;obtain⟨h1,h2⟩:=hl a (ld ..);rw[List.pairwise_cons] at hp;rw[eO];rcases List.mem_cons.1 hr with rfl|h3
  ·rw[Db l _ (xG hT h2 _) hl.tail (fun x hx e y hy e2=>by
    obtain⟨b1,b2⟩:=hl x (fP _ hx);have b3:=b2 y hy;have b4:=h2 h hh;refine hp.1 x hx (by omega) h.1 (vP hh) ?_;have e3:h.1=y.1:=by omega
    rw[e3];exact vP hy)]
   unfold cP;rw[iA];exact Jc h1 r.ab T hT h2 (hn r (ld ..)) h hh
  ·exact Gf l _ (xG hT h2 _) hl.tail hp.2 (fun x hx=>hn x (fP _ hx)) r h3 h hh
def nR (T:List az) (t:Nat):Int×List Int×Bool:=((T.getD t bE).table,(T.getD t bE).select,(T.getD t bE).ge)
def Oj {c:ac}:nR (eG c r T h) t=nR T t:=by
 rw[Bi];by_cases hp:h.1.toNat<T.length
 ·unfold nR;rw[AQ hp];split
  ·rename_i e;subst e;rfl
  ·rfl
 ·rw[dF,List.set_eq_of_length_le (by omega)]
def Hd {c:ac}{r:Rt}{t:Nat} : ∀ (l:List (Int×Int)) (T:List az),nR (l.foldl (eG c r) T) t=nR T t
 | [],T=>rfl
 | h::l,T=>by rw[eO,Hd l,Oj]
def Hq {c:ac}{t:Nat} : ∀ (l:List Rt) (T:List az),nR (l.foldl (fun T r=>cP c r T r.ab.length) T) t=nR T t
 | [],T=>rfl
 | r::l,T=>by rw[eO,Hq l];exact Hd _ T
def E0 {trk:List Int}{cells:List bR}{place:List Int}{T:List az}{t u:Nat} : ∀ i,fK (fT trk cells place T i) t u=fK T t u
 | 0=>rfl
 | i+1=>by
  have ih:=E0 (trk:=trk) (cells:=cells) (place:=place) (T:=T) (t:=t) (u:=u) i;rw[<-ih,yg];by_cases hp:(place.getD i 0).toNat<(fT trk cells place T i).length
  ·unfold fK;rw[AQ hp];split
   ·rename_i e;subst e;rfl
   ·rfl
  ·rw[dF,List.set_eq_of_length_le (by omega)]
def Fa {trk:List Int}{cells:List bR}{place:List Int}{T:List az} : ∀ i,(fT trk cells place T i).length=T.length
 | 0=>rfl
 | i+1=>by rw[yg,LS,Fa i]
def DO {trk:List Int}{cells:List bR}{place:List Int}{T:List az}{t:Nat} : ∀ i,(∀ j,j<i->(place.getD j 0).toNat≠t)->(fT trk cells place T i).getD t bE=T.getD t bE
 | 0,_=>rfl
 | i+1,h=>by
  rw[yg,dF,oA (h i (by omega)),DO i (fun j hj=>h j (by omega))]
def GS {place:List Int}(hp:ay n place) (hi:i<n) (hj:j<n) (h:(place.getD i 0).toNat=(place.getD j 0).toNat):i=j:=by
 have h1:=hp.get hi;have h2:=hp.get hj;have:=hp.len;exact z9.1 hp.nd i j (by omega) (by omega) (by omega)
def Kf {trk:List Int}{cells:List bR}{place:List Int}(hp:ay cells.length place) {T:List az}(hT:T.length=25) : ∀ i,i<=cells.length->∀ j,j<i->(fT trk cells place T i).getD (place.getD j 0).toNat bE=jc trk (cells.getD j bI) (T.getD (place.getD j 0).toNat bE)
 | 0,_,j,hj=>by omega
 | i+1,hi,j,hj=>by
  have hb:=hp.get (i:=i) (by omega);rw[yg];by_cases e:j=i
  ·subst e;rw[AQ (by rw[Fa];omega),if_pos rfl,DO j (fun k hk e=>by have:=GS hp (by omega) (by omega) e;omega)]
  ·rw[dF,oA (fun e2=>e (GS hp (by omega) (by omega) e2).symm)];exact Kf hp hT i (by omega) j (by omega)
def sF {c:ac}{net:Int}(hf:0<=h.2/\h.2<=24) (hn:h.1∈dz h.2):2<=dk c net h/\dk c net h<=5/\nb h.1 (dk c net h)=h.2:=by
 have hb:=xz hf h.1 hn;have hd:nb h.1 2=h.2∨nb h.1 3=h.2∨nb h.1 4=h.2∨nb h.1 5=h.2:=by
  have e2:nb h.1 2=gQ h.1:=rfl;have e3:nb h.1 3=oS h.1:=rfl;have e4:nb h.1 4=om h.1:=rfl;have e5:nb h.1 5=oT h.1:=rfl;rw[e2,e3,e4,e5];unfold gQ oS om oT;unfold dz at hn;simp only[fV] at hn;rcases hn with((h1|h1)|h1)|h1 <;> split at h1 <;> simp at h1
  ·right;right;right;rw[if_pos (by omega)];omega
  ·right;right;left;rw[if_pos (by omega)];omega
  ·right;left;rw[if_pos (by omega)];omega
  ·left;rw[if_pos (by omega)];omega
 unfold dk;rw[if_neg (by omega)];by_cases h2:nb h.1 2=h.2
 ·rw[if_pos h2];exact⟨by omega,by omega,h2⟩
 ·rw[if_neg h2];by_cases h3:nb h.1 3=h.2
  ·rw[if_pos h3];exact⟨by omega,by omega,h3⟩
  ·rw[if_neg h3];by_cases h4:nb h.1 4=h.2
   ·rw[if_pos h4];exact⟨by omega,by omega,h4⟩
   ·rw[if_neg h4];have h5:nb h.1 5=h.2:=by rcases hd with h|h|h|h <;> first|exact h|contradiction
    rw[if_pos h5];exact⟨by omega,by omega,h5⟩
structure aq (c:ac) (place:List Int) (rs:List Rt):Prop where
 v:c.Valid
 p:ay (ax c).length place
 ex : ∃ busy0 busy,jf c (ax c) place busy0 (c.vars.toNat-1) busy rs
noncomputable abbrev bK (c:ac) (place:List Int) (rs:List Rt):bu:=tW c (ax c) place rs
section routed
variable {c:ac}{place:List Int}{rs:List Rt}
def aq.nd (R:aq c place rs):(rs.map (·.net)).Nodup:=by
 obtain⟨b0,b,h⟩:=R.ex;rw[h.nets];exact(DR _).1
def aq.bd (R:aq c place rs) : ∀ r∈rs,(1<=r.net/\r.net<c.vars)/\(0<=r.track/\r.track<=7)/\(∀ h∈r.ab,0<=h.1/\h.1<=24)/\(a9 r.ab).Nodup:=by
 intro r hr;obtain⟨b0,b,h⟩:=R.ex;have e:=h.each r hr;have e1:=e.net;have e2:=e.track;have hv:=R.v.aM;exact⟨by omega,by omega,e.tree.rng,e.tree.nd⟩
def aq.B9 (R:aq c place rs):x5 rs:=fun r hr=>⟨(R.bd r hr).2.1,(R.bd r hr).2.2.1⟩
def aq.apart (R:aq c place rs):rs.Pairwise Ek:=by
 obtain⟨b0,b,h⟩:=R.ex;exact h.apart
def aq.vW (R:aq c place rs) (hr:r∈rs) (hh:h∈r.ab):mm (bK c place rs) (h.1,r.track)=dk c r.net h:=by
 have hT:fE (fT (e6 c.vars.toNat rs) (ax c) place (List.replicate 25 dH) (ax c).length):=xL fE.empty (fun x hx=>(ut R.v x hx).1) R.p _ (aC _);have:=Gf (c:=c) rs _ hT R.B9 R.apart (fun r hr=>(R.bd r hr).2.2.2) r hr h hh;rw[<-this];show fK (de c rs _ rs.length) _ _=_
 unfold de;rw[iA]
def aq.kV (R:aq c place rs) (hw:Dj w) (hn : ∀ r∈rs,r.track=w.2->w.1∉a9 r.ab):mm (bK c place rs) w=0:=by
 have hT:fE (fT (e6 c.vars.toNat rs) (ax c) place (List.replicate 25 dH) (ax c).length):=xL fE.empty (fun x hx=>(ut R.v x hx).1) R.p _ (aC _);obtain⟨⟨w1,w2⟩,w3,w4⟩:=hw;have:=Db (c:=c) (t:=w.1.toNat) (u:=w.2.toNat) rs _ hT R.B9 (fun r hr e h hh e2=>by
  obtain⟨b1,b2⟩:=R.B9 r hr;have b3:=b2 h hh;refine hn r hr (by omega) ?_;have e3:w.1=h.1:=by omega
  rw[e3];exact vP hh)
 show fK (de c rs _ rs.length) _ _=_
 unfold de;rw[iA,this,E0];unfold fK;have e1:(List.replicate 25 dH).getD w.1.toNat bE=dH:=by rw[List.getD_eq_getElem?_getD,List.getElem?_replicate,if_pos (by omega)];rfl
 rw[e1];obtain h|h|h|h|h|h|h|h:w.2.toNat=0∨w.2.toNat=1∨w.2.toNat=2∨w.2.toNat=3∨w.2.toNat=4∨w.2.toNat=5∨w.2.toNat=6∨w.2.toNat=7:=by omega
 all_goals rw[h];rfl
def I4:nR (bK c place rs).tiles t=nR (fT (e6 c.vars.toNat rs) (ax c) place (List.replicate 25 dH) (ax c).length) t:=by
 show nR (de c rs _ rs.length) t=_
 unfold de;rw[Hq]
def aq.cell (R:aq c place rs) (hi:i<(ax c).length):nR (bK c place rs).tiles (place.getD i 0).toNat=(((ax c).getD i bI).table,cO [15,15,15] (((ax c).getD i bI).inputs.map fun v=>(e6 c.vars.toNat rs).getD v.toNat 0),((ax c).getD i bI).ge):=by
 have hb:=R.p.get hi;rw[I4,nR,Kf R.p (by simp) _ (aC _) i hi];have e1:(List.replicate 25 dH).getD (place.getD i 0).toNat bE=dH:=by rw[List.getD_eq_getElem?_getD,List.getElem?_replicate,if_pos (by omega)];rfl
 rw[e1];rfl
def aq.blank (R:aq c place rs) (ht:t<25) (hn : ∀ i,i<(ax c).length->(place.getD i 0).toNat≠t):nR (bK c place rs).tiles t=(0,[15,15,15],false):=by
 rw[I4,nR,DO _ hn];have e1:(List.replicate 25 dH).getD t bE=dH:=by rw[List.getD_eq_getElem?_getD,List.getElem?_replicate,if_pos ht];rfl
 rw[e1];rfl
def aq.ur (R:aq c place rs) {v:Int}(h0:1<=v) (h1:v<c.vars) (hu:fe c (ax c) place v≠[]) : ∃ r∈rs,r.net=v/\(e6 c.vars.toNat rs).getD v.toNat 0=r.track/\∀ t∈fe c (ax c) place v,t∈a9 r.ab:=by
 obtain⟨b0,b,h⟩:=R.ex;have hv:=R.v.aM;have hm:v∈rs.map (·.net):=by
  rw[h.nets,Ef];exact⟨by omega,fun e=>hu ((yN R.v place h0 h1).1 e)⟩
 obtain⟨r,hr,rfl⟩:=List.mem_map.1 hm;refine⟨r,hr,rfl,?_,fun t ht=>(IE R.v h hr).1 t (GM.2 ht)⟩;rw[e6,jb,iA];exact EJ rs _ R.nd (fun x hx=>by have:=(R.bd x hx).1;simp;omega) r hr
def aq.input (R:aq c place rs) (hi:i<(ax c).length) {v:Int}(hv:v∈((ax c).getD i bI).inputs) : ∃ r∈rs,r.net=v/\(e6 c.vars.toNat rs).getD v.toNat 0=r.track/\place.getD i 0∈a9 r.ab:=by
 have hin:=(ut R.v _ (aP hi:(ax c).getD i bI∈ax c)).2.2 v hv;have hm:place.getD i 0∈fe c (ax c) place v:=yW.2 (.inl ⟨i,hi,hv,rfl⟩);obtain⟨r,hr,h1,h2,h3⟩:=R.ur hin.1 hin.2 (fun e=>by rw[e] at hm;cases hm);exact⟨r,hr,h1,h2,h3 _ hm⟩
def aq.pad (R:aq c place rs) {o:Nat}(ho:o<c.outs.length) (hv:1<=c.outs.getD o 0/2) : ∃ r∈rs,r.net=c.outs.getD o 0/2/\(e6 c.vars.toNat rs).getD (c.outs.getD o 0/2).toNat 0=r.track/\(o:Int)*5+4∈a9 r.ab:=by
 have hl:=R.v.o _ (aP ho:c.outs.getD o 0∈c.outs);unfold bj at hl;have hm:(o:Int)*5+4∈fe c (ax c) place (c.outs.getD o 0/2):=yW.2 (.inr ⟨o,ho,rfl,rfl⟩);obtain⟨r,hr,h1,h2,h3⟩:=R.ur hv (by omega) (fun e=>by rw[e] at hm;cases hm);exact⟨r,hr,h1,h2,h3 _ hm⟩
def aq.k8 (R:aq c place rs) (hr:r∈rs) (hj:j<r.ab.length) :
  (mm (bK c place rs) ((r.ab.getD j (0,0)).1,r.track)=6/\r.net<=c.inputs/\(r.ab.getD j (0,0)).1=(r.net-1)*5)∨
  (mm (bK c place rs) ((r.ab.getD j (0,0)).1,r.track)=1/\c.inputs<r.net/\∃ i,i<(ax c).length/\((ax c).getD i bI).net=r.net/\(r.ab.getD j (0,0)).1=place.getD i 0)∨
  (2<=mm (bK c place rs) ((r.ab.getD j (0,0)).1,r.track)/\mm (bK c place rs) ((r.ab.getD j (0,0)).1,r.track)<=5/\∃ m,m<j/\nb (r.ab.getD j (0,0)).1 (mm (bK c place rs) ((r.ab.getD j (0,0)).1,r.track))=(r.ab.getD m (0,0)).1):=by
 obtain⟨b0,b,h⟩:=R.ex;have hm:=aP (z:=((0,0):Int×Int)) hj;rw[R.vW hr hm];have he:=h.each r hr;have hrd:=IE R.v h hr;have hbd:=R.bd r hr;rcases he.tree.root j hj with⟨rfl,h2⟩|⟨h1,m,h2,h3,h4⟩
 ·have hsrc:=hrd.2;rw[Dl] at hsrc;by_cases hni:r.net<=c.inputs
  ·left;refine⟨by rw[dk,if_pos (by omega),if_pos hni],hni,?_⟩;rw[hsrc,if_neg];intro h5;rcases Ar (DA R.v) place r.net _ (aC _) with⟨i,g1,g2,-,g4⟩|⟨-,-,g3⟩
   ·have:=(G4 R.v _ (aP g1:(ax c).getD i bI∈ax c)).1;omega
   ·omega
  ·right;left;refine⟨by rw[dk,if_pos (by omega),if_neg hni],by omega,?_⟩;have hn:r.net∈o9 c (ax c) place (c.vars.toNat-1):=by rw[<-h.nets];exact List.mem_map.2 ⟨r,hr,rfl⟩
   have hu:fe c (ax c) place r.net≠[]:=fun h3=>(Ef.1 hn).2 ((yN R.v place hbd.1.1 hbd.1.2).2 h3)
   have hso:=Jn R.v place hbd.1.1 hbd.1.2 hu;rcases Ar (DA R.v) place r.net _ (aC _) with⟨i,g1,g2,-,g4⟩|⟨-,g2,-⟩
   ·refine⟨i,g1,g2,?_⟩;rw[hsrc,if_pos (by omega),g4];rfl
   ·rw[g2,ox,if_neg (by omega)] at hso;cases hso
 ·right;right;have hb:0<=(r.ab.getD j (0,0)).2/\(r.ab.getD j (0,0)).2<=24:=by
   rw[<-h3];exact he.tree.rng _ (aP (by omega))
  obtain⟨a1,a2,a3⟩:=sF (c:=c) (net:=r.net) hb h4;exact⟨a1,a2,m,h2,by rw[a3,h3]⟩
def By (hc:c.Valid) (hi:i<(ax c).length):(i<c.next.length/\(ax c).getD i bI=iU c i)∨(c.next.length<=i/\∃ g,g<c.gates.length/\(ax c).getD i bI=gD (mc c g)):=by
 by_cases h:i<c.next.length
 ·left;refine⟨h,?_⟩;rw[ax,cZ (by simpa using h)];simp[List.getD,h]
 ·right;refine⟨by omega,?_⟩;have hm:(ax c).getD i bI∈(iQ c).map gD:=by
   rw[ax] at hi ⊢;rw[cr,ie,rB] at hi;have e:((List.range c.next.length).map (iU c)++(iQ c).map gD).getD i bI=((iQ c).map gD).getD (i-c.next.length) bI:=by
    simp[List.getD,List.getElem?_append_right,show c.next.length<=i by omega]
   rw[e];exact aP (by omega)
  obtain⟨l,hl,e⟩:=List.mem_map.1 hm;obtain⟨g,hg,rfl⟩:=(ro hc).each l hl;exact⟨g,hg,e.symm⟩
def IQ {s:Int}(h:s∈cO [15,15,15] v):s∈v∨s=15:=by
 unfold cO at h;rcases List.mem_append.1 h with h|h
 ·exact .inl h
 ·have:=pt h;simp at this;exact .inr this
def Ao {ab:List (Int×Int)}{t:Int}(h:t∈a9 ab) : ∃ j,j<ab.length/\(ab.getD j (0,0)).1=t:=by
 obtain⟨x,hx,rfl⟩:=List.mem_map.1 h;obtain⟨j,hj,rfl⟩:=fO ((0,0):Int×Int) hx;exact⟨j,hj,rfl⟩
def aq.wf (R:aq c place rs):Wf (bK c place rs):=by
 have key : ∀ n:Nat,∀ r∈rs,r.net.toNat=n->∀ j,j<r.ab.length->Acc (Rel (bK c place rs)) ((r.ab.getD j (0,0)).1,r.track):=by
  intro n;induction n using Nat.strongRecOn with
  | ind n ihn=>
   intro r hr hn j;induction j using Nat.strongRecOn with
   | ind j ihj=>
    intro hj;refine⟨_,fun y hy=>?_⟩;unfold Rel yK at hy;rcases R.k8 hr hj with⟨hd,-,-⟩|⟨hd,hni,i,hi,hnet,ht⟩|⟨h2,h5,m,hm,hnb⟩
    ·rw[if_neg (by rw[hd];omega),if_neg (by rw[hd];omega)] at hy;cases hy
    ·rw[if_neg (by rw[hd];omega)] at hy;split at hy
     ·rename_i hreg;have hcell:=R.cell hi;simp only at hy hreg;rw[ht] at hy hreg;have hsel:((bK c place rs).tiles.getD (place.getD i 0).toNat bE).select=cO [15,15,15] (((ax c).getD i bI).inputs.map fun v=>(e6 c.vars.toNat rs).getD v.toNat 0):=congrArg (fun x=>x.2.1) hcell;have hrg:((bK c place rs).tiles.getD (place.getD i 0).toNat bE).ge=((ax c).getD i bI).ge:=congrArg (fun x=>x.2.2) hcell;rw[hsel] at hy;obtain⟨s,hs,rfl⟩:=List.mem_map.1 hy;obtain⟨hs1,hs2⟩:=List.mem_filter.1 hs;rw[decide_eq_true_eq] at hs2;rcases IQ hs1 with h|h
      ·obtain⟨v,hv,rfl⟩:=List.mem_map.1 h;obtain⟨r',hr',e1,e2,e3⟩:=R.input hi hv;obtain⟨j',hj',e4⟩:=Ao e3;rw[e2,<-e4];rcases By R.v hi with⟨-,hk⟩|⟨-,g,hg,hk⟩
       ·exfalso;rw[hrg,hk] at hreg;have:=hreg.2;unfold iU at this;split at this <;> cases this
       ·rw[hk] at hv hnet;have hb:=(p6 R.v hg).2.2 v hv;have hnet2:c.first+(g:Int)=r.net:=hnet
        have hb0:=(R.bd r' hr').1;exact ihn r'.net.toNat (by omega) r' hr' rfl j' hj'
      ·exact absurd h hs2
     ·cases hy
    ·rw[if_pos ⟨h2,h5⟩] at hy;obtain rfl:=List.mem_singleton.1 hy;simp only;rw[hnb];exact ihj m hm (by omega)
 intro w hw;by_cases hn : ∀ r∈rs,r.track=w.2->w.1∉a9 r.ab
 ·refine⟨_,fun y hy=>?_⟩;unfold Rel yK at hy;rw[R.kV hw hn,if_neg (by omega),if_neg (by omega)] at hy;cases hy
 ·simp only[Classical.not_forall,Classical.not_not] at hn;obtain⟨r,hr,e1,e2⟩:=hn;obtain⟨j,hj,e3⟩:=Ao e2;have:=key _ r hr rfl j hj;rw[e3,e1] at this;exact this
end routed

def xF (V:Wr->Bool) (t s:Int):Bool:=decide (s≠15)&&V (t,s)
def oQ (k:bu) (V:Wr->Bool) (t:Int):Bool:=((k.tiles.getD t.toNat bE).table.toNat).testBit (fA (xF V t) (k.tiles.getD t.toNat bE).select)
def qM (k:bu) (ke ins:List Bool) (V:Wr->Bool) (w:Wr):Bool:=
 if mm k w=6 then ins.getD (w.1/5).toNat false
 else if mm k w=1 then(if(k.tiles.getD w.1.toNat bE).ge then ke.getD w.1.toNat false else oQ k V w.1)
 else if 2<=mm k w/\mm k w<=5 then V (nb w.1 (mm k w),w.2) else false
def IW (k:bu) (ke ins:List Bool) (V:Wr->Bool):Prop:=∀ w,Dj w->V w=qM k ke ins V w
def tO (k:bu) (V:Wr->Bool):List Bool:=(List.range k.pads.length).map fun(o:Nat)=>xF V ((o:Int)*5+4) (k.pads.getD o (0,false)).1 != (k.pads.getD o (0,false)).2
def p9 (k:bu) (V:Wr->Bool):List Bool:=(List.range 25).map fun(t:Nat)=>(k.tiles.getD t bE).ge&&oQ k V (t:Int)
def GW {f:Int->Bool}{g:Int->Int} : ∀ l:List Int,fA f (l.map g)=fA (fun z=>f (g z)) l
 | []=>rfl
 | z::l=>by rw[jC,fA,fA,GW l]
def Iy {f:Int->Bool} : ∀ {l:List Int},(∀ z∈l,f z=false)->fA f l=0
 | [],_=>rfl
 | z::l,h=>by
  rw[fA,h z (ld ..),Iy (fun y hy=>h y (fP _ hy))];rfl
def JS {f:Int->Bool}{m:List Int}(h : ∀ z∈m,f z=false) : ∀ l:List Int,fA f (l++m)=fA f l
 | []=>Iy h
 | z::l=>by rw[List.cons_append,fA,fA,JS h l]
def JH {f g:Int->Bool} : ∀ {l:List Int},(∀ z∈l,f z=g z)->fA f l=fA g l
 | [],_=>rfl
 | z::l,h=>by rw[fA,fA,h z (ld ..),JH (fun y hy=>h y (fP _ hy))]
def F4 {f:Nat->Bool}(h:i<n):((List.range n).map f).getD i false=f i:=by simp[List.getD,h]
section routed
variable {c:ac}{place:List Int}{rs:List Rt}
def px (c:ac) (rs:List Rt) (st ins:List Bool) (w:Wr):Bool:=match rs.find? (fun r=>decide (r.track=w.2/\w.1∈a9 r.ab)) with
 | some r=>VL.valOf c st ins r.net
 | none=>false
def aq.one (R:aq c place rs) {a b:Rt}(ha:a∈rs) (hb:b∈rs) {t:Int}(e:a.track=b.track) (h1:t∈a9 a.ab) (h2:t∈a9 b.ab):a=b:=by
 obtain⟨i,hi,rfl⟩:=fO eQ ha;obtain⟨j,hj,rfl⟩:=fO eQ hb;have hp:=R.apart;rw[zf] at hp;have ei:rs.getD i eQ=rs[i]:=by simp[List.getD,hi]
 have ej:rs.getD j eQ=rs[j]:=by simp[List.getD,hj]
 rw[ei] at e h1;rw[ej] at e h2;rcases Nat.lt_trichotomy i j with h|h|h
 ·exact absurd h2 (hp i j hi hj h e t h1)
 ·subst h;rfl
 ·exact absurd h1 (hp j i hj hi h e.symm t h2)
def aq.s9 (R:aq c place rs) (hr:r∈rs) {t:Int}(ht:t∈a9 r.ab):px c rs st ins (t,r.track)=VL.valOf c st ins r.net:=by
 unfold px;cases h:rs.find? (fun x=>decide (x.track=r.track/\t∈a9 x.ab)) with
 | none=>rw[List.find?_eq_none] at h;exact absurd (h r hr) (by simp[ht])
 | some x=>
  have h2:=List.find?_some h;rw[decide_eq_true_iff] at h2;rw[R.one (List.mem_of_find?_eq_some h) hr h2.1 h2.2 ht]
def aq.yS (hn : ∀ r∈rs,r.track=w.2->w.1∉a9 r.ab):px c rs st ins w=false:=by
 unfold px;rw[List.find?_eq_none.2 (fun r hr=>by simpa using hn r hr)]
def aq.reads (R:aq c place rs) (hi:i<(ax c).length) :
  fA (xF (px c rs st ins) (place.getD i 0)) (cO [15,15,15] (((ax c).getD i bI).inputs.map fun v=>(e6 c.vars.toNat rs).getD v.toNat 0))=fA (VL.valOf c st ins) ((ax c).getD i bI).inputs:=by
 unfold cO;rw[JS (fun z hz=>by
  have:=pt hz;obtain rfl:z=15:=by simpa using this
  rfl),GW]
 refine JH fun v hv=>?_
 obtain⟨r,hr,rfl,e2,e3⟩:=R.input hi hv;have hb:=(R.bd r hr).2.1;rw[e2,xF,R.s9 hr e3,decide_eq_true (by omega),rp]
def aq.FB (R:aq c place rs) (hi:i<(ax c).length):oQ (bK c place rs) (px c rs st ins) (place.getD i 0)=(((ax c).getD i bI).table.toNat).testBit (fA (VL.valOf c st ins) ((ax c).getD i bI).inputs):=by
 have hcell:=R.cell hi;have hsel:((bK c place rs).tiles.getD (place.getD i 0).toNat bE).select=cO [15,15,15] (((ax c).getD i bI).inputs.map fun v=>(e6 c.vars.toNat rs).getD v.toNat 0):=congrArg (fun x=>x.2.1) hcell;have htb:((bK c place rs).tiles.getD (place.getD i 0).toNat bE).table=((ax c).getD i bI).table:=congrArg (fun x=>x.1) hcell;rw[oQ,hsel,htb,R.reads hi]
def aq.ge (R:aq c place rs) {i:Nat}(hi:i<(ax c).length):((bK c place rs).tiles.getD (place.getD i 0).toNat bE).ge=((ax c).getD i bI).ge:=congrArg (fun x=>x.2.2) (R.cell hi)
def aq.qx (R:aq c place rs) (h1:st.length=c.next.length) (h2:(ins.length:Int)=c.inputs) (hi:i<(ax c).length) (hg:g<c.gates.length) (hk:(ax c).getD i bI=gD (mc c g)) :
  oQ (bK c place rs) (px c rs st ins) (place.getD i 0)=VL.valOf c st ins (c.first+(g:Int)):=by
 rw[R.FB hi,hk];exact LB R.v h1 h2 hg
def aq.o5 (R:aq c place rs) (h1:st.length=c.next.length) (h2:(ins.length:Int)=c.inputs) (hi:i<c.next.length) (bW:i<(ax c).length) (hk:(ax c).getD i bI=iU c i) :
  oQ (bK c place rs) (px c rs st ins) (place.getD i 0)=aY (values c st ins) (c.next.getD i 0):=by
 rw[R.FB bW,hk];have hn:=R.v.n _ (aP hi:c.next.getD i 0∈c.next);unfold bj at hn;have hl:aY (values c st ins) (c.next.getD i 0)=(VL.valOf c st ins (c.next.getD i 0/2) != decide (c.next.getD i 0%2=1)):=rfl;rw[hl];unfold iU;split
 ·have hr:fA (VL.valOf c st ins) [c.next.getD i 0/2]=if VL.valOf c st ins (c.next.getD i 0/2) then 1 else 0:=by simp[fA]
  show((2-c.next.getD i 0%2).toNat).testBit (fA (VL.valOf c st ins) [c.next.getD i 0/2])=_
  rw[hr];obtain h|h:c.next.getD i 0%2=0∨c.next.getD i 0%2=1:=by omega
  all_goals rw[h];cases VL.valOf c st ins (c.next.getD i 0/2) <;> decide
 ·rename_i h0;have e0:c.next.getD i 0/2=0:=by omega
  rw[e0,Er];obtain h|h:c.next.getD i 0%2=0∨c.next.getD i 0%2=1:=by omega
  all_goals simp only[h,fA];decide
def qw (c:ac) (place:List Int) (st ke:List Bool):Prop:=∀ i,i<c.next.length->ke.getD (place.getD i 0).toNat false=st.getD i false
def aq.Ln (R:aq c place rs) {ke:List Bool}(h1:st.length=c.next.length) (h2:(ins.length:Int)=c.inputs) (hg:qw c place st ke):IW (bK c place rs) ke ins (px c rs st ins):=by
 intro w hw;by_cases hn : ∀ r∈rs,r.track=w.2->w.1∉a9 r.ab
 ·rw[aq.yS hn,qM,R.kV hw hn,if_neg (by omega),if_neg (by omega),if_neg (by omega)]
 ·simp only[Classical.not_forall,Classical.not_not] at hn;obtain⟨r,hr,e1,e2⟩:=hn;obtain⟨t,u⟩:=w;simp only at e1 e2;subst e1;obtain⟨j,hj,rfl⟩:=Ao e2;rw[R.s9 hr e2,qM];have hb:=R.bd r hr;rcases R.k8 hr hj with⟨hd,hni,ht⟩|⟨hd,hni,i,hi,hnet,ht⟩|⟨g2,g5,m,hm,hnb⟩
  ·rw[if_pos hd,vR h2 (by omega) hni];simp only[ht];congr 2;omega
  ·rw[if_neg (by rw[hd];omega),if_pos hd];simp only[ht];rw[R.ge hi];rcases By R.v hi with⟨k1,hk⟩|⟨-,g,hgg,hk⟩
   ·have hr2:((ax c).getD i bI).ge=true:=by rw[hk];unfold iU;split <;> rfl
    rw[if_pos hr2,hg i k1,<-hnet,hk,xI,M9 h1 h2 k1]
   ·rw[if_neg (by rw[hk];simp[gD]),R.qx h1 h2 hi hgg hk,<-hnet,hk];rfl
  ·rw[if_neg (by omega),if_neg (by omega),if_pos ⟨g2,g5⟩];simp only;rw[hnb,R.s9 hr];exact vP (aP (by omega))
def C8 {trk:List Int} : ∀ (n o:Nat),n<=3->o<n->(iq c trk n).getD o (0,false)=(trk.getD (c.outs.getD o 0/2).toNat 0,decide (c.outs.getD o 0%2=1))
 | 0,o,_,h=>by omega
 | n+1,o,h3,h=>by
  have hs:iq c trk (n+1)=(iq c trk n).set n (trk.getD (c.outs.getD n 0/2).toNat 0,decide (c.outs.getD n 0%2=1)):=by simp only[iq,kK,mM,eO,List.foldl_nil]
  rw[hs];by_cases e:n=o
  ·subst e;rw[dY (by rw[cE];omega)]
  ·rw[oA e];exact C8 n o (by omega) (by omega)
def aq.outs (R:aq c place rs) {st ins:List Bool}:tO (bK c place rs) (px c rs st ins)=rj (values c st ins) c.outs++List.replicate (3-c.outs.length) false:=by
 have hlo:=R.v.lo;have hpl:(bK c place rs).pads.length=3:=cE;have hz:(e6 c.vars.toNat rs).getD 0 0=15:=Da (by have:=R.v.aM;have:=R.v.am;omega) (fun r hr=>(R.bd r hr).1.1);refine oK false (by rw[tO,ie,rB,hpl,cr,EI,mB];omega) fun o ho=>?_
 rw[tO,ie,rB] at ho;rw[tO,F4 ho];have hpd:(bK c place rs).pads=iq c (e6 c.vars.toNat rs) c.outs.length:=rfl;by_cases h:o<c.outs.length
 ·have hl:=R.v.o _ (aP h:c.outs.getD o 0∈c.outs);unfold bj at hl;rw[hpd,C8 _ _ (by omega) h,cZ (by rw[EI];exact h)];have e:(rj (values c st ins) c.outs).getD o false=(VL.valOf c st ins (c.outs.getD o 0/2) != decide (c.outs.getD o 0%2=1)):=by
   rw[rj];simp[List.getD,h];rfl
  rw[e];congr 1;by_cases hv:1<=c.outs.getD o 0/2
  ·obtain⟨r,hr,q1,q2,q3⟩:=R.pad h hv;have hb:=(R.bd r hr).2.1;simp only[q2];rw[xF,R.s9 hr q3,q1,decide_eq_true (by omega),rp]
  ·have e0:c.outs.getD o 0/2=0:=by omega
   simp only[e0];rw[Er,xF,show(e6 c.vars.toNat rs).getD (0:Int).toNat 0=15 from hz];rfl
 ·have e1:(bK c place rs).pads.getD o (0,false)=(15,false):=by rw[hpd];exact AX _ _ (by omega) (by omega)
  rw[e1];have e2:(rj (values c st ins) c.outs++List.replicate (3-c.outs.length) false).getD o false=false:=by
   simp only[List.getD];rw[List.getElem?_append_right (by rw[EI];omega),List.getElem?_replicate];split <;> rfl
  rw[e2];rfl
def aq.next (R:aq c place rs) {st ins:List Bool}(h1:st.length=c.next.length) (h2:(ins.length:Int)=c.inputs):qw c place (rj (values c st ins) c.next) (p9 (bK c place rs) (px c rs st ins)):=by
 intro i hi;have bW:i<(ax c).length:=by simp only[ax,cr,ie,rB];omega
 have hb:=R.p.get bW;rw[p9,F4 (by omega),R.ge bW];rcases By R.v bW with⟨-,hk⟩|⟨k1,-⟩
 ·have hr2:((ax c).getD i bI).ge=true:=by rw[hk];unfold iU;split <;> rfl
  rw[hr2,rp,show(((place.getD i 0).toNat:Nat):Int)=place.getD i 0 by omega,R.o5 h1 h2 hi bW hk,rj];simp[List.getD,hi]
 ·omega
def aq.sV (R:aq c place rs) (hi:i<(ax c).length):0<=((ax c).getD i bI).table/\((ax c).getD i bI).table<256:=by
 rcases By R.v hi with⟨-,hk⟩|⟨-,g,hg,hk⟩
 ·rw[hk];unfold iU;split <;> simp only <;> omega
 ·rw[hk];have hl:=(p6 R.v hg).2.1;have ht:(gD (mc c g)).table=((lV c (c.first+(g:Int)) ((cS c).getD (c.first.toNat+g) []) (2 ^ ((cS c).getD (c.first.toNat+g) []).length):Nat):Int):=rfl;rw[ht];have h1:=yF c (c.first+(g:Int)) ((cS c).getD (c.first.toNat+g) []) (2 ^ ((cS c).getD (c.first.toNat+g) []).length);have h2:2 ^ (2 ^ ((cS c).getD (c.first.toNat+g) []).length)<=2 ^ (2 ^ 3):=uS (by omega) (uS (by omega) hl);have h3:2 ^ (2 ^ 3)=256:=by decide
  omega
def CT:jR 15=true:=by decide
def Gd {u:Int}(h:0<=u/\u<=7):jR u=true:=by simp[jR,h.1,h.2]
def aq.ok (R:aq c place rs):(bK c place rs).ok:=by
 have hT:fE (bK c place rs).tiles:=A6 (xL fE.empty (fun x hx=>(ut R.v x hx).1) R.p _ (aC _)) (fun r hr=>⟨by have:=(R.bd r hr).1;omega,(R.bd r hr).1.2,(R.bd r hr).2.1.1,(R.bd r hr).2.1.2,(R.bd r hr).2.2.1⟩) _;have hpl:(bK c place rs).pads.length=3:=cE;have hlo:=R.v.lo;have hz:(e6 c.vars.toNat rs).getD 0 0=15:=Da (by have:=R.v.aM;have:=R.v.am;omega) (fun r hr=>(R.bd r hr).1.1);have hpd:(bK c place rs).pads=iq c (e6 c.vars.toNat rs) c.outs.length:=rfl;refine⟨hT.1,⟨hpl,fun o ho=>?_⟩,fun t ht=>?_⟩
 ·rw[hpl] at ho;rw[hpd];by_cases h:o<c.outs.length
  ·rw[C8 _ _ (by omega) h];have hl:=R.v.o _ (aP h:c.outs.getD o 0∈c.outs);unfold bj at hl;by_cases hv:1<=c.outs.getD o 0/2
   ·obtain⟨r,hr,q1,q2,q3⟩:=R.pad h hv;simp only[q2];exact Gd (R.bd r hr).2.1
   ·have e0:c.outs.getD o 0/2=0:=by omega
    simp only[e0];rw[show(e6 c.vars.toNat rs).getD (0:Int).toNat 0=15 from hz];exact CT
  ·rw[AX _ _ (by omega) ho];exact CT
 ·rw[hT.1] at ht;have hsz:=hT.get ht;rw[az.cA];have hdr : ∀ u:Nat,u<8->fH (t:Int) (mm (bK c place rs) ((t:Int),(u:Int)))=true:=by
   intro u hu;by_cases hn : ∀ r∈rs,r.track=(u:Int)->(t:Int)∉a9 r.ab
   ·rw[R.kV (w:=((t:Int),(u:Int))) ⟨⟨by simp only;omega,by simp only;omega⟩,by simp only;omega,by simp only;omega⟩ hn];simp[fH]
   ·simp only[Classical.not_forall,Classical.not_not] at hn;obtain⟨r,hr,e1,e2⟩:=hn;obtain⟨j,hj,e3⟩:=Ao e2;have hb:=R.bd r hr;have hi1:=R.v.i1;rw[<-e1,<-e3];unfold fH;rw[decide_eq_true_eq];rcases R.k8 hr hj with⟨hd,hni,h3⟩|⟨hd,-,-⟩|⟨g2,g5,m,hm,hnb⟩
    ·right;right;right;rw[hd,h3];exact⟨rfl,by omega,by omega⟩
    ·right;left;exact hd
    ·right;right;left;refine⟨g2,g5,?_⟩;rw[hnb];exact(hb.2.2.1 _ (aP (by omega))).1
  have hdr2 : ∀ j,j<((bK c place rs).tiles.getD t bE).drive.length->fH (t:Int) (((bK c place rs).tiles.getD t bE).drive.getD j 0)=true:=fun j hj=>hdr j (by rw[hsz.2] at hj;exact hj)
  by_cases hc : ∃ i,i<(ax c).length/\(place.getD i 0).toNat=t
  ·obtain⟨i,hi,rfl⟩:=hc;have hcell:=R.cell hi;have hsel:((bK c place rs).tiles.getD (place.getD i 0).toNat bE).select=cO [15,15,15] (((ax c).getD i bI).inputs.map fun v=>(e6 c.vars.toNat rs).getD v.toNat 0):=congrArg (fun x=>x.2.1) hcell;have htb:((bK c place rs).tiles.getD (place.getD i 0).toNat bE).table=((ax c).getD i bI).table:=congrArg (fun x=>x.1) hcell;have hco:=R.sV hi;refine⟨by rw[htb];exact hco,hsz.1,hsz.2,fun j hj=>?_,hdr2⟩;have hm:((bK c place rs).tiles.getD (place.getD i 0).toNat bE).select.getD j 0∈((bK c place rs).tiles.getD (place.getD i 0).toNat bE).select:=aP hj;generalize ((bK c place rs).tiles.getD (place.getD i 0).toNat bE).select.getD j 0=s at *
   rw[hsel] at hm;rcases IQ hm with h|rfl
   ·obtain⟨v,hv,rfl⟩:=List.mem_map.1 h;obtain⟨r,hr,q1,q2,q3⟩:=R.input hi hv;rw[q2];exact Gd (R.bd r hr).2.1
   ·exact CT
  ·have hbl:=R.blank ht (fun i hi e=>hc ⟨i,hi,e⟩);have hsel:((bK c place rs).tiles.getD t bE).select=[15,15,15]:=congrArg (fun x=>x.2.1) hbl;have htb:((bK c place rs).tiles.getD t bE).table=0:=congrArg (fun x=>x.1) hbl;refine⟨by rw[htb];omega,hsz.1,hsz.2,fun j hj=>?_,hdr2⟩;rw[hsel] at hj ⊢;have hj3:j<3:=hj;obtain rfl|rfl|rfl:j=0∨j=1∨j=2:=by omega
   all_goals rfl
def p8 (k:bu) (V:Nat->Wr->Bool):Nat->List Bool
 | 0=>List.replicate 25 false
 | i+1=>p9 k (V i)
def vH (c:ac) (rs:List Rt) (rows:List (List Bool)) (i:Nat):Wr->Bool:=px c rs (xE c rows i) (rows.getD i [])
def G5 (c:ac) (rows:List (List Bool)) (i:Nat):(xE c rows i).length=c.next.length:=by cases i <;> simp[xE,rj]
def aq.ke (R:aq c place rs) (h : ∀ r∈rows,(r.length:Int)=c.inputs) : ∀ i,i<=rows.length->qw c place (xE c rows i) (p8 (bK c place rs) (vH c rs rows) i)
 | 0,_=>fun i hi=>by
  have e : ∀ n j:Nat,(List.replicate n false).getD j false=false:=fun n j=>by
   rw[List.getD_eq_getElem?_getD,List.getElem?_replicate];split <;> rfl
  rw[p8,xE,e,e]
 | i+1,hi=>R.next (G5 c rows i) (h _ (aP (by omega)))
def aq.run (R:aq c place rs) (h : ∀ r∈rows,(r.length:Int)=c.inputs) (hi:i<rows.length):IW (bK c place rs) (p8 (bK c place rs) (vH c rs rows) i) (rows.getD i []) (vH c rs rows i):=
 R.Ln (G5 c rows i) (h _ (aP hi)) (R.ke h i (by omega))
end routed
end Go.Proofs
