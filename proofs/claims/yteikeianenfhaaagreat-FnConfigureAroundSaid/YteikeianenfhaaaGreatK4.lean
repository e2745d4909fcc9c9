/- Contracts: the program configures a circuit. Conditions: none; lemmas. -/
import Derived.Test.YteikeianenfhaaaGreatC46
import Derived.Test.YteikeianenfhaaaGreatK8
import Derived.Test.YteikeianenfhaaaGreatE1
set_option maxRecDepth 20000
set_option linter.unusedVariables false
set_option linter.unusedSimpArgs false
set_option maxHeartbeats 2000000
namespace Go.Proofs
set_option linter.defProp false
open Go Go.VL Tryz
variable {s v:List Int}{K:List R}{i g k idx off:Nat}{z:D}
def qsg (h:v.length<=s.length):(selS s v).length=s.length:=by
 simp only[selS,yae,List.length_drop];omega
def qqs {a:Int}(h:v.length<s.length):(selS s v).set v.length a=selS s (v ++ [a]):=by
 unfold selS;rw[List.set_append_right _ _ (yad _),Nat.sub_self,yaU h,List.set_cons_zero,yae,yar];rfl
@[go_sem] def zra {y:I}:fit1 K (.eptr i g k idx off z) y=fitS K (.eptr i g k idx off z) y:=qiB nofun
@[go_sem] def zrb {x:I}:fitS K x (.eptr i g k idx off z)=(x=.eptr i g k idx off z):=rfl
def Tryz.c_EmptyConfig:Pure prog 59 [] (dK ⟨List.replicate 25 qaX,List.replicate 3 (15,false)⟩):=by
 have het:=c_emptyTile;refine qax func59 rfl ntmps59 fun ok=>?_
 simp only[go_sem,seval,-List.reduceReplicate] at ok
 repeat' first|assumption|(simp (disch:=first|assumption|omega|(simp;done)|(simp;omega)) only[go_sem,seval,-List.reduceReplicate,yaa,qah,qar,qam,qap,qak])|(with_reducible first|apply And.intro|intro _)|exact lexT|((try rw[qaa]);omega)
 refine qaf (E:=env 0) tok (σ:=Nat) (fun i=>[(0,.ptr 0 0),(1,.ptr 1 0),(3,.d (dI i))])
  (fun i=>[.box [.d .nil,.d .nil],.box [.sl 2 i 4 0 i,.d .nil],.row i 4 true ((List.replicate i qaX).map fun x=>dTc x)]) (fun i=>i<=25) (fun i=>25-i) [(1,0,4,true)] [] 1000 1000 ?_ ?_
 ·simp only[go_sem,seval,-List.reduceReplicate];exact⟨0,by omega,by simp⟩
 ·intro i hi;by_cases hlt:i<25
  ·have hrs:List.replicate (i+1) qaX=List.replicate i qaX ++ [qaX]:=ybh;have hrl:(List.replicate i qaX).length=i:=by simp
   generalize List.replicate i qaX=q at *
   simp only[go_sem,seval,-List.reduceReplicate]
   repeat' first|assumption|(simp (disch:=first|assumption|omega|(simp;done)|(simp;omega)) only[go_sem,seval,-List.reduceReplicate,hrl,yaa,qah,qar,qam,qap,qak])|(with_reducible first|apply And.intro|intro _)|exact lexT|((try rw[qaa]);omega)
   refine qaL (n:=0) [4,6] (fsts [0,1] (.one 2 (.one 3 (.one 4 (.fst 5 (.one 6 .done)))))) ?_;simp only[go_sem,seval,-List.reduceReplicate]
   repeat' first|assumption|(simp (disch:=first|assumption|omega|(simp;done)|(simp;omega)) only[go_sem,seval,-List.reduceReplicate,hrl,yaa,qah,qar,qam,qap,qak])|(with_reducible first|apply And.intro|intro _)|(refine qbr het ?_)|exact lexT|((try rw[qaa]);omega)
   ·simp[qiK];omega
   ·refine⟨i+1,by omega,by omega,rfl,rfl,rfl,?_⟩;rw[qgJ hrl,qgJ hrl,hrs,yaz];rfl
  ·obtain rfl:i=25:=by omega
   repeat' first|assumption|(simp (disch:=first|assumption|omega|(simp;done)|(simp;omega)) only[go_sem,seval,-List.reduceReplicate,yaa,qah,qar,qam,qap,qak])|(with_reducible first|apply And.intro|intro _)|exact lexT|((try rw[qaa]);omega)
   refine qaf (E:=env 0) tok (σ:=Nat) (fun n=>[(0,.ptr 0 0),(1,.ptr 1 0),(12,.d (dI n))])
    (fun n=>[.box [.d .nil,.d .nil],.box [.sl 2 25 4 0 25,.sl 3 n 2 0 n],.row 25 4 true ((List.replicate 25 qaX).map fun x=>dTc x),.row n 2 true ((List.replicate n ((15:Int),false)).map fun x=>dQ x)]) (fun n=>n<=3) (fun n=>3-n) [(1,1,2,true)] [] 1000 1000 ?_ ?_
   ·simp only[go_sem,seval,-List.reduceReplicate];exact⟨0,by omega,by simp⟩
   ·intro n hn;by_cases hnt:n<3
    ·repeat' first|assumption|(simp (disch:=first|assumption|omega|(simp;done)|(simp;omega)) only[go_sem,seval,-List.reduceReplicate,yaa,qah,qar,qam,qap,qak])|(with_reducible first|apply And.intro|intro _)|exact lexT|((try rw[qaa]);omega)
     refine⟨n+1,by omega,by omega,rfl,rfl,rfl,?_⟩;rw[ybh,yaz];rfl
    ·obtain rfl:n=3:=by omega
     repeat' first|assumption|(simp (disch:=first|assumption|omega|(simp;done)|(simp;omega)) only[go_sem,seval,-List.reduceReplicate,yaa,qah,qar,qam,qap,qak])|(with_reducible first|apply And.intro|intro _)|exact lexT|((try rw[qaa]);omega)
def Tryz.c_source (c:Circ) (hc : -1000<=c.inputs/\c.inputs<=1000) (net:Int) (h:Int×Int) (hh:0<=h.1/\h.1<=24):Pure prog 133 [pC c,dI net,dP h] (dI (srcC c net h)):=by
 have hnb:=c_neighbours h.1 hh;refine qax func133 rfl ntmps133 fun ok=>?_
 simp only[go_sem,seval,-List.reduceReplicate] at ok
 repeat' first|assumption|(simp (disch:=first|assumption|omega|(simp;done)|(simp;omega)) only[go_sem,seval,-List.reduceReplicate,yaa,qah,qar,qam,qap,qak])|(with_reducible first|apply And.intro|intro _)|(refine qac hnb ?_)|exact lexT|((try rw[qaa]);omega)
 ·rw[srcC,if_pos (by omega),if_pos (by omega)]
 ·rw[srcC,if_pos (by omega),if_neg (by omega)]
 ·have hs:srcC c net h=if nb h.1 2=h.2 then 2 else if nb h.1 3=h.2 then 3 else if nb h.1 4=h.2 then 4 else if nb h.1 5=h.2 then 5 else 0:=by rw[srcC,if_neg (by omega)]
  have e2:nb h.1 2=nbUp h.1:=rfl;have e3:nb h.1 3=qd2 h.1:=rfl;have e4:nb h.1 4=qcN h.1:=rfl;have e5:nb h.1 5=qd3 h.1:=rfl;rw[e2,e3,e4,e5] at hs;rw[hs];refine qgt (E:=env 0) tok 6 1000 1000 ?_;refine qa4 ?_
  repeat' first|assumption|(simp (disch:=first|assumption|omega|(simp;done)|(simp;omega)) only[go_sem,seval,-List.reduceReplicate,yaa,qah,qar,qam,qap,qak])|(with_reducible first|apply And.intro|intro _)|exact lexT|((try rw[qaa]);omega)
  rename_i h9;rw[if_neg h9];refine qa4 ?_
  repeat' first|assumption|(simp (disch:=first|assumption|omega|(simp;done)|(simp;omega)) only[go_sem,seval,-List.reduceReplicate,yaa,qah,qar,qam,qap,qak])|(with_reducible first|apply And.intro|intro _)|exact lexT|((try rw[qaa]);omega)
  rename_i h9;rw[if_neg h9];refine qa4 ?_
  repeat' first|assumption|(simp (disch:=first|assumption|omega|(simp;done)|(simp;omega)) only[go_sem,seval,-List.reduceReplicate,yaa,qah,qar,qam,qap,qak])|(with_reducible first|apply And.intro|intro _)|exact lexT|((try rw[qaa]);omega)
  rename_i h9;rw[if_neg h9];refine qa4 ?_
  repeat' first|assumption|(simp (disch:=first|assumption|omega|(simp;done)|(simp;omega)) only[go_sem,seval,-List.reduceReplicate,yaa,qah,qar,qam,qap,qak])|(with_reducible first|apply And.intro|intro _)|exact lexT|((try rw[qaa]);omega)
  rename_i h9;rw[if_neg h9];refine qa4 ?_
  repeat' first|assumption|(simp (disch:=first|assumption|omega|(simp;done)|(simp;omega)) only[go_sem,seval,-List.reduceReplicate,yaa,qah,qar,qam,qap,qak])|(with_reducible first|apply And.intro|intro _)|exact lexT|((try rw[qaa]);omega)
set_option maxHeartbeats 4000000 in
def Tryz.c_configure (c:Circ) (hc:c.Valid) (place:List Int) (hp:PlaceOk (qae c).length place) (rs:List Rt) (hrt : ∀ r∈rs,1<=r.net/\r.net<c.vars/\0<=r.track/\r.track<=7/\∀ h∈r.hops,0<=h.1/\h.1<=24) (hrl : ∀ r∈rs,r.hops.length<=1000) (hrr:rs.length<=1000)
  (hnd:(rs.map (·.net)).Nodup) (hin : ∀ x∈qae c,∀ v∈x.inputs,∃ r∈rs,r.net=v) (hout : ∀ l∈c.outs,1<l->∃ r∈rs,r.net=l/2) :
  Pure prog 71 [pC c,dIs place,dRts rs] (dK (qhL c (qae c) place rs)):=by
 have hce:=c_Cells c hc;have hcl:=qby hc;have hcx:=qdk hc;refine qcf (E:=env 0) tok rfl 1000 func71 rfl rfl ntmps71 (by simp) fun ok=>?_
 simp only[go_sem,seval,-List.reduceReplicate] at ok
 repeat' first|assumption|(simp (disch:=first|assumption|omega|(simp;done)|(simp;omega)) only[go_sem,seval,-List.reduceReplicate,yaa,qah,qar,qam,qap,qak])|(with_reducible first|apply And.intro|intro _)|(refine qbr c_EmptyConfig ?_)|(refine qbJ hce ?_)|exact lexT|((try rw[qaa]);omega)
 have hB:qhL c (qae c) place rs=⟨qbs (qaP c.vars.toNat rs) (qae c) place (rtsT c rs (List.replicate 25 qaX) rs.length) (qae c).length,qdj c (qaP c.vars.toNat rs) c.outs.length⟩:=by rw[qlO];rfl
 rw[hB];clear hB;have hlook:=fun v=>qlP (vars:=c.vars.toNat) hnd (fun r hr=>by have:=hrt r hr;omega) (v:=v)
 have hz:(qaP c.vars.toNat rs).getD 0 0=15:=qfo (by have:=hc.vars_bd;have:=hc.first_bd;omega) (fun r hr=>(hrt r hr).1);generalize qaP c.vars.toNat rs=trk at *
 generalize qae c=cells at *
 refine qaf (E:=env 0) tok (σ:=Nat) (fun i=>[(0,.d (pC c)),(1,.d (dIs place)),(6,.ptr 0 0),(7,.ptr 3 0),(8,.map 4),(9,.d (dCes cells)),(27,.d (dRts rs)),(28,.d (dI rs.length)),(29,.d (dI i))])
  (fun i=>[.box [.d .nil,.d .nil],.row 0 4 true ((rtsT c rs (List.replicate 25 qaX) i).map fun x=>dTc x),.row 0 2 true ((List.replicate 3 ((15:Int),false)).map fun x=>dQ x),.box [.sl 1 0 4 0 25,.sl 2 0 2 0 3],.map (rtE (rs.take i))]) (fun i=>i<=rs.length) (fun i=>rs.length-i) [] [] 1000 1000 ?_ ?_
 ·simp only[go_sem,seval,-List.reduceReplicate];refine⟨0,by omega,?_⟩
  repeat' apply And.intro
  all_goals rfl
 ·intro i hi;have hsz:=qkK (c:=c) Tsz.empty (fun r hr=>by have:=hrt r hr;exact⟨by omega,this.2⟩) i;by_cases hlt:i<rs.length
  ·have hst:rtsT c rs (List.replicate 25 qaX) (i+1)=hopW c (rs.getD i rt0) (rtsT c rs (List.replicate 25 qaX) i) (rs.getD i rt0).hops.length:=qaA (f:=fun T (r:Rt)=>hopW c r T r.hops.length) (b:=List.replicate 25 qaX) rt0 hlt;have hmE:=qr3 hlt;have hne:=qmN hnd hlt;have hrr2:=hrt _ (qad hlt:rs.getD i rt0∈rs);have hhl:=hrl _ (qad hlt:rs.getD i rt0∈rs);have hup:=qqb (rs.getD i rt0).net (dI (rs.getD i rt0).track) _ hne;have hks:=qnC;generalize rtsT c rs (List.replicate 25 qaX) i=T at *
   generalize hr9:rs.getD i rt0=r at *
   generalize hm9:rtE (rs.take i)=m at *
   repeat' first|assumption|(simp (disch:=first|assumption|omega|(simp;done)|(simp;omega)) only[go_sem,seval,-List.reduceReplicate,hr9,hup,yaa,qah,qar,qam,qap,qak])|(with_reducible first|apply And.intro|intro _)|exact lexT|((try rw[qaa]);omega)
   all_goals first|(rw[<-hm9];exact hks _)|skip
   refine qaf (E:=env 0) tok (σ:=Nat) (fun j=>[(0,.d (pC c)),(1,.d (dIs place)),(6,.ptr 0 0),(7,.ptr 3 0),(8,.map 4),(9,.d (dCes cells)),(27,.d (dRts rs)),(28,.d (dI rs.length)),(29,.d (dI i)),(11,.ptr 5 0),(39,.d (dPs r.hops)),(40,.d (dI r.hops.length)),(41,.d (dI j))])
    (fun j=>[.box [.d .nil,.d .nil],.row 0 4 true ((hopW c r T j).map fun x=>dTc x),.row 0 2 true ((List.replicate 3 ((15:Int),false)).map fun x=>dQ x),.box [.sl 1 0 4 0 25,.sl 2 0 2 0 3],.map (m ++ [(dI r.net,dI r.track)]),.box [.d (dI r.net),.d (dI r.track),.d (dPs r.hops)]]) (fun j=>j<=r.hops.length) (fun j=>r.hops.length-j) [] [] 1000 1000 ?_ ?_
   ·simp only[go_sem,seval,-List.reduceReplicate];exact⟨0,by omega,rfl,rfl⟩
   ·intro j hj;have hszj:=qfD (c:=c) hsz hrr2.2.2.2.2 j;by_cases hjt:j<r.hops.length
    ·have hsj:hopW c r T (j+1)=hopT c r (hopW c r T j) (r.hops.getD j (0,0)):=qaA (f:=hopT c r) (b:=T) ((0,0):Int×Int) hjt;have hh:=hrr2.2.2.2.2 _ (qad hjt:r.hops.getD j (0,0)∈r.hops);have hsrc:=c_source c (by have:=hc.i0;have:=hc.i1;omega) r.net _ hh;generalize hopW c r T j=U at *
     generalize hh9:r.hops.getD j (0,0)=h at *
     have htsu:=hszj.get (i:=h.1.toNat) (by omega);have hUl:=hszj.1;have hdl:(U.getD h.1.toNat tc0).drive.length=8:=htsu.2;generalize hu9:U.getD h.1.toNat tc0=u at *
     repeat' first|assumption|(simp (disch:=first|assumption|omega|(simp;done)|(simp;omega)) only[go_sem,seval,-List.reduceReplicate,hr9,hh9,hu9,yaa,qah,qar,qam,qap,qak])|(with_reducible first|apply And.intro|intro _)|(refine qac hsrc ?_)|exact lexT|((try rw[qaa]);omega)
     refine qaL (n:=0) [15] (fsts [0,2,7,9,10,1,3,4,5,6,8,11,12] (.one 13 (.fst 14 (.one 15 .done)))) ?_
     repeat' first|assumption|(simp (disch:=first|assumption|omega|(simp;done)|(simp;omega)) only[go_sem,seval,-List.reduceReplicate,hr9,hh9,hu9,qc0,qc7,qc8,yaa,qah,qar,qam,qap,qak])|(with_reducible first|apply And.intro|intro _)|(refine qac hsrc ?_)|exact lexT|((try rw[qaa]);omega)
     refine⟨j+1,by omega,by omega,rfl,?_⟩;rw[hsj];unfold hopT;rw[hu9];refine qhZ (by decide) (z:=tc0) (by omega) ?_;rw[hu9];rfl
    ·obtain rfl:j=r.hops.length:=by omega
     repeat' first|assumption|(simp (disch:=first|assumption|omega|(simp;done)|(simp;omega)) only[go_sem,seval,-List.reduceReplicate,hr9,yaa,qah,qar,qam,qap,qak])|(with_reducible first|apply And.intro|intro _)|exact lexT|((try rw[qaa]);omega)
     refine⟨i+1,by omega,by omega,?_⟩;rw[hst,hmE];exact⟨rfl,rfl,rfl⟩
  ·obtain rfl:i=rs.length:=by omega
   rw[yaA];generalize rtsT c rs (List.replicate 25 qaX) rs.length=T0 at *
   have hks:=qnC rs
   repeat' first|assumption|(simp (disch:=first|assumption|omega|(simp;done)|(simp;omega)) only[go_sem,seval,-List.reduceReplicate,yaa,qah,qar,qam,qap,qak])|(with_reducible first|apply And.intro|intro _)|exact lexT|((try rw[qaa]);omega)
   refine qaf (E:=env 0) tok (σ:=Nat) (fun i=>[(0,.d (pC c)),(1,.d (dIs place)),(6,.ptr 0 0),(7,.ptr 3 0),(8,.map 4),(62,.d (dCes cells)),(63,.d (dI cells.length)),(64,.d (dI i))])
    (fun i=>[.box [.d .nil,.d .nil],.row 0 4 true ((qbs trk cells place T0 i).map fun x=>dTc x),.row 0 2 true ((List.replicate 3 ((15:Int),false)).map fun x=>dQ x),.box [.sl 1 0 4 0 25,.sl 2 0 2 0 3],.map (rtE rs)]) (fun i=>i<=cells.length) (fun i=>cells.length-i) [] [] 1000 1000 ?_ ?_
   ·simp only[go_sem,seval,-List.reduceReplicate];exact⟨0,by omega,rfl,rfl⟩
   ·intro i hi;have hszi:=qey (trk:=trk) hsz (fun x hx=>(hcx x hx).1) hp i hi;by_cases hlt:i<cells.length
    ·have hst:qbs trk cells place T0 (i+1)=(qbs trk cells place T0 i).set (place.getD i 0).toNat (cellT trk (cells.getD i ce0) ((qbs trk cells place T0 i).getD (place.getD i 0).toNat tc0)):=rfl;have hp1:=hp.get hlt;have hpl:=hp.len;have hxi:=hcx _ (qad hlt:cells.getD i ce0∈cells);have hxr:=hin _ (qad hlt:cells.getD i ce0∈cells);have hts:=hszi.get (i:=(place.getD i 0).toNat) (by omega);have hTl:=hszi.1;generalize qbs trk cells place T0 i=T at *
     generalize hp9:place.getD i 0=p at *
     generalize hx9:cells.getD i ce0=x at *
     generalize ht9:T.getD p.toNat tc0=t at *
     repeat' first|assumption|(simp (disch:=first|assumption|omega|(simp;done)|(simp;omega)) only[go_sem,seval,-List.reduceReplicate,hp9,hx9,ht9,qc0,qc7,qc8,yaa,qah,qar,qam,qap,qak])|(with_reducible first|apply And.intro|intro _)|exact lexT|((try rw[qaa]);omega)
     obtain⟨xn,xi,xt,xr⟩:=x;simp only at hxi hxr;have hsl:t.select.length=3:=hts.1;have hdl:t.drive.length=8:=hts.2;rw[List.set_set];refine qaf (E:=env 0) tok (σ:=Nat) (fun n=>[(0,.d (pC c)),(1,.d (dIs place)),(6,.ptr 0 0),(7,.ptr 3 0),(8,.map 4),(62,.d (dCes cells)),(63,.d (dI cells.length)),(64,.d (dI i)),(16,.eptr 1 0 4 p.toNat 0 (.agg [.int .i64 0,.nil,.bool false,.nil])),(87,.d (dIs xi)),(88,.d (dI xi.length)),(89,.d (dI n))])
      (fun n=>[.box [.d .nil,.d .nil],.row 0 4 true ((T.set p.toNat ⟨xt,selS t.select ((xi.take n).map fun v=>trk.getD v.toNat 0),xr,t.drive⟩).map fun x=>dTc x),.row 0 2 true ((List.replicate 3 ((15:Int),false)).map fun x=>dQ x),.box [.sl 1 0 4 0 25,.sl 2 0 2 0 3],.map (rtE rs)]) (fun n=>n<=xi.length) (fun n=>xi.length-n) [] [] 1000 1000 ?_ ?_
     ·simp only[go_sem,seval,-List.reduceReplicate];refine⟨0,by omega,rfl,?_⟩;rw[qiY];rfl
     ·intro n hn;by_cases hnt:n<xi.length
      ·have hts2:=qaT (f:=fun v:Int=>trk.getD v.toNat 0) (0:Int) hnt;have hlk:=hlook _ (hxr _ (qad hnt:xi.getD n 0∈xi));have hvl:((xi.take n).map fun v=>trk.getD v.toNat 0).length=n:=by rw[yaw,yaP];omega
       have hss:=qsg (s:=t.select) (v:=(xi.take n).map fun v=>trk.getD v.toNat 0) (by omega);have hsn:=qqs (s:=t.select) (v:=(xi.take n).map fun v=>trk.getD v.toNat 0) (a:=trk.getD (xi.getD n 0).toNat 0) (by omega);rw[hvl,<-hts2] at hsn;generalize hv9:xi.getD n 0=v at *
       generalize hs9:selS t.select ((xi.take n).map fun v=>trk.getD v.toNat 0)=sl at *
       have hTg : ∀ z,((T.set p.toNat ⟨xt,sl,xr,t.drive⟩).map fun x=>dTc x).getD p.toNat z=dTc ⟨xt,sl,xr,t.drive⟩:=fun z=>by rw[qam (by rw[yas];omega),qak (by omega)]
       have hsl3:sl.length=3:=by omega
       repeat' first|assumption|(simp (disch:=first|assumption|omega|(simp;done)|(simp;omega)) only[go_sem,seval,-List.reduceReplicate,hv9,hTg,hlk,qc0,qc7,qc8,yaa,qah,qar,qam,qap,qak])|(with_reducible first|apply And.intro|intro _)|exact lexT|((try rw[qaa]);omega)
       refine qaL (n:=0) [9] (fsts [0,1,2,4,5,6,3,7,8] (.one 9 .done)) ?_
       repeat' first|assumption|(simp (disch:=first|assumption|omega|(simp;done)|(simp;omega)) only[go_sem,seval,-List.reduceReplicate,hv9,hTg,hlk,qc0,qc7,qc8,yaa,qah,qar,qam,qap,qak])|(with_reducible first|apply And.intro|intro _)|exact lexT|((try rw[qaa]);omega)
       refine⟨n+1,by omega,by omega,rfl,?_⟩;rw[hsn];have e:T.set p.toNat ⟨xt,selS t.select ((xi.take (n+1)).map fun v=>trk.getD v.toNat 0),xr,t.drive⟩=(T.set p.toNat ⟨xt,sl,xr,t.drive⟩).set p.toNat ⟨xt,selS t.select ((xi.take (n+1)).map fun v=>trk.getD v.toNat 0),xr,t.drive⟩:=by rw[List.set_set]
       rw[e];refine qhZ (by decide) (z:=tc0) (by rw[yas];omega) ?_;rw[qak (by omega)];rfl
      ·obtain rfl:n=xi.length:=by omega
       rw[yaA]
       repeat' first|assumption|(simp (disch:=first|assumption|omega|(simp;done)|(simp;omega)) only[go_sem,seval,-List.reduceReplicate,yaa,qah,qar,qam,qap,qak])|(with_reducible first|apply And.intro|intro _)|exact lexT|((try rw[qaa]);omega)
       refine⟨i+1,by omega,by omega,rfl,?_⟩;rw[hst];rfl
    ·obtain rfl:i=cells.length:=by omega
     generalize qbs trk cells place T0 cells.length=T1 at *
     repeat' first|assumption|(simp (disch:=first|assumption|omega|(simp;done)|(simp;omega)) only[go_sem,seval,-List.reduceReplicate,yaa,qah,qar,qam,qap,qak])|(with_reducible first|apply And.intro|intro _)|exact lexT|((try rw[qaa]);omega)
     refine qaf (E:=env 0) tok (σ:=Nat) (fun o=>[(6,.ptr 0 0),(7,.ptr 3 0),(8,.map 4),(108,.d (dIs c.outs)),(109,.d (dI c.outs.length)),(110,.d (dI o))])
      (fun o=>[.box [.d .nil,.d .nil],.row 0 4 true (T1.map fun x=>dTc x),.row 0 2 true ((qdj c trk o).map fun x=>dQ x),.box [.sl 1 0 4 0 25,.sl 2 0 2 0 3],.map (rtE rs)]) (fun o=>o<=c.outs.length) (fun o=>c.outs.length-o) [] [] 1000 1000 ?_ ?_
     ·simp only[go_sem,seval,-List.reduceReplicate];refine⟨0,by omega,?_⟩
      repeat' apply And.intro
      all_goals rfl
     ·intro o ho;have hlo:=hc.lo;by_cases hlt:o<c.outs.length
      ·have hov:=hc.o _ (qad hlt:c.outs.getD o 0∈c.outs);have hou:=hout _ (qad hlt:c.outs.getD o 0∈c.outs);have hst:qdj c trk (o+1)=(qdj c trk o).set o (trk.getD (c.outs.getD o 0/2).toNat 0,decide (c.outs.getD o 0%2=1)):=by simp only[qdj,yaH,yaM,yao,List.foldl_nil]
       have hpl:=@padsT_len c trk o;have hrest:=qfE (c:=c) (trk:=trk) o o (yad _) (by omega);generalize qdj c trk o=q at *
       generalize ho9:c.outs.getD o 0=v at *
       have hov1:0<=v/\v<2*c.vars:=by
        have:=hov;unfold qaY at this;omega
       have hqg : ∀ z,(q.map fun x=>dQ x).getD o z=dQ (15,false):=fun z=>by rw[qap (by omega),hrest]
       have hlk:1<v->qcP (rtE rs) (dI (v/2))=some (dI (trk.getD (v/2).toNat 0)):=fun h=>hlook _ (hou h)
       by_cases hv1:1<v
       ·have hlk1:=hlk hv1
        repeat' first|assumption|(simp (disch:=first|assumption|omega|(simp;done)|(simp;omega)) only[go_sem,seval,-List.reduceReplicate,ho9,hqg,hlk1,yaa,qah,qar,qam,qap,qak])|(with_reducible first|apply And.intro|intro _)|exact lexT|((try rw[qaa]);omega)
        refine⟨o+1,by omega,by omega,rfl,?_⟩;rw[hst,List.set_set,qs7 hov1.1,List.map_set]
       ·repeat' first|assumption|(simp (disch:=first|assumption|omega|(simp;done)|(simp;omega)) only[go_sem,seval,-List.reduceReplicate,ho9,hqg,yaa,qah,qar,qam,qap,qak])|(with_reducible first|apply And.intro|intro _)|exact lexT|((try rw[qaa]);omega)
        refine⟨o+1,by omega,by omega,rfl,?_⟩;rw[hst,qs7 hov1.1,List.map_set,show(v/2).toNat=0 by omega,hz]
      ·obtain rfl:o=c.outs.length:=by omega
       repeat' first|assumption|(simp (disch:=first|assumption|omega|(simp;done)|(simp;omega)) only[go_sem,seval,-List.reduceReplicate,yaa,qah,qar,qam,qap,qak])|(with_reducible first|apply And.intro|intro _)|exact lexT|((try rw[qaa]);omega)
       ·exact hszi.1.symm
       ·exact padsT_len.symm
end Go.Proofs
