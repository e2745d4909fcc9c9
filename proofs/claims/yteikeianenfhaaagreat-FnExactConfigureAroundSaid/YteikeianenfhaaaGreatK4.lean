/- Contracts: the program configures a circuit. Conditions: none; lemmas. -/
import Derived.Test.YteikeianenfhaaaGreatC10
import Derived.Test.YteikeianenfhaaaGreatK3
import Derived.Test.YteikeianenfhaaaGreatD9
set_option maxRecDepth 20000
set_option linter.unusedVariables false
set_option linter.unusedSimpArgs false
namespace Go.Proofs
open Go Go.VL
theorem qrm {s v:List Int}(h:v.length<=s.length):(selS s v).length=s.length:=by
 simp only[selS,yag,List.length_drop];omega
theorem qpI {s v:List Int}{a:Int}(h:v.length<s.length):(selS s v).set v.length a=selS s (v ++ [a]):=by
 unfold selS;rw[List.set_append_right _ _ (yad _),Nat.sub_self,yaM h,List.set_cons_zero,yag,yaq];rfl
@[go_sem] theorem fit1_eptr {K:List R}{i g k idx off:Nat}{z:D}{y:I}:fit1 K (.eptr i g k idx off z) y=fitS K (.eptr i g k idx off z) y:=qid nofun
@[go_sem] theorem fitS_eptr {K:List R}{x:I}{i g k idx off:Nat}{z:D}:fitS K x (.eptr i g k idx off z)=(x=.eptr i g k idx off z):=rfl
theorem Tryz.c_EmptyConfig:Pure Tryz.prog 59 [] (dK ⟨List.replicate 25 qaX,List.replicate 3 (15,false)⟩):=by
 have het:=Tryz.c_emptyTile;refine qas (E:=Tryz.env 0) Tryz.tok rfl 1000 Tryz.func59 rfl rfl Tryz.ntmps59 (by simp) fun ok=>?_
 simp only[go_sem,seval,-List.reduceReplicate] at ok;simp only[go_sem,seval,-List.reduceReplicate]
 repeat' first|assumption|(simp (disch:=first|assumption|omega|(simp;done)|(simp;omega)) only[qaa,qac,yaa,qab,qae,qaf,qah,qai,qam,qaa,qan,qau,qag];try simp only[go_sem,seval,-List.reduceReplicate])|(with_reducible first|refine And.intro ?_ ?_|intro _)|((with_reducible (show Region.lexB _ _=true));kernel_rfl)|((try rw[qad]);omega)
 refine qap (E:=Tryz.env 0) Tryz.tok (σ:=Nat) (fun i=>[(0,.ptr 0 0),(1,.ptr 1 0),(3,.d (dI i))])
  (fun i=>[.box [.d .nil,.d .nil],.box [.sl 2 i 4 0 i,.d .nil],.row i 4 true ((List.replicate i qaX).map fun x=>dTc x)]) (fun i=>i<=25) (fun i=>25-i) [(1,0,4,true)] [] 1000 1000 ?_ ?_
 ·simp only[go_sem,seval,-List.reduceReplicate];exact⟨0,by omega,by simp⟩
 ·intro i hi;by_cases hlt:i<25
  ·have hrs:List.replicate (i+1) qaX=List.replicate i qaX ++ [qaX]:=ybb;have hrl:(List.replicate i qaX).length=i:=by simp
   generalize List.replicate i qaX=q at *
   simp only[go_sem,seval,-List.reduceReplicate]
   repeat' first|assumption|(simp (disch:=first|assumption|omega|(simp;done)|(simp;omega)) only[qaa,qac,yaa,qab,qae,qaf,qah,qai,qam,qaa,qan,qau,qag];try simp only[go_sem,seval,-List.reduceReplicate,hrl])|(with_reducible first|refine And.intro ?_ ?_|intro _)|((with_reducible (show Region.lexB _ _=true));kernel_rfl)|((try rw[qad]);omega)
   refine qaL (E:=Tryz.env 0) Tryz.tok Tryz.follows 1000 1000 [4,6] (.fst 0 (.fst 1 (.one 2 (.one 3 (.one 4 (.fst 5 (.one 6 (.done)))))))) (by kernel_rfl) ?_;simp only[go_sem,seval,-List.reduceReplicate]
   repeat' first|assumption|(simp (disch:=first|assumption|omega|(simp;done)|(simp;omega)) only[qaa,qac,yaa,qab,qae,qaf,qah,qai,qam,qaa,qan,qau,qag];try simp only[go_sem,seval,-List.reduceReplicate,hrl])|(with_reducible first|refine And.intro ?_ ?_|intro _)|(refine qb8 het ?_;simp only[go_sem,seval,-List.reduceReplicate,hrl])|((with_reducible (show Region.lexB _ _=true));kernel_rfl)|((try rw[qad]);omega)
   ·simp[qin];omega
   ·refine⟨i+1,by omega,by omega,rfl,rfl,rfl,?_⟩;rw[qgx hrl,qgx hrl,hrs,yaC];rfl
  ·obtain rfl:i=25:=by omega
   simp only[go_sem,seval,-List.reduceReplicate]
   repeat' first|assumption|(simp (disch:=first|assumption|omega|(simp;done)|(simp;omega)) only[qaa,qac,yaa,qab,qae,qaf,qah,qai,qam,qaa,qan,qau,qag];try simp only[go_sem,seval,-List.reduceReplicate])|(with_reducible first|refine And.intro ?_ ?_|intro _)|((with_reducible (show Region.lexB _ _=true));kernel_rfl)|((try rw[qad]);omega)
   refine qap (E:=Tryz.env 0) Tryz.tok (σ:=Nat) (fun n=>[(0,.ptr 0 0),(1,.ptr 1 0),(12,.d (dI n))])
    (fun n=>[.box [.d .nil,.d .nil],.box [.sl 2 25 4 0 25,.sl 3 n 2 0 n],.row 25 4 true ((List.replicate 25 qaX).map fun x=>dTc x),.row n 2 true ((List.replicate n ((15:Int),false)).map fun x=>dQ x)]) (fun n=>n<=3) (fun n=>3-n) [(1,1,2,true)] [] 1000 1000 ?_ ?_
   ·simp only[go_sem,seval,-List.reduceReplicate];exact⟨0,by omega,by simp⟩
   ·intro n hn;by_cases hnt:n<3
    ·simp only[go_sem,seval,-List.reduceReplicate]
     repeat' first|assumption|(simp (disch:=first|assumption|omega|(simp;done)|(simp;omega)) only[qaa,qac,yaa,qab,qae,qaf,qah,qai,qam,qaa,qan,qau,qag];try simp only[go_sem,seval,-List.reduceReplicate])|(with_reducible first|refine And.intro ?_ ?_|intro _)|((with_reducible (show Region.lexB _ _=true));kernel_rfl)|((try rw[qad]);omega)
     refine⟨n+1,by omega,by omega,rfl,rfl,rfl,?_⟩;rw[ybb,yaC];rfl
    ·obtain rfl:n=3:=by omega
     simp only[go_sem,seval,-List.reduceReplicate]
     repeat' first|assumption|(simp (disch:=first|assumption|omega|(simp;done)|(simp;omega)) only[qaa,qac,yaa,qab,qae,qaf,qah,qai,qam,qaa,qan,qau,qag];try simp only[go_sem,seval,-List.reduceReplicate])|(with_reducible first|refine And.intro ?_ ?_|intro _)|((with_reducible (show Region.lexB _ _=true));kernel_rfl)|((try rw[qad]);omega)
theorem Tryz.c_source (c:Circ) (hc : -1000<=c.inputs/\c.inputs<=1000) (net:Int) (h:Int×Int) (hh:0<=h.1/\h.1<=24):Pure Tryz.prog 133 [pC c,dI net,dP h] (dI (srcC c net h)):=by
 have hnb:=Tryz.c_neighbours h.1 hh;refine qas (E:=Tryz.env 0) Tryz.tok rfl 1000 Tryz.func133 rfl rfl Tryz.ntmps133 (by simp) fun ok=>?_
 simp only[go_sem,seval,-List.reduceReplicate] at ok;simp only[go_sem,seval,-List.reduceReplicate]
 repeat' first|assumption|(simp (disch:=first|assumption|omega|(simp;done)|(simp;omega)) only[qaa,qac,yaa,qab,qae,qaf,qah,qai,qam,qaa,qan,qau,qag];try simp only[go_sem,seval,-List.reduceReplicate])|(with_reducible first|refine And.intro ?_ ?_|intro _)|(refine qaj hnb ?_;simp only[go_sem,seval,-List.reduceReplicate])|((with_reducible (show Region.lexB _ _=true));kernel_rfl)|((try rw[qad]);omega)
 ·rw[srcC,if_pos (by omega),if_pos (by omega)]
 ·rw[srcC,if_pos (by omega),if_neg (by omega)]
 ·have hs:srcC c net h=if nb h.1 2=h.2 then 2 else if nb h.1 3=h.2 then 3 else if nb h.1 4=h.2 then 4 else if nb h.1 5=h.2 then 5 else 0:=by rw[srcC,if_neg (by omega)]
  have e2:nb h.1 2=nbUp h.1:=rfl;have e3:nb h.1 3=qeL h.1:=rfl;have e4:nb h.1 4=qdh h.1:=rfl;have e5:nb h.1 5=qeM h.1:=rfl;rw[e2,e3,e4,e5] at hs;rw[hs];refine qga (E:=Tryz.env 0) Tryz.tok 6 1000 1000 ?_;refine qa5 ?_;simp only[go_sem,seval,-List.reduceReplicate]
  repeat' first|assumption|(simp (disch:=first|assumption|omega|(simp;done)|(simp;omega)) only[qaa,qac,yaa,qab,qae,qaf,qah,qai,qam,qaa,qan,qau,qag];try simp only[go_sem,seval,-List.reduceReplicate])|(with_reducible first|refine And.intro ?_ ?_|intro _)|((with_reducible (show Region.lexB _ _=true));kernel_rfl)|((try rw[qad]);omega)
  rename_i h9;rw[if_neg h9];refine qa5 ?_;simp only[go_sem,seval,-List.reduceReplicate]
  repeat' first|assumption|(simp (disch:=first|assumption|omega|(simp;done)|(simp;omega)) only[qaa,qac,yaa,qab,qae,qaf,qah,qai,qam,qaa,qan,qau,qag];try simp only[go_sem,seval,-List.reduceReplicate])|(with_reducible first|refine And.intro ?_ ?_|intro _)|((with_reducible (show Region.lexB _ _=true));kernel_rfl)|((try rw[qad]);omega)
  rename_i h9;rw[if_neg h9];refine qa5 ?_;simp only[go_sem,seval,-List.reduceReplicate]
  repeat' first|assumption|(simp (disch:=first|assumption|omega|(simp;done)|(simp;omega)) only[qaa,qac,yaa,qab,qae,qaf,qah,qai,qam,qaa,qan,qau,qag];try simp only[go_sem,seval,-List.reduceReplicate])|(with_reducible first|refine And.intro ?_ ?_|intro _)|((with_reducible (show Region.lexB _ _=true));kernel_rfl)|((try rw[qad]);omega)
  rename_i h9;rw[if_neg h9];refine qa5 ?_;simp only[go_sem,seval,-List.reduceReplicate]
  repeat' first|assumption|(simp (disch:=first|assumption|omega|(simp;done)|(simp;omega)) only[qaa,qac,yaa,qab,qae,qaf,qah,qai,qam,qaa,qan,qau,qag];try simp only[go_sem,seval,-List.reduceReplicate])|(with_reducible first|refine And.intro ?_ ?_|intro _)|((with_reducible (show Region.lexB _ _=true));kernel_rfl)|((try rw[qad]);omega)
  rename_i h9;rw[if_neg h9];refine qa5 ?_;simp only[go_sem,seval,-List.reduceReplicate]
  repeat' first|assumption|(simp (disch:=first|assumption|omega|(simp;done)|(simp;omega)) only[qaa,qac,yaa,qab,qae,qaf,qah,qai,qam,qaa,qan,qau,qag];try simp only[go_sem,seval,-List.reduceReplicate])|(with_reducible first|refine And.intro ?_ ?_|intro _)|((with_reducible (show Region.lexB _ _=true));kernel_rfl)|((try rw[qad]);omega)
set_option maxHeartbeats 4000000 in
theorem Tryz.c_configure (c:Circ) (hc:c.Valid) (place:List Int) (hp:PlaceOk (qak c).length place) (rs:List Rt) (hrt : ∀ r∈rs,1<=r.net/\r.net<c.vars/\0<=r.track/\r.track<=7/\∀ h∈r.hops,0<=h.1/\h.1<=24) (hrl : ∀ r∈rs,r.hops.length<=1000) (hrr:rs.length<=1000)
  (hnd:(rs.map (·.net)).Nodup) (hin : ∀ x∈qak c,∀ v∈x.inputs,∃ r∈rs,r.net=v) (hout : ∀ l∈c.outs,1<l->∃ r∈rs,r.net=l/2) :
  Pure Tryz.prog 71 [pC c,dIs place,dRts rs] (dK (qhs c (qak c) place rs)):=by
 have hce:=Tryz.c_Cells c hc;have hcl:=qbS hc;have hcx:=qdc hc;refine qcq (E:=Tryz.env 0) Tryz.tok rfl 1000 Tryz.func71 rfl rfl Tryz.ntmps71 (by simp) fun ok=>?_
 simp only[go_sem,seval,-List.reduceReplicate] at ok;simp only[go_sem,seval,-List.reduceReplicate]
 repeat' first|assumption|(simp (disch:=first|assumption|omega|(simp;done)|(simp;omega)) only[qaa,qac,yaa,qab,qae,qaf,qah,qai,qam,qaa,qan,qau,qag];try simp only[go_sem,seval,-List.reduceReplicate])|(with_reducible first|refine And.intro ?_ ?_|intro _)|(refine qb8 Tryz.c_EmptyConfig ?_;simp only[go_sem,seval,-List.reduceReplicate])|(refine qbK hce ?_;simp only[go_sem,seval,-List.reduceReplicate])|((with_reducible (show Region.lexB _ _=true));kernel_rfl)|((try rw[qad]);omega)
 have hB:qhs c (qak c) place rs=⟨qbx (qaS c.vars.toNat rs) (qak c) place (rtsT c rs (List.replicate 25 qaX) rs.length) (qak c).length,qdd c (qaS c.vars.toNat rs) c.outs.length⟩:=by rw[qly];rfl
 rw[hB];clear hB;have hlook:=fun v=>qlz (vars:=c.vars.toNat) hnd (fun r hr=>by have:=hrt r hr;omega) (v:=v)
 have hz:(qaS c.vars.toNat rs).getD 0 0=15:=qfb (by have:=hc.vars_bd;have:=hc.first_bd;omega) (fun r hr=>(hrt r hr).1);generalize qaS c.vars.toNat rs=trk at *
 generalize qak c=cells at *
 refine qap (E:=Tryz.env 0) Tryz.tok (σ:=Nat) (fun i=>[(0,.d (pC c)),(1,.d (dIs place)),(6,.ptr 0 0),(7,.ptr 3 0),(8,.map 4),(9,.d (dCes cells)),(27,.d (dRts rs)),(28,.d (dI rs.length)),(29,.d (dI i))])
  (fun i=>[.box [.d .nil,.d .nil],.row 0 4 true ((rtsT c rs (List.replicate 25 qaX) i).map fun x=>dTc x),.row 0 2 true ((List.replicate 3 ((15:Int),false)).map fun x=>dQ x),.box [.sl 1 0 4 0 25,.sl 2 0 2 0 3],.map (rtE (rs.take i))]) (fun i=>i<=rs.length) (fun i=>rs.length-i) [] [] 1000 1000 ?_ ?_
 ·simp only[go_sem,seval,-List.reduceReplicate];refine⟨0,by omega,?_⟩
  repeat' apply And.intro
  all_goals rfl
 ·intro i hi;have hsz:=qks (c:=c) Tsz.empty (fun r hr=>by have:=hrt r hr;exact⟨by omega,this.2⟩) i;by_cases hlt:i<rs.length
  ·have hst:rtsT c rs (List.replicate 25 qaX) (i+1)=hopW c (rs.getD i rt0) (rtsT c rs (List.replicate 25 qaX) i) (rs.getD i rt0).hops.length:=qaC (f:=fun T (r:Rt)=>hopW c r T r.hops.length) (b:=List.replicate 25 qaX) rt0 hlt;have hmE:=qrl hlt;have hne:=qmt hnd hlt;have hrr2:=hrt _ (qal hlt:rs.getD i rt0∈rs);have hhl:=hrl _ (qal hlt:rs.getD i rt0∈rs);have hup:=qpH (rs.getD i rt0).net (dI (rs.getD i rt0).track) _ hne;have hks:=qna;generalize rtsT c rs (List.replicate 25 qaX) i=T at *
   generalize hr9:rs.getD i rt0=r at *
   generalize hm9:rtE (rs.take i)=m at *
   simp only[go_sem,seval,-List.reduceReplicate,hr9,hup]
   repeat' first|assumption|(simp (disch:=first|assumption|omega|(simp;done)|(simp;omega)) only[qaa,qac,yaa,qab,qae,qaf,qah,qai,qam,qaa,qan,qau,qag];try simp only[go_sem,seval,-List.reduceReplicate,hr9,hup])|(with_reducible first|refine And.intro ?_ ?_|intro _)|((with_reducible (show Region.lexB _ _=true));kernel_rfl)|((try rw[qad]);omega)
   all_goals first|(rw[<-hm9];exact hks _)|skip
   refine qap (E:=Tryz.env 0) Tryz.tok (σ:=Nat) (fun j=>[(0,.d (pC c)),(1,.d (dIs place)),(6,.ptr 0 0),(7,.ptr 3 0),(8,.map 4),(9,.d (dCes cells)),(27,.d (dRts rs)),(28,.d (dI rs.length)),(29,.d (dI i)),(11,.ptr 5 0),(39,.d (dPs r.hops)),(40,.d (dI r.hops.length)),(41,.d (dI j))])
    (fun j=>[.box [.d .nil,.d .nil],.row 0 4 true ((hopW c r T j).map fun x=>dTc x),.row 0 2 true ((List.replicate 3 ((15:Int),false)).map fun x=>dQ x),.box [.sl 1 0 4 0 25,.sl 2 0 2 0 3],.map (m ++ [(dI r.net,dI r.track)]),.box [.d (dI r.net),.d (dI r.track),.d (dPs r.hops)]]) (fun j=>j<=r.hops.length) (fun j=>r.hops.length-j) [] [] 1000 1000 ?_ ?_
   ·simp only[go_sem,seval,-List.reduceReplicate];exact⟨0,by omega,rfl,rfl⟩
   ·intro j hj;have hszj:=qfl (c:=c) hsz hrr2.2.2.2.2 j;by_cases hjt:j<r.hops.length
    ·have hsj:hopW c r T (j+1)=hopT c r (hopW c r T j) (r.hops.getD j (0,0)):=qaC (f:=hopT c r) (b:=T) ((0,0):Int×Int) hjt;have hh:=hrr2.2.2.2.2 _ (qal hjt:r.hops.getD j (0,0)∈r.hops);have hsrc:=Tryz.c_source c (by have:=hc.i0;have:=hc.i1;omega) r.net _ hh;generalize hopW c r T j=U at *
     generalize hh9:r.hops.getD j (0,0)=h at *
     have htsu:=hszj.get (i:=h.1.toNat) (by omega);have hUl:=hszj.1;have hdl:(U.getD h.1.toNat tc0).drive.length=8:=htsu.2;generalize hu9:U.getD h.1.toNat tc0=u at *
     simp only[go_sem,seval,-List.reduceReplicate,hr9,hh9,hu9]
     repeat' first|assumption|(simp (disch:=first|assumption|omega|(simp;done)|(simp;omega)) only[qaa,qac,yaa,qab,qae,qaf,qah,qai,qam,qaa,qan,qau,qag];try simp only[go_sem,seval,-List.reduceReplicate,hr9,hh9,hu9])|(with_reducible first|refine And.intro ?_ ?_|intro _)|(refine qaj hsrc ?_;simp only[go_sem,seval,-List.reduceReplicate,hr9,hh9,hu9])|((with_reducible (show Region.lexB _ _=true));kernel_rfl)|((try rw[qad]);omega)
     refine qaL (E:=Tryz.env 0) Tryz.tok Tryz.follows 1000 1000 [15] (.fst 0 (.fst 2 (.fst 7 (.fst 9 (.fst 10 (.fst 1 (.fst 3 (.fst 4 (.fst 5 (.fst 6 (.fst 8 (.fst 11 (.fst 12 (.one 13 (.fst 14 (.one 15 (.done))))))))))))))))) (by kernel_rfl) ?_;simp only[go_sem,seval,-List.reduceReplicate,hr9,hh9,hu9,qbh,qbi,qbj]
     repeat' first|assumption|(simp (disch:=first|assumption|omega|(simp;done)|(simp;omega)) only[qaa,qac,yaa,qab,qae,qaf,qah,qai,qam,qaa,qan,qau,qag];try simp only[go_sem,seval,-List.reduceReplicate,hr9,hh9,hu9,qbh,qbi,qbj])|(with_reducible first|refine And.intro ?_ ?_|intro _)|(refine qaj hsrc ?_;simp only[go_sem,seval,-List.reduceReplicate,hr9,hh9,hu9,qbh,qbi,qbj])|((with_reducible (show Region.lexB _ _=true));kernel_rfl)|((try rw[qad]);omega)
     refine⟨j+1,by omega,by omega,rfl,?_⟩;rw[hsj];unfold hopT;rw[hu9];refine qkc (by decide) (z:=tc0) (by omega) ?_;rw[hu9];rfl
    ·obtain rfl:j=r.hops.length:=by omega
     simp only[go_sem,seval,-List.reduceReplicate,hr9]
     repeat' first|assumption|(simp (disch:=first|assumption|omega|(simp;done)|(simp;omega)) only[qaa,qac,yaa,qab,qae,qaf,qah,qai,qam,qaa,qan,qau,qag];try simp only[go_sem,seval,-List.reduceReplicate,hr9])|(with_reducible first|refine And.intro ?_ ?_|intro _)|((with_reducible (show Region.lexB _ _=true));kernel_rfl)|((try rw[qad]);omega)
     refine⟨i+1,by omega,by omega,?_⟩;rw[hst,hmE];exact⟨rfl,rfl,rfl⟩
  ·obtain rfl:i=rs.length:=by omega
   rw[yav];generalize rtsT c rs (List.replicate 25 qaX) rs.length=T0 at *
   have hks:=qna rs;simp only[go_sem,seval,-List.reduceReplicate]
   repeat' first|assumption|(simp (disch:=first|assumption|omega|(simp;done)|(simp;omega)) only[qaa,qac,yaa,qab,qae,qaf,qah,qai,qam,qaa,qan,qau,qag];try simp only[go_sem,seval,-List.reduceReplicate])|(with_reducible first|refine And.intro ?_ ?_|intro _)|((with_reducible (show Region.lexB _ _=true));kernel_rfl)|((try rw[qad]);omega)
   refine qap (E:=Tryz.env 0) Tryz.tok (σ:=Nat) (fun i=>[(0,.d (pC c)),(1,.d (dIs place)),(6,.ptr 0 0),(7,.ptr 3 0),(8,.map 4),(62,.d (dCes cells)),(63,.d (dI cells.length)),(64,.d (dI i))])
    (fun i=>[.box [.d .nil,.d .nil],.row 0 4 true ((qbx trk cells place T0 i).map fun x=>dTc x),.row 0 2 true ((List.replicate 3 ((15:Int),false)).map fun x=>dQ x),.box [.sl 1 0 4 0 25,.sl 2 0 2 0 3],.map (rtE rs)]) (fun i=>i<=cells.length) (fun i=>cells.length-i) [] [] 1000 1000 ?_ ?_
   ·simp only[go_sem,seval,-List.reduceReplicate];exact⟨0,by omega,rfl,rfl⟩
   ·intro i hi;have hszi:=qeo (trk:=trk) hsz (fun x hx=>(hcx x hx).1) hp i hi;by_cases hlt:i<cells.length
    ·have hst:qbx trk cells place T0 (i+1)=(qbx trk cells place T0 i).set (place.getD i 0).toNat (cellT trk (cells.getD i ce0) ((qbx trk cells place T0 i).getD (place.getD i 0).toNat tc0)):=rfl;have hp1:=hp.get hlt;have hpl:=hp.len;have hxi:=hcx _ (qal hlt:cells.getD i ce0∈cells);have hxr:=hin _ (qal hlt:cells.getD i ce0∈cells);have hts:=hszi.get (i:=(place.getD i 0).toNat) (by omega);have hTl:=hszi.1;generalize qbx trk cells place T0 i=T at *
     generalize hp9:place.getD i 0=p at *
     generalize hx9:cells.getD i ce0=x at *
     generalize ht9:T.getD p.toNat tc0=t at *
     simp only[go_sem,seval,-List.reduceReplicate,hp9,hx9,ht9,qbh,qbi,qbj]
     repeat' first|assumption|(simp (disch:=first|assumption|omega|(simp;done)|(simp;omega)) only[qaa,qac,yaa,qab,qae,qaf,qah,qai,qam,qaa,qan,qau,qag];try simp only[go_sem,seval,-List.reduceReplicate,hp9,hx9,ht9,qbh,qbi,qbj])|(with_reducible first|refine And.intro ?_ ?_|intro _)|((with_reducible (show Region.lexB _ _=true));kernel_rfl)|((try rw[qad]);omega)
     obtain⟨xn,xi,xt,xr⟩:=x;simp only at hxi hxr;have hsl:t.select.length=3:=hts.1;have hdl:t.drive.length=8:=hts.2;rw[List.set_set];refine qap (E:=Tryz.env 0) Tryz.tok (σ:=Nat) (fun n=>[(0,.d (pC c)),(1,.d (dIs place)),(6,.ptr 0 0),(7,.ptr 3 0),(8,.map 4),(62,.d (dCes cells)),(63,.d (dI cells.length)),(64,.d (dI i)),(16,.eptr 1 0 4 p.toNat 0 (.agg [.int .i64 0,.nil,.bool false,.nil])),(87,.d (dIs xi)),(88,.d (dI xi.length)),(89,.d (dI n))])
      (fun n=>[.box [.d .nil,.d .nil],.row 0 4 true ((T.set p.toNat ⟨xt,selS t.select ((xi.take n).map fun v=>trk.getD v.toNat 0),xr,t.drive⟩).map fun x=>dTc x),.row 0 2 true ((List.replicate 3 ((15:Int),false)).map fun x=>dQ x),.box [.sl 1 0 4 0 25,.sl 2 0 2 0 3],.map (rtE rs)]) (fun n=>n<=xi.length) (fun n=>xi.length-n) [] [] 1000 1000 ?_ ?_
     ·simp only[go_sem,seval,-List.reduceReplicate];refine⟨0,by omega,rfl,?_⟩;rw[qiM];rfl
     ·intro n hn;by_cases hnt:n<xi.length
      ·have hts2:=qaV (f:=fun v:Int=>trk.getD v.toNat 0) (0:Int) hnt;have hlk:=hlook _ (hxr _ (qal hnt:xi.getD n 0∈xi));have hvl:((xi.take n).map fun v=>trk.getD v.toNat 0).length=n:=by rw[yaw,yaR];omega
       have hss:=qrm (s:=t.select) (v:=(xi.take n).map fun v=>trk.getD v.toNat 0) (by omega);have hsn:=qpI (s:=t.select) (v:=(xi.take n).map fun v=>trk.getD v.toNat 0) (a:=trk.getD (xi.getD n 0).toNat 0) (by omega);rw[hvl,<-hts2] at hsn;generalize hv9:xi.getD n 0=v at *
       generalize hs9:selS t.select ((xi.take n).map fun v=>trk.getD v.toNat 0)=sl at *
       have hTg : ∀ z,((T.set p.toNat ⟨xt,sl,xr,t.drive⟩).map fun x=>dTc x).getD p.toNat z=dTc ⟨xt,sl,xr,t.drive⟩:=fun z=>by rw[qan (by rw[yar];omega),qag (by omega)]
       have hsl3:sl.length=3:=by omega
       simp only[go_sem,seval,-List.reduceReplicate,hv9,hTg,hlk,qbh,qbi,qbj]
       repeat' first|assumption|(simp (disch:=first|assumption|omega|(simp;done)|(simp;omega)) only[qaa,qac,yaa,qab,qae,qaf,qah,qai,qam,qaa,qan,qau,qag];try simp only[go_sem,seval,-List.reduceReplicate,hv9,hTg,hlk,qbh,qbi,qbj])|(with_reducible first|refine And.intro ?_ ?_|intro _)|((with_reducible (show Region.lexB _ _=true));kernel_rfl)|((try rw[qad]);omega)
       refine qaL (E:=Tryz.env 0) Tryz.tok Tryz.follows 1000 1000 [9] (.fst 0 (.fst 1 (.fst 2 (.fst 4 (.fst 5 (.fst 6 (.fst 3 (.fst 7 (.fst 8 (.one 9 (.done))))))))))) (by kernel_rfl) ?_;simp only[go_sem,seval,-List.reduceReplicate,hv9,hTg,hlk,qbh,qbi,qbj]
       repeat' first|assumption|(simp (disch:=first|assumption|omega|(simp;done)|(simp;omega)) only[qaa,qac,yaa,qab,qae,qaf,qah,qai,qam,qaa,qan,qau,qag];try simp only[go_sem,seval,-List.reduceReplicate,hv9,hTg,hlk,qbh,qbi,qbj])|(with_reducible first|refine And.intro ?_ ?_|intro _)|((with_reducible (show Region.lexB _ _=true));kernel_rfl)|((try rw[qad]);omega)
       refine⟨n+1,by omega,by omega,rfl,?_⟩;rw[hsn];have e:T.set p.toNat ⟨xt,selS t.select ((xi.take (n+1)).map fun v=>trk.getD v.toNat 0),xr,t.drive⟩=(T.set p.toNat ⟨xt,sl,xr,t.drive⟩).set p.toNat ⟨xt,selS t.select ((xi.take (n+1)).map fun v=>trk.getD v.toNat 0),xr,t.drive⟩:=by rw[List.set_set]
       rw[e];refine qkc (by decide) (z:=tc0) (by rw[yar];omega) ?_;rw[qag (by omega)];rfl
      ·obtain rfl:n=xi.length:=by omega
       rw[yav];simp only[go_sem,seval,-List.reduceReplicate]
       repeat' first|assumption|(simp (disch:=first|assumption|omega|(simp;done)|(simp;omega)) only[qaa,qac,yaa,qab,qae,qaf,qah,qai,qam,qaa,qan,qau,qag];try simp only[go_sem,seval,-List.reduceReplicate])|(with_reducible first|refine And.intro ?_ ?_|intro _)|((with_reducible (show Region.lexB _ _=true));kernel_rfl)|((try rw[qad]);omega)
       refine⟨i+1,by omega,by omega,rfl,?_⟩;rw[hst];rfl
    ·obtain rfl:i=cells.length:=by omega
     generalize qbx trk cells place T0 cells.length=T1 at *
     simp only[go_sem,seval,-List.reduceReplicate]
     repeat' first|assumption|(simp (disch:=first|assumption|omega|(simp;done)|(simp;omega)) only[qaa,qac,yaa,qab,qae,qaf,qah,qai,qam,qaa,qan,qau,qag];try simp only[go_sem,seval,-List.reduceReplicate])|(with_reducible first|refine And.intro ?_ ?_|intro _)|((with_reducible (show Region.lexB _ _=true));kernel_rfl)|((try rw[qad]);omega)
     refine qap (E:=Tryz.env 0) Tryz.tok (σ:=Nat) (fun o=>[(6,.ptr 0 0),(7,.ptr 3 0),(8,.map 4),(108,.d (dIs c.outs)),(109,.d (dI c.outs.length)),(110,.d (dI o))])
      (fun o=>[.box [.d .nil,.d .nil],.row 0 4 true (T1.map fun x=>dTc x),.row 0 2 true ((qdd c trk o).map fun x=>dQ x),.box [.sl 1 0 4 0 25,.sl 2 0 2 0 3],.map (rtE rs)]) (fun o=>o<=c.outs.length) (fun o=>c.outs.length-o) [] [] 1000 1000 ?_ ?_
     ·simp only[go_sem,seval,-List.reduceReplicate];refine⟨0,by omega,?_⟩
      repeat' apply And.intro
      all_goals rfl
     ·intro o ho;have hlo:=hc.lo;by_cases hlt:o<c.outs.length
      ·have hov:=hc.o _ (qal hlt:c.outs.getD o 0∈c.outs);have hou:=hout _ (qal hlt:c.outs.getD o 0∈c.outs);have hst:qdd c trk (o+1)=(qdd c trk o).set o (trk.getD (c.outs.getD o 0/2).toNat 0,decide (c.outs.getD o 0%2=1)):=by simp only[qdd,yaT,yaO,yam,List.foldl_nil]
       have hpl:=@padsT_len c trk o;have hrest:=qfm (c:=c) (trk:=trk) o o (yad _) (by omega);generalize qdd c trk o=q at *
       generalize ho9:c.outs.getD o 0=v at *
       have hov1:0<=v/\v<2*c.vars:=by
        have:=hov;unfold qa4 at this;omega
       have hqg : ∀ z,(q.map fun x=>dQ x).getD o z=dQ (15,false):=fun z=>by rw[qau (by omega),hrest]
       have hlk:1<v->qdj (rtE rs) (dI (v/2))=some (dI (trk.getD (v/2).toNat 0)):=fun h=>hlook _ (hou h)
       by_cases hv1:1<v
       ·have hlk1:=hlk hv1;simp only[go_sem,seval,-List.reduceReplicate,ho9,hqg,hlk1]
        repeat' first|assumption|(simp (disch:=first|assumption|omega|(simp;done)|(simp;omega)) only[qaa,qac,yaa,qab,qae,qaf,qah,qai,qam,qaa,qan,qau,qag];try simp only[go_sem,seval,-List.reduceReplicate,ho9,hqg,hlk1])|(with_reducible first|refine And.intro ?_ ?_|intro _)|((with_reducible (show Region.lexB _ _=true));kernel_rfl)|((try rw[qad]);omega)
        refine⟨o+1,by omega,by omega,rfl,?_⟩;rw[hst,List.set_set,qsc hov1.1,ybm]
       ·simp only[go_sem,seval,-List.reduceReplicate,ho9,hqg]
        repeat' first|assumption|(simp (disch:=first|assumption|omega|(simp;done)|(simp;omega)) only[qaa,qac,yaa,qab,qae,qaf,qah,qai,qam,qaa,qan,qau,qag];try simp only[go_sem,seval,-List.reduceReplicate,ho9,hqg])|(with_reducible first|refine And.intro ?_ ?_|intro _)|((with_reducible (show Region.lexB _ _=true));kernel_rfl)|((try rw[qad]);omega)
        refine⟨o+1,by omega,by omega,rfl,?_⟩;rw[hst,qsc hov1.1,ybm,show(v/2).toNat=0 by omega,hz]
      ·obtain rfl:o=c.outs.length:=by omega
       simp only[go_sem,seval,-List.reduceReplicate]
       repeat' first|assumption|(simp (disch:=first|assumption|omega|(simp;done)|(simp;omega)) only[qaa,qac,yaa,qab,qae,qaf,qah,qai,qam,qaa,qan,qau,qag];try simp only[go_sem,seval,-List.reduceReplicate])|(with_reducible first|refine And.intro ?_ ?_|intro _)|((with_reducible (show Region.lexB _ _=true));kernel_rfl)|((try rw[qad]);omega)
       ·exact hszi.1.symm
       ·exact padsT_len.symm
end Go.Proofs
