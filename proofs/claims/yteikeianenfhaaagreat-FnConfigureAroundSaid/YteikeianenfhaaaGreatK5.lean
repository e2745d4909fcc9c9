/- Contracts, plain definitions and lemmas. Conditions: none; lemmas. -/
import Derived.Test.YteikeianenfhaaaGreatK1
import Derived.Test.YteikeianenfhaaaGreatK2
import Derived.Test.YteikeianenfhaaaGreatK4
import Derived.Test.YteikeianenfhaaaGreatC92
import Derived.Test.YteikeianenfhaaaGreatC79
set_option maxRecDepth 20000
set_option linter.unusedSimpArgs false
set_option linter.unusedVariables false
set_option maxHeartbeats 2000000
namespace Go.Proofs
set_option linter.defProp false
open Go Go.VL Tryz
variable {c:Circ}
def Tryz.c_l24Route (c:Circ) (hc:c.Valid) (cells:List Cel) (hcl:cells.length<=25) (hci : ∀ x∈cells,x.inputs.length<=3) (place:List Int) (hp:PlaceOk cells.length place) (list:List (Int×Int)) (hd:qjr list) :
  PureF prog 76 [dC c,dCes cells,dIs place,dPs list] (.tup [dRts ((qcy c cells place (qcg list)).getD []),dB (qcy c cells place (qcg list)).isSome]):=by
 have hf:=hc.first_bd;have hv:=hc.vars_bd;have hi0:=hc.i0;have hi1:=hc.i1;have hvv:c.vars=c.first+(c.gates.length:Int):=rfl
 have hfst:=c_l1First c (by omega);have k3:scal (dI c.first):=by show InK .i64 _;rw[qaa];omega
 have hpb:=fun net=>qgz hc hp (net:=net)
 refine qcE (E:=envd 0) tok rfl 1000 func76 rfl rfl ntmps76 (by simp) fun ok=>?_
 simp only[go_sem,seval,-List.reduceReplicate] at ok;simp only[go_sem,seval,-List.reduceReplicate]
 repeat' first|assumption|(simp (disch:=first|assumption|omega|(simp;done)|(simp;omega)) only[qag,yaa,qag];try simp only[go_sem,seval,-List.reduceReplicate])|(with_reducible first|apply And.intro|intro _)|exact lexT|((try rw[qaa]);omega)
 refine qaf (E:=envd 0) tok (σ:=Nat) (fun t=>[(0,.d (dC c)),(1,.d (dCes cells)),(2,.d (dIs place)),(3,.d (dPs list)),(4,.ptr 0 0),(8,.d .nil),(9,.d (dB false)),(10,.sl 1 t 1 0 t),(11,.d (dI t))]) (fun t=>[.box [.d (dI c.inputs),.d (dIs c.next),.d (dPs c.gates),.d (dIs c.outs)],.row t 1 true ((List.replicate t (List.replicate 25 false)).map fun x=>dBs x)]) (fun t=>t<=8) (fun t=>8-t) [] [] 1000 1000 ?_ ?_
 ·simp only[go_sem,seval,-List.reduceReplicate];exact⟨0,by omega,by simp⟩
 ·intro t ht;by_cases htt:t<8
  ·have hrl:(List.replicate t (List.replicate 25 false)).length=t:=by simp
   have hrs:List.replicate (t+1) (List.replicate 25 false)=List.replicate t (List.replicate 25 false) ++ [List.replicate 25 false]:=ybh;generalize List.replicate t (List.replicate 25 false)=q at *
   simp only[go_sem,seval,-List.reduceReplicate]
   repeat' first|assumption|(simp (disch:=first|assumption|omega|(simp;done)|(simp;omega)) only[qag,yaa,qag];try simp only[go_sem,seval,-List.reduceReplicate,hrl])|(with_reducible first|apply And.intro|intro _)|exact lexT|((try rw[qaa]);omega)
   refine⟨t+1,by omega,by omega,rfl,rfl,?_⟩;rw[hrs]
  ·obtain rfl:t=8:=by omega
   rw[show List.replicate 8 (List.replicate 25 false)=qiV from rfl];simp only[go_sem,seval,-List.reduceReplicate]
   repeat' first|assumption|(simp (disch:=first|assumption|omega|(simp;done)|(simp;omega)) only[qag,yaa,qag];try simp only[go_sem,seval,-List.reduceReplicate])|(with_reducible first|apply And.intro|intro _)|exact lexT|((try rw[qaa]);omega)
   refine qaf (E:=envd 0) tok (σ:=Nat) (fun i=>[(0,.d (dC c)),(1,.d (dCes cells)),(2,.d (dIs place)),(3,.d (dPs list)),(4,.ptr 0 0),(8,.d .nil),(9,.d (dB false)),(10,.sl 1 8 1 0 8),(12,.d (dI i))]) (fun i=>[.box [.d (dI c.inputs),.d (dIs c.next),.d (dPs c.gates),.d (dIs c.outs)],.row 8 1 true ((qcg (list.take i)).map fun x=>dBs x)]) (fun i=>i<=list.length) (fun i=>list.length-i) [] [] 1000 1000 ?_ ?_
   ·simp only[go_sem,seval,-List.reduceReplicate];exact⟨0,by omega,rfl,rfl⟩
   ·intro i hi;have hbl:=qjh (list.take i);have hbr:=qji (list.take i);by_cases hit:i<list.length
    ·have hstp:=qj7 hit;have hr:=hd.2 _ (qad hit:list.getD i (0,0)∈list);generalize qcg (list.take i)=T at *
     generalize hh9:list.getD i (0,0)=hh at *
     have hbr2:=hbr hh.2.toNat (by omega);simp only[go_sem,seval,-List.reduceReplicate,hh9]
     repeat' first|assumption|(simp (disch:=first|assumption|omega|(simp;done)|(simp;omega)) only[qag,yaa,qag];try simp only[go_sem,seval,-List.reduceReplicate,hh9,hbl,hbr2])|(with_reducible first|apply And.intro|intro _)|exact lexT|((try rw[qaa]);omega)
     refine qeO (E:=envd 0) tok Tryz.follows 1000 1000 [14] (fsts [0,1,2,3,4,8,9,10,11,5,6,7,12,13] (.one 14 .done)) (by kernel_rfl) ?_;simp only[go_sem,seval,-List.reduceReplicate,hh9]
     repeat' first|assumption|(simp (disch:=first|assumption|omega|(simp;done)|(simp;omega)) only[qag,yaa,qag];try simp only[go_sem,seval,-List.reduceReplicate,hh9,hbl,hbr2])|(with_reducible first|apply And.intro|intro _)|exact lexT|((try rw[qaa]);omega)
     refine⟨i+1,by omega,by omega,rfl,?_⟩;rw[hstp,yaa (by rw[yas];omega)];exact qgr (f:=fun x=>dBs x)
    ·rw[show list.take i=list from yaa (by omega)];have hbok:=qfF list;generalize qcg list=busy0 at *
     simp only[go_sem,seval,-List.reduceReplicate]
     repeat' first|assumption|(simp (disch:=first|assumption|omega|(simp;done)|(simp;omega)) only[qag,yaa,qag];try simp only[go_sem,seval,-List.reduceReplicate])|(with_reducible first|apply And.intro|intro _)|exact lexT|((try rw[qaa]);omega)
     have hrc:qcy c cells place busy0=(qcL c cells place busy0 (c.vars.toNat-1)).map (·.2):=rfl;refine qaf (E:=envd 0) tok (σ:=Nat×List (List Bool)×List Rt) (fun s=>[(0,.d (dC c)),(1,.d (dCes cells)),(2,.d (dIs place)),(4,.ptr 0 0),(8,.d .nil),(9,.d (dB false)),(10,.sl 1 8 1 0 8),(13,.sl 2 s.2.2.length 3 0 s.2.2.length),(14,.d (dI ((s.1+1:Nat):Int)))]) (fun s=>[.box [.d (dI c.inputs),.d (dIs c.next),.d (dPs c.gates),.d (dIs c.outs)],.row 8 1 true (s.2.1.map fun x=>dBs x),.row s.2.2.length 3 false (s.2.2.map fun x=>dRt x)])
      (fun s=>(s.1:Int)<=c.vars-1/\qcL c cells place busy0 s.1=some (s.2.1,s.2.2)/\s.2.2.length<=s.1) (fun s=>c.vars.toNat-s.1) [] [] 1000 1000 ?_ ?_
     ·simp only[go_sem,seval,-List.reduceReplicate];exact⟨(0,busy0,[]),⟨by simp only;omega,rfl,by simp⟩,by simp⟩
     ·rintro⟨k,busy,out⟩ ⟨hk,hro,hol⟩;simp only at hk hro hol;have hR:=qgI hc hp hbok k hro;have hbl:=hR.bok.len;have ek:(k:Int)+1=((k+1:Nat):Int):=by omega
      by_cases hlt:(k:Int)<c.vars-1
      ·have hst:=qmH hro;rw[ek] at hst;have h1:=c_l7Pins c hc cells hcl hci place hp ((k+1:Nat):Int) (by omega);have hpbk:=hpb ((k+1:Nat):Int);have hpl:=qpZ hc hcl hci (place:=place) (net:=((k+1:Nat):Int));generalize qdx c cells place ((k+1:Nat):Int)=pins at *
       by_cases hpe:pins=[]
       ·rw[if_pos hpe] at hst;subst hpe;simp only[go_sem,seval,-List.reduceReplicate]
        repeat' first|assumption|(simp (disch:=first|assumption|omega|(simp;done)|(simp;omega)) only[qag,yaa,qag];try simp only[go_sem,seval,-List.reduceReplicate])|(with_reducible first|apply And.intro|intro _)|(refine qcD (fun _=>⟨hfst,k3⟩) ?_;simp only[go_sem,seval,-List.reduceReplicate])|(refine qac h1 ?_;simp only[go_sem,seval,-List.reduceReplicate])|exact lexT|((try rw[qaa]);omega)
        exact⟨(k+1,busy,out),⟨by simp only;omega,hst,by simp only;omega⟩,by simp only;omega,⟨rfl,rfl⟩,rfl,rfl,rfl⟩
       ·rw[if_neg hpe] at hst;have hpp:0<pins.length:=List.length_pos_iff.2 hpe;have hnt:=c_l8Net 8 ((k+1:Nat):Int) pins busy hR.bok hpbk hpe hpl;cases hne:netB pins busy 8 0 with
        | none=>
         rw[hne] at hst hnt;simp only at hst;have hrn:qcy c cells place busy0=none:=by rw[hrc,qlI (by omega) hst];rfl
         rw[hrn];simp only[go_sem,seval,-List.reduceReplicate]
         repeat' first|assumption|(simp (disch:=first|assumption|omega|(simp;done)|(simp;omega)) only[qag,yaa,qag];try simp only[go_sem,seval,-List.reduceReplicate])|(with_reducible first|apply And.intro|intro _)|(refine qcD (fun _=>⟨hfst,k3⟩) ?_;simp only[go_sem,seval,-List.reduceReplicate])|(refine qac h1 ?_;simp only[go_sem,seval,-List.reduceReplicate])|exact lexT|((try rw[qaa]);omega)
         refine qan hnt [1] (by simp only[go_sem,seval,-List.reduceReplicate]) ?_;rintro r0 H1 ⟨rfl,rfl⟩;simp only[go_sem,seval,-List.reduceReplicate,netR]
         repeat' first|assumption|(simp (disch:=first|assumption|omega|(simp;done)|(simp;omega)) only[qag,yaa,qag];try simp only[go_sem,seval,-List.reduceReplicate,netR])|(with_reducible first|apply And.intro|intro _)|exact lexT|((try rw[qaa]);omega)
        | some q=>
         obtain⟨t,hs⟩:=q;rw[hne] at hst hnt;simp only at hst;obtain⟨-,ht8,htr,-⟩:=qkG 8 0 hne;obtain⟨b1,b2,b3⟩:=qh0 hpbk hpe htr;simp only[go_sem,seval,-List.reduceReplicate]
         repeat' first|assumption|(simp (disch:=first|assumption|omega|(simp;done)|(simp;omega)) only[qag,yaa,qag];try simp only[go_sem,seval,-List.reduceReplicate])|(with_reducible first|apply And.intro|intro _)|(refine qcD (fun _=>⟨hfst,k3⟩) ?_;simp only[go_sem,seval,-List.reduceReplicate])|(refine qac h1 ?_;simp only[go_sem,seval,-List.reduceReplicate])|exact lexT|((try rw[qaa]);omega)
         refine qan hnt [1] (by simp only[go_sem,seval,-List.reduceReplicate]) ?_;rintro r0 H1 ⟨rfl,rfl⟩;simp only[go_sem,seval,-List.reduceReplicate,netR]
         repeat' first|assumption|(simp (disch:=first|assumption|omega|(simp;done)|(simp;omega)) only[qag,yaa,qag];try simp only[go_sem,seval,-List.reduceReplicate,netR])|(with_reducible first|apply And.intro|intro _)|exact lexT|((try rw[qaa]);omega)
         have hhl:=qdz b1;refine qaf (E:=envd 0) tok (σ:=Nat) (fun i=>[(0,.d (dC c)),(1,.d (dCes cells)),(2,.d (dIs place)),(4,.ptr 0 0),(8,.d .nil),(9,.d (dB false)),(10,.sl 1 8 1 0 8),(13,.sl 2 out.length 3 0 out.length),(14,.d (dI ((k+1:Nat):Int))),(16,.ptr 3 0),(18,.d (dI i))]) (fun i=>[.box [.d (dI c.inputs),.d (dIs c.next),.d (dPs c.gates),.d (dIs c.outs)],.row 8 1 true ((takeB busy t (hs.take i)).map fun x=>dBs x),.row out.length 3 false (out.map fun x=>dRt x),.box [.d (dI ((k+1:Nat):Int)),.d (dI t),.d (dPs hs)]])
          (fun i=>i<=hs.length) (fun i=>hs.length-i) [] [] 1000 1000 ?_ ?_
         ·simp only[go_sem,seval,-List.reduceReplicate];exact⟨0,by omega,rfl,by rw[show takeB busy t (hs.take 0)=busy from set_self (by omega)]⟩
         ·intro i hi;have hTl:(takeB busy t (hs.take i)).length=8:=by simp[takeB];omega
          have hTr:((takeB busy t (hs.take i)).getD t []).length=25:=(qh1 hR.bok (by omega)).row t (by omega);by_cases hit:i<hs.length
          ·have hstp:=qjQ (busy:=busy) (t:=t) (by omega) hit;have hr:=b1.rng _ (qad hit:hs.getD i (0,0)∈hs);generalize takeB busy t (hs.take i)=T at *
           generalize hh9:hs.getD i (0,0)=hh at *
           simp only[go_sem,seval,-List.reduceReplicate,hh9]
           repeat' first|assumption|(simp (disch:=first|assumption|omega|(simp;done)|(simp;omega)) only[qag,yaa,qag];try simp only[go_sem,seval,-List.reduceReplicate,hh9,hTl,hTr])|(with_reducible first|apply And.intro|intro _)|exact lexT|((try rw[qaa]);omega)
           refine qeO (E:=envd 0) tok Tryz.follows 1000 1000 [12] (fsts [0,1,5,7,2,3,4,6,8,9,10,11] (.one 12 .done)) (by kernel_rfl) ?_;simp only[go_sem,seval,-List.reduceReplicate,hh9,hTl,hTr]
           repeat' first|assumption|(simp (disch:=first|assumption|omega|(simp;done)|(simp;omega)) only[qag,yaa,qag];try simp only[go_sem,seval,-List.reduceReplicate,hh9,hTl,hTr])|(with_reducible first|apply And.intro|intro _)|exact lexT|((try rw[qaa]);omega)
           refine⟨i+1,by omega,by omega,rfl,?_⟩;rw[hstp,yaa (by rw[yas];omega)];exact qgr (f:=fun x=>dBs x)
          ·rw[show hs.take i=hs from yaa (by omega)];rw[show hs.take i=hs from yaa (by omega)] at hTl;simp only[go_sem,seval,-List.reduceReplicate,netR]
           repeat' first|assumption|(simp (disch:=first|assumption|omega|(simp;done)|(simp;omega)) only[qag,yaa,qag];try simp only[go_sem,seval,-List.reduceReplicate,netR])|(with_reducible first|apply And.intro|intro _)|exact lexT|((try rw[qaa]);omega)
           refine⟨(k+1,takeB busy t hs,out ++ [⟨((k+1:Nat):Int),(t:Int),hs⟩]),⟨by simp only;omega,hst,by simp only[yae,ybo];omega⟩,by simp only;omega,⟨by simp,rfl⟩,rfl,by simp,by simp⟩
      ·have hkk:k=c.vars.toNat-1:=by omega
       have hrn:qcy c cells place busy0=some out:=by rw[hrc,<-hkk,hro];rfl
       rw[hrn];simp only[go_sem,seval,-List.reduceReplicate]
       repeat' first|assumption|(simp (disch:=first|assumption|omega|(simp;done)|(simp;omega)) only[qag,yaa,qag];try simp only[go_sem,seval,-List.reduceReplicate])|(with_reducible first|apply And.intro|intro _)|(refine qcD (fun _=>⟨hfst,k3⟩) ?_;simp only[go_sem,seval,-List.reduceReplicate])|exact lexT|((try rw[qaa]);omega)

def qjj (hc:c.Valid) {place:List Int}(hp:PlaceOk (qae c).length place) {busy0:List (List Bool)}(hb:BusyOk busy0) {rs:List Rt}(h:qcy c (qae c) place busy0=some rs):Routed c place rs/\rs.length<=1000/\∀ r∈rs,r.hops.length<=1000:=by
 have hf:=hc.first_bd;have hv:=hc.vars_bd;have hrc:qcy c (qae c) place busy0=(qcL c (qae c) place busy0 (c.vars.toNat-1)).map (·.2):=rfl;rw[hrc] at h;obtain⟨⟨busy,out⟩,h1,rfl⟩:=Option.map_eq_some_iff.1 h;have hR:=qgI hc hp hb _ h1;refine⟨⟨hc,hp,busy0,busy,hR⟩,?_,fun r hr=>?_⟩
 ·have h2:=(qi3 (c:=c) (cells:=qae c) (place:=place) (c.vars.toNat-1)).2.2;rw[<-hR.nets,yaw] at h2;show out.length<=1000
  omega
 ·have:=(hR.each r hr).len;omega
noncomputable def qcu (c:Circ) (list:List (Int×Int)):Option Kcfg:=open Classical in if c.Valid/\qjr list then(qcy c (qae c) (qb4 c (qae c)) (qcg list)).map (qhL c (qae c) (qb4 c (qae c))) else none
def qfq {list:List (Int×Int)}{k:Kcfg}(h:qcu c list=some k):c.Valid/\qjr list/\∃ rs,Routed c (qb4 c (qae c)) rs/\qcy c (qae c) (qb4 c (qae c)) (qcg list)=some rs/\k=bK c (qb4 c (qae c)) rs:=by
 classical
 unfold qcu at h;split at h
 ·rename_i hv;obtain⟨rs,h1,rfl⟩:=Option.map_eq_some_iff.1 h;have hcl:=qby hv.1;exact⟨hv.1,hv.2,rs,(qjj hv.1 (qgE (by omega)) (qfF list) h1).1,h1,rfl⟩
 ·cases h
def Tryz.c_ConfigureAround (c:Circ) (list:List (Int×Int)):Pure prog 13 [dC c,dPs list] (.tup [dK ((qcu c list).getD kz),dB (qcu c list).isSome]):=by
 classical
 have hcv:=c_CircuitValid c;have hdv:=c_DefectsValid list;by_cases hc:c.Valid
 ·rw[decide_eq_true hc] at hcv;by_cases hd:qjr list
  ·rw[(def_iff list).2 hd] at hdv;have hA:qcu c list=(qcy c (qae c) (qb4 c (qae c)) (qcg list)).map (qhL c (qae c) (qb4 c (qae c))):=if_pos ⟨hc,hd⟩;have hcl:=qby hc;have hp:PlaceOk (qae c).length (qb4 c (qae c)):=qgE (by omega);have hpl:=c_Place c hc;have hra:=c_RouteAround c (qb4 c (qae c)) list;rw[show qdA c (qb4 c (qae c)) list=qcy c (qae c) (qb4 c (qae c)) (qcg list) by rw[qdA,if_pos ⟨⟨hc,hp⟩,hd⟩]] at hra;rw[hA];cases hro:qcy c (qae c) (qb4 c (qae c)) (qcg list) with
   | none=>
    rw[hro] at hra;simp only[qgd] at hra;rw[yai];refine qcf (E:=env 0) tok rfl 1000 func13 rfl rfl ntmps13 (by simp) fun ok=>?_
    simp only[go_sem,seval,-List.reduceReplicate] at ok
    repeat' first|assumption|(simp (disch:=first|assumption|omega|(simp;done)|(simp;omega)) only[go_sem,seval,-List.reduceReplicate])|(with_reducible first|apply And.intro|intro _)|(refine qac hcv ?_)|(refine qaN (fun _=>hdv) ?_)|(refine qbJ hpl ?_)|(refine qac hra ?_)|((try rw[qaa]);omega)
    all_goals first|rfl|simp[wk2,wkL,wk1,kz]
   | some rs=>
    rw[hro] at hra;simp only[qgd] at hra;rw[yak];obtain⟨R,h1,h2⟩:=qjj hc hp (qfF list) hro;have hcf:=c_configure c hc (qb4 c (qae c)) hp rs (fun r hr=>⟨(R.bd r hr).1.1,(R.bd r hr).1.2,(R.bd r hr).2.1.1,(R.bd r hr).2.1.2,(R.bd r hr).2.2.1⟩) h2 h1 R.nd (fun x hx v hv=>by
     obtain⟨i,hi,rfl⟩:=qaV ce0 hx;obtain⟨r,hr,e,-⟩:=R.input hi hv;exact⟨r,hr,e⟩) (fun l hl hv=>by
     obtain⟨o,ho,rfl⟩:=qaV (0:Int) hl;obtain⟨r,hr,e,-⟩:=R.pad ho (by omega);exact⟨r,hr,e⟩)
    refine qcf (E:=env 0) tok rfl 1000 func13 rfl rfl ntmps13 (by simp) fun ok=>?_
    simp only[go_sem,seval,-List.reduceReplicate] at ok
    repeat' first|assumption|(simp (disch:=first|assumption|omega|(simp;done)|(simp;omega)) only[go_sem,seval,-List.reduceReplicate])|(with_reducible first|apply And.intro|intro _)|(refine qac hcv ?_)|(refine qaN (fun _=>hdv) ?_)|(refine qbJ hpl ?_)|(refine qac hra ?_)|(refine qbr hcf ?_)|((try rw[qaa]);omega)
    all_goals first|rfl|simp[wk2,wkL,wk1,kz]
  ·rw[show defectsValid list=false from Bool.eq_false_iff.2 (fun h=>hd ((def_iff list).1 h))] at hdv;rw[show qcu c list=none from if_neg (fun h=>hd h.2)];refine qcf (E:=env 0) tok rfl 1000 func13 rfl rfl ntmps13 (by simp) fun ok=>?_
   simp only[go_sem,seval,-List.reduceReplicate] at ok
   repeat' first|assumption|(simp (disch:=first|assumption|omega|(simp;done)|(simp;omega)) only[go_sem,seval,-List.reduceReplicate])|(with_reducible first|apply And.intro|intro _)|(refine qac hcv ?_)|(refine qaN (fun _=>hdv) ?_)|((try rw[qaa]);omega)
   all_goals first|rfl|simp[wk2,wkL,wk1,kz]
 ·rw[decide_eq_false hc] at hcv;rw[show qcu c list=none from if_neg (fun h=>hc h.1)];refine qcf (E:=env 0) tok rfl 1000 func13 rfl rfl ntmps13 (by simp) fun ok=>?_
  simp only[go_sem,seval,-List.reduceReplicate] at ok
  repeat' first|assumption|(simp (disch:=first|assumption|omega|(simp;done)|(simp;omega)) only[go_sem,seval,-List.reduceReplicate])|(with_reducible first|apply And.intro|intro _)|(refine qac hcv ?_)|(refine qaN (x:=.nil) (fun h=>by cases h) ?_)|((try rw[qaa]);omega)
  all_goals first|rfl|simp[wk2,wkL,wk1,kz]
def Tryz.c_sConfigureAround (c:Circ) (list:List (Int×Int)):Pure prog 14 [dC c,dPs list] (.tup [dK ((qcu c list).getD kz),dB (qcu c list).isSome]):=by
 classical
 have hcv:=c_sCircuitValid c;have hdv:=c_sDefectsValid list;by_cases hc:c.Valid
 ·rw[decide_eq_true hc] at hcv;by_cases hd:qjr list
  ·rw[(def_iff list).2 hd] at hdv;have hA:qcu c list=(qcy c (qae c) (qb4 c (qae c)) (qcg list)).map (qhL c (qae c) (qb4 c (qae c))):=if_pos ⟨hc,hd⟩;rw[hA];have h1:=c_l6Cells c hc;have hcl:=qby hc;have hci:=qlE hc;have hcx:=qoo hc;have hp0:=qgE (c:=c) (cells:=qae c) (by omega);have hro9:=fun rs (h:qcy c (qae c) (qb4 c (qae c)) (qcg list)=some rs)=>qjj hc hp0 (qfF list) h
   generalize hcs:qae c=cells at *
   have h2:=c_l7Place c hc cells (by omega) hci;generalize qb4 c cells=place at *
   have h3:=c_l24Route c hc cells (by omega) hci place hp0 list hd;cases hro:qcy c cells place (qcg list) with
   | none=>
    rw[hro] at h3;rw[yai];refine qcf (E:=env 0) tok rfl 1000 func14 rfl rfl ntmps14 (by simp) fun ok=>?_
    simp only[go_sem,seval,-List.reduceReplicate] at ok
    repeat' first|assumption|(simp (disch:=first|assumption|omega|(simp;done)|(simp;omega)) only[go_sem,seval,-List.reduceReplicate])|(with_reducible first|apply And.intro|intro _)|(refine qac hcv ?_)|(refine qaN (fun _=>hdv) ?_)|(refine qac h1 ?_)|(refine qbJ h2 ?_)|(refine qbJ h3 ?_)|((try rw[qaa]);omega)
    all_goals first|rfl|simp[wk2,wkL,wk1,kz]
   | some rs=>
    rw[hro] at h3;rw[yak];obtain⟨R,hr1,hr2⟩:=hro9 rs hro;have h4:=c_l9Build c hc cells (by omega) hci place hp0 hcx rs (fun r hr=>⟨by have:=(R.bd r hr).1;omega,(R.bd r hr).1.2,(R.bd r hr).2.1.1,(R.bd r hr).2.1.2,(R.bd r hr).2.2.1⟩) hr2;refine qcf (E:=env 0) tok rfl 1000 func14 rfl rfl ntmps14 (by simp) fun ok=>?_
    simp only[go_sem,seval,-List.reduceReplicate] at ok
    repeat' first|assumption|(simp (disch:=first|assumption|omega|(simp;done)|(simp;omega)) only[go_sem,seval,-List.reduceReplicate])|(with_reducible first|apply And.intro|intro _)|(refine qac hcv ?_)|(refine qaN (fun _=>hdv) ?_)|(refine qac h1 ?_)|(refine qbJ h2 ?_)|(refine qbJ h3 ?_)|(refine qbr h4 ?_)|((try rw[qaa]);omega)
    all_goals first|rfl|simp[wk2,wkL,wk1]
  ·rw[show defectsValid list=false from Bool.eq_false_iff.2 (fun h=>hd ((def_iff list).1 h))] at hdv;rw[show qcu c list=none from if_neg (fun h=>hd h.2)];refine qcf (E:=env 0) tok rfl 1000 func14 rfl rfl ntmps14 (by simp) fun ok=>?_
   simp only[go_sem,seval,-List.reduceReplicate] at ok
   repeat' first|assumption|(simp (disch:=first|assumption|omega|(simp;done)|(simp;omega)) only[go_sem,seval,-List.reduceReplicate])|(with_reducible first|apply And.intro|intro _)|(refine qac hcv ?_)|(refine qaN (fun _=>hdv) ?_)|((try rw[qaa]);omega)
   all_goals first|rfl|simp[wk2,wkL,wk1,kz]
 ·rw[decide_eq_false hc] at hcv;rw[show qcu c list=none from if_neg (fun h=>hc h.1)];refine qcf (E:=env 0) tok rfl 1000 func14 rfl rfl ntmps14 (by simp) fun ok=>?_
  simp only[go_sem,seval,-List.reduceReplicate] at ok
  repeat' first|assumption|(simp (disch:=first|assumption|omega|(simp;done)|(simp;omega)) only[go_sem,seval,-List.reduceReplicate])|(with_reducible first|apply And.intro|intro _)|(refine qac hcv ?_)|(refine qaN (x:=.nil) (fun h=>by cases h) ?_)|((try rw[qaa]);omega)
  all_goals first|rfl|simp[wk2,wkL,wk1,kz]
end Go.Proofs
