/- Contracts: circuits are configured, around defects too. Conditions: none; lemmas. -/
import Derived.Test.YteikeianenfhaaaGreatC45
import Derived.Test.YteikeianenfhaaaGreatC85
import Derived.Test.YteikeianenfhaaaGreatC79
import Derived.Test.YteikeianenfhaaaGreatK1
set_option maxRecDepth 20000
set_option linter.unusedVariables false
set_option linter.unusedSimpArgs false
set_option maxHeartbeats 2000000
namespace Go.Proofs
open Go Go.VL Tryz
theorem qlB {c:Circ}(hc:c.Valid) {place:List Int}(hp:PlaceOk (qac c).length place) {busy0:List (List Bool)}(hb:BusyOk busy0) {rs:List Rt}(h:qcv c (qac c) place busy0=some rs):Routed c place rs/\rs.length<=1000/\∀ r∈rs,r.hops.length<=1000:=by
 have hf:=hc.first_bd;have hv:=hc.vars_bd;have hrc:qcv c (qac c) place busy0=(qcF c (qac c) place busy0 (c.vars.toNat-1)).map (·.2):=rfl;rw[hrc] at h;obtain⟨⟨busy,out⟩,h1,rfl⟩:=Option.map_eq_some_iff.1 h;have hR:=qgl hc hp hb _ h1;refine⟨⟨hc,hp,busy0,busy,hR⟩,?_,fun r hr=>?_⟩
 ·have h2:=(qiA (c:=c) (cells:=qac c) (place:=place) (c.vars.toNat-1)).2.2;rw[<-hR.nets,yav] at h2;show out.length<=1000
  omega
 ·have:=(hR.each r hr).len;omega
noncomputable def qbu (c:Circ) (list:List (Int×Int)):Option Kcfg:=open Classical in if c.Valid/\qlk list then(qcv c (qac c) (qb8 c (qac c)) (qdI list)).map (qhk c (qac c) (qb8 c (qac c))) else none
theorem qpG:qlk []:=⟨by simp,by simp⟩
theorem qmr (c:Circ):qbu c []=qiM c:=by
 classical
 unfold qbu qiM;by_cases h:c.Valid
 ·rw[if_pos ⟨h,qpG⟩,if_pos h];rfl
 ·rw[if_neg (fun h2=>h h2.1),if_neg h]
theorem qlC {c:Circ}{list:List (Int×Int)}{k:Kcfg}(h:qbu c list=some k):c.Valid/\qlk list/\∃ rs,Routed c (qb8 c (qac c)) rs/\qcv c (qac c) (qb8 c (qac c)) (qdI list)=some rs/\k=bK c (qb8 c (qac c)) rs:=by
 classical
 unfold qbu at h;split at h
 ·rename_i hv;obtain⟨rs,h1,rfl⟩:=Option.map_eq_some_iff.1 h;have hcl:=qbM hv.1;exact⟨hv.1,hv.2,rs,(qlB hv.1 (qiu (by omega)) (qkh list) h1).1,h1,rfl⟩
 ·cases h
theorem Tryz.c_ConfigureAround (c:Circ) (list:List (Int×Int)):Pure prog 13 [dC c,dPs list] (.tup [dK ((qbu c list).getD kz),dB (qbu c list).isSome]):=by
 classical
 have hcv:=c_CircuitValid c;have hdv:=c_DefectsValid list;by_cases hc:c.Valid
 ·rw[decide_eq_true hc] at hcv;by_cases hd:qlk list
  ·rw[(def_iff list).2 hd] at hdv;have hA:qbu c list=(qcv c (qac c) (qb8 c (qac c)) (qdI list)).map (qhk c (qac c) (qb8 c (qac c))):=if_pos ⟨hc,hd⟩;have hcl:=qbM hc;have hp:PlaceOk (qac c).length (qb8 c (qac c)):=qiu (by omega);have hpl:=c_Place c hc;have hra:=c_RouteAround c (qb8 c (qac c)) list;rw[show qdn c (qb8 c (qac c)) list=qcv c (qac c) (qb8 c (qac c)) (qdI list) by rw[qdn,if_pos ⟨⟨hc,hp⟩,hd⟩]] at hra;rw[hA];cases hro:qcv c (qac c) (qb8 c (qac c)) (qdI list) with
   | none=>
    rw[hro] at hra;simp only[qfR] at hra;rw[yaF];refine qck (E:=env 0) tok rfl 1000 func13 rfl rfl ntmps13 (by simp) fun ok=>?_
    simp only[go_sem,seval,-List.reduceReplicate] at ok
    repeat' first|assumption|(simp (disch:=first|assumption|omega|(simp;done)|(simp;omega)) only[go_sem,seval,-List.reduceReplicate])|(with_reducible first|apply And.intro|intro _)|(refine qad hcv ?_)|(refine qbk (fun _=>hdv) ?_)|(refine qbC hpl ?_)|(refine qad hra ?_)|((try rw[qaa]);omega)
    all_goals first|rfl|simp[wk2,wkL,wk1,kz]
   | some rs=>
    rw[hro] at hra;simp only[qfR] at hra;rw[yaJ];obtain⟨R,h1,h2⟩:=qlB hc hp (qkh list) hro;have hcf:=c_configure c hc (qb8 c (qac c)) hp rs (fun r hr=>⟨(R.bd r hr).1.1,(R.bd r hr).1.2,(R.bd r hr).2.1.1,(R.bd r hr).2.1.2,(R.bd r hr).2.2.1⟩) h2 h1 R.nd (fun x hx v hv=>by
     obtain⟨i,hi,rfl⟩:=qaU ce0 hx;obtain⟨r,hr,e,-⟩:=R.input hi hv;exact⟨r,hr,e⟩) (fun l hl hv=>by
     obtain⟨o,ho,rfl⟩:=qaU (0:Int) hl;obtain⟨r,hr,e,-⟩:=R.pad ho (by omega);exact⟨r,hr,e⟩)
    refine qck (E:=env 0) tok rfl 1000 func13 rfl rfl ntmps13 (by simp) fun ok=>?_
    simp only[go_sem,seval,-List.reduceReplicate] at ok
    repeat' first|assumption|(simp (disch:=first|assumption|omega|(simp;done)|(simp;omega)) only[go_sem,seval,-List.reduceReplicate])|(with_reducible first|apply And.intro|intro _)|(refine qad hcv ?_)|(refine qbk (fun _=>hdv) ?_)|(refine qbC hpl ?_)|(refine qad hra ?_)|(refine qbX hcf ?_)|((try rw[qaa]);omega)
    all_goals first|rfl|simp[wk2,wkL,wk1,kz]
  ·rw[show defectsValid list=false from Bool.eq_false_iff.2 (fun h=>hd ((def_iff list).1 h))] at hdv;rw[show qbu c list=none from if_neg (fun h=>hd h.2)];refine qck (E:=env 0) tok rfl 1000 func13 rfl rfl ntmps13 (by simp) fun ok=>?_
   simp only[go_sem,seval,-List.reduceReplicate] at ok
   repeat' first|assumption|(simp (disch:=first|assumption|omega|(simp;done)|(simp;omega)) only[go_sem,seval,-List.reduceReplicate])|(with_reducible first|apply And.intro|intro _)|(refine qad hcv ?_)|(refine qbk (fun _=>hdv) ?_)|((try rw[qaa]);omega)
   all_goals first|rfl|simp[wk2,wkL,wk1,kz]
 ·rw[decide_eq_false hc] at hcv;rw[show qbu c list=none from if_neg (fun h=>hc h.1)];refine qck (E:=env 0) tok rfl 1000 func13 rfl rfl ntmps13 (by simp) fun ok=>?_
  simp only[go_sem,seval,-List.reduceReplicate] at ok
  repeat' first|assumption|(simp (disch:=first|assumption|omega|(simp;done)|(simp;omega)) only[go_sem,seval,-List.reduceReplicate])|(with_reducible first|apply And.intro|intro _)|(refine qad hcv ?_)|(refine qbk (x:=.nil) (fun h=>by cases h) ?_)|((try rw[qaa]);omega)
  all_goals first|rfl|simp[wk2,wkL,wk1,kz]
theorem Tryz.c_Configure (c:Circ):Pure prog 51 [dC c] (.tup [dK ((qbu c []).getD kz),dB (qbu c []).isSome]):=by
 have hca:Pure prog 13 [dC c,.nil] (.tup [dK ((qbu c []).getD kz),dB (qbu c []).isSome]):=(c_ConfigureAround c []).wk (by simp[wkT,wk2,wk1,wkL]);generalize (qbu c []).getD kz=k at *
 generalize (qbu c []).isSome=b at *
 refine qck (E:=env 0) tok rfl 1000 func51 rfl rfl ntmps51 (by simp) fun ok=>?_
 simp only[go_sem,seval,-List.reduceReplicate] at ok
 repeat' first|assumption|(simp (disch:=first|assumption|omega|(simp;done)|(simp;omega)) only[go_sem,seval,-List.reduceReplicate])|(with_reducible first|apply And.intro|intro _)|(refine qbX hca ?_)|((try rw[qaa]);omega)
end Go.Proofs
