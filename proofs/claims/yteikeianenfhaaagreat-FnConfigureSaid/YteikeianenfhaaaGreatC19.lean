/- Contracts, plain definitions and lemmas. Conditions: none; lemmas. -/
import Derived.Test.YteikeianenfhaaaGreatK2
import Derived.Test.YteikeianenfhaaaGreatK4
import Derived.Test.YteikeianenfhaaaGreatC92
import Derived.Test.YteikeianenfhaaaGreatM1
import Derived.Test.YteikeianenfhaaaGreatK1
import Derived.Test.YteikeianenfhaaaGreatC53
import Derived.Test.YteikeianenfhaaaGreatM3
set_option maxRecDepth 20000
set_option linter.unusedSimpArgs false
set_option linter.unusedVariables false
set_option maxHeartbeats 2000000
namespace Go.Proofs
open Go Go.VL Tryz
theorem qlR {c:Circ}(hc:c.Valid) {place:List Int}(hp:PlaceOk (qae c).length place) {busy0:List (List Bool)}(hb:BusyOk busy0) {rs:List Rt}(h:qcw c (qae c) place busy0=some rs):Routed c place rs/\rs.length<=1000/\∀ r∈rs,r.hops.length<=1000:=by
 have hf:=hc.first_bd;have hv:=hc.vars_bd;have hrc:qcw c (qae c) place busy0=(qcI c (qae c) place busy0 (c.vars.toNat-1)).map (·.2):=rfl;rw[hrc] at h;obtain⟨⟨busy,out⟩,h1,rfl⟩:=Option.map_eq_some_iff.1 h;have hR:=qgx hc hp hb _ h1;refine⟨⟨hc,hp,busy0,busy,hR⟩,?_,fun r hr=>?_⟩
 ·have h2:=(qiS (c:=c) (cells:=qae c) (place:=place) (c.vars.toNat-1)).2.2;rw[<-hR.nets,yav] at h2;show out.length<=1000
  omega
 ·have:=(hR.each r hr).len;omega
noncomputable def qce (c:Circ) (list:List (Int×Int)):Option Kcfg:=open Classical in if c.Valid/\qlL list then(qcw c (qae c) (qcm c (qae c)) (qdV list)).map (qhx c (qae c) (qcm c (qae c))) else none
theorem qqd:qlL []:=⟨by simp,by simp⟩
theorem qmH (c:Circ):qce c []=qiN c:=by
 classical
 unfold qce qiN;by_cases h:c.Valid
 ·rw[if_pos ⟨h,qqd⟩,if_pos h];rfl
 ·rw[if_neg (fun h2=>h h2.1),if_neg h]
theorem qhz {c:Circ}{list:List (Int×Int)}{k:Kcfg}(h:qce c list=some k):c.Valid/\qlL list/\∃ rs,Routed c (qcm c (qae c)) rs/\qcw c (qae c) (qcm c (qae c)) (qdV list)=some rs/\k=bK c (qcm c (qae c)) rs:=by
 classical
 unfold qce at h;split at h
 ·rename_i hv;obtain⟨rs,h1,rfl⟩:=Option.map_eq_some_iff.1 h;have hcl:=qbQ hv.1;exact⟨hv.1,hv.2,rs,(qlR hv.1 (qiJ (by omega)) (qkD list) h1).1,h1,rfl⟩
 ·cases h
theorem Tryz.c_ConfigureAround (c:Circ) (list:List (Int×Int)):Pure prog 13 [dC c,dPs list] (.tup [dK ((qce c list).getD kz),dB (qce c list).isSome]):=by
 classical
 have hcv:=c_CircuitValid c;have hdv:=c_DefectsValid list;by_cases hc:c.Valid
 ·rw[decide_eq_true hc] at hcv;by_cases hd:qlL list
  ·rw[(def_iff list).2 hd] at hdv;have hA:qce c list=(qcw c (qae c) (qcm c (qae c)) (qdV list)).map (qhx c (qae c) (qcm c (qae c))):=if_pos ⟨hc,hd⟩;have hcl:=qbQ hc;have hp:PlaceOk (qae c).length (qcm c (qae c)):=qiJ (by omega);have hpl:=c_Place c hc;have hra:=c_RouteAround c (qcm c (qae c)) list;rw[show qdA c (qcm c (qae c)) list=qcw c (qae c) (qcm c (qae c)) (qdV list) by rw[qdA,if_pos ⟨⟨hc,hp⟩,hd⟩]] at hra;rw[hA];cases hro:qcw c (qae c) (qcm c (qae c)) (qdV list) with
   | none=>
    rw[hro] at hra;simp only[qf6] at hra;rw[yai];refine qcd (E:=env 0) tok rfl 1000 func13 rfl rfl ntmps13 (by simp) fun ok=>?_
    simp only[go_sem,seval,-List.reduceReplicate] at ok
    repeat' first|assumption|(simp (disch:=first|assumption|omega|(simp;done)|(simp;omega)) only[go_sem,seval,-List.reduceReplicate])|(with_reducible first|apply And.intro|intro _)|(refine qad hcv ?_)|(refine qbg (fun _=>hdv) ?_)|(refine qbH hpl ?_)|(refine qad hra ?_)|((try rw[qaa]);omega)
    all_goals first|rfl|simp[wk2,wkL,wk1,kz]
   | some rs=>
    rw[hro] at hra;simp only[qf6] at hra;rw[yaj];obtain⟨R,h1,h2⟩:=qlR hc hp (qkD list) hro;have hcf:=c_configure c hc (qcm c (qae c)) hp rs (fun r hr=>⟨(R.bd r hr).1.1,(R.bd r hr).1.2,(R.bd r hr).2.1.1,(R.bd r hr).2.1.2,(R.bd r hr).2.2.1⟩) h2 h1 R.nd (fun x hx v hv=>by
     obtain⟨i,hi,rfl⟩:=qaU ce0 hx;obtain⟨r,hr,e,-⟩:=R.input hi hv;exact⟨r,hr,e⟩) (fun l hl hv=>by
     obtain⟨o,ho,rfl⟩:=qaU (0:Int) hl;obtain⟨r,hr,e,-⟩:=R.pad ho (by omega);exact⟨r,hr,e⟩)
    refine qcd (E:=env 0) tok rfl 1000 func13 rfl rfl ntmps13 (by simp) fun ok=>?_
    simp only[go_sem,seval,-List.reduceReplicate] at ok
    repeat' first|assumption|(simp (disch:=first|assumption|omega|(simp;done)|(simp;omega)) only[go_sem,seval,-List.reduceReplicate])|(with_reducible first|apply And.intro|intro _)|(refine qad hcv ?_)|(refine qbg (fun _=>hdv) ?_)|(refine qbH hpl ?_)|(refine qad hra ?_)|(refine qbZ hcf ?_)|((try rw[qaa]);omega)
    all_goals first|rfl|simp[wk2,wkL,wk1,kz]
  ·rw[show defectsValid list=false from Bool.eq_false_iff.2 (fun h=>hd ((def_iff list).1 h))] at hdv;rw[show qce c list=none from if_neg (fun h=>hd h.2)];refine qcd (E:=env 0) tok rfl 1000 func13 rfl rfl ntmps13 (by simp) fun ok=>?_
   simp only[go_sem,seval,-List.reduceReplicate] at ok
   repeat' first|assumption|(simp (disch:=first|assumption|omega|(simp;done)|(simp;omega)) only[go_sem,seval,-List.reduceReplicate])|(with_reducible first|apply And.intro|intro _)|(refine qad hcv ?_)|(refine qbg (fun _=>hdv) ?_)|((try rw[qaa]);omega)
   all_goals first|rfl|simp[wk2,wkL,wk1,kz]
 ·rw[decide_eq_false hc] at hcv;rw[show qce c list=none from if_neg (fun h=>hc h.1)];refine qcd (E:=env 0) tok rfl 1000 func13 rfl rfl ntmps13 (by simp) fun ok=>?_
  simp only[go_sem,seval,-List.reduceReplicate] at ok
  repeat' first|assumption|(simp (disch:=first|assumption|omega|(simp;done)|(simp;omega)) only[go_sem,seval,-List.reduceReplicate])|(with_reducible first|apply And.intro|intro _)|(refine qad hcv ?_)|(refine qbg (x:=.nil) (fun h=>by cases h) ?_)|((try rw[qaa]);omega)
  all_goals first|rfl|simp[wk2,wkL,wk1,kz]
theorem Tryz.c_Configure (c:Circ):Pure prog 51 [dC c] (.tup [dK ((qce c []).getD kz),dB (qce c []).isSome]):=by
 have hca:Pure prog 13 [dC c,.nil] (.tup [dK ((qce c []).getD kz),dB (qce c []).isSome]):=(c_ConfigureAround c []).wk (by simp[wkT,wk2,wk1,wkL]);generalize (qce c []).getD kz=k at *
 generalize (qce c []).isSome=b at *
 refine qcd (E:=env 0) tok rfl 1000 func51 rfl rfl ntmps51 (by simp) fun ok=>?_
 simp only[go_sem,seval,-List.reduceReplicate] at ok
 repeat' first|assumption|(simp (disch:=first|assumption|omega|(simp;done)|(simp;omega)) only[go_sem,seval,-List.reduceReplicate])|(with_reducible first|apply And.intro|intro _)|(refine qbZ hca ?_)|((try rw[qaa]);omega)

theorem Tryz.c_sameConfig (a b:Kcfg):Pure prog 15 [dK a,dK b] (.bool (decide (a=b))):=by
 refine qay func15 rfl ntmps15 fun ok=>?_
 simp only[go_sem,seval] at ok⊢
 repeat' first|assumption|(simp (disch:=first|assumption|omega|(simp;done)|(simp;omega)) only[];try simp only[go_sem,seval])|(with_reducible first|apply And.intro|intro _)|exact lexT|((try rw[qaa]);omega)
 ·rename_i h1;exact(decide_eq_false fun e=>by subst e;simp at h1).symm
 ·have hl:a.tiles.length=b.tiles.length/\a.pads.length=b.pads.length:=by simp_all
  refine qaw (E:=env 0) tok (σ:=Nat) (fun i=>[(2,.ptr 0 0),(3,.ptr 1 0),(5,.d (dI i))]) (fun _=>[.box [.d (dTcs a.tiles),.d (dQs a.pads)],.box [.d (dTcs b.tiles),.d (dQs b.pads)]])
   (fun i=>i<=a.tiles.length/\∀ k,k<i->a.tiles.getD k tc0=b.tiles.getD k tc0) (fun i=>a.tiles.length-i) [] 1000 1000 ?_ ?_ ?_
  ·simp only[go_sem,seval]
  ·simp only[go_sem,seval];exact⟨0,⟨by omega,fun k hk=>by omega⟩,rfl⟩
  ·rintro i ⟨hi,hk⟩;by_cases hlt:i<a.tiles.length
   ·have hlb:i<b.tiles.length:=by omega
    have gx:=qap (z:=D.agg [D.int .i64 0,.nil,.bool false,.nil]) hlt;have gy:=qap (z:=D.agg [D.int .i64 0,.nil,.bool false,.nil]) hlb;generalize hx9:a.tiles.getD i tc0=x at *
    generalize hy9:b.tiles.getD i tc0=y at *
    obtain⟨x1,x2,x3,x4⟩:=x;obtain⟨y1,y2,y3,y4⟩:=y;simp only[go_sem,seval,gx,gy]
    repeat' first|assumption|(simp (disch:=first|assumption|omega|(simp;done)|(simp;omega)) only[];try simp only[go_sem,seval,gx,gy])|(with_reducible first|apply And.intro|intro _)|(refine qbg (fun _=>c_sameInts _ _) ?_;simp only[go_sem,seval,gx,gy])|exact lexT|((try rw[qaa]);omega)
    ·rename_i h1;refine(decide_eq_false fun e=>?_).symm;subst e;rw[hx9] at hy9;cases hy9;simp at h1
    ·rename_i h1;refine⟨i+1,⟨by omega,fun k hk2=>?_⟩,by omega,rfl⟩;by_cases hki:k=i
     ·subst hki;rw[hx9,hy9];simp_all
     ·exact hk k (by omega)
   ·obtain rfl:i=a.tiles.length:=by omega
    have ht:a.tiles=b.tiles:=by
     refine ybg hl.1 fun k h1 h2=>?_
     have:=hk k h1;simpa [List.getD,h1,h2] using this
    simp only[go_sem,seval]
    repeat' first|assumption|(simp (disch:=first|assumption|omega|(simp;done)|(simp;omega)) only[];try simp only[go_sem,seval])|(with_reducible first|apply And.intro|intro _)|exact lexT|((try rw[qaa]);omega)
    refine qaw (E:=env 0) tok (σ:=Nat) (fun i=>[(2,.ptr 0 0),(3,.ptr 1 0),(8,.d (dI i))]) (fun _=>[.box [.d (dTcs a.tiles),.d (dQs a.pads)],.box [.d (dTcs b.tiles),.d (dQs b.pads)]])
     (fun i=>i<=a.pads.length/\∀ k,k<i->a.pads.getD k (0,false)=b.pads.getD k (0,false)) (fun i=>a.pads.length-i) [] 1000 1000 ?_ ?_ ?_
    ·simp only[go_sem,seval]
    ·simp only[go_sem,seval];exact⟨0,⟨by omega,fun k hk=>by omega⟩,rfl⟩
    ·rintro i ⟨hi,hk⟩;by_cases hlt:i<a.pads.length
     ·have hlb:i<b.pads.length:=by omega
      have gx:=qan (z:=D.agg [D.int .i64 0,.bool false]) hlt;have gy:=qan (z:=D.agg [D.int .i64 0,.bool false]) hlb;generalize hx9:a.pads.getD i (0,false)=x at *
      generalize hy9:b.pads.getD i (0,false)=y at *
      obtain⟨x1,x2⟩:=x;obtain⟨y1,y2⟩:=y;simp only[go_sem,seval,gx,gy]
      repeat' first|assumption|(simp (disch:=first|assumption|omega|(simp;done)|(simp;omega)) only[];try simp only[go_sem,seval,gx,gy])|(with_reducible first|apply And.intro|intro _)|exact lexT|((try rw[qaa]);omega)
      ·rename_i h1;refine(decide_eq_false fun e=>?_).symm;subst e;rw[hx9] at hy9;cases hy9;simp at h1
      ·rename_i h1;refine⟨i+1,⟨by omega,fun k hk2=>?_⟩,by omega,rfl⟩;by_cases hki:k=i
       ·subst hki;rw[hx9,hy9];simp_all;exact of_decide_eq_true h1.1
       ·exact hk k (by omega)
     ·obtain rfl:i=a.pads.length:=by omega
      have hp:a.pads=b.pads:=by
       refine ybg hl.2 fun k h1 h2=>?_
       have:=hk k h1;simpa [List.getD,h1,h2] using this
      simp only[go_sem,seval]
      repeat' first|assumption|(simp (disch:=first|assumption|omega|(simp;done)|(simp;omega)) only[];try simp only[go_sem,seval])|(with_reducible first|apply And.intro|intro _)|exact lexT|((try rw[qaa]);omega)
      exact(decide_eq_true (by cases a;cases b;simp_all)).symm

def qog (c:Circ) (st:List Bool):Prop:=qp6 c/\st.length=c.next.length
noncomputable instance (c:Circ) (st:List Bool):Decidable (qog c st):=Classical.propDecidable _
theorem Tryz.c_sameBools (a b:List Bool):Pure prog 21 [dBs a,dBs b] (.bool (decide (a=b))):=by
 refine qay func21 rfl ntmps21 fun ok=>?_
 simp only[go_sem,seval] at ok⊢;refine⟨fun h=>?_,fun hlen=>?_⟩
 ·simp only[false_eq_decide_iff];rintro rfl;exact h rfl
 refine qaw (E:=env 0) tok (σ:=Nat) (fun i=>[(0,.d (dBs a)),(1,.d (dBs b)),(5,.d (dI i))]) (fun _=>[]) (fun i=>i<=a.length/\∀ j,j<i->a.getD j false=b.getD j false) (fun i=>a.length-i) [] 1000 1000 ?_ ?_ ?_
 ·simp only[go_sem,seval]
 ·simp only[go_sem,seval];exact⟨0,⟨by omega,by omega⟩,rfl⟩
 ·rintro i ⟨hi,hinv⟩
  repeat' first|assumption|(simp (disch:=first|assumption|omega|(simp;done)|(simp;omega)) only[go_sem,seval])|(with_reducible first|apply And.intro|intro _)|exact lexT|((try rw[qaa]);omega)
  ·rename_i h1 h2;simp only[false_eq_decide_iff];rintro rfl;exact h2 rfl
  ·rename_i h1 h2;exact qiB h1 h2 hinv
  ·simp only[true_eq_decide_iff];exact qdu false hlen fun j hj=>hinv j (by omega)
end Go.Proofs
