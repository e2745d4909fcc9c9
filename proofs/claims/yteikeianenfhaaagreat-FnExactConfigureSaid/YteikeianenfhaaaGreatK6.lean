/- Laws: what is exact about configurations of circuits. Conditions: none; lemmas. -/
import Derived.Test.YteikeianenfhaaaGreatK5
import Derived.Test.YteikeianenfhaaaGreatC45
import Derived.Test.YteikeianenfhaaaGreatC53
set_option maxRecDepth 20000
set_option linter.unusedVariables false
set_option linter.unusedSimpArgs false
set_option maxHeartbeats 2000000
namespace Go.Proofs
open Go Go.VL Tryz
theorem ok_wK {k:Kcfg}(h:k.ok):wK k<=303:=by
 have key : ∀ l:List Tcfg,(∀ t∈l,wT t<=11)->sumB wT l<=11*l.length:=by
  intro l;induction l with
  | nil=>exact fun _=>yad _
  | cons x l ih=>
   intro hl;have h1:=ih fun r hr=>hl r (yah _ hr)
   have h2:=hl x (yay ..);have e:sumB wT (x::l)=wT x+sumB wT l:=by simp[sumB]
   rw[e,yaf];omega
 have h1:=key k.tiles fun t ht=>by
  obtain⟨i,hi,rfl⟩:=qaU tc0 ht;obtain⟨s1,s2⟩:=Kcfg.ok_sizes h (i:=i) (by have:=h.1;omega);unfold wT;omega
 have h2:=h.1;have h3:=h.2.1.1;unfold wK;omega
theorem qnT (c:Circ) (list:List (Int×Int)):wKM ((qbu c list).getD kz)<=1000/\((qbu c list).getD kz).tiles.length<=25:=by
 cases h:qbu c list with
 | none=>exact⟨yaU _,yaU _⟩
 | some k=>
  obtain⟨-,-,rs,R,-,rfl⟩:=qlC h;have:=wKM_le (bK c (qb8 c (qac c)) rs);have:=ok_wK R.ok;refine⟨?_,?_⟩
  ·show wKM (bK c (qb8 c (qac c)) rs)<=1000
   omega
  ·show(bK c (qb8 c (qac c)) rs).tiles.length<=25
   rw[R.ok.1];omega
set_option maxHeartbeats 4000000 in
theorem Tryz.c_FnExactConfigure (c:Circ):Pure prog 8 [dC c] (.bool true):=by
 refine qav func8 rfl ntmps8 fun ok=>?_
 simp only[go_sem,seval,-List.reduceReplicate] at ok
 repeat' first|assumption|(simp (disch:=first|assumption|omega|(simp;done)|(simp;omega)) only[go_sem,seval,-List.reduceReplicate])|(with_reducible first|apply And.intro|intro _)|((try rw[qaa]);omega)
 have hz:=c_szCircuit c 1048576 (by omega);by_cases h1:(1048576:Int)<c.next.length+c.gates.length+c.outs.length
 ·rw[if_pos h1] at hz;refine qad hz ?_;simp only[go_sem,seval,-List.reduceReplicate]
 rw[if_neg h1] at hz;refine qad hz ?_
 repeat' first|assumption|(simp (disch:=first|assumption|omega|(simp;done)|(simp;omega)) only[go_sem,seval,-List.reduceReplicate])|(with_reducible first|apply And.intro|intro _)|((try rw[qaa]);omega)
 have htc:=c_toCircuit c (by omega) (by omega) (by omega);have hec:=c_eqCircuit c c;rw[decide_eq_true rfl] at hec;have hR:=c_Configure c;have hS:=c_sConfigure c;rw[<-qmr] at hS;obtain⟨hs1,hs2⟩:=qnT c [];have he:=c_eqConfig ((qbu c []).getD kz) ((qbu c []).getD kz);rw[decide_eq_true rfl] at he;generalize (qbu c []).isSome=b0 at *
 generalize (qbu c []).getD kz=out at *
 refine qad htc ?_
 repeat' first|assumption|(simp (disch:=first|assumption|omega|(simp;done)|(simp;omega)) only[go_sem,seval,-List.reduceReplicate])|(with_reducible first|apply And.intro|intro _)|(refine qad hS ?_)|((try rw[qaa]);omega)
 refine qbX htc ?_
 repeat' first|assumption|(simp (disch:=first|assumption|omega|(simp;done)|(simp;omega)) only[go_sem,seval,-List.reduceReplicate])|(with_reducible first|apply And.intro|intro _)|((try rw[qaa]);omega)
 refine qbX hR ?_
 repeat' first|assumption|(simp (disch:=first|assumption|omega|(simp;done)|(simp;omega)) only[go_sem,seval,-List.reduceReplicate])|(with_reducible first|apply And.intro|intro _)|((try rw[qaa]);omega)
 refine qad he ?_
 repeat' first|assumption|(simp (disch:=first|assumption|omega|(simp;done)|(simp;omega)) only[go_sem,seval,-List.reduceReplicate])|(with_reducible first|apply And.intro|intro _)|((try rw[qaa]);omega)
 refine qbt (n:=0) [] (fsts [0,1] (.one 2 (.one 3 (.fst 4 .done)))) ?_
 repeat' first|assumption|(simp (disch:=first|assumption|omega|(simp;done)|(simp;omega)) only[go_sem,seval,-List.reduceReplicate])|(with_reducible first|apply And.intro|intro _)|(refine qad htc ?_)|(refine qad hec ?_)|((try rw[qaa]);omega)
 refine qd4 (c_markCircuit 0 0 0 c 1 (by omega) (by omega) (by omega) (by omega)) [2,3,4] (by simp only[go_sem,seval,-List.reduceReplicate]) ?_
 repeat' first|assumption|(simp (disch:=first|assumption|omega|(simp;done)|(simp;omega)) only[go_sem,seval,-List.reduceReplicate])|(with_reducible first|apply And.intro|intro _)|((try rw[qaa]);omega)
 refine qbk (fun _=>he) ?_
 repeat' first|assumption|(simp (disch:=first|assumption|omega|(simp;done)|(simp;omega)) only[go_sem,seval,-List.reduceReplicate])|(with_reducible first|apply And.intro|intro _)|((try rw[qaa]);omega)
 refine qaA (c_markConfig 0 0 out 1 (by omega) (by omega)) [6,7] (by simp only[go_sem,seval,-List.reduceReplicate]) ?_;rintro r0 H1 ⟨rfl,rfl⟩;simp only[go_sem,seval,-List.reduceReplicate];have hh:=c_heldConfig out 1 (by omega);have tk:List.take out.tiles.length ((mK out 1).tiles.map fun x=>dTc x)=(mK out 1).tiles.map fun x=>dTc x:=yaa (by simp[mK,mTs])
 have tq:List.take out.pads.length ((mK out 1).pads.map fun x=>dQ x)=(mK out 1).pads.map fun x=>dQ x:=yaa (by simp[mK,mQs])
 rw[tk,tq];refine qad hh ?_;simp only[go_sem,seval,-List.reduceReplicate]
 repeat' first|assumption|(simp (disch:=first|assumption|omega|(simp;done)|(simp;omega)) only[go_sem,seval,-List.reduceReplicate,tk,tq])|(with_reducible first|apply And.intro|intro _)|(refine qad htc ?_)|(refine qad hR ?_)|(refine qad he ?_)|(refine qbk (fun _=>he) ?_)|(refine qad hh ?_)|((try rw[qaa]);omega)
end Go.Proofs
