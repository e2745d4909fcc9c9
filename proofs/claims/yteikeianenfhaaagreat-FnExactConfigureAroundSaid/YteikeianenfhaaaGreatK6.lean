/- Laws: what is exact about configurations of circuits. Conditions: none; lemmas. -/
import Derived.Test.YteikeianenfhaaaGreatK5
import Derived.Test.YteikeianenfhaaaGreatC13
import Derived.Test.YteikeianenfhaaaGreatC52
set_option maxRecDepth 20000
set_option linter.unusedVariables false
set_option linter.unusedSimpArgs false
namespace Go.Proofs
open Go Go.VL
theorem ok_wK {k:Kcfg}(h:k.ok):wK k<=303:=by
 have key : ∀ l:List Tcfg,(∀ t∈l,wT t<=11)->sumB wT l<=11*l.length:=by
  intro l;induction l with
  | nil=>exact fun _=>yad _
  | cons x l ih=>
   intro hl;have h1:=ih fun r hr=>hl r (yak _ hr)
   have h2:=hl x (yay ..);have e:sumB wT (x::l)=wT x+sumB wT l:=by simp[sumB]
   rw[e,yae];omega
 have h1:=key k.tiles fun t ht=>by
  obtain⟨i,hi,rfl⟩:=qa1 tc0 ht;obtain⟨s1,s2⟩:=Kcfg.ok_sizes h (i:=i) (by have:=h.1;omega);unfold wT;omega
 have h2:=h.1;have h3:=h.2.1.1;unfold wK;omega
theorem qnT (c:Circ) (list:List (Int×Int)):wKM ((qb7 c list).getD kz)<=1000/\((qb7 c list).getD kz).tiles.length<=25:=by
 cases h:qb7 c list with
 | none=>exact⟨yaU _,yaU _⟩
 | some k=>
  obtain⟨-,-,rs,R,-,rfl⟩:=qlH h;have:=wKM_le (bK c (qb9 c (qak c)) rs);have:=ok_wK R.ok;refine⟨?_,?_⟩
  ·show wKM (bK c (qb9 c (qak c)) rs)<=1000
   omega
  ·show(bK c (qb9 c (qak c)) rs).tiles.length<=25
   rw[R.ok.1];omega
set_option maxHeartbeats 4000000 in
theorem Tryz.c_FnExactConfigureAround (c:Circ) (list:List (Int×Int)):Pure Tryz.prog 10 [dC c,dPs list] (.bool true):=by
 refine qas (E:=Tryz.env 0) Tryz.tok rfl 1000 Tryz.func10 rfl rfl Tryz.ntmps10 (by simp) fun ok=>?_
 simp only[go_sem,seval,-List.reduceReplicate] at ok;simp only[go_sem,seval,-List.reduceReplicate]
 repeat' first|assumption|(simp (disch:=first|assumption|omega|(simp;done)|(simp;omega)) only[qaa,qac,yaa,qab,qan,qau,qaI,qag,qae,qaf];try simp only[go_sem,seval,-List.reduceReplicate])|(with_reducible first|refine And.intro ?_ ?_|intro _)|((try rw[qad]);omega)
 have hz:=Tryz.c_szCircuit c 1048576 (by omega);by_cases h1:(1048576:Int)<c.next.length+c.gates.length+c.outs.length
 ·rw[if_pos h1] at hz;refine qaj hz ?_;simp only[go_sem,seval,-List.reduceReplicate]
 rw[if_neg h1] at hz;refine qaj hz ?_;simp only[go_sem,seval,-List.reduceReplicate]
 repeat' first|assumption|(simp (disch:=first|assumption|omega|(simp;done)|(simp;omega)) only[qaa,qac,yaa,qab,qan,qau,qaI,qag,qae,qaf];try simp only[go_sem,seval,-List.reduceReplicate])|(with_reducible first|refine And.intro ?_ ?_|intro _)|((try rw[qad]);omega)
 have hz2:=Tryz.c_szDefectS list (1048576-(c.next.length:Int)-(c.gates.length:Int)-(c.outs.length:Int)) (by omega);by_cases h2:(1048576-(c.next.length:Int)-(c.gates.length:Int)-(c.outs.length:Int))<list.length
 ·rw[if_pos h2] at hz2;refine qaj hz2 ?_;simp only[go_sem,seval,-List.reduceReplicate]
 rw[if_neg h2] at hz2;refine qaj hz2 ?_;simp only[go_sem,seval,-List.reduceReplicate]
 repeat' first|assumption|(simp (disch:=first|assumption|omega|(simp;done)|(simp;omega)) only[qaa,qac,yaa,qab,qan,qau,qaI,qag,qae,qaf];try simp only[go_sem,seval,-List.reduceReplicate])|(with_reducible first|refine And.intro ?_ ?_|intro _)|((try rw[qad]);omega)
 have htc:=Tryz.c_toCircuit c (by omega) (by omega) (by omega);have htd:=Tryz.c_toDefectS list (by omega);have hec:=Tryz.c_eqCircuit c c;have hed:=Tryz.c_eqDefectS list list;rw[decide_eq_true rfl] at hec hed;have hR:=Tryz.c_ConfigureAround c list;have hS:=Tryz.c_sConfigureAround c list;obtain⟨hs1,hs2⟩:=qnT c list;have he:=Tryz.c_eqConfig ((qb7 c list).getD kz) ((qb7 c list).getD kz);rw[decide_eq_true rfl] at he;generalize (qb7 c list).isSome=b0 at *
 generalize (qb7 c list).getD kz=out at *
 refine qaj htc ?_;simp only[go_sem,seval,-List.reduceReplicate]
 repeat' first|assumption|(simp (disch:=first|assumption|omega|(simp;done)|(simp;omega)) only[qaa,qac,yaa,qab,qan,qau,qaI,qag,qae,qaf];try simp only[go_sem,seval,-List.reduceReplicate])|(with_reducible first|refine And.intro ?_ ?_|intro _)|(refine qaj htd ?_;simp only[go_sem,seval,-List.reduceReplicate])|(refine qaj hS ?_;simp only[go_sem,seval,-List.reduceReplicate])|((try rw[qad]);omega)
 refine qb8 htc ?_;simp only[go_sem,seval,-List.reduceReplicate]
 repeat' first|assumption|(simp (disch:=first|assumption|omega|(simp;done)|(simp;omega)) only[qaa,qac,yaa,qab,qan,qau,qaI,qag,qae,qaf];try simp only[go_sem,seval,-List.reduceReplicate])|(with_reducible first|refine And.intro ?_ ?_|intro _)|((try rw[qad]);omega)
 refine qb8 htd ?_;simp only[go_sem,seval,-List.reduceReplicate]
 repeat' first|assumption|(simp (disch:=first|assumption|omega|(simp;done)|(simp;omega)) only[qaa,qac,yaa,qab,qan,qau,qaI,qag,qae,qaf];try simp only[go_sem,seval,-List.reduceReplicate])|(with_reducible first|refine And.intro ?_ ?_|intro _)|((try rw[qad]);omega)
 refine qb8 hR ?_;simp only[go_sem,seval,-List.reduceReplicate]
 repeat' first|assumption|(simp (disch:=first|assumption|omega|(simp;done)|(simp;omega)) only[qaa,qac,yaa,qab,qan,qau,qaI,qag,qae,qaf];try simp only[go_sem,seval,-List.reduceReplicate])|(with_reducible first|refine And.intro ?_ ?_|intro _)|((try rw[qad]);omega)
 refine qaj he ?_;simp only[go_sem,seval,-List.reduceReplicate]
 repeat' first|assumption|(simp (disch:=first|assumption|omega|(simp;done)|(simp;omega)) only[qaa,qac,yaa,qab,qan,qau,qaI,qag,qae,qaf];try simp only[go_sem,seval,-List.reduceReplicate])|(with_reducible first|refine And.intro ?_ ?_|intro _)|((try rw[qad]);omega)
 refine qaL (E:=Tryz.env 0) Tryz.tok Tryz.follows 1000 1000 [] (.fst 0 (.fst 1 (.one 2 (.one 3 (.fst 4 (.done)))))) (by kernel_rfl) ?_;simp only[go_sem,seval,-List.reduceReplicate]
 repeat' first|assumption|(simp (disch:=first|assumption|omega|(simp;done)|(simp;omega)) only[qaa,qac,yaa,qab,qan,qau,qaI,qag,qae,qaf];try simp only[go_sem,seval,-List.reduceReplicate])|(with_reducible first|refine And.intro ?_ ?_|intro _)|(refine qaj htc ?_;simp only[go_sem,seval,-List.reduceReplicate])|(refine qaj hec ?_;simp only[go_sem,seval,-List.reduceReplicate])|((try rw[qad]);omega)
 refine qaj htd ?_;simp only[go_sem,seval,-List.reduceReplicate]
 repeat' first|assumption|(simp (disch:=first|assumption|omega|(simp;done)|(simp;omega)) only[qaa,qac,yaa,qab,qan,qau,qaI,qag,qae,qaf];try simp only[go_sem,seval,-List.reduceReplicate])|(with_reducible first|refine And.intro ?_ ?_|intro _)|(refine qaj hed ?_;simp only[go_sem,seval,-List.reduceReplicate])|((try rw[qad]);omega)
 refine qea (Tryz.c_markCircuit 0 0 0 c 1 (by omega) (by omega) (by omega) (by omega)) [2,3,4] (by simp only[go_sem,seval,-List.reduceReplicate]) ?_;simp only[go_sem,seval,-List.reduceReplicate]
 repeat' first|assumption|(simp (disch:=first|assumption|omega|(simp;done)|(simp;omega)) only[qaa,qac,yaa,qab,qan,qau,qaI,qag,qae,qaf];try simp only[go_sem,seval,-List.reduceReplicate])|(with_reducible first|refine And.intro ?_ ?_|intro _)|((try rw[qad]);omega)
 refine qaB (Tryz.c_markDefectS 0 list (1+c.next.length+2*c.gates.length+c.outs.length) (by omega)) [6] (by simp only[go_sem,seval,-List.reduceReplicate]) ?_;rintro r0 H1 ⟨rfl,bz,rfl⟩;simp only[go_sem,seval,-List.reduceReplicate]
 repeat' first|assumption|(simp (disch:=first|assumption|omega|(simp;done)|(simp;omega)) only[qaa,qac,yaa,qab,qan,qau,qaI,qag,qae,qaf];try simp only[go_sem,seval,-List.reduceReplicate])|(with_reducible first|refine And.intro ?_ ?_|intro _)|((try rw[qad]);omega)
 refine qaZ (fun _=>he) ?_;simp only[go_sem,seval,-List.reduceReplicate]
 repeat' first|assumption|(simp (disch:=first|assumption|omega|(simp;done)|(simp;omega)) only[qaa,qac,yaa,qab,qan,qau,qaI,qag,qae,qaf];try simp only[go_sem,seval,-List.reduceReplicate])|(with_reducible first|refine And.intro ?_ ?_|intro _)|((try rw[qad]);omega)
 refine qaB (Tryz.c_markConfig 0 0 out 1 (by omega) (by omega)) [7,8] (by simp only[go_sem,seval,-List.reduceReplicate]) ?_;rintro r0 H1 ⟨rfl,rfl⟩;simp only[go_sem,seval,-List.reduceReplicate];have hh:=Tryz.c_heldConfig out 1 (by omega);have tk:List.take out.tiles.length ((mK out 1).tiles.map fun x=>dTc x)=(mK out 1).tiles.map fun x=>dTc x:=yaa (by simp[mK,mTs])
 have tq:List.take out.pads.length ((mK out 1).pads.map fun x=>dQ x)=(mK out 1).pads.map fun x=>dQ x:=yaa (by simp[mK,mQs])
 rw[tk,tq];refine qaj hh ?_;simp only[go_sem,seval,-List.reduceReplicate]
 repeat' first|assumption|(simp (disch:=first|assumption|omega|(simp;done)|(simp;omega)) only[qaa,qac,yaa,qab,qan,qau,qaI,qag,qae,qaf];try simp only[go_sem,seval,-List.reduceReplicate,tk,tq])|(with_reducible first|refine And.intro ?_ ?_|intro _)|(refine qaj htc ?_;simp only[go_sem,seval,-List.reduceReplicate,tk,tq])|(refine qaj htd ?_;simp only[go_sem,seval,-List.reduceReplicate,tk,tq])|(refine qaj hR ?_;simp only[go_sem,seval,-List.reduceReplicate,tk,tq])|(refine qaj he ?_;simp only[go_sem,seval,-List.reduceReplicate,tk,tq])|(refine qaZ (fun _=>he) ?_;simp only[go_sem,seval,-List.reduceReplicate,tk,tq])|(refine qaj hh ?_;simp only[go_sem,seval,-List.reduceReplicate,tk,tq])|((try rw[qad]);omega)
end Go.Proofs
