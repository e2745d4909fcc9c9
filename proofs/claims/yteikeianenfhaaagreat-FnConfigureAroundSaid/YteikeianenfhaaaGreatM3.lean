/- Contracts, plain definitions and lemmas. Conditions: none; lemmas. -/
import Derived.Test.YteikeianenfhaaaGreatK20
import Derived.Test.YteikeianenfhaaaGreatC9
set_option maxRecDepth 20000
set_option linter.unusedSimpArgs false
set_option linter.unusedVariables false
set_option maxHeartbeats 2000000
namespace Go.Proofs
set_option linter.defProp false
open Go Go.VL Tryz
def qqk (k:Kcfg) (V:Wr->Bool):(qkN k V).length=25:=by simp[qkN]
def qql (k:Kcfg) (V:Nat->Wr->Bool) : ∀ i,(qhT k V i).length=25
 | 0=>by simp[qhT]
 | i+1=>by rw[qhT,qqk]
def qfp (k:Kcfg) (V:Nat->Wr->Bool) (n:Nat):List (List Bool):=(List.range n).map fun i=>outE k (V i)
def qmS (k:Kcfg) (V:Nat->Wr->Bool) (n:Nat):qfp k V (n+1)=qfp k V n ++ [outE k (V n)]:=by rw[qfp,yaH,yaz];rfl
def qhs (k:Kcfg) (V:Nat->Wr->Bool) (n:Nat):(qfp k V n).length=n:=by simp[qfp]
def Tryz.c_RunFabricS (g:Nat) (k:Kcfg) (hk:k.ok) (hw:Wf k) (rows:List (List Bool)) (hr:rows.length<=40) (hin : ∀ r∈rows,r.length<=4) (V:Nat->Wr->Bool) (hV : ∀ i,i<rows.length->VOk k (qhT k V i) (rows.getD i []) (V i)) :
  ICall prog 19 [.d (dK k),.sl 0 g 1 0 rows.length] [.row g 1 false (rows.map fun x=>dBs x)] (fun r H'=>r=.d (dBss (qfp k V rows.length))/\H'=[.row g 1 false (rows.map fun x=>dBs x)]):=by
 have hfr:=c_FabricReset;have hca:=c_ConfigAcyclic k;rw[decide_eq_true ⟨hk,hw⟩] at hca;refine qaz (E:=env 1) tok rfl 1000 func19 rfl rfl ntmps19 (by simp) ?_
 repeat' first|assumption|(simp (disch:=first|assumption|omega|(simp;done)|(simp;omega)) only[go_sem,seval,-List.reduceReplicate,qag])|(with_reducible first|apply And.intro|intro _)|(refine qac hca ?_)|((try rw[qaa]);omega)
 refine qaw (E:=env 1) tok (σ:=Nat) (fun i=>[(0,.d (dK k)),(1,.sl 0 g 1 0 rows.length),(2,.ptr 1 0),(4,.d .nil),(20,.sl 0 g 1 0 rows.length),(21,.d (dI rows.length)),(22,.d (dI i))])
  (fun i=>[.row g 1 false (rows.map fun x=>dBs x),.box [.d (dTcs k.tiles),.d (dQs k.pads)]]) (fun i=>i<=rows.length) (fun i=>rows.length-i) [] 1000 1000 ?_ ?_ ?_
 ·simp only[go_sem,seval,-List.reduceReplicate]
 ·simp only[go_sem,seval,-List.reduceReplicate];first|exact⟨0,by omega,rfl⟩|exact⟨0,by omega,rfl,rfl⟩|exact⟨0,by omega,rfl,rfl,rfl⟩
 ·intro i hi;by_cases hlt:i<rows.length
  ·have hi4:=hin _ (qad hlt:rows.getD i []∈rows);generalize hx9:rows.getD i []=x at *
   repeat' first|assumption|(simp (disch:=first|assumption|omega|(simp;done)|(simp;omega)) only[go_sem,seval,-List.reduceReplicate,hx9,qag])|(with_reducible first|apply And.intro|intro _)|((try rw[qaa]);omega)
   all_goals first|exact⟨i+1,by omega,by omega,rfl⟩|exact⟨i+1,by omega,by omega,rfl,rfl⟩
  ·obtain rfl:i=rows.length:=by omega
   repeat' first|assumption|(simp (disch:=first|assumption|omega|(simp;done)|(simp;omega)) only[go_sem,seval,-List.reduceReplicate,qag])|(with_reducible first|apply And.intro|intro _)|(refine qac hfr ?_)|((try rw[qaa]);omega)
   refine qaw (E:=env 1) tok (σ:=Nat) (fun i=>[(0,.d (dK k)),(2,.ptr 1 0),(7,.ptr 2 0),(8,.sl 3 i 1 0 i),(31,.sl 0 g 1 0 rows.length),(32,.d (dI rows.length)),(33,.d (dI i))])
    (fun i=>[.row g 1 false (rows.map fun x=>dBs x),.box [.d (dTcs k.tiles),.d (dQs k.pads)],.box [.d (dBs (qhT k V i))],.row i 1 false ((qfp k V i).map fun x=>dBs x)]) (fun i=>i<=rows.length) (fun i=>rows.length-i) [(8,1,false)] 1000 1000 ?_ ?_ ?_
   ·simp only[go_sem,seval,-List.reduceReplicate]
   ·simp only[go_sem,seval,-List.reduceReplicate];exact⟨0,by omega,⟨rfl,rfl⟩,rfl,rfl,rfl⟩
   ·intro i hi;by_cases hlt2:i<rows.length
    ·have hi4:=hin _ (qad hlt2:rows.getD i []∈rows);have hst:=c_stepFabric k hk hw (qhT k V i) (rows.getD i []) hi4 (qql k V i) (V i) (hV i hlt2);have hro:=qmS k V i;have hrl:=qhs k V i;have hrg:qhT k V (i+1)=qkN k (V i):=rfl;generalize hx9:rows.getD i []=x at *
     generalize qhT k V i=r at *
     repeat' first|assumption|(simp (disch:=first|assumption|omega|(simp;done)|(simp;omega)) only[go_sem,seval,-List.reduceReplicate,hx9,qag])|(with_reducible first|apply And.intro|intro _)|(refine qac hst ?_)|((try rw[qaa]);omega)
     exact⟨i+1,by omega,by omega,rfl,by rw[hrg],rfl,hro.symm⟩
    ·obtain rfl:i=rows.length:=by omega
     repeat' first|assumption|(simp (disch:=first|assumption|omega|(simp;done)|(simp;omega)) only[go_sem,seval,-List.reduceReplicate,qag])|(with_reducible first|apply And.intro|intro _)|((try rw[qaa]);omega)
     refine qaK (r0:=.d (dBss (qfp k V rows.length))) (H1:=[.row g 1 false (rows.map fun x=>dBs x)]) ?_ ⟨rfl,rfl⟩;simp only[go_sem,seval,-List.reduceReplicate];exact yaa (by rw[qhs];omega)

def qqm (c:Circ):Prop:=c.Valid/\0<c.next.length/\c.inputs<=2/\c.outs.length<3/\c.gates.length+3*c.next.length<=14
noncomputable instance (c:Circ):Decidable (qqm c):=Classical.propDecidable _
@[go_sem] def zqX {H:List R}{ds:List D}:qfb H (ds.map .d)=some (True,ds):=by
 induction ds with
 | nil=>rfl
 | cons x r ih=>
  rw[yaL,qn9,ih];simp[go_sem]
def Tryz.c_EvalVars (c:Circ) (st ins:List Bool) (hv:c.Valid) (h1:st.length=c.next.length) (h2:(ins.length:Int)=c.inputs):Pure prog 145 [dC c,dBs st,dBs ins] (dBs (values c st ins)):=by
 refine qax func145 rfl ntmps145 fun ok=>?_
 simp only[go_sem,seval] at ok
 repeat' first|assumption|(simp (disch:=first|assumption|omega|(simp;done)|(simp;omega)) only[go_sem,seval,yaa])|(with_reducible first|apply And.intro|intro _)|(refine qac (c_CircuitValid c) ?_)|(refine qbr (c_evaluate c hv st ins h1 h2 _) ?_)|((try rw[qaa]);omega)
 rename_i h5;exfalso;rcases h5 with(h5|h5)|h5 <;> exact h5 (by assumption)
def Tryz.c_Step (c:Circ) (st ins:List Bool) (hv:c.Valid) (h1:st.length=c.next.length) (h2:(ins.length:Int)=c.inputs):Pure prog 79 [dC c,dBs st,dBs ins] (.agg [dBs (qcG (values c st ins) c.outs),dBs (qcG (values c st ins) c.next)]):=by
 refine qax func79 rfl ntmps79 fun ok=>?_
 simp only[go_sem,seval] at ok⊢;have hb:=hv.vars_bd;have hvl:(values c st ins).length=c.vars.toNat:=by rw[values,qff];unfold Circ.vars Circ.first;omega
 have hne:values c st ins≠[]:=fun e=>by rw[e] at hvl;simp at hvl;have:=hv.first_bd;omega
 refine qac (c_EvalVars c st ins hv h1 h2) ?_
 repeat' first|assumption|(simp (disch:=first|assumption|omega|(simp;done)|(simp;omega)) only[go_sem,seval,yaa])|(with_reducible first|apply And.intro|intro _)|((try rw[qaa]);omega)
 ·exact .inr (by simpa using hne)
 have hn : ∀ l∈c.next,0<=l/\l<2*((values c st ins).length:Int):=fun l hl=>by have:=hv.n l hl;unfold qaY at this;omega
 have ho : ∀ l∈c.outs,0<=l/\l<2*((values c st ins).length:Int):=fun l hl=>by have:=hv.o l hl;unfold qaY at this;omega
 have hln:=hv.ln;have hlo:=hv.lo;refine qaL (n:=0) [9] (fsts [0,1,4,5,2,6] (.one 3 (.one 7 (.fst 8 (.one 9 .done))))) ?_
 repeat' first|assumption|(simp (disch:=first|assumption|omega|(simp;done)|(simp;omega)) only[go_sem,seval,yaa])|(with_reducible first|apply And.intro|intro _)|(refine qbr (c_litValues _ c.outs ho (by omega)) ?_)|(refine qbr (c_litValues _ c.next hn (by omega)) ?_)|((try rw[qaa]);omega)

def simO (c:Circ) (rows:List (List Bool)) (n:Nat):List (List Bool):=(List.range n).map fun i=>qcG (qfS c rows i) c.outs
def qqn (c:Circ) (rows:List (List Bool)) (n:Nat):simO c rows (n+1)=simO c rows n ++ [qcG (qfS c rows n) c.outs]:=by rw[simO,yaH,yaz];rfl
def qkS (c:Circ) (rows:List (List Bool)) (n:Nat):(simO c rows n).length=n:=by simp[simO]
def qsb (c:Circ) (rows:List (List Bool)) {n i:Nat}(h:i<n):(simO c rows n).getD i []=qcG (qfS c rows i) c.outs:=by simp[simO,List.getD,h]
def stSl (j:Nat) (c:Circ) (rows:List (List Bool)):Nat->I
 | 0=>.sl j 0 1 0 c.next.length
 | i+1=>.d (dBs (qcH c rows (i+1)))
def Tryz.c_SimulateS (g:Nat) (c:Circ) (rows:List (List Bool)) (h:qpM c rows) :
  ICall prog 18 [.d (dC c),.sl 0 g 1 0 rows.length] [.row g 1 false (rows.map fun x=>dBs x)] (fun r H'=>r=.d (dBss (simO c rows rows.length))/\H'=[.row g 1 false (rows.map fun x=>dBs x)]):=by
 refine qaz (E:=env 1) tok rfl 1000 func18 rfl rfl ntmps18 (by simp) ?_;simp only[go_sem,seval,-List.reduceReplicate];have hln:=h.1.ln;have hst : ∀ i,(qcH c rows i).length=c.next.length:=fun i=>by cases i <;> simp[qcH,qcG]
 repeat' first|assumption|(simp (disch:=first|assumption|omega|(simp;done)|(simp;omega)) only[go_sem,seval,-List.reduceReplicate,qag,yaa])|(with_reducible first|apply And.intro|intro _)|(refine qac (c_rowsFit c rows) ?_)|((try rw[qaa]);omega)
 all_goals first
  | (exfalso;contradiction)
  | skip
 refine qaw (E:=env 1) tok (σ:=Nat) (fun i=>[(0,.d (dC c)),(1,.sl 0 g 1 0 rows.length),(2,.ptr 1 0),(4,.d .nil),(5,stSl 2 c rows i),(6,.sl 3 i 1 0 i),(17,.sl 0 g 1 0 rows.length),(18,.d (dI rows.length)),(19,.d (dI i))])
  (fun i=>[.row g 1 false (rows.map fun x=>dBs x),.box [.d (dI c.inputs),.d (dIs c.next),.d (dPs c.gates),.d (dIs c.outs)],.row 0 1 true ((List.replicate c.next.length false).map D.bool),.row i 1 false ((simO c rows i).map fun x=>dBs x)]) (fun i=>i<=rows.length) (fun i=>rows.length-i) [(6,1,false)] 1000 1000 ?_ ?_ ?_
 ·simp only[go_sem,seval,-List.reduceReplicate]
 ·simp only[go_sem,seval,-List.reduceReplicate];refine⟨0,by omega,?_⟩;simp only[stSl];simp only[go_sem,seval,-List.reduceReplicate];simp[simO]
 ·intro i hi;by_cases hlt:i<rows.length
  ·have hrow:=h.2.2 _ (qad (z:=[]) hlt);have hsp:=c_Step c _ _ h.1 (hst i) hrow;have hpush:=qqn c rows i;have hso:=qkS c rows i;have hr40:=h.2.1;have hsn:qcH c rows (i+1)=qcG (values c (qcH c rows i) (rows.getD i [])) c.next:=rfl;have hso2:qfS c rows i=values c (qcH c rows i) (rows.getD i []):=rfl;rw[hso2] at hpush;rcases i with _|i
   ·simp only[stSl];simp only[qcH] at hsp hpush hsn
    repeat' first|assumption|(simp (disch:=first|assumption|omega|(simp;done)|(simp;omega)) only[go_sem,seval,-List.reduceReplicate,qag,yaa])|(with_reducible first|apply And.intro|intro _)|(refine qac hsp ?_)|((try rw[qaa]);omega)
    refine⟨1,by omega,by omega,?_⟩;simp only[stSl];simp only[go_sem,seval,-List.reduceReplicate];exact⟨rfl,hpush.symm⟩
   ·simp only[stSl]
    repeat' first|assumption|(simp (disch:=first|assumption|omega|(simp;done)|(simp;omega)) only[go_sem,seval,-List.reduceReplicate,qag,yaa])|(with_reducible first|apply And.intro|intro _)|(refine qac hsp ?_)|((try rw[qaa]);omega)
    refine⟨i+2,by omega,by omega,?_⟩;simp only[stSl];simp only[go_sem,seval,-List.reduceReplicate];exact⟨rfl,hpush.symm⟩
  ·obtain rfl:i=rows.length:=by omega
   repeat' first|assumption|(simp (disch:=first|assumption|omega|(simp;done)|(simp;omega)) only[go_sem,seval,-List.reduceReplicate,qag,yaa])|(with_reducible first|apply And.intro|intro _)|((try rw[qaa]);omega)
   refine qaK (r0:=.d (dBss (simO c rows rows.length))) (H1:=[.row g 1 false (rows.map fun x=>dBs x)]) ?_ ⟨rfl,rfl⟩;simp only[go_sem,seval,-List.reduceReplicate];exact yaa (by rw[qkS];omega)
end Go.Proofs
