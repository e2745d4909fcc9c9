/- Contracts, plain definitions and lemmas. Conditions: none; lemmas. -/
import Derived.Test.YteikeianenfhaaaGreatK20
import Derived.Test.YteikeianenfhaaaGreatP7
import Derived.Test.YteikeianenfhaaaGreatK5
import Derived.Test.YteikeianenfhaaaGreatC13
import Derived.Test.YteikeianenfhaaaGreatC7
import Derived.Test.YteikeianenfhaaaGreatC77
import Derived.Test.YteikeianenfhaaaGreatP5
set_option maxRecDepth 20000
set_option linter.unusedSimpArgs false
set_option linter.unusedVariables false
set_option maxHeartbeats 2000000
namespace Go.Proofs
open Go Go.VL Tryz
theorem qrr (k:Kcfg) (V:Wr->Bool):(qkS k V).length=25:=by simp[qkS]
theorem qrs (k:Kcfg) (V:Nat->Wr->Bool) : ∀ i,(qgA k V i).length=25
 | 0=>by simp[qgA]
 | i+1=>by rw[qgA,qrr]
def qea (k:Kcfg) (V:Nat->Wr->Bool) (n:Nat):List (List Bool):=(List.range n).map fun i=>outE k (V i)
theorem qnh (k:Kcfg) (V:Nat->Wr->Bool) (n:Nat):qea k V (n+1)=qea k V n ++ [outE k (V n)]:=by rw[qea,yaO,yaE];rfl
theorem qha (k:Kcfg) (V:Nat->Wr->Bool) (n:Nat):(qea k V n).length=n:=by simp[qea]
theorem Tryz.c_RunFabricS (g:Nat) (k:Kcfg) (hk:k.ok) (hw:Wf k) (rows:List (List Bool)) (hr:rows.length<=40) (hin : ∀ r∈rows,r.length<=4) (V:Nat->Wr->Bool) (hV : ∀ i,i<rows.length->VOk k (qgA k V i) (rows.getD i []) (V i)) :
  ICall prog 19 [.d (dK k),.sl 0 g 1 0 rows.length] [.row g 1 false (rows.map fun x=>dBs x)] (fun r H'=>r=.d (dBss (qea k V rows.length))/\H'=[.row g 1 false (rows.map fun x=>dBs x)]):=by
 have hfr:=c_FabricReset;have hca:=c_ConfigAcyclic k;rw[decide_eq_true ⟨hk,hw⟩] at hca;refine qau (E:=env 1) tok rfl 1000 func19 rfl rfl ntmps19 (by simp) ?_
 repeat' first|assumption|(simp (disch:=first|assumption|omega|(simp;done)|(simp;omega)) only[go_sem,seval,-List.reduceReplicate,qaC])|(with_reducible first|apply And.intro|intro _)|(refine qab hca ?_)|((try rw[qaa]);omega)
 refine qay (E:=env 1) tok (σ:=Nat) (fun i=>[(0,.d (dK k)),(1,.sl 0 g 1 0 rows.length),(2,.ptr 1 0),(4,.d .nil),(20,.sl 0 g 1 0 rows.length),(21,.d (dI rows.length)),(22,.d (dI i))])
  (fun i=>[.row g 1 false (rows.map fun x=>dBs x),.box [.d (dTcs k.tiles),.d (dQs k.pads)]]) (fun i=>i<=rows.length) (fun i=>rows.length-i) [] 1000 1000 ?_ ?_ ?_
 ·simp only[go_sem,seval,-List.reduceReplicate]
 ·simp only[go_sem,seval,-List.reduceReplicate];first|exact⟨0,by omega,rfl⟩|exact⟨0,by omega,rfl,rfl⟩|exact⟨0,by omega,rfl,rfl,rfl⟩
 ·intro i hi;by_cases hlt:i<rows.length
  ·have hi4:=hin _ (qac hlt:rows.getD i []∈rows);generalize hx9:rows.getD i []=x at *
   repeat' first|assumption|(simp (disch:=first|assumption|omega|(simp;done)|(simp;omega)) only[go_sem,seval,-List.reduceReplicate,hx9,qaC])|(with_reducible first|apply And.intro|intro _)|((try rw[qaa]);omega)
   all_goals first|exact⟨i+1,by omega,by omega,rfl⟩|exact⟨i+1,by omega,by omega,rfl,rfl⟩
  ·obtain rfl:i=rows.length:=by omega
   repeat' first|assumption|(simp (disch:=first|assumption|omega|(simp;done)|(simp;omega)) only[go_sem,seval,-List.reduceReplicate,qaC])|(with_reducible first|apply And.intro|intro _)|(refine qab hfr ?_)|((try rw[qaa]);omega)
   refine qay (E:=env 1) tok (σ:=Nat) (fun i=>[(0,.d (dK k)),(2,.ptr 1 0),(7,.ptr 2 0),(8,.sl 3 i 1 0 i),(31,.sl 0 g 1 0 rows.length),(32,.d (dI rows.length)),(33,.d (dI i))])
    (fun i=>[.row g 1 false (rows.map fun x=>dBs x),.box [.d (dTcs k.tiles),.d (dQs k.pads)],.box [.d (dBs (qgA k V i))],.row i 1 false ((qea k V i).map fun x=>dBs x)]) (fun i=>i<=rows.length) (fun i=>rows.length-i) [(8,1,false)] 1000 1000 ?_ ?_ ?_
   ·simp only[go_sem,seval,-List.reduceReplicate]
   ·simp only[go_sem,seval,-List.reduceReplicate];exact⟨0,by omega,⟨rfl,rfl⟩,rfl,rfl,rfl⟩
   ·intro i hi;by_cases hlt2:i<rows.length
    ·have hi4:=hin _ (qac hlt2:rows.getD i []∈rows);have hst:=c_stepFabric k hk hw (qgA k V i) (rows.getD i []) hi4 (qrs k V i) (V i) (hV i hlt2);have hro:=qnh k V i;have hrl:=qha k V i;have hrg:qgA k V (i+1)=qkS k (V i):=rfl;generalize hx9:rows.getD i []=x at *
     generalize qgA k V i=r at *
     repeat' first|assumption|(simp (disch:=first|assumption|omega|(simp;done)|(simp;omega)) only[go_sem,seval,-List.reduceReplicate,hx9,qaC])|(with_reducible first|apply And.intro|intro _)|(refine qab hst ?_)|((try rw[qaa]);omega)
     exact⟨i+1,by omega,by omega,rfl,by rw[hrg],rfl,hro.symm⟩
    ·obtain rfl:i=rows.length:=by omega
     repeat' first|assumption|(simp (disch:=first|assumption|omega|(simp;done)|(simp;omega)) only[go_sem,seval,-List.reduceReplicate,qaC])|(with_reducible first|apply And.intro|intro _)|((try rw[qaa]);omega)
     refine qaH (r0:=.d (dBss (qea k V rows.length))) (H1:=[.row g 1 false (rows.map fun x=>dBs x)]) ?_ ⟨rfl,rfl⟩;simp only[go_sem,seval,-List.reduceReplicate];exact yaa (by rw[qha];omega)

theorem Tryz.c_RunBitstreamS (g:Nat) (k:Kcfg) (hk:k.ok) (hw:Wf k) (rows:List (List Bool)) (hr:rows.length<=40) (hin : ∀ r∈rows,r.length<=4) (V:Nat->Wr->Bool) (hV : ∀ i,i<rows.length->VOk k (qgA k V i) (rows.getD i []) (V i)) :
  ICall prog 34 [.d (dUs (encC k)),.sl 0 g 1 0 rows.length] [.row g 1 false (rows.map fun x=>dBs x)] (fun r H'=>r=.d (dBss (qea k V rows.length))/\H'=[.row g 1 false (rows.map fun x=>dBs x)]):=by
 have hrun:=c_RunFabricS g k hk hw rows hr hin V hV;have hd:=c_DecodeConfig k hk;generalize qea k V rows.length=ro at *
 generalize encC k=l at *
 refine qau (E:=env 1) tok rfl 1000 func34 rfl rfl ntmps34 (by simp) ?_;simp only[go_sem,seval]
 repeat' first|assumption|(simp (disch:=first|assumption|omega|(simp;done)|(simp;omega)) only[];try simp only[go_sem,seval])|(with_reducible first|apply And.intro|intro _)|(refine qcN hd ?_;simp only[go_sem,seval])|((try rw[qaa]);omega)
 refine qal hrun [0] (by simp only[go_sem,seval]) ?_;rintro r0 H1 ⟨rfl,rfl⟩;simp only[go_sem,seval];refine qaH (r0:=.d (dBss ro)) (H1:=[.row g 1 false (rows.map fun x=>dBs x)]) ?_ ⟨rfl,rfl⟩;simp only[go_sem,seval]

theorem getD_l3 {a b c:Int}{n:Nat}:([D.int .i64 a,D.int .i64 b,D.int .i64 c]:List D).getD n (D.int .i64 0)=D.int .i64 (([a,b,c]:List Int).getD n 0):=by
 match n with
 | 0|1|2|_+3=>rfl
def Ksh (n:Int) (k:Kcfg):Prop:=k.tiles.length<=25/\k.pads.length=3/\(∀ t∈k.tiles,t.select.length=3/\t.drive.length<=8)/\(n=0->Tsz k.tiles)
theorem Ksh.of {n:Int}{T:List Tcfg}{P:List (Int×Bool)}(h1:Tsz T) (h2:P.length=3):Ksh n ⟨T,P⟩:=
 ⟨by have:=h1.1;simp only;omega,h2,fun t ht=>by have:=h1.2 t ht;exact⟨this.1,by have:=this.2;omega⟩,fun _=>h1⟩

def simO (c:Circ) (rows:List (List Bool)) (n:Nat):List (List Bool):=(List.range n).map fun i=>qbs (qda c rows i) c.outs
theorem qrt (c:Circ) (rows:List (List Bool)) (n:Nat):simO c rows (n+1)=simO c rows n ++ [qbs (qda c rows n) c.outs]:=by rw[simO,yaO,yaE];rfl
theorem qkV (c:Circ) (rows:List (List Bool)) (n:Nat):(simO c rows n).length=n:=by simp[simO]
theorem qtG (c:Circ) (rows:List (List Bool)) {n i:Nat}(h:i<n):(simO c rows n).getD i []=qbs (qda c rows i) c.outs:=by simp[simO,List.getD,h]
def stSl (j:Nat) (c:Circ) (rows:List (List Bool)):Nat->I
 | 0=>.sl j 0 1 0 c.next.length
 | i+1=>.d (dBs (qbj c rows (i+1)))
theorem Tryz.c_SimulateS (g:Nat) (c:Circ) (rows:List (List Bool)) (h:qql c rows) :
  ICall prog 18 [.d (dC c),.sl 0 g 1 0 rows.length] [.row g 1 false (rows.map fun x=>dBs x)] (fun r H'=>r=.d (dBss (simO c rows rows.length))/\H'=[.row g 1 false (rows.map fun x=>dBs x)]):=by
 refine qau (E:=env 1) tok rfl 1000 func18 rfl rfl ntmps18 (by simp) ?_;simp only[go_sem,seval,-List.reduceReplicate];have hln:=h.1.ln;have hst : ∀ i,(qbj c rows i).length=c.next.length:=fun i=>by cases i <;> simp[qbj,qbs]
 repeat' first|assumption|(simp (disch:=first|assumption|omega|(simp;done)|(simp;omega)) only[go_sem,seval,-List.reduceReplicate,qaC,yaa])|(with_reducible first|apply And.intro|intro _)|(refine qab (c_rowsFit c rows) ?_)|((try rw[qaa]);omega)
 all_goals first
  | (exfalso;contradiction)
  | skip
 refine qay (E:=env 1) tok (σ:=Nat) (fun i=>[(0,.d (dC c)),(1,.sl 0 g 1 0 rows.length),(2,.ptr 1 0),(4,.d .nil),(5,stSl 2 c rows i),(6,.sl 3 i 1 0 i),(17,.sl 0 g 1 0 rows.length),(18,.d (dI rows.length)),(19,.d (dI i))])
  (fun i=>[.row g 1 false (rows.map fun x=>dBs x),.box [.d (dI c.inputs),.d (dIs c.next),.d (dPs c.gates),.d (dIs c.outs)],.row 0 1 true ((List.replicate c.next.length false).map D.bool),.row i 1 false ((simO c rows i).map fun x=>dBs x)]) (fun i=>i<=rows.length) (fun i=>rows.length-i) [(6,1,false)] 1000 1000 ?_ ?_ ?_
 ·simp only[go_sem,seval,-List.reduceReplicate]
 ·simp only[go_sem,seval,-List.reduceReplicate];refine⟨0,by omega,?_⟩;simp only[stSl];simp only[go_sem,seval,-List.reduceReplicate];simp[simO]
 ·intro i hi;by_cases hlt:i<rows.length
  ·have hrow:=h.2.2 _ (qac (z:=[]) hlt);have hsp:=c_Step c _ _ h.1 (hst i) hrow;have hpush:=qrt c rows i;have hso:=qkV c rows i;have hr40:=h.2.1;have hsn:qbj c rows (i+1)=qbs (values c (qbj c rows i) (rows.getD i [])) c.next:=rfl;have hso2:qda c rows i=values c (qbj c rows i) (rows.getD i []):=rfl;rw[hso2] at hpush;rcases i with _|i
   ·simp only[stSl];simp only[qbj] at hsp hpush hsn
    repeat' first|assumption|(simp (disch:=first|assumption|omega|(simp;done)|(simp;omega)) only[go_sem,seval,-List.reduceReplicate,qaC,yaa])|(with_reducible first|apply And.intro|intro _)|(refine qab hsp ?_)|((try rw[qaa]);omega)
    refine⟨1,by omega,by omega,?_⟩;simp only[stSl];simp only[go_sem,seval,-List.reduceReplicate];exact⟨rfl,hpush.symm⟩
   ·simp only[stSl]
    repeat' first|assumption|(simp (disch:=first|assumption|omega|(simp;done)|(simp;omega)) only[go_sem,seval,-List.reduceReplicate,qaC,yaa])|(with_reducible first|apply And.intro|intro _)|(refine qab hsp ?_)|((try rw[qaa]);omega)
    refine⟨i+2,by omega,by omega,?_⟩;simp only[stSl];simp only[go_sem,seval,-List.reduceReplicate];exact⟨rfl,hpush.symm⟩
  ·obtain rfl:i=rows.length:=by omega
   repeat' first|assumption|(simp (disch:=first|assumption|omega|(simp;done)|(simp;omega)) only[go_sem,seval,-List.reduceReplicate,qaC,yaa])|(with_reducible first|apply And.intro|intro _)|((try rw[qaa]);omega)
   refine qaH (r0:=.d (dBss (simO c rows rows.length))) (H1:=[.row g 1 false (rows.map fun x=>dBs x)]) ?_ ⟨rfl,rfl⟩;simp only[go_sem,seval,-List.reduceReplicate];exact yaa (by rw[qkV];omega)

def padR (l:List Bool):List Bool:=l++List.replicate (3-l.length) false
theorem qo8 {c:Circ}{list:List (Int×Int)}{k:Kcfg}(h:qbF c list=some k) {rows:List (List Bool)}(hr : ∀ r∈rows,(r.length:Int)=c.inputs) :
  (c.Valid/\k.ok/\Wf k)/\∃ V:Nat->Wr->Bool,(∀ i,i<rows.length->VOk k (qgA k V i) (rows.getD i []) (V i))/\∀ i,outE k (V i)=padR (qbs (qda c rows i) c.outs):=by
 obtain⟨hv,-,rs,R,-,rfl⟩:=qhw h;refine⟨⟨hv,R.ok,R.wf⟩,runV c rs rows,fun i hi=>R.run hr hi,fun i=>?_⟩;rw[R.run_out,padR,qdV]
theorem qo9 (k:Kcfg) (V:Nat->Wr->Bool) {n i:Nat}(h:i<n):(qea k V n).getD i []=outE k (V i):=by simp[qea,List.getD,h]
theorem Tryz.c_padded (l:List Bool) (hl:l.length<=3):Pure prog 22 [dBs l] (dBs (padR l)):=by
 refine qav func22 rfl ntmps22 fun ok=>?_
 simp only[go_sem,seval,-List.reduceReplicate] at ok;simp only[go_sem,seval,-List.reduceReplicate]
 repeat' first|assumption|(simp (disch:=first|assumption|omega|(simp;done)|(simp;omega)) only[qaC];try simp only[go_sem,seval,-List.reduceReplicate])|(with_reducible first|apply And.intro|intro _)|((try rw[qaa]);omega)
 have e:(3-(l.length:Int)).toNat=3-l.length:=by omega
 rw[e];rfl

theorem qru {c:Circ}{b:List Int}(h:qnf c=some b) {rows:List (List Bool)}(hr : ∀ r∈rows,(r.length:Int)=c.inputs) :
  ∃ k,b=encC k/\c.Valid/\k.ok/\Wf k/\∃ V:Nat->Wr->Bool,(∀ i,i<rows.length->VOk k (qgA k V i) (rows.getD i []) (V i))/\∀ i,i<rows.length->outE k (V i)=padR (qbs (qda c rows i) c.outs):=by
 classical
 unfold qnf at h;split at h
 ·rename_i hv;obtain⟨k,h1,rfl⟩:=Option.map_eq_some_iff.1 h;obtain⟨⟨-,hk,hw⟩,V,hV,hout⟩:=qo8 h1 (rows:=rows) hr;refine⟨k,rfl,hv,hk,hw,V,hV,fun i hi=>?_⟩;rw[hout,qs6 hv hr hi]
 ·cases h
end Go.Proofs
