/- Laws: compiled circuits behave like the circuits. Conditions: none; lemmas. -/
import Derived.Test.YteikeianenfhaaaGreatP7
import Derived.Test.YteikeianenfhaaaGreatM4
set_option maxRecDepth 20000
set_option linter.unusedVariables false
set_option linter.unusedSimpArgs false
set_option maxHeartbeats 2000000
namespace Go.Proofs
open Go Go.VL Tryz
variable {c:ac}{b:ZA}
theorem KU (h:ox c=some b) {rows:List ZB}(hr : ∀ r∈rows,(r.length:Int)=c.inputs) :
  ∃ k,b=dV k/\c.Valid/\k.ok/\Wf k/\∃ V:Nat->Wr->Bool,(∀ i,i<rows.length->vM k (oD k V i) (rows.getD i []) (V i))/\∀ i,i<rows.length->iO k (V i)=pF (dN (nj c rows i) c.outs):=by
 classical
 unfold ox at h;split at h
 ·rename_i hv;obtain⟨k,h1,rfl⟩:=Option.map_eq_some_iff.1 h;obtain⟨⟨-,hk,hw⟩,V,hV,hout⟩:=RA h1 (rows:=rows) hr;refine⟨k,rfl,hv,hk,hw,V,hV,fun i hi=>?_⟩;rw[hout,Oj hv hr hi]
 ·cases h
theorem Oi (h:ox c=some b):ox (bL c)=some b:=by
 classical
 unfold ox at h ⊢;split at h
 ·rename_i hv;rw[if_pos (Ew hv),Qt hv];exact h
 ·cases h
theorem Tryz.c_FnCompile (code:ZA):Pure prog 5 [lk code] (.bool true):=by
 refine bz func5 rfl ntmps5 fun ok=>?_
 simp only[go_sem,seval,-List.reduceReplicate] at ok;simp only[go_sem,seval,-List.reduceReplicate];refine fun h0=>RW (pO code) ?_
 rintro x ⟨c,rows,rfl,hrl,hrw⟩;have hi:=k9 c;have hs:=nT c;have hal:=tf;cases ho:ox c with
 | none=>
  rw[ho] at hi hs;simp only[fH,Option.isSome_none] at hi hs;simp only[go_sem,seval,-List.reduceReplicate]
  repeat' first|simp (disch:=omega) only[bT];try simp only[go_sem,seval,-List.reduceReplicate]|(with_reducible first|apply aa|intro)|(refine az hi ?_;simp only[go_sem,seval,-List.reduceReplicate])|(refine az hs ?_;simp only[go_sem,seval,-List.reduceReplicate])|(refine iu (fun _=>hal) ?_;simp only[go_sem,seval,-List.reduceReplicate])|(try rw[ae]);omega
 | some b=>
  rw[ho] at hi hs;simp only[cP,Option.isSome_some] at hi hs;have bJ:=k9 (bL c);rw[Oi ho] at bJ;simp only[cP,Option.isSome_some] at bJ;have hrows : ∀ r∈rows,(r.length:Int)=c.inputs:=fun r hr=>by
   have h1:=hrw r hr;have h2:c.Valid:=by
    obtain⟨_,_,hv,_⟩:=KU ho (rows:=[]) (fun r hr=>by cases hr);exact hv
   have h3:=h2.i0;omega
  obtain⟨k,rfl,hv,hk,hw,V,hV,hout⟩:=KU ho hrows;have kC:=vD c;rw[if_pos hv] at kC;have hse:=rr (DR hk) (DR hk);rw[decide_eq_true rfl] at hse;have hsim:=mV c rows ⟨hv,by omega,hrows⟩;have hrun:=jl k hk hw rows (by omega) (fun r hr=>by have:=hrows r hr;have:=hv.i1;omega) V hV;generalize dV k=b at *
  simp only[go_sem,seval,-List.reduceReplicate]
  repeat' first|simp (disch:=omega) only[bT];try simp only[go_sem,seval,-List.reduceReplicate,hse]|(with_reducible first|apply aa|intro)|(refine az hi ?_;simp only[go_sem,seval,-List.reduceReplicate,hse])|(refine az hs ?_;simp only[go_sem,seval,-List.reduceReplicate,hse])|(refine az kC ?_;simp only[go_sem,seval,-List.reduceReplicate,hse])|(refine az bJ ?_;simp only[go_sem,seval,-List.reduceReplicate,hse])|(try rw[ae]);omega
  refine c7 hsim [] (by simp only[go_sem,seval,-List.reduceReplicate]) ?_;rintro r0 H1 ⟨rfl,rfl⟩;simp only[go_sem,seval,-List.reduceReplicate]
  repeat' first|simp (disch:=omega) only[bT];try simp only[go_sem,seval,-List.reduceReplicate]|(with_reducible first|apply aa|intro)|(try rw[ae]);omega
  refine c7 hrun [] (by simp only[go_sem,seval,-List.reduceReplicate]) ?_;rintro r0 H1 ⟨rfl,rfl⟩;have hsl:=DG c rows rows.length;have hrl2:=EK k V rows.length;have hso:=fun i (h:i<rows.length)=>Ob c rows h
  have hro:=fun i (h:i<rows.length)=>Qj k V h
  generalize jf c rows rows.length=so at *
  generalize pj k V rows.length=ro at *
  simp only[go_sem,seval,-List.reduceReplicate]
  repeat' first|simp (disch:=omega) only[bT];try simp only[go_sem,seval,-List.reduceReplicate,hsl,hrl2,hse]|(with_reducible first|apply aa|intro)|(try rw[ae]);omega
  refine cQ (σ:=Nat) (fun i=>[(3,.ptr 0 0),(11,.d (eZ so)),(12,.d (eZ ro)),(13,.d (dI i))])
   (fun _=>[.box [.d (dI c.inputs),.d (aj c.next),.d (aY c.gates),.d (aj c.outs)]]) (fun i=>i<=rows.length) (fun i=>rows.length-i) [] 1000 1000 ?_ ?_ ?_
  ·simp only[go_sem,seval,-List.reduceReplicate]
  ·simp only[go_sem,seval,-List.reduceReplicate];exact⟨0,by omega,rfl⟩
  ·intro i hi;by_cases hlt:i<rows.length
   ·have e1:=hso i hlt;have e2:=hro i hlt;have hov:(dN (nj c rows i) c.outs).length<=3:=by rw[z0];exact hv.lo
    have hpd:=sc _ hov;rw[hout i hlt] at e2;have hsb:=mA (pF (dN (nj c rows i) c.outs)) (pF (dN (nj c rows i) c.outs));rw[decide_eq_true rfl] at hsb;generalize dN (nj c rows i) c.outs=q at *
    simp only[go_sem,seval,-List.reduceReplicate,e1,e2,hsl]
    repeat' first|simp (disch:=omega) only[bT];try simp only[go_sem,seval,-List.reduceReplicate,e1,e2,hsl]|(with_reducible first|apply aa|intro)|(try rw[ae]);omega
    refine co (n:=0) [] (ax [0,1,2,4,5,6,3,7] (.one 8 (.one 9 (.fst 10 .done)))) ?_;simp only[go_sem,seval,-List.reduceReplicate,e1,e2,hsl]
    repeat' first|simp (disch:=omega) only[bT];try simp only[go_sem,seval,-List.reduceReplicate,e1,e2,hsl]|(with_reducible first|apply aa|intro)|(refine az hpd ?_;simp only[go_sem,seval,-List.reduceReplicate,e1,e2,hsl])|(refine az hsb ?_;simp only[go_sem,seval,-List.reduceReplicate,e1,e2,hsl])|(try rw[ae]);omega
    all_goals exact⟨i+1,by omega,by omega,rfl⟩
   ·obtain rfl:i=rows.length:=by omega
    simp only[go_sem,seval,-List.reduceReplicate,hsl]
    repeat' first|simp (disch:=omega) only[bT];try simp only[go_sem,seval,-List.reduceReplicate,hsl]|(with_reducible first|apply aa|intro)|(try rw[ae]);omega
end Go.Proofs
