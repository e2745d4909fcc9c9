/- Contracts: the reference builds a configuration. Conditions: none; lemmas. -/
import Derived.Test.YtagfdhingigaoaaVM8
import Derived.Test.YtagfdhingigaoaaC77
set_option maxRecDepth 20000
set_option linter.unusedVariables false
set_option linter.unusedSimpArgs false
namespace Go.Proofs
open Go Go.VL
theorem qak {a:Nat}:(a+1=a)=False:=by simp
theorem qal {a:Nat}:(a+2=a)=False:=by simp
theorem qam {a:Nat}:(a+3=a)=False:=by simp
def selS (s v:List Int):List Int:=v++s.drop v.length
theorem selS_1 {s:List Int}{a:Int}(h:s.length=3):s.set 0 a=selS s [a]:=by
 match s,h with
 | [_,_,_],_=>rfl
theorem selS_2 {s:List Int}{a b:Int}(h:s.length=3):(s.set 0 a).set 1 b=selS s [a,b]:=by
 match s,h with
 | [_,_,_],_=>rfl
theorem selS_3 {s:List Int}{a b c:Int}(h:s.length=3):((s.set 0 a).set 1 b).set 2 c=selS s [a,b,c]:=by
 match s,h with
 | [_,_,_],_=>rfl
theorem qgZ {T:List Tcfg}{i:Nat}{t:Tcfg}:((T.set i t).map fun x=>dTc x)=(T.map fun x=>dTc x).set i (dTc t):=List.map_set
def cellT (trk:List Int) (x:Cel) (t:Tcfg):Tcfg:=⟨x.table,selS t.select (x.inputs.map fun v=>trk.getD v.toNat 0),x.reg,t.drive⟩
def qdH (trk:List Int) (cells:List Cel) (place:List Int) (T:List Tcfg):Nat→List Tcfg
 | 0=>T
 | i+1=>(qdH trk cells place T i).set (place.getD i 0).toNat (cellT trk (cells.getD i ce0) ((qdH trk cells place T i).getD (place.getD i 0).toNat tc0))
def hopT (c:Circ) (r:Rt) (T:List Tcfg) (h:Int×Int):List Tcfg:=
 T.set h.1.toNat ⟨(T.getD h.1.toNat tc0).table,(T.getD h.1.toNat tc0).select,(T.getD h.1.toNat tc0).reg,(T.getD h.1.toNat tc0).drive.set r.track.toNat (srcC c r.net h)⟩
def hopW (c:Circ) (r:Rt) (T:List Tcfg) (n:Nat):List Tcfg:=(r.hops.take n).foldl (hopT c r) T
def rtsT (c:Circ) (rs:List Rt) (T:List Tcfg) (n:Nat):List Tcfg:=(rs.take n).foldl (fun T r=>hopW c r T r.hops.length) T
def qhc (c:Circ) (trk:List Int) (n:Nat):List (Int×Bool):=
 (List.range n).foldl (fun p o=>p.set o (trk.getD (c.outs.getD o 0/2).toNat 0,decide (c.outs.getD o 0%2=1))) (List.replicate 3 (15,false))
def qmU (c:Circ) (cells:List Cel) (place:List Int) (rs:List Rt):Kcfg:=
 ⟨rtsT c rs (qdH (qdB c.vars.toNat rs) cells place (List.replicate 25 qcd) cells.length) rs.length,qhc c (qdB c.vars.toNat rs) c.outs.length⟩
def tsz (t:Tcfg):Prop:=t.select.length=3∧t.drive.length=8
def Tsz (T:List Tcfg):Prop:=T.length=25∧∀ t∈T,tsz t
theorem Tsz.get {T:List Tcfg}(h:Tsz T) {i:Nat}(hi:i<25):tsz (T.getD i tc0):=h.2 _ (qan (by rw[h.1];exact hi))
theorem Tsz.set {T:List Tcfg}(h:Tsz T) {i:Nat}{t:Tcfg}(ht:tsz t):Tsz (T.set i t):=
 ⟨by rw[List.length_set];exact h.1,fun x hx=>(List.mem_or_eq_of_mem_set hx).elim (h.2 x) (fun e=>e▸ht)⟩
theorem Tsz.empty:Tsz (List.replicate 25 qcd):=⟨by simp,fun t ht=>by rw[(List.mem_replicate.1 ht).2];exact⟨rfl,rfl⟩⟩
theorem qoy {trk:List Int}{x:Cel}{t:Tcfg}(ht:tsz t) (hx:x.inputs.length≤3):tsz (cellT trk x t):=by
 refine⟨?_,ht.2⟩
 have:=ht.1
 simp only[cellT,selS,List.length_append,List.length_map,List.length_drop];omega
theorem qg0 {trk:List Int}{cells:List Cel}{place:List Int}{T:List Tcfg}(hT:Tsz T) (hci : ∀ x∈cells,x.inputs.length≤3) (hp:PlaceOk cells.length place) : ∀ i,i≤cells.length→Tsz (qdH trk cells place T i)
 | 0,_=>hT
 | i+1,h=>by
  have ih:=qg0 (trk:=trk) hT hci hp i (by omega)
  have:=hp.get (i:=i) (by omega)
  exact ih.set (qoy (ih.get (by omega)) (hci _ (qan (by omega))))
theorem hopT_sz {c:Circ}{r:Rt}{T:List Tcfg}(hT:Tsz T) {h:Int×Int}(hh:0≤h.1∧h.1≤24):Tsz (hopT c r T h):=by
 have:=hT.get (i:=h.1.toNat) (by omega)
 exact hT.set ⟨this.1,by simp only[List.length_set];exact this.2⟩
theorem qkK {c:Circ}{r:Rt}{T:List Tcfg}(hT:Tsz T) (hh : ∀ h∈r.hops,0≤h.1∧h.1≤24) (n:Nat):Tsz (hopW c r T n):=by
 have : ∀ (l:List (Int×Int)),(∀ h∈l,0≤h.1∧h.1≤24)→∀ T,Tsz T→Tsz (l.foldl (hopT c r) T):=by
  intro l
  induction l with
  | nil=>intro _ T h;exact h
  | cons a l ih=>intro hl T h;exact ih (fun x hx=>hl x (List.mem_cons_of_mem _ hx)) _ (hopT_sz h (hl a (List.mem_cons_self ..)))
 exact this _ (fun x hx=>hh x (List.mem_of_mem_take hx)) T hT
theorem qj1 {c:Circ}{rs:List Rt}{T:List Tcfg}(hT:Tsz T) (hh : ∀ r∈rs,0≤r.net∧r.net<c.vars∧0≤r.track∧r.track≤7∧∀ h∈r.hops,0≤h.1∧h.1≤24) (n:Nat):Tsz (rtsT c rs T n):=by
 have : ∀ (l:List Rt),(∀ r∈l,∀ h∈r.hops,0≤h.1∧h.1≤24)→∀ T,Tsz T→Tsz (l.foldl (fun T r=>hopW c r T r.hops.length) T):=by
  intro l
  induction l with
  | nil=>intro _ T h;exact h
  | cons a l ih=>intro hl T h;exact ih (fun x hx=>hl x (List.mem_cons_of_mem _ hx)) _ (qkK h (hl a (List.mem_cons_self ..)) _)
 exact this _ (fun r hr=>(hh r (List.mem_of_mem_take hr)).2.2.2.2) T hT
theorem padsT_len {c:Circ}{trk:List Int}{n:Nat}:(qhc c trk n).length=3:=by
 unfold qhc
 have : ∀ (l:List Nat) (p:List (Int×Bool)),(l.foldl (fun p o=>p.set o (trk.getD (c.outs.getD o 0/2).toNat 0,decide (c.outs.getD o 0%2=1))) p).length=p.length:=by
  intro l
  induction l with
  | nil=>intro p;rfl
  | cons a l ih=>intro p;rw[List.foldl_cons,ih,List.length_set]
 rw[this];rfl
set_option maxHeartbeats 4000000 in
theorem Try.c_l9Build (c:Circ) (hc:c.Valid) (cells:List Cel) (hcl:cells.length≤25) (hci : ∀ x∈cells,x.inputs.length≤3) (place:List Int) (hp:PlaceOk cells.length place) (hcv : ∀ x∈cells,∀ v∈x.inputs,0≤v∧v<c.vars)
  (rs:List Rt) (hrt : ∀ r∈rs,0≤r.net∧r.net<c.vars∧0≤r.track∧r.track≤7∧∀ h∈r.hops,0≤h.1∧h.1≤24) (hrl : ∀ r∈rs,r.hops.length≤1000) :
  Pure Try.prog 40 [dC c,dCes cells,dIs place,dRts rs] (dK (qmU c cells place rs)):=by
 have hf:=hc.first_bd
 have hv:=hc.vars_bd
 have hi0:=hc.i0
 have hi1:=hc.i1
 have hvv:c.vars=c.first+(c.gates.length:Int):=rfl
 have hfst:=Try.c_l1First c (by omega)
 have k3:scal (dI c.first):=by show InK .i64 _;rw[qaa];omega
 have htr:=Try.c_l9Tracks c.vars.toNat (by omega) rs (fun r hr=>by have:=hrt r hr;omega)
 have hvn:((c.vars.toNat:Nat):Int)=c.vars:=by omega
 rw[hvn] at htr
 have htr:Pure Try.prog 51 [dI (c.first+(c.gates.length:Int)),dRts rs] (dIs (qdB c.vars.toNat rs)):=htr
 have htl:(qdB c.vars.toNat rs).length=c.vars.toNat:=qkJ
 have hB:qmU c cells place rs=⟨rtsT c rs (qdH (qdB c.vars.toNat rs) cells place (List.replicate 25 qcd) cells.length) rs.length,qhc c (qdB c.vars.toNat rs) c.outs.length⟩:=rfl
 rw[hB]
 clear hB
 generalize qdB c.vars.toNat rs=trk at *
 refine qeU (E:=Try.env 0) Try.tok rfl 1000 Try.func40 rfl rfl Try.ntmps40 (by simp) fun ok=>?_
 simp only[go_sem,seval,-List.reduceReplicate] at ok
 simp only[go_sem,seval,-List.reduceReplicate,Try.results40]
 repeat' first|assumption|(simp (disch:=first|assumption|omega|(simp;done)|(simp;omega)) only[List.take_of_length_le,qab,qao,qaC,qae,qaj];try simp only[go_sem,seval,-List.reduceReplicate,Try.results40])|(with_reducible first|apply And.intro|intro _)|(refine qcm Try.c_sEmptyConfig ?_;simp only[go_sem,seval,-List.reduceReplicate,Try.results40])|(refine qac ?_;simp only[go_sem,seval,-List.reduceReplicate,Try.results40])|exact lexT|((try rw[qaa]);omega)
 refine qau (E:=Try.env 0) Try.tok Try.follows 1000 1000 [] (fsts [2,6,0,3,4] (.one 1 (.fst 5 (.one 7 (.fst 8 .done))))) (by kernel_rfl) ?_
 simp only[go_sem,seval,-List.reduceReplicate,Try.results40]
 repeat' first|assumption|(simp (disch:=first|assumption|omega|(simp;done)|(simp;omega)) only[List.take_of_length_le,qab,qao,qaC,qae,qaj];try simp only[go_sem,seval,-List.reduceReplicate,Try.results40])|(with_reducible first|apply And.intro|intro _)|(refine qag hfst ?_;simp only[go_sem,seval,-List.reduceReplicate,Try.results40])|(refine qag htr ?_;simp only[go_sem,seval,-List.reduceReplicate,Try.results40])|(refine qac ?_;simp only[go_sem,seval,-List.reduceReplicate,Try.results40])|exact lexT|((try rw[qaa]);omega)
 refine qas (E:=Try.env 0) Try.tok (σ:=Nat) (fun i=>[(0,.d (dC c)),(1,.d (dCes cells)),(2,.d (dIs place)),(3,.d (dRts rs)),(4,.ptr 0 0),(8,.ptr 1 0),(9,.ptr 4 0),(10,.d (dIs trk)),(11,.d (dI i))])
  (fun i=>[.box [.d (dI c.inputs),.d (dIs c.next),.d (dPs c.gates),.d (dIs c.outs)],.box [.d .nil,.d .nil],.row 0 4 true ((qdH trk cells place (List.replicate 25 qcd) i).map fun x=>dTc x),.row 0 2 true ((List.replicate 3 ((15:Int),false)).map fun x=>dQ x),.box [.sl 2 0 4 0 25,.sl 3 0 2 0 3]]) (fun i=>i≤cells.length) (fun i=>cells.length-i) [] [] 1000 1000 ?_ ?_
 ·simp only[go_sem,seval,-List.reduceReplicate]
  exact⟨0,by omega,by simp[qdH]⟩
 ·intro i hi
  have hsz:=qg0 (trk:=trk) Tsz.empty hci hp i hi
  by_cases hlt:i<cells.length
  ·have hst:qdH trk cells place (List.replicate 25 qcd) (i+1)=(qdH trk cells place (List.replicate 25 qcd) i).set (place.getD i 0).toNat (cellT trk (cells.getD i ce0) ((qdH trk cells place (List.replicate 25 qcd) i).getD (place.getD i 0).toNat tc0)):=rfl
   have hp1:=hp.get hlt
   have hpl:=hp.len
   have hxi:=hci _ (qan hlt:cells.getD i ce0∈cells)
   have hxv:=hcv _ (qan hlt:cells.getD i ce0∈cells)
   have hts:=hsz.get (i:=(place.getD i 0).toNat) (by omega)
   have hTl:=hsz.1
   generalize qdH trk cells place (List.replicate 25 qcd) i=T at *
   generalize hp9:place.getD i 0=p at *
   generalize hx9:cells.getD i ce0=x at *
   generalize ht9:T.getD p.toNat tc0=t at *
   simp only[go_sem,seval,-List.reduceReplicate,Try.results40,hp9,hx9,ht9,qak,qal,qam]
   repeat' first|assumption|(simp (disch:=first|assumption|omega|(simp;done)|(simp;omega)) only[List.take_of_length_le,qab,qao,qaC,qae,qaj];try simp only[go_sem,seval,-List.reduceReplicate,Try.results40,hp9,hx9,ht9,qak,qal,qam])|(with_reducible first|apply And.intro|intro _)|(refine qac ?_;simp only[go_sem,seval,-List.reduceReplicate,Try.results40,hp9,hx9,ht9,qak,qal,qam])|exact lexT|((try rw[qaa]);omega)
   refine qau (E:=Try.env 0) Try.tok Try.follows 1000 1000 [9] (fsts [0,2,3,4,1,5,6,7] (.one 8 (.one 9 .done))) (by kernel_rfl) ?_
   simp only[go_sem,seval,-List.reduceReplicate,Try.results40,hp9,hx9,ht9,qak,qal,qam]
   repeat' first|assumption|(simp (disch:=first|assumption|omega|(simp;done)|(simp;omega)) only[List.take_of_length_le,qab,qao,qaC,qae,qaj];try simp only[go_sem,seval,-List.reduceReplicate,Try.results40,hp9,hx9,ht9,qak,qal,qam])|(with_reducible first|apply And.intro|intro _)|(refine qac ?_;simp only[go_sem,seval,-List.reduceReplicate,Try.results40,hp9,hx9,ht9,qak,qal,qam])|exact lexT|((try rw[qaa]);omega)
   obtain⟨xn,xi,xt,xr⟩:=x
   simp only at hxi hxv
   have hsl:t.select.length=3:=hts.1
   have hdl:t.drive.length=8:=hts.2
   refine qmG (E:=Try.env 0) Try.tok 4 1000 1000 ?_
   match xi,hxi,hxv,hx9,hst with
   | [],hxi,hxv,hx9,hst=>
    refine qbL ?_
    simp only[go_sem,seval,-List.reduceReplicate,Try.results40,qak,qal,qam,hp9,ht9,List.getD_cons_zero,List.getD_cons_succ,List.length_cons,List.length_nil,hx9]
    repeat' first|assumption|(simp (disch:=first|assumption|omega|(simp;done)|(simp;omega)) only[List.take_of_length_le,qab,qao,qaC,qae,qaj];try simp only[go_sem,seval,-List.reduceReplicate,Try.results40,qak,qal,qam,hp9,ht9,List.getD_cons_zero,List.getD_cons_succ,List.length_cons,List.length_nil,hx9])|(with_reducible first|apply And.intro|intro _)|(refine qac ?_;simp only[go_sem,seval,-List.reduceReplicate,Try.results40,qak,qal,qam,hp9,ht9,List.getD_cons_zero,List.getD_cons_succ,List.length_cons,List.length_nil,hx9])|exact lexT|((try rw[qaa]);omega)
    refine qau (E:=Try.env 0) Try.tok Try.follows 1000 1000 [8] (fsts [0,2,3,4,1,5,6,7] (.one 8 .done)) (by kernel_rfl) ?_
    simp only[go_sem,seval,-List.reduceReplicate,Try.results40,qak,qal,qam,hp9,ht9,List.getD_cons_zero,List.getD_cons_succ,List.length_cons,List.length_nil,hx9]
    repeat' first|assumption|(simp (disch:=first|assumption|omega|(simp;done)|(simp;omega)) only[List.take_of_length_le,qab,qao,qaC,qae,qaj];try simp only[go_sem,seval,-List.reduceReplicate,Try.results40,qak,qal,qam,hp9,ht9,List.getD_cons_zero,List.getD_cons_succ,List.length_cons,List.length_nil,hx9])|(with_reducible first|apply And.intro|intro _)|(refine qac ?_;simp only[go_sem,seval,-List.reduceReplicate,Try.results40,qak,qal,qam,hp9,ht9,List.getD_cons_zero,List.getD_cons_succ,List.length_cons,List.length_nil,hx9])|exact lexT|((try rw[qaa]);omega)
    refine⟨i+1,by omega,by omega,rfl,?_⟩
    rw[hst,qgZ]
    congr 1
   | [a1],hxi,hxv,hx9,hst=>
    have b1:=hxv a1 (by simp)
    refine qbL ?_
    simp only[go_sem,seval,-List.reduceReplicate,Try.results40,qak,qal,qam,hp9,ht9,List.getD_cons_zero,List.getD_cons_succ,List.length_cons,List.length_nil,hx9]
    repeat' first|assumption|(simp (disch:=first|assumption|omega|(simp;done)|(simp;omega)) only[List.take_of_length_le,qab,qao,qaC,qae,qaj];try simp only[go_sem,seval,-List.reduceReplicate,Try.results40,qak,qal,qam,hp9,ht9,List.getD_cons_zero,List.getD_cons_succ,List.length_cons,List.length_nil,hx9])|(with_reducible first|apply And.intro|intro _)|(refine qac ?_;simp only[go_sem,seval,-List.reduceReplicate,Try.results40,qak,qal,qam,hp9,ht9,List.getD_cons_zero,List.getD_cons_succ,List.length_cons,List.length_nil,hx9])|exact lexT|((try rw[qaa]);omega)
    refine qau (E:=Try.env 0) Try.tok Try.follows 1000 1000 [15] (fsts [0,2,3,4,5,6,7,9,1,8,10,11,12,13,14] (.one 15 .done)) (by kernel_rfl) ?_
    simp only[go_sem,seval,-List.reduceReplicate,Try.results40,qak,qal,qam,hp9,ht9,List.getD_cons_zero,List.getD_cons_succ,List.length_cons,List.length_nil,hx9]
    repeat' first|assumption|(simp (disch:=first|assumption|omega|(simp;done)|(simp;omega)) only[List.take_of_length_le,qab,qao,qaC,qae,qaj];try simp only[go_sem,seval,-List.reduceReplicate,Try.results40,qak,qal,qam,hp9,ht9,List.getD_cons_zero,List.getD_cons_succ,List.length_cons,List.length_nil,hx9])|(with_reducible first|apply And.intro|intro _)|(refine qac ?_;simp only[go_sem,seval,-List.reduceReplicate,Try.results40,qak,qal,qam,hp9,ht9,List.getD_cons_zero,List.getD_cons_succ,List.length_cons,List.length_nil,hx9])|exact lexT|((try rw[qaa]);omega)
    refine qbL ?_
    simp only[go_sem,seval,-List.reduceReplicate,Try.results40,qak,qal,qam,hp9,ht9,List.getD_cons_zero,List.getD_cons_succ,List.length_cons,List.length_nil,hx9]
    repeat' first|assumption|(simp (disch:=first|assumption|omega|(simp;done)|(simp;omega)) only[List.take_of_length_le,qab,qao,qaC,qae,qaj];try simp only[go_sem,seval,-List.reduceReplicate,Try.results40,qak,qal,qam,hp9,ht9,List.getD_cons_zero,List.getD_cons_succ,List.length_cons,List.length_nil,hx9])|(with_reducible first|apply And.intro|intro _)|(refine qac ?_;simp only[go_sem,seval,-List.reduceReplicate,Try.results40,qak,qal,qam,hp9,ht9,List.getD_cons_zero,List.getD_cons_succ,List.length_cons,List.length_nil,hx9])|exact lexT|((try rw[qaa]);omega)
    refine qau (E:=Try.env 0) Try.tok Try.follows 1000 1000 [8] (fsts [0,2,3,4,1,5,6,7] (.one 8 .done)) (by kernel_rfl) ?_
    simp only[go_sem,seval,-List.reduceReplicate,Try.results40,qak,qal,qam,hp9,ht9,List.getD_cons_zero,List.getD_cons_succ,List.length_cons,List.length_nil,hx9]
    repeat' first|assumption|(simp (disch:=first|assumption|omega|(simp;done)|(simp;omega)) only[List.take_of_length_le,qab,qao,qaC,qae,qaj];try simp only[go_sem,seval,-List.reduceReplicate,Try.results40,qak,qal,qam,hp9,ht9,List.getD_cons_zero,List.getD_cons_succ,List.length_cons,List.length_nil,hx9])|(with_reducible first|apply And.intro|intro _)|(refine qac ?_;simp only[go_sem,seval,-List.reduceReplicate,Try.results40,qak,qal,qam,hp9,ht9,List.getD_cons_zero,List.getD_cons_succ,List.length_cons,List.length_nil,hx9])|exact lexT|((try rw[qaa]);omega)
    refine⟨i+1,by omega,by omega,rfl,?_⟩
    rw[hst,qgZ]
    congr 1
    rw[show t.select.set 0 (trk.getD a1.toNat 0)=selS t.select [trk.getD a1.toNat 0] from selS_1 hsl]
    rfl
   | [a1,a2],hxi,hxv,hx9,hst=>
    have b1:=hxv a1 (by simp)
    have b2:=hxv a2 (by simp)
    refine qbL ?_
    simp only[go_sem,seval,-List.reduceReplicate,Try.results40,qak,qal,qam,hp9,ht9,List.getD_cons_zero,List.getD_cons_succ,List.length_cons,List.length_nil,hx9]
    repeat' first|assumption|(simp (disch:=first|assumption|omega|(simp;done)|(simp;omega)) only[List.take_of_length_le,qab,qao,qaC,qae,qaj];try simp only[go_sem,seval,-List.reduceReplicate,Try.results40,qak,qal,qam,hp9,ht9,List.getD_cons_zero,List.getD_cons_succ,List.length_cons,List.length_nil,hx9])|(with_reducible first|apply And.intro|intro _)|(refine qac ?_;simp only[go_sem,seval,-List.reduceReplicate,Try.results40,qak,qal,qam,hp9,ht9,List.getD_cons_zero,List.getD_cons_succ,List.length_cons,List.length_nil,hx9])|exact lexT|((try rw[qaa]);omega)
    refine qau (E:=Try.env 0) Try.tok Try.follows 1000 1000 [15] (fsts [0,2,3,4,5,6,7,9,1,8,10,11,12,13,14] (.one 15 .done)) (by kernel_rfl) ?_
    simp only[go_sem,seval,-List.reduceReplicate,Try.results40,qak,qal,qam,hp9,ht9,List.getD_cons_zero,List.getD_cons_succ,List.length_cons,List.length_nil,hx9]
    repeat' first|assumption|(simp (disch:=first|assumption|omega|(simp;done)|(simp;omega)) only[List.take_of_length_le,qab,qao,qaC,qae,qaj];try simp only[go_sem,seval,-List.reduceReplicate,Try.results40,qak,qal,qam,hp9,ht9,List.getD_cons_zero,List.getD_cons_succ,List.length_cons,List.length_nil,hx9])|(with_reducible first|apply And.intro|intro _)|(refine qac ?_;simp only[go_sem,seval,-List.reduceReplicate,Try.results40,qak,qal,qam,hp9,ht9,List.getD_cons_zero,List.getD_cons_succ,List.length_cons,List.length_nil,hx9])|exact lexT|((try rw[qaa]);omega)
    refine qbL ?_
    simp only[go_sem,seval,-List.reduceReplicate,Try.results40,qak,qal,qam,hp9,ht9,List.getD_cons_zero,List.getD_cons_succ,List.length_cons,List.length_nil,hx9]
    repeat' first|assumption|(simp (disch:=first|assumption|omega|(simp;done)|(simp;omega)) only[List.take_of_length_le,qab,qao,qaC,qae,qaj];try simp only[go_sem,seval,-List.reduceReplicate,Try.results40,qak,qal,qam,hp9,ht9,List.getD_cons_zero,List.getD_cons_succ,List.length_cons,List.length_nil,hx9])|(with_reducible first|apply And.intro|intro _)|(refine qac ?_;simp only[go_sem,seval,-List.reduceReplicate,Try.results40,qak,qal,qam,hp9,ht9,List.getD_cons_zero,List.getD_cons_succ,List.length_cons,List.length_nil,hx9])|exact lexT|((try rw[qaa]);omega)
    refine qau (E:=Try.env 0) Try.tok Try.follows 1000 1000 [15] (fsts [0,2,3,4,5,6,7,9,1,8,10,11,12,13,14] (.one 15 .done)) (by kernel_rfl) ?_
    simp only[go_sem,seval,-List.reduceReplicate,Try.results40,qak,qal,qam,hp9,ht9,List.getD_cons_zero,List.getD_cons_succ,List.length_cons,List.length_nil,hx9]
    repeat' first|assumption|(simp (disch:=first|assumption|omega|(simp;done)|(simp;omega)) only[List.take_of_length_le,qab,qao,qaC,qae,qaj];try simp only[go_sem,seval,-List.reduceReplicate,Try.results40,qak,qal,qam,hp9,ht9,List.getD_cons_zero,List.getD_cons_succ,List.length_cons,List.length_nil,hx9])|(with_reducible first|apply And.intro|intro _)|(refine qac ?_;simp only[go_sem,seval,-List.reduceReplicate,Try.results40,qak,qal,qam,hp9,ht9,List.getD_cons_zero,List.getD_cons_succ,List.length_cons,List.length_nil,hx9])|exact lexT|((try rw[qaa]);omega)
    refine qbL ?_
    simp only[go_sem,seval,-List.reduceReplicate,Try.results40,qak,qal,qam,hp9,ht9,List.getD_cons_zero,List.getD_cons_succ,List.length_cons,List.length_nil,hx9]
    repeat' first|assumption|(simp (disch:=first|assumption|omega|(simp;done)|(simp;omega)) only[List.take_of_length_le,qab,qao,qaC,qae,qaj];try simp only[go_sem,seval,-List.reduceReplicate,Try.results40,qak,qal,qam,hp9,ht9,List.getD_cons_zero,List.getD_cons_succ,List.length_cons,List.length_nil,hx9])|(with_reducible first|apply And.intro|intro _)|(refine qac ?_;simp only[go_sem,seval,-List.reduceReplicate,Try.results40,qak,qal,qam,hp9,ht9,List.getD_cons_zero,List.getD_cons_succ,List.length_cons,List.length_nil,hx9])|exact lexT|((try rw[qaa]);omega)
    refine qau (E:=Try.env 0) Try.tok Try.follows 1000 1000 [8] (fsts [0,2,3,4,1,5,6,7] (.one 8 .done)) (by kernel_rfl) ?_
    simp only[go_sem,seval,-List.reduceReplicate,Try.results40,qak,qal,qam,hp9,ht9,List.getD_cons_zero,List.getD_cons_succ,List.length_cons,List.length_nil,hx9]
    repeat' first|assumption|(simp (disch:=first|assumption|omega|(simp;done)|(simp;omega)) only[List.take_of_length_le,qab,qao,qaC,qae,qaj];try simp only[go_sem,seval,-List.reduceReplicate,Try.results40,qak,qal,qam,hp9,ht9,List.getD_cons_zero,List.getD_cons_succ,List.length_cons,List.length_nil,hx9])|(with_reducible first|apply And.intro|intro _)|(refine qac ?_;simp only[go_sem,seval,-List.reduceReplicate,Try.results40,qak,qal,qam,hp9,ht9,List.getD_cons_zero,List.getD_cons_succ,List.length_cons,List.length_nil,hx9])|exact lexT|((try rw[qaa]);omega)
    refine⟨i+1,by omega,by omega,rfl,?_⟩
    rw[hst,qgZ]
    congr 1
    rw[show(t.select.set 0 (trk.getD a1.toNat 0)).set 1 (trk.getD a2.toNat 0)=selS t.select [trk.getD a1.toNat 0,trk.getD a2.toNat 0] from selS_2 hsl]
    rfl
   | [a1,a2,a3],hxi,hxv,hx9,hst=>
    have b1:=hxv a1 (by simp)
    have b2:=hxv a2 (by simp)
    have b3:=hxv a3 (by simp)
    refine qbL ?_
    simp only[go_sem,seval,-List.reduceReplicate,Try.results40,qak,qal,qam,hp9,ht9,List.getD_cons_zero,List.getD_cons_succ,List.length_cons,List.length_nil,hx9]
    repeat' first|assumption|(simp (disch:=first|assumption|omega|(simp;done)|(simp;omega)) only[List.take_of_length_le,qab,qao,qaC,qae,qaj];try simp only[go_sem,seval,-List.reduceReplicate,Try.results40,qak,qal,qam,hp9,ht9,List.getD_cons_zero,List.getD_cons_succ,List.length_cons,List.length_nil,hx9])|(with_reducible first|apply And.intro|intro _)|(refine qac ?_;simp only[go_sem,seval,-List.reduceReplicate,Try.results40,qak,qal,qam,hp9,ht9,List.getD_cons_zero,List.getD_cons_succ,List.length_cons,List.length_nil,hx9])|exact lexT|((try rw[qaa]);omega)
    refine qau (E:=Try.env 0) Try.tok Try.follows 1000 1000 [15] (fsts [0,2,3,4,5,6,7,9,1,8,10,11,12,13,14] (.one 15 .done)) (by kernel_rfl) ?_
    simp only[go_sem,seval,-List.reduceReplicate,Try.results40,qak,qal,qam,hp9,ht9,List.getD_cons_zero,List.getD_cons_succ,List.length_cons,List.length_nil,hx9]
    repeat' first|assumption|(simp (disch:=first|assumption|omega|(simp;done)|(simp;omega)) only[List.take_of_length_le,qab,qao,qaC,qae,qaj];try simp only[go_sem,seval,-List.reduceReplicate,Try.results40,qak,qal,qam,hp9,ht9,List.getD_cons_zero,List.getD_cons_succ,List.length_cons,List.length_nil,hx9])|(with_reducible first|apply And.intro|intro _)|(refine qac ?_;simp only[go_sem,seval,-List.reduceReplicate,Try.results40,qak,qal,qam,hp9,ht9,List.getD_cons_zero,List.getD_cons_succ,List.length_cons,List.length_nil,hx9])|exact lexT|((try rw[qaa]);omega)
    refine qbL ?_
    simp only[go_sem,seval,-List.reduceReplicate,Try.results40,qak,qal,qam,hp9,ht9,List.getD_cons_zero,List.getD_cons_succ,List.length_cons,List.length_nil,hx9]
    repeat' first|assumption|(simp (disch:=first|assumption|omega|(simp;done)|(simp;omega)) only[List.take_of_length_le,qab,qao,qaC,qae,qaj];try simp only[go_sem,seval,-List.reduceReplicate,Try.results40,qak,qal,qam,hp9,ht9,List.getD_cons_zero,List.getD_cons_succ,List.length_cons,List.length_nil,hx9])|(with_reducible first|apply And.intro|intro _)|(refine qac ?_;simp only[go_sem,seval,-List.reduceReplicate,Try.results40,qak,qal,qam,hp9,ht9,List.getD_cons_zero,List.getD_cons_succ,List.length_cons,List.length_nil,hx9])|exact lexT|((try rw[qaa]);omega)
    refine qau (E:=Try.env 0) Try.tok Try.follows 1000 1000 [15] (fsts [0,2,3,4,5,6,7,9,1,8,10,11,12,13,14] (.one 15 .done)) (by kernel_rfl) ?_
    simp only[go_sem,seval,-List.reduceReplicate,Try.results40,qak,qal,qam,hp9,ht9,List.getD_cons_zero,List.getD_cons_succ,List.length_cons,List.length_nil,hx9]
    repeat' first|assumption|(simp (disch:=first|assumption|omega|(simp;done)|(simp;omega)) only[List.take_of_length_le,qab,qao,qaC,qae,qaj];try simp only[go_sem,seval,-List.reduceReplicate,Try.results40,qak,qal,qam,hp9,ht9,List.getD_cons_zero,List.getD_cons_succ,List.length_cons,List.length_nil,hx9])|(with_reducible first|apply And.intro|intro _)|(refine qac ?_;simp only[go_sem,seval,-List.reduceReplicate,Try.results40,qak,qal,qam,hp9,ht9,List.getD_cons_zero,List.getD_cons_succ,List.length_cons,List.length_nil,hx9])|exact lexT|((try rw[qaa]);omega)
    refine qbL ?_
    simp only[go_sem,seval,-List.reduceReplicate,Try.results40,qak,qal,qam,hp9,ht9,List.getD_cons_zero,List.getD_cons_succ,List.length_cons,List.length_nil,hx9]
    repeat' first|assumption|(simp (disch:=first|assumption|omega|(simp;done)|(simp;omega)) only[List.take_of_length_le,qab,qao,qaC,qae,qaj];try simp only[go_sem,seval,-List.reduceReplicate,Try.results40,qak,qal,qam,hp9,ht9,List.getD_cons_zero,List.getD_cons_succ,List.length_cons,List.length_nil,hx9])|(with_reducible first|apply And.intro|intro _)|(refine qac ?_;simp only[go_sem,seval,-List.reduceReplicate,Try.results40,qak,qal,qam,hp9,ht9,List.getD_cons_zero,List.getD_cons_succ,List.length_cons,List.length_nil,hx9])|exact lexT|((try rw[qaa]);omega)
    refine qau (E:=Try.env 0) Try.tok Try.follows 1000 1000 [15] (fsts [0,2,3,4,5,6,7,9,1,8,10,11,12,13,14] (.one 15 .done)) (by kernel_rfl) ?_
    simp only[go_sem,seval,-List.reduceReplicate,Try.results40,qak,qal,qam,hp9,ht9,List.getD_cons_zero,List.getD_cons_succ,List.length_cons,List.length_nil,hx9]
    repeat' first|assumption|(simp (disch:=first|assumption|omega|(simp;done)|(simp;omega)) only[List.take_of_length_le,qab,qao,qaC,qae,qaj];try simp only[go_sem,seval,-List.reduceReplicate,Try.results40,qak,qal,qam,hp9,ht9,List.getD_cons_zero,List.getD_cons_succ,List.length_cons,List.length_nil,hx9])|(with_reducible first|apply And.intro|intro _)|(refine qac ?_;simp only[go_sem,seval,-List.reduceReplicate,Try.results40,qak,qal,qam,hp9,ht9,List.getD_cons_zero,List.getD_cons_succ,List.length_cons,List.length_nil,hx9])|exact lexT|((try rw[qaa]);omega)
    refine qbL ?_
    simp only[go_sem,seval,-List.reduceReplicate,Try.results40,qak,qal,qam,hp9,ht9,List.getD_cons_zero,List.getD_cons_succ,List.length_cons,List.length_nil,hx9]
    repeat' first|assumption|(simp (disch:=first|assumption|omega|(simp;done)|(simp;omega)) only[List.take_of_length_le,qab,qao,qaC,qae,qaj];try simp only[go_sem,seval,-List.reduceReplicate,Try.results40,qak,qal,qam,hp9,ht9,List.getD_cons_zero,List.getD_cons_succ,List.length_cons,List.length_nil,hx9])|(with_reducible first|apply And.intro|intro _)|(refine qac ?_;simp only[go_sem,seval,-List.reduceReplicate,Try.results40,qak,qal,qam,hp9,ht9,List.getD_cons_zero,List.getD_cons_succ,List.length_cons,List.length_nil,hx9])|exact lexT|((try rw[qaa]);omega)
    refine qau (E:=Try.env 0) Try.tok Try.follows 1000 1000 [8] (fsts [0,2,3,4,1,5,6,7] (.one 8 .done)) (by kernel_rfl) ?_
    simp only[go_sem,seval,-List.reduceReplicate,Try.results40,qak,qal,qam,hp9,ht9,List.getD_cons_zero,List.getD_cons_succ,List.length_cons,List.length_nil,hx9]
    repeat' first|assumption|(simp (disch:=first|assumption|omega|(simp;done)|(simp;omega)) only[List.take_of_length_le,qab,qao,qaC,qae,qaj];try simp only[go_sem,seval,-List.reduceReplicate,Try.results40,qak,qal,qam,hp9,ht9,List.getD_cons_zero,List.getD_cons_succ,List.length_cons,List.length_nil,hx9])|(with_reducible first|apply And.intro|intro _)|(refine qac ?_;simp only[go_sem,seval,-List.reduceReplicate,Try.results40,qak,qal,qam,hp9,ht9,List.getD_cons_zero,List.getD_cons_succ,List.length_cons,List.length_nil,hx9])|exact lexT|((try rw[qaa]);omega)
    refine⟨i+1,by omega,by omega,rfl,?_⟩
    rw[hst,qgZ]
    congr 1
    rw[show((t.select.set 0 (trk.getD a1.toNat 0)).set 1 (trk.getD a2.toNat 0)).set 2 (trk.getD a3.toNat 0)=selS t.select [trk.getD a1.toNat 0,trk.getD a2.toNat 0,trk.getD a3.toNat 0] from selS_3 hsl]
    rfl
  ·obtain rfl:i=cells.length:=by omega
   have hsz0:=hsz
   generalize qdH trk cells place (List.replicate 25 qcd) cells.length=T0 at *
   simp only[go_sem,seval,-List.reduceReplicate,Try.results40]
   repeat' first|assumption|(simp (disch:=first|assumption|omega|(simp;done)|(simp;omega)) only[List.take_of_length_le,qab,qao,qaC,qae,qaj];try simp only[go_sem,seval,-List.reduceReplicate,Try.results40])|(with_reducible first|apply And.intro|intro _)|(refine qac ?_;simp only[go_sem,seval,-List.reduceReplicate,Try.results40])|exact lexT|((try rw[qaa]);omega)
   refine qas (E:=Try.env 0) Try.tok (σ:=Nat) (fun i=>[(0,.d (dC c)),(3,.d (dRts rs)),(4,.ptr 0 0),(8,.ptr 1 0),(9,.ptr 4 0),(10,.d (dIs trk)),(14,.d (dI i))])
    (fun i=>[.box [.d (dI c.inputs),.d (dIs c.next),.d (dPs c.gates),.d (dIs c.outs)],.box [.d .nil,.d .nil],.row 0 4 true ((rtsT c rs T0 i).map fun x=>dTc x),.row 0 2 true ((List.replicate 3 ((15:Int),false)).map fun x=>dQ x),.box [.sl 2 0 4 0 25,.sl 3 0 2 0 3]]) (fun i=>i≤rs.length) (fun i=>rs.length-i) [] [] 1000 1000 ?_ ?_
   ·simp only[go_sem,seval,-List.reduceReplicate]
    exact⟨0,by omega,by simp,by simp[rtsT]⟩
   ·intro i hi
    have hsz:=qj1 hsz0 hrt i
    by_cases hlt:i<rs.length
    ·have hst:rtsT c rs T0 (i+1)=hopW c (rs.getD i rt0) (rtsT c rs T0 i) (rs.getD i rt0).hops.length:=qaR (f:=fun T (r:Rt)=>hopW c r T r.hops.length) (b:=T0) rt0 hlt
     have hrr:=hrt _ (qan hlt:rs.getD i rt0∈rs)
     have hhl:=hrl _ (qan hlt:rs.getD i rt0∈rs)
     generalize rtsT c rs T0 i=T at *
     generalize hr9:rs.getD i rt0=r at *
     simp only[go_sem,seval,-List.reduceReplicate,Try.results40,hr9]
     repeat' first|assumption|(simp (disch:=first|assumption|omega|(simp;done)|(simp;omega)) only[List.take_of_length_le,qab,qao,qaC,qae,qaj];try simp only[go_sem,seval,-List.reduceReplicate,Try.results40,hr9])|(with_reducible first|apply And.intro|intro _)|(refine qac ?_;simp only[go_sem,seval,-List.reduceReplicate,Try.results40,hr9])|exact lexT|((try rw[qaa]);omega)
     refine qas (E:=Try.env 0) Try.tok (σ:=Nat) (fun j=>[(0,.d (dC c)),(3,.d (dRts rs)),(4,.ptr 0 0),(8,.ptr 1 0),(9,.ptr 4 0),(10,.d (dIs trk)),(14,.d (dI i)),(15,.d (dI j))])
      (fun j=>[.box [.d (dI c.inputs),.d (dIs c.next),.d (dPs c.gates),.d (dIs c.outs)],.box [.d .nil,.d .nil],.row 0 4 true ((hopW c r T j).map fun x=>dTc x),.row 0 2 true ((List.replicate 3 ((15:Int),false)).map fun x=>dQ x),.box [.sl 2 0 4 0 25,.sl 3 0 2 0 3]]) (fun j=>j≤r.hops.length) (fun j=>r.hops.length-j) [] [] 1000 1000 ?_ ?_
     ·simp only[go_sem,seval,-List.reduceReplicate]
      exact⟨0,by omega,by simp,by simp[hopW]⟩
     ·intro j hj
      have hszj:=qkK (c:=c) hsz hrr.2.2.2.2 j
      by_cases hjt:j<r.hops.length
      ·have hsj:hopW c r T (j+1)=hopT c r (hopW c r T j) (r.hops.getD j (0,0)):=qaR (f:=hopT c r) (b:=T) ((0,0):Int×Int) hjt
       have hh:=hrr.2.2.2.2 _ (qan hjt:r.hops.getD j (0,0)∈r.hops)
       have hsrc:=Try.c_l9Source c (by omega) r.net _ hh
       generalize hopW c r T j=U at *
       generalize hh9:r.hops.getD j (0,0)=h at *
       have htsu:=hszj.get (i:=h.1.toNat) (by omega)
       have hUl:=hszj.1
       have hdl:(U.getD h.1.toNat tc0).drive.length=8:=htsu.2
       generalize hu9:U.getD h.1.toNat tc0=u at *
       simp only[go_sem,seval,-List.reduceReplicate,Try.results40,hr9,hh9,hu9]
       repeat' first|assumption|(simp (disch:=first|assumption|omega|(simp;done)|(simp;omega)) only[List.take_of_length_le,qab,qao,qaC,qae,qaj];try simp only[go_sem,seval,-List.reduceReplicate,Try.results40,hr9,hh9,hu9])|(with_reducible first|apply And.intro|intro _)|(refine qac ?_;simp only[go_sem,seval,-List.reduceReplicate,Try.results40,hr9,hh9,hu9])|exact lexT|((try rw[qaa]);omega)
       refine qau (E:=Try.env 0) Try.tok Try.follows 1000 1000 [21] (fsts [0,2,7,8,9,10,13,14,15,16,1,3,4,5,6,11,12,17,18] (.one 19 (.fst 20 (.one 21 .done)))) (by kernel_rfl) ?_
       simp only[go_sem,seval,-List.reduceReplicate,Try.results40,hr9,hh9,hu9,qak,qal,qam]
       repeat' first|assumption|(simp (disch:=first|assumption|omega|(simp;done)|(simp;omega)) only[List.take_of_length_le,qab,qao,qaC,qae,qaj];try simp only[go_sem,seval,-List.reduceReplicate,Try.results40,hr9,hh9,hu9,qak,qal,qam])|(with_reducible first|apply And.intro|intro _)|(refine qag hsrc ?_;simp only[go_sem,seval,-List.reduceReplicate,Try.results40,hr9,hh9,hu9,qak,qal,qam])|(refine qac ?_;simp only[go_sem,seval,-List.reduceReplicate,Try.results40,hr9,hh9,hu9,qak,qal,qam])|exact lexT|((try rw[qaa]);omega)
       ·refine⟨j+1,by omega,by omega,rfl,?_⟩
        rw[hsj]
        unfold hopT
        rw[hu9]
        refine qeT (by decide) (z:=tc0) (by omega) ?_
        rw[hu9]
        rfl
      ·obtain rfl:j=r.hops.length:=by omega
       simp only[go_sem,seval,-List.reduceReplicate,Try.results40,hr9]
       repeat' first|assumption|(simp (disch:=first|assumption|omega|(simp;done)|(simp;omega)) only[List.take_of_length_le,qab,qao,qaC,qae,qaj];try simp only[go_sem,seval,-List.reduceReplicate,Try.results40,hr9])|(with_reducible first|apply And.intro|intro _)|(refine qac ?_;simp only[go_sem,seval,-List.reduceReplicate,Try.results40,hr9])|exact lexT|((try rw[qaa]);omega)
       exact⟨i+1,by omega,by omega,rfl,by rw[hst]⟩
    ·obtain rfl:i=rs.length:=by omega
     simp only[go_sem,seval,-List.reduceReplicate,Try.results40]
     repeat' first|assumption|(simp (disch:=first|assumption|omega|(simp;done)|(simp;omega)) only[List.take_of_length_le,qab,qao,qaC,qae,qaj];try simp only[go_sem,seval,-List.reduceReplicate,Try.results40])|(with_reducible first|apply And.intro|intro _)|(refine qac ?_;simp only[go_sem,seval,-List.reduceReplicate,Try.results40])|exact lexT|((try rw[qaa]);omega)
     refine qas (E:=Try.env 0) Try.tok (σ:=Nat) (fun i=>[(0,.d (dC c)),(4,.ptr 0 0),(8,.ptr 1 0),(9,.ptr 4 0),(10,.d (dIs trk)),(17,.d (dI i))])
      (fun i=>[.box [.d (dI c.inputs),.d (dIs c.next),.d (dPs c.gates),.d (dIs c.outs)],.box [.d .nil,.d .nil],.row 0 4 true ((rtsT c rs T0 rs.length).map fun x=>dTc x),.row 0 2 true ((qhc c trk i).map fun x=>dQ x),.box [.sl 2 0 4 0 25,.sl 3 0 2 0 3]]) (fun i=>i≤c.outs.length) (fun i=>c.outs.length-i) [] [] 1000 1000 ?_ ?_
     ·simp only[go_sem,seval,-List.reduceReplicate]
      exact⟨0,by omega,by simp,by simp[qhc]⟩
     ·intro o ho
      have hlo:=hc.lo
      by_cases hlt:o<c.outs.length
      ·have hov:=hc.o _ (qan hlt:c.outs.getD o 0∈c.outs)
       have hst:qhc c trk (o+1)=(qhc c trk o).set o (trk.getD (c.outs.getD o 0/2).toNat 0,decide (c.outs.getD o 0%2=1)):=by simp only[qhc,List.range_succ,List.foldl_append,List.foldl_cons,List.foldl_nil]
       have hpl:=@padsT_len c trk o
       generalize qhc c trk o=q at *
       generalize ho9:c.outs.getD o 0=v at *
       have hov1:0≤v∧v<2*c.vars:=by
        have:=hov
        unfold qba at this
        omega
       simp only[go_sem,seval,-List.reduceReplicate,Try.results40,ho9]
       repeat' first|assumption|(simp (disch:=first|assumption|omega|(simp;done)|(simp;omega)) only[List.take_of_length_le,qab,qao,qaC,qae,qaj];try simp only[go_sem,seval,-List.reduceReplicate,Try.results40,ho9])|(with_reducible first|apply And.intro|intro _)|(refine qac ?_;simp only[go_sem,seval,-List.reduceReplicate,Try.results40,ho9])|exact lexT|((try rw[qaa]);omega)
       refine qau (E:=Try.env 0) Try.tok Try.follows 1000 1000 [21] (fsts [0,2,3,4,6,12,14,1,5,7,8,9,10,11,13,15,16,17,18,19,20] (.one 21 .done)) (by kernel_rfl) ?_
       simp only[go_sem,seval,-List.reduceReplicate,Try.results40,ho9]
       repeat' first|assumption|(simp (disch:=first|assumption|omega|(simp;done)|(simp;omega)) only[List.take_of_length_le,qab,qao,qaC,qae,qaj];try simp only[go_sem,seval,-List.reduceReplicate,Try.results40,ho9])|(with_reducible first|apply And.intro|intro _)|(refine qac ?_;simp only[go_sem,seval,-List.reduceReplicate,Try.results40,ho9])|exact lexT|((try rw[qaa]);omega)
       refine⟨o+1,by omega,by omega,rfl,?_⟩
       rw[hst]
       rw[List.map_set]
      ·obtain rfl:o=c.outs.length:=by omega
       simp only[go_sem,seval,-List.reduceReplicate,Try.results40]
       repeat' first|assumption|(simp (disch:=first|assumption|omega|(simp;done)|(simp;omega)) only[List.take_of_length_le,qab,qao,qaC,qae,qaj];try simp only[go_sem,seval,-List.reduceReplicate,Try.results40])|(with_reducible first|apply And.intro|intro _)|(refine qac ?_;simp only[go_sem,seval,-List.reduceReplicate,Try.results40])|exact lexT|((try rw[qaa]);omega)
       ·exact(qj1 hsz0 hrt _).1.symm
       ·exact padsT_len.symm
end Go.Proofs
