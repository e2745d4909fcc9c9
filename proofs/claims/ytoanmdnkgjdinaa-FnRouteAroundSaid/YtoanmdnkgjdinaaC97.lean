/- Contracts, plain definitions and lemmas. Conditions: none; lemmas. -/
import Derived.Test.YtoanmdnkgjdinaaC95
import Derived.Test.YtoanmdnkgjdinaaC6
set_option maxRecDepth 20000
set_option linter.unusedVariables false
set_option linter.unusedSimpArgs false
namespace Go.Proofs
open Go Go.VL
theorem Try.c_Cuts (c:Circ) (hc:c.Valid):PureF Try.prog 85 [dC c] (qjY (qa5 c)):=by
 have hf:=hc.first_bd
 have hi0:=hc.i0
 have hi1:=hc.i1
 have hfst:=Try.c_firstGate c (by omega)
 have hl0:=qbh (c:=c) hf.1 0
 have hcv:=Try.c_CircuitValid c
 refine qbJ (E:=Try.env 0) Try.tok rfl 1000 Try.func85 rfl rfl Try.ntmps85 (by simp) fun ok=>?_
 simp only[go_sem,seval] at ok
 simp only[go_sem,seval,Try.results85]
 repeat' first|assumption|(simp (disch:=first|assumption|omega|(simp;done)|(simp;omega)) only[qaa,qac,List.take_of_length_le,qab,qae,qaf];try simp only[go_sem,seval,Try.results85])|(with_reducible refine And.intro ?_ ?_)|(with_reducible intro _)|(refine qai hfst ?_;simp only[go_sem,seval,Try.results85])|(refine qai hcv ?_;simp only[go_sem,seval,Try.results85])|(refine @Exists.intro I _ (I.d D.nil) ?_;simp only[go_sem,seval,Try.results85])|((with_reducible (show Region.lexB _ _=true));kernel_rfl)|((try rw[qad]);omega)
 ·rename_i h9;exact absurd hc h9
 rename_i h9
 refine qao (E:=Try.env 0) Try.tok (σ:=Nat) (fun v=>[(1,.ptr 0 0),(3,.sl 3 (v-1) 1 0 v),(4,.d (dI v))]) (fun v=>[.box [.d (dI c.inputs),.d (dIs c.next),.d (dPs c.gates),.d (dIs c.outs)],.dead 0,.dead 0,.row (v-1) 1 false (((qaM c 0).take v).map fun x=>dIss x)])
  (fun v=>1≤v∧(v:Int)≤c.first) (fun v=>c.first.toNat-v) [] [] 1000 1000 ?_ ?_
 ·simp only[go_sem,seval]
  exact⟨1,⟨by omega,by omega⟩,⟨⟨rfl,rfl⟩,rfl⟩,rfl,by simp[qaM]⟩
 ·rintro v ⟨hv1,hv⟩
  by_cases hlt:(v:Int)<c.first
  ·have hg:(qaM c 0).getD v []=[[(v:Int)]]:=by
    obtain⟨m,rfl⟩ : ∃ m,v=m+1:=⟨v-1,by omega⟩
    simp[qaM,List.getD,show m<c.first.toNat-1 by omega]
   have hts:=qaT (f:=fun x=>dIss x) ([]:List (List Int)) (show v<(qaM c 0).length by omega)
   simp only[go_sem,seval,Try.results85]
   repeat' first|assumption|(simp (disch:=first|assumption|omega|(simp;done)|(simp;omega)) only[qaa,qac,List.take_of_length_le,qab,qae,qaf];try simp only[go_sem,seval,Try.results85])|(with_reducible refine And.intro ?_ ?_)|(with_reducible intro _)|(refine qai hfst ?_;simp only[go_sem,seval,Try.results85])|(refine @Exists.intro I _ (I.d D.nil) ?_;simp only[go_sem,seval,Try.results85])|((with_reducible (show Region.lexB _ _=true));kernel_rfl)|((try rw[qad]);omega)
   ·simp;omega
   ·refine⟨v+1,⟨by omega,by omega⟩,by omega,⟨⟨by omega,rfl⟩,by omega⟩,by omega,?_⟩
    rw[hts,hg]
    rfl
  ·simp only[go_sem,seval,Try.results85]
   repeat' first|assumption|(simp (disch:=first|assumption|omega|(simp;done)|(simp;omega)) only[qaa,qac,List.take_of_length_le,qab,qae,qaf];try simp only[go_sem,seval,Try.results85])|(with_reducible refine And.intro ?_ ?_)|(with_reducible intro _)|(refine qai hfst ?_;simp only[go_sem,seval,Try.results85])|(refine @Exists.intro I _ (I.d D.nil) ?_;simp only[go_sem,seval,Try.results85])|((with_reducible (show Region.lexB _ _=true));kernel_rfl)|((try rw[qad]);omega)
   have hv3:v=c.first.toNat:=by omega
   subst hv3
   clear hlt hv hv1
   have hlg:=hc.lg
   refine qao (E:=Try.env 0) Try.tok (σ:=Nat) (fun i=>[(28,.d (dI i)),(27,.d (dI c.gates.length)),(26,.d (dPs c.gates)),(1,.ptr 0 0),(3,.sl 3 (c.first.toNat-1+i) 1 0 (c.first.toNat+i))]) (fun i=>[.box [.d (dI c.inputs),.d (dIs c.next),.d (dPs c.gates),.d (dIs c.outs)],.dead 0,.dead 0,.row (c.first.toNat-1+i) 1 false ((qaM c i).map fun x=>dIss x)])
    (fun i=>i≤c.gates.length) (fun i=>c.gates.length-i) [] [] 1000 1000 ?_ ?_
   ·simp only[go_sem,seval]
    exact⟨0,by omega,⟨rfl,rfl,rfl⟩,rfl,rfl⟩
   ·intro i hi
    have hli:=qbh (c:=c) hf.1 i
    by_cases hlt:i<c.gates.length
    ·obtain⟨g1,g2⟩:=hc.g i hlt
     have hco:=qci hc i hi
     unfold qbc at g1 g2
     simp only[go_sem,seval,Try.results85]
     repeat' first|assumption|(simp (disch:=first|assumption|omega|(simp;done)|(simp;omega)) only[qaa,qac,List.take_of_length_le,qab,qae,qaf];try simp only[go_sem,seval,Try.results85])|(with_reducible refine And.intro ?_ ?_)|(with_reducible intro _)|(refine qai hfst ?_;simp only[go_sem,seval,Try.results85])|(refine @Exists.intro I _ (I.d D.nil) ?_;simp only[go_sem,seval,Try.results85])|((with_reducible (show Region.lexB _ _=true));kernel_rfl)|((try rw[qad]);omega)
     have hA:(qbB c i/2).toNat<(qaM c i).length:=by unfold qbB;omega
     have hB:(qbC c i/2).toNat<(qaM c i).length:=by unfold qbC;omega
     obtain⟨pa,-,-,pl⟩:=hco _ hA
     obtain⟨qa,-,-,ql⟩:=hco _ hB
     have hjn:(qaM c (i+1))=qaM c i ++ [qeR ((qaM c i).getD (qbB c i/2).toNat []) ((qaM c i).getD (qbC c i/2).toNat []) ++ [[c.first+(i:Int)]]]:=rfl
     have hgA:(c.gates.getD i (0,0)).1=qbB c i:=rfl
     have hgB:(c.gates.getD i (0,0)).2=qbC c i:=rfl
     rw[hgA] at g1 ⊢
     rw[hgB] at g2 ⊢
     have hjl:=qi9 ((qaM c i).getD (qbB c i/2).toNat []) ((qaM c i).getD (qbC c i/2).toNat [])
     have hjo:=Try.c_joinCuts _ _ pl ql (fun x hx=>⟨(pa x hx).asc,(pa x hx).len⟩) (fun x hx=>⟨(qa x hx).asc,(qa x hx).len⟩)
     generalize hP9:(qaM c i).getD (qbB c i/2).toNat []=P at *
     generalize hQ9:(qaM c i).getD (qbC c i/2).toNat []=Q at *
     refine qaS (E:=Try.env 0) Try.tok Try.follows 1000 1000 [12] (.fst 0 (.fst 1 (.fst 6 (.fst 7 (.fst 2 (.fst 3 (.fst 4 (.fst 5 (.fst 8 (.fst 9 (.fst 10 (.fst 11 (.one 12 (.fst 13 (.done))))))))))))))) (by kernel_rfl) ?_
     simp only[go_sem,seval,Try.results85,hP9,hQ9]
     repeat' first|assumption|(simp (disch:=first|assumption|omega|(simp;done)|(simp;omega)) only[qaa,qac,List.take_of_length_le,qab,qae,qaf];try simp only[go_sem,seval,Try.results85,hP9,hQ9])|(with_reducible refine And.intro ?_ ?_)|(with_reducible intro _)|(refine qai hfst ?_;simp only[go_sem,seval,Try.results85,hP9,hQ9])|(refine @Exists.intro I _ (I.d D.nil) ?_;simp only[go_sem,seval,Try.results85,hP9,hQ9])|((with_reducible (show Region.lexB _ _=true));kernel_rfl)|((try rw[qad]);omega)
     refine qar hjo [] (by simp only[go_sem,seval]) ?_
     rintro r0 H1 ⟨g',rfl,rfl⟩
     simp only[go_sem,seval,Try.results85,hP9,hQ9]
     repeat' first|assumption|(simp (disch:=first|assumption|omega|(simp;done)|(simp;omega)) only[qaa,qac,List.take_of_length_le,qab,qae,qaf];try simp only[go_sem,seval,Try.results85,hP9,hQ9])|(with_reducible refine And.intro ?_ ?_)|(with_reducible intro _)|(refine qai hfst ?_;simp only[go_sem,seval,Try.results85,hP9,hQ9])|(refine @Exists.intro I _ (I.d D.nil) ?_;simp only[go_sem,seval,Try.results85,hP9,hQ9])|((with_reducible (show Region.lexB _ _=true));kernel_rfl)|((try rw[qad]);omega)
     refine⟨i+1,by omega,by omega,⟨rfl,by omega,by omega⟩,by omega,?_⟩
     rw[hjn,List.map_append]
     simp
    ·simp only[go_sem,seval,Try.results85]
     repeat' first|assumption|(simp (disch:=first|assumption|omega|(simp;done)|(simp;omega)) only[qaa,qac,List.take_of_length_le,qab,qae,qaf];try simp only[go_sem,seval,Try.results85])|(with_reducible refine And.intro ?_ ?_)|(with_reducible intro _)|(refine qai hfst ?_;simp only[go_sem,seval,Try.results85])|(refine @Exists.intro I _ (I.d D.nil) ?_;simp only[go_sem,seval,Try.results85])|((with_reducible (show Region.lexB _ _=true));kernel_rfl)|((try rw[qad]);omega)
     rw[qa5,show i=c.gates.length by omega]
end Go.Proofs

set_option maxRecDepth 20000
set_option linter.unusedVariables false
set_option linter.unusedSimpArgs false
namespace Go.Proofs
open Go Go.VL
def qeT (c:Circ) (N:Nat) (l:List (List Int)):List D:=qcN c l++List.replicate (N-l.length) .nil
def arrI (N:Nat) (l:List Int):List Int:=l++List.replicate (N-l.length) 0
theorem qfL {c:Circ}{N:Nat}{l:List (List Int)}(h:c.first.toNat≤l.length) (hN:l.length≤N):(qeT c N l).length=N:=by
 simp[qeT,qcM h];omega
theorem qje {N:Nat}{l:List Int}(hN:l.length≤N):(arrI N l).length=N:=by
 simp[arrI];omega
theorem qps {N:Nat}{l:List Int}{v:Nat}(h:v<l.length):(arrI N l).getD v 0=l.getD v 0:=by
 simp[arrI,List.getD,List.getElem?_append_left h]
theorem qnA {α : Type}{n:Nat}{x : α}(h:0<n):List.replicate n x=x::List.replicate (n-1) x:=by
 obtain⟨m,rfl⟩ : ∃ m,n=m+1:=⟨n-1,by omega⟩
 rfl
theorem qnB {α : Type}{l r:List α}{x y : α}{n:Nat}(h:n=l.length):(l++x::r).set n y=l++y::r:=by
 subst h;simp
theorem qhG {c:Circ}{N:Nat}{l:List (List Int)}(h:c.first.toNat≤l.length) (hN:l.length<N) {x:List Int}:(qeT c N l).set l.length (dIs x)=qeT c N (l ++ [x]):=by
 unfold qeT
 rw[qnA (show 0<N-l.length by omega),qnB (by rw[qcM h]),qgg h,List.append_assoc]
 simp[show N-(l.length+1)=N-l.length-1 by omega]
theorem ql1 {c:Circ}{N:Nat}{l:List (List Int)}(h:c.first.toNat≤l.length) (hN:l.length<N) {x y:List Int}:(qeT c N (l ++ [x])).set l.length (dIs y)=qeT c N (l ++ [y]):=by
 rw[←qhG h hN,←qhG h hN,List.set_set]
theorem qnC {c:Circ}{N:Nat}{l:List (List Int)}(h:c.first.toNat≤l.length) {x:List Int}{z:D}:(qeT c N (l ++ [x])).getD l.length z=dIs x:=by
 unfold qeT
 rw[qgg h,List.append_assoc,List.getD_eq_getElem?_getD,List.getElem?_append_right (by rw[qcM h];omega),qcM h]
 simp
theorem qpt {N:Nat}{l:List Int}(hN:l.length<N) {x:Int}:(arrI N l).set l.length x=arrI N (l ++ [x]):=by
 unfold arrI
 rw[qnA (show 0<N-l.length by omega),qnB rfl,List.append_assoc]
 simp[show N-(l.length+1)=N-l.length-1 by omega]
theorem Try.c_bestCuts (c:Circ) (hc:c.Valid):ICall Try.prog 64 [.ptr 0 0] [.box [.d (dI c.inputs),.d (dIs c.next),.d (dPs c.gates),.d (dIs c.outs)]] (fun r H'=>r=.d (.tup [.lst 1 (qcN c (qbM c)),dIs (arrC c)])∧H'=[.box [.d (dI c.inputs),.d (dIs c.next),.d (dPs c.gates),.d (dIs c.outs)]]):=by
 have hf:=hc.first_bd
 have hi0:=hc.i0
 have hi1:=hc.i1
 have hfst:=Try.c_firstGate c (by omega)
 have hcu:=Try.c_Cuts c hc
 have hbd:=qja c (qa5 c)
 have hcl:=qbh (c:=c) hf.1 c.gates.length
 have hco:=qci hc c.gates.length (Nat.le_refl _)
 have hlg:=hc.lg
 rw[←qa5] at hcl hco
 refine qaJ (E:=Try.env 1) Try.tok rfl 1000 Try.func64 rfl rfl Try.ntmps64 (by simp) ?_
 simp only[go_sem,seval,Try.results64]
 repeat' first|assumption|(simp (disch:=first|assumption|omega|(simp;done)|(simp;omega)) only[qaa,qac,List.take_of_length_le,qab,qae,qaf];try simp only[go_sem,seval,Try.results64])|(with_reducible refine And.intro ?_ ?_)|(with_reducible intro _)|(refine qai hfst ?_;simp only[go_sem,seval,Try.results64])|(refine qbD hcu ?_;simp only[go_sem,seval,Try.results64])|(refine @Exists.intro I _ (I.d D.nil) ?_;simp only[go_sem,seval,Try.results64])|((with_reducible (show Region.lexB _ _=true));kernel_rfl)|((try rw[qad]);omega)
 have hgate : ∀ i,i<c.gates.length→∃ x r,(qa5 c).getD (c.first.toNat+i) []=x::r∧r≠[]:=fun i hi=>by
  have h1:=qhy hc hi
  rw[qa5,qdH hf.1 hi]
  cases hj:qeR ((qaM c i).getD (qbB c i/2).toNat []) ((qaM c i).getD (qbC c i/2).toNat []) with
  | nil=>rw[hj] at h1;simp at h1
  | cons x r=>exact⟨x,r ++ [[c.first+(i:Int)]],rfl,by simp⟩
 have hleaf : ∀ i,i<c.gates.length→∀ cut∈((qa5 c).getD (c.first.toNat+i) []).dropLast,∀ z∈cut,0≤z∧z<c.first+(i:Int):=fun i hi cut hcut z hz=>by
  rw[qa5,qdH hf.1 hi,List.dropLast_concat] at hcut
  have hl:=qbh (c:=c) hf.1 i
  obtain⟨g1,g2⟩:=hc.g i hi
  have ha:(qbB c i/2).toNat<c.first.toNat+i:=by unfold qbB;unfold qbc at g1;omega
  have hb:(qbC c i/2).toNat<c.first.toNat+i:=by unfold qbC;unfold qbc at g2;omega
  obtain⟨a1,-⟩:=qci hc i (by omega) _ (by rw[hl];exact ha)
  obtain⟨b1,-⟩:=qci hc i (by omega) _ (by rw[hl];exact hb)
  refine qfI (P:=fun cut=>∀ z∈cut,0≤z∧z<c.first+(i:Int)) (fun x hx y hy hle z hz=>?_) cut hcut z hz
  rcases(qbL _ _).1 hz with h2|h2
  ·have:=(a1 x hx).rng z h2;omega
  ·have:=(b1 y hy).rng z h2;omega
 have efin:qbM c=(qaR c (qa5 c) c.gates.length).1∧arrC c=(qaR c (qa5 c) c.gates.length).2:=⟨rfl,rfl⟩
 rw[efin.1,efin.2]
 generalize qa5 c=cuts at *
 have hbl:=qdb c cuts
 refine qao (E:=Try.env 1) Try.tok (σ:=Nat) (fun i=>[(7,.d (dI (c.first+(i:Int)))),(6,.sl 2 0 1 0 cuts.length),(5,.sl 1 0 1 0 cuts.length),(4,.d (qjY cuts)),(0,.ptr 0 0)])
  (fun i=>[.box [.d (dI c.inputs),.d (dIs c.next),.d (dPs c.gates),.d (dIs c.outs)],.row 0 1 false (qeT c cuts.length (qaR c cuts i).1),.row 0 1 true ((arrI cuts.length (qaR c cuts i).2).map (D.int .i64))])
  (fun i=>i≤c.gates.length) (fun i=>c.gates.length-i) [] [] 1000 1000 ?_ ?_
 ·simp only[go_sem,seval]
  refine⟨0,by omega,by omega,?_,?_⟩
  ·simp[qaR,qeT,qcN,hcl]
  ·simp[qaR,arrI,hcl]
 ·intro i hi
  have hbli:=hbl i
  by_cases hlt:i<c.gates.length
  ·have hsu:qaR c cuts (i+1)=((qaR c cuts i).1 ++ [qbu (qaR c cuts i).2 (cuts.getD (c.first.toNat+i) []).dropLast],(qaR c cuts i).2 ++ [1+qb4 (qaR c cuts i).2 (qbu (qaR c cuts i).2 (cuts.getD (c.first.toNat+i) []).dropLast)]):=rfl
   have hlf:=hleaf i hlt
   obtain⟨x,r,hxr,hr0⟩:=hgate i hlt
   have hle:=(hco (c.first.toNat+i) (by omega)).2.2.2
   have hM3 : ∀ z∈(cuts.getD (c.first.toNat+i) []).dropLast,z.length≤3:=fun z hz=>((hco (c.first.toNat+i) (by omega)).1 z (List.dropLast_subset _ hz)).len
   have hbdi:=hbd i
   generalize hL:cuts.getD (c.first.toNat+i) []=L at *
   generalize (qaR c cuts i).2=A at *
   generalize (qaR c cuts i).1=B at *
   have eL:(c.first+(i:Int)).toNat=c.first.toNat+i:=by omega
   have hL2:2≤L.length:=by
    rw[hxr]
    cases r with
    | nil=>exact absurd rfl hr0
    | cons y r=>simp
   have eM:List.take ((L.length:Int)-1).toNat (L.map fun x=>dIs x)=L.dropLast.map fun x=>dIs x:=by
    rw[List.dropLast_eq_take,List.map_take,show((L.length:Int)-1).toNat=L.length-1 by omega]
   have hML:L.dropLast.length=L.length-1:=by simp
   simp only[go_sem,seval,Try.results64,eL,hL,eM]
   repeat' first|assumption|(simp (disch:=first|assumption|omega|(simp;done)|(simp;omega)) only[qaa,qac,List.take_of_length_le,qab,qae,qaf];try simp only[go_sem,seval,Try.results64,eL,hL,eM])|(with_reducible refine And.intro ?_ ?_)|(with_reducible intro _)|(refine @Exists.intro I _ (I.d D.nil) ?_;simp only[go_sem,seval,Try.results64,eL,hL,eM])|((with_reducible (show Region.lexB _ _=true));kernel_rfl)|((try rw[qad]);omega)
   generalize L.dropLast=M at *
   have hBL:B.length=c.first.toNat+i:=hbli.1
   have hAL:A.length=c.first.toNat+i:=hbli.2
   have harb:=fun cut (hcut:cut∈M)=>qdI (arr:=A) (cut:=cut) (m:=i) (fun z _=>(hbdi z.toNat).2) (by omega)
   refine qao (E:=Try.env 1) Try.tok (σ:=Nat) (fun j=>[(44,.d (dI j)),(43,.d (dI M.length)),(42,.d (dIss M)),(8,.d (dI (if j=0 then -1 else qb4 A (qbu A (M.take j))))),(7,.d (dI (c.first+(i:Int)))),(6,.sl 2 0 1 0 cuts.length),(5,.sl 1 0 1 0 cuts.length),(4,.d (qjY cuts)),(0,.ptr 0 0)])
    (fun j=>[.box [.d (dI c.inputs),.d (dIs c.next),.d (dPs c.gates),.d (dIs c.outs)],.row 0 1 false (if j=0 then qeT c cuts.length B else qeT c cuts.length (B ++ [qbu A (M.take j)])),.row 0 1 true ((arrI cuts.length A).map (D.int .i64))])
    (fun j=>j≤M.length) (fun j=>M.length-j) [] [] 1000 1000 ?_ ?_
   ·simp only[go_sem,seval]
    refine⟨0,by omega,?_⟩
    simp
   ·intro j hj
    by_cases hjt:j<M.length
    ·have hxm:=qaj hjt (z:=([]:List Int))
     have hlx:=hlf _ hxm
     have hx3:=hM3 _ hxm
     have hts:M.take (j+1)=M.take j ++ [M.getD j []]:=by simpa using qaT (f:=fun x:List Int=>x) [] hjt
     generalize hX:M.getD j []=X at *
     simp only[go_sem,seval,Try.results64,eL,hL,hX]
     repeat' first|assumption|(simp (disch:=first|assumption|omega|(simp;done)|(simp;omega)) only[qaa,qac,List.take_of_length_le,qab,qae,qaf];try simp only[go_sem,seval,Try.results64,eL,hL,hX])|(with_reducible refine And.intro ?_ ?_)|(with_reducible intro _)|(refine @Exists.intro I _ (I.d D.nil) ?_;simp only[go_sem,seval,Try.results64,eL,hL,hX])|((with_reducible (show Region.lexB _ _=true));kernel_rfl)|((try rw[qad]);omega)
     refine qao (E:=Try.env 1) Try.tok (σ:=Nat) (fun k=>[(50,.d (dI k)),(49,.d (dI X.length)),(48,.d (dIs X)),(11,.d (dI (qb4 A (X.take k)))),(10,.d (dIs X)),(44,.d (dI j)),(43,.d (dI M.length)),(42,.d (dIss M)),(8,.d (dI (if j=0 then -1 else qb4 A (qbu A (M.take j))))),(7,.d (dI (c.first+(i:Int)))),(6,.sl 2 0 1 0 cuts.length),(5,.sl 1 0 1 0 cuts.length),(4,.d (qjY cuts)),(0,.ptr 0 0)])
      (fun k=>[.box [.d (dI c.inputs),.d (dIs c.next),.d (dPs c.gates),.d (dIs c.outs)],.row 0 1 false (if j=0 then qeT c cuts.length B else qeT c cuts.length (B ++ [qbu A (M.take j)])),.row 0 1 true ((arrI cuts.length A).map (D.int .i64))])
      (fun k=>k≤X.length) (fun k=>X.length-k) [] [] 1000 1000 ?_ ?_
     ·simp only[go_sem,seval]
      refine⟨0,by omega,?_⟩
      simp[qb4]
     ·intro k hk
      by_cases hkt:k<X.length
      ·have e1:qb4 A (X.take (k+1))=max (qb4 A (X.take k)) (A.getD (X.getD k 0).toNat 0):=qaN (f:=fun(t v:Int)=>max t (A.getD v.toNat 0)) (b:=0) (0:Int) hkt
       have hxk:=hlx _ (qaj hkt:X.getD k 0∈X)
       have hxr2:=hbdi (X.getD k 0).toNat
       have hag:=qps (N:=cuts.length) (l:=A) (v:=(X.getD k 0).toNat) (by omega)
       have hal:=qje (N:=cuts.length) (l:=A) (by omega)
       have hfb:=qdI (arr:=A) (cut:=X.take k) (m:=i) (fun z _=>(hbdi z.toNat).2) (by omega)
       simp only[go_sem,seval,Try.results64,eL,hL,hX]
       repeat' first|assumption|(simp (disch:=first|assumption|omega|(simp;done)|(simp;omega)) only[qaa,qac,List.take_of_length_le,qab,qae,qaf];try simp only[go_sem,seval,Try.results64,eL,hL,hX])|(with_reducible refine And.intro ?_ ?_)|(with_reducible intro _)|(refine @Exists.intro I _ (I.d D.nil) ?_;simp only[go_sem,seval,Try.results64,eL,hL,hX])|((with_reducible (show Region.lexB _ _=true));kernel_rfl)|((try rw[qad]);omega)
       ·exact⟨k+1,by omega,by omega,rfl,by rw[hag,←e1]⟩
      ·obtain rfl:k=X.length:=by omega
       rw[List.take_length]
       have hfb:=qdI (arr:=A) (cut:=X) (m:=i) (fun z _=>(hbdi z.toNat).2) (by omega)
       by_cases hj0:j=0
       ·subst hj0
        rw[if_pos rfl,if_pos rfl]
        simp only[go_sem,seval,Try.results64,eL,hL,hX]
        repeat' first|assumption|(simp (disch:=first|assumption|omega|(simp;done)|(simp;omega)) only[qaa,qac,List.take_of_length_le,qab,qae,qaf];try simp only[go_sem,seval,Try.results64,eL,hL,hX])|(with_reducible refine And.intro ?_ ?_)|(with_reducible intro _)|(refine @Exists.intro I _ (I.d D.nil) ?_;simp only[go_sem,seval,Try.results64,eL,hL,hX])|((with_reducible (show Region.lexB _ _=true));kernel_rfl)|((try rw[qad]);omega)
        ·rw[qfL (by omega) (by omega)];omega
        ·have h1:qbu A (M.take 1)=X:=by
          have:M.take 1=[X]:=by simpa using hts
          rw[this];rfl
         refine⟨1,by omega,by omega,⟨rfl,?_⟩,?_⟩
         ·rw[if_neg (by decide),h1]
         ·rw[if_neg (by decide),h1,←hBL];exact qhG (by omega) (by omega)
       ·rw[if_neg hj0,if_neg hj0]
        have hbm:qbu A (M.take j)∈M:=List.mem_of_mem_take (qge (by simp;omega))
        have hsn:=qhz (arr:=A) (l:=M.take j) (y:=X) (by simp;omega)
        rw[←hts] at hsn
        have hbb:=harb _ hbm
        have hbg:=fun z=>qnC (c:=c) (N:=cuts.length) (l:=B) (x:=qbu A (M.take j)) (z:=z) (by omega)
        rw[hBL] at hbg
        generalize qbu A (M.take j)=Y at *
        simp only[go_sem,seval,Try.results64,eL,hL,hX,hbg]
        repeat' first|assumption|(simp (disch:=first|assumption|omega|(simp;done)|(simp;omega)) only[qaa,qac,List.take_of_length_le,qab,qae,qaf];try simp only[go_sem,seval,Try.results64,eL,hL,hX,hbg])|(with_reducible refine And.intro ?_ ?_)|(with_reducible intro _)|(refine @Exists.intro I _ (I.d D.nil) ?_;simp only[go_sem,seval,Try.results64,eL,hL,hX,hbg])|((with_reducible (show Region.lexB _ _=true));kernel_rfl)|((try rw[qad]);omega)
        ·rw[qfL (by simp;omega) (by simp;omega)];omega
        ·rw[qfL (by simp;omega) (by simp;omega)];omega
        ·refine⟨j+1,by omega,by omega,⟨rfl,?_⟩,?_⟩
         ·rw[if_neg (by omega),hsn,if_pos (show qby _ _ _ by unfold qby;omega)]
         ·rw[if_neg (by omega),hsn,if_pos (show qby _ _ _ by unfold qby;omega),←hBL];exact ql1 (by omega) (by omega)
        ·refine⟨j+1,by omega,by omega,⟨rfl,?_⟩,?_⟩
         ·rw[if_neg (by omega),hsn,if_neg (show ¬ qby _ _ _ by unfold qby;omega)]
         ·rw[if_neg (by omega),hsn,if_neg (show ¬ qby _ _ _ by unfold qby;omega)]
    ·obtain rfl:j=M.length:=by omega
     rw[List.take_length,if_neg (by omega),if_neg (by omega)]
     simp only[go_sem,seval,Try.results64,eL,hL]
     have hfb:=harb _ (qge (arr:=A) (l:=M) (by omega))
     repeat' first|assumption|(simp (disch:=first|assumption|omega|(simp;done)|(simp;omega)) only[qaa,qac,List.take_of_length_le,qab,qae,qaf];try simp only[go_sem,seval,Try.results64,eL,hL])|(with_reducible refine And.intro ?_ ?_)|(with_reducible intro _)|(refine @Exists.intro I _ (I.d D.nil) ?_;simp only[go_sem,seval,Try.results64,eL,hL])|((with_reducible (show Region.lexB _ _=true));kernel_rfl)|((try rw[qad]);omega)
     ·rw[qje (by omega)];omega
     ·refine⟨i+1,by omega,by omega,by omega,?_,?_⟩
      ·rw[hsu]
      ·rw[hsu,Int.add_comm 1,←hAL];exact qpt (by omega)
  ·obtain rfl:i=c.gates.length:=by omega
   simp only[go_sem,seval,Try.results64]
   repeat' first|assumption|(simp (disch:=first|assumption|omega|(simp;done)|(simp;omega)) only[qaa,qac,List.take_of_length_le,qab,qae,qaf];try simp only[go_sem,seval,Try.results64])|(with_reducible refine And.intro ?_ ?_)|(with_reducible intro _)|(refine @Exists.intro I _ (I.d D.nil) ?_;simp only[go_sem,seval,Try.results64])|((with_reducible (show Region.lexB _ _=true));kernel_rfl)|((try rw[qad]);omega)
   refine qch (by simp) (by simp only[go_sem,seval]) ?_
   simp only[go_sem,seval]
   repeat' first|assumption|(simp (disch:=first|assumption|omega|(simp;done)|(simp;omega)) only[qaa,qac,List.take_of_length_le,qab,qae,qaf];try simp only[go_sem,seval,Try.results64])|(with_reducible refine And.intro ?_ ?_)|(with_reducible intro _)|(refine @Exists.intro I _ (I.d D.nil) ?_;simp only[go_sem,seval,Try.results64])|((with_reducible (show Region.lexB _ _=true));kernel_rfl)|((try rw[qad]);omega)
   rw[List.take_of_length_le (by rw[qfL (by omega) (by omega)];omega),List.take_of_length_le (by rw[qje (by omega)];omega)]
   simp[qeT,arrI,hcl,hbli.1,hbli.2]
end Go.Proofs
