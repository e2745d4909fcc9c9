/- Contracts, plain definitions and lemmas. Conditions: none; lemmas. -/
import Derived.Test.YtoanmdnkgjdinaaC96
import Derived.Test.YtoanmdnkgjdinaaC61
set_option maxRecDepth 20000
set_option linter.unusedVariables false
set_option linter.unusedSimpArgs false
namespace Go.Proofs
open Go Go.VL
def qfl (c:Circ) (N:Nat) (l:List (List Int)):List D:=qcX c l++List.replicate (N-l.length) .nil
def arrI (N:Nat) (l:List Int):List Int:=l++List.replicate (N-l.length) 0
theorem qgb {c:Circ}{N:Nat}{l:List (List Int)}(h:c.first.toNat≤l.length) (hN:l.length≤N):(qfl c N l).length=N:=by
 simp[qfl,qcW h];omega
theorem qjK {N:Nat}{l:List Int}(hN:l.length≤N):(arrI N l).length=N:=by
 simp[arrI];omega
theorem qqo {N:Nat}{l:List Int}{v:Nat}(h:v<l.length):(arrI N l).getD v 0=l.getD v 0:=by
 simp[arrI,List.getD,List.getElem?_append_left h]
theorem qol {α : Type}{n:Nat}{x : α}(h:0<n):List.replicate n x=x::List.replicate (n-1) x:=by
 obtain⟨m,rfl⟩ : ∃ m,n=m+1:=⟨n-1,by omega⟩
 rfl
theorem qom {α : Type}{l r:List α}{x y : α}{n:Nat}(h:n=l.length):(l++x::r).set n y=l++y::r:=by
 subst h;simp
theorem qh6 {c:Circ}{N:Nat}{l:List (List Int)}(h:c.first.toNat≤l.length) (hN:l.length<N) {x:List Int}:(qfl c N l).set l.length (dIs x)=qfl c N (l ++ [x]):=by
 unfold qfl
 rw[qol (show 0<N-l.length by omega),qom (by rw[qcW h]),qgC h,List.append_assoc]
 simp[show N-(l.length+1)=N-l.length-1 by omega]
theorem qmI {c:Circ}{N:Nat}{l:List (List Int)}(h:c.first.toNat≤l.length) (hN:l.length<N) {x y:List Int}:(qfl c N (l ++ [x])).set l.length (dIs y)=qfl c N (l ++ [y]):=by
 rw[←qh6 h hN,←qh6 h hN,List.set_set]
theorem qon {c:Circ}{N:Nat}{l:List (List Int)}(h:c.first.toNat≤l.length) {x:List Int}{z:D}:(qfl c N (l ++ [x])).getD l.length z=dIs x:=by
 unfold qfl
 rw[qgC h,List.append_assoc,List.getD_eq_getElem?_getD,List.getElem?_append_right (by rw[qcW h];omega),qcW h]
 simp
theorem qqp {N:Nat}{l:List Int}(hN:l.length<N) {x:Int}:(arrI N l).set l.length x=arrI N (l ++ [x]):=by
 unfold arrI
 rw[qol (show 0<N-l.length by omega),qom rfl,List.append_assoc]
 simp[show N-(l.length+1)=N-l.length-1 by omega]
theorem Try.c_bestCuts (c:Circ) (hc:c.Valid):ICall Try.prog 64 [.ptr 0 0] [.box [.d (dI c.inputs),.d (dIs c.next),.d (dPs c.gates),.d (dIs c.outs)]] (fun r H'=>r=.d (.tup [.lst 1 (qcX c (qbq c)),dIs (arrC c)])∧H'=[.box [.d (dI c.inputs),.d (dIs c.next),.d (dPs c.gates),.d (dIs c.outs)]]):=by
 have hf:=hc.first_bd
 have hi0:=hc.i0
 have hi1:=hc.i1
 have hfst:=Try.c_firstGate c (by omega)
 have hcu:=Try.c_Cuts c hc
 have hbd:=qf8 c (qaP c)
 have hcl:=qbp (c:=c) hf.1 c.gates.length
 have hco:=qcn hc c.gates.length (Nat.le_refl _)
 have hlg:=hc.lg
 rw[←qaP] at hcl hco
 refine qaF (E:=Try.env 1) Try.tok rfl 1000 Try.func64 rfl rfl Try.ntmps64 (by simp) ?_
 simp only[go_sem,seval,Try.results64]
 repeat' first|assumption|(simp (disch:=first|assumption|omega|(simp;done)|(simp;omega)) only[qaa,qac,List.take_of_length_le,qab,qae,qaf];try simp only[go_sem,seval,Try.results64])|(with_reducible refine And.intro ?_ ?_)|(with_reducible intro _)|(refine qai hfst ?_;simp only[go_sem,seval,Try.results64])|(refine qbk hcu ?_;simp only[go_sem,seval,Try.results64])|((with_reducible (show Region.lexB _ _=true));kernel_rfl)|((try rw[qad]);omega)
 have hgate : ∀ i,i<c.gates.length→∃ x r,(qaP c).getD (c.first.toNat+i) []=x::r∧r≠[]:=fun i hi=>by
  have h1:=qhY hc hi
  rw[qaP,qdU hf.1 hi]
  cases hj:qfj ((qaO c i).getD (qbI c i/2).toNat []) ((qaO c i).getD (qbJ c i/2).toNat []) with
  | nil=>rw[hj] at h1;simp at h1
  | cons x r=>exact⟨x,r ++ [[c.first+(i:Int)]],rfl,by simp⟩
 have hleaf : ∀ i,i<c.gates.length→∀ cut∈((qaP c).getD (c.first.toNat+i) []).dropLast,∀ z∈cut,0≤z∧z<c.first+(i:Int):=fun i hi cut hcut z hz=>by
  rw[qaP,qdU hf.1 hi,List.dropLast_concat] at hcut
  have hl:=qbp (c:=c) hf.1 i
  obtain⟨g1,g2⟩:=hc.g i hi
  have ha:(qbI c i/2).toNat<c.first.toNat+i:=by unfold qbI;unfold qbc at g1;omega
  have hb:(qbJ c i/2).toNat<c.first.toNat+i:=by unfold qbJ;unfold qbc at g2;omega
  obtain⟨a1,-⟩:=qcn hc i (by omega) _ (by rw[hl];exact ha)
  obtain⟨b1,-⟩:=qcn hc i (by omega) _ (by rw[hl];exact hb)
  refine qf7 (P:=fun cut=>∀ z∈cut,0≤z∧z<c.first+(i:Int)) (fun x hx y hy hle z hz=>?_) cut hcut z hz
  rcases(qbP _ _).1 hz with h2|h2
  ·have:=(a1 x hx).rng z h2;omega
  ·have:=(b1 y hy).rng z h2;omega
 have efin:qbq c=(qaN c (qaP c) c.gates.length).1∧arrC c=(qaN c (qaP c) c.gates.length).2:=⟨rfl,rfl⟩
 rw[efin.1,efin.2]
 generalize qaP c=cuts at *
 have hbl:=qcV c cuts
 refine qao (E:=Try.env 1) Try.tok (σ:=Nat) (fun i=>[(7,.d (dI (c.first+(i:Int)))),(6,.sl 2 0 1 0 cuts.length),(5,.sl 1 0 1 0 cuts.length),(4,.d (qkz cuts)),(0,.ptr 0 0)])
  (fun i=>[.box [.d (dI c.inputs),.d (dIs c.next),.d (dPs c.gates),.d (dIs c.outs)],.row 0 1 false (qfl c cuts.length (qaN c cuts i).1),.row 0 1 true ((arrI cuts.length (qaN c cuts i).2).map (D.int .i64))])
  (fun i=>i≤c.gates.length) (fun i=>c.gates.length-i) [] [] 1000 1000 ?_ ?_
 ·simp only[go_sem,seval]
  refine⟨0,by omega,by omega,?_,?_⟩
  ·simp[qaN,qfl,qcX,hcl]
  ·simp[qaN,arrI,hcl]
 ·intro i hi
  have hbli:=hbl i
  by_cases hlt:i<c.gates.length
  ·have hsu:qaN c cuts (i+1)=((qaN c cuts i).1 ++ [qbC (qaN c cuts i).2 (cuts.getD (c.first.toNat+i) []).dropLast],(qaN c cuts i).2 ++ [1+qbE (qaN c cuts i).2 (qbC (qaN c cuts i).2 (cuts.getD (c.first.toNat+i) []).dropLast)]):=rfl
   have hlf:=hleaf i hlt
   obtain⟨x,r,hxr,hr0⟩:=hgate i hlt
   have hle:=(hco (c.first.toNat+i) (by omega)).2.2.2
   have hM3 : ∀ z∈(cuts.getD (c.first.toNat+i) []).dropLast,z.length≤3:=fun z hz=>((hco (c.first.toNat+i) (by omega)).1 z (List.dropLast_subset _ hz)).len
   have hbdi:=hbd i
   generalize hL:cuts.getD (c.first.toNat+i) []=L at *
   generalize (qaN c cuts i).2=A at *
   generalize (qaN c cuts i).1=B at *
   have eL:(c.first+(i:Int)).toNat=c.first.toNat+i:=by omega
   have hL2:2≤L.length:=by
    rw[hxr]
    cases r with
    | nil=>exact absurd rfl hr0
    | cons y r=>simp
   have eM:List.take ((L.length:Int)-1).toNat (L.map fun x=>dIs x)=L.dropLast.map fun x=>dIs x:=by
    rw[List.dropLast_eq_take,List.map_take,show((L.length:Int)-1).toNat=L.length-1 by omega]
   have hML:L.dropLast.length=L.length-1:=by simp
   simp only[go_sem,seval,Try.results64,eL,hL,eM]
   repeat' first|assumption|(simp (disch:=first|assumption|omega|(simp;done)|(simp;omega)) only[qaa,qac,List.take_of_length_le,qab,qae,qaf];try simp only[go_sem,seval,Try.results64,eL,hL,eM])|(with_reducible refine And.intro ?_ ?_)|(with_reducible intro _)|((with_reducible (show Region.lexB _ _=true));kernel_rfl)|((try rw[qad]);omega)
   generalize L.dropLast=M at *
   have hBL:B.length=c.first.toNat+i:=hbli.1
   have hAL:A.length=c.first.toNat+i:=hbli.2
   have harb:=fun cut (hcut:cut∈M)=>qdV (arr:=A) (cut:=cut) (m:=i) (fun z _=>(hbdi z.toNat).2) (by omega)
   refine qao (E:=Try.env 1) Try.tok (σ:=Nat) (fun j=>[(44,.d (dI j)),(43,.d (dI M.length)),(42,.d (dIss M)),(8,.d (dI (if j=0 then -1 else qbE A (qbC A (M.take j))))),(7,.d (dI (c.first+(i:Int)))),(6,.sl 2 0 1 0 cuts.length),(5,.sl 1 0 1 0 cuts.length),(4,.d (qkz cuts)),(0,.ptr 0 0)])
    (fun j=>[.box [.d (dI c.inputs),.d (dIs c.next),.d (dPs c.gates),.d (dIs c.outs)],.row 0 1 false (if j=0 then qfl c cuts.length B else qfl c cuts.length (B ++ [qbC A (M.take j)])),.row 0 1 true ((arrI cuts.length A).map (D.int .i64))])
    (fun j=>j≤M.length) (fun j=>M.length-j) [] [] 1000 1000 ?_ ?_
   ·simp only[go_sem,seval]
    refine⟨0,by omega,?_⟩
    simp
   ·intro j hj
    by_cases hjt:j<M.length
    ·have hxm:=qal hjt (z:=([]:List Int))
     have hlx:=hlf _ hxm
     have hx3:=hM3 _ hxm
     have hts:M.take (j+1)=M.take j ++ [M.getD j []]:=by simpa using qaX (f:=fun x:List Int=>x) [] hjt
     generalize hX:M.getD j []=X at *
     simp only[go_sem,seval,Try.results64,eL,hL,hX]
     repeat' first|assumption|(simp (disch:=first|assumption|omega|(simp;done)|(simp;omega)) only[qaa,qac,List.take_of_length_le,qab,qae,qaf];try simp only[go_sem,seval,Try.results64,eL,hL,hX])|(with_reducible refine And.intro ?_ ?_)|(with_reducible intro _)|((with_reducible (show Region.lexB _ _=true));kernel_rfl)|((try rw[qad]);omega)
     refine qao (E:=Try.env 1) Try.tok (σ:=Nat) (fun k=>[(50,.d (dI k)),(49,.d (dI X.length)),(48,.d (dIs X)),(11,.d (dI (qbE A (X.take k)))),(10,.d (dIs X)),(44,.d (dI j)),(43,.d (dI M.length)),(42,.d (dIss M)),(8,.d (dI (if j=0 then -1 else qbE A (qbC A (M.take j))))),(7,.d (dI (c.first+(i:Int)))),(6,.sl 2 0 1 0 cuts.length),(5,.sl 1 0 1 0 cuts.length),(4,.d (qkz cuts)),(0,.ptr 0 0)])
      (fun k=>[.box [.d (dI c.inputs),.d (dIs c.next),.d (dPs c.gates),.d (dIs c.outs)],.row 0 1 false (if j=0 then qfl c cuts.length B else qfl c cuts.length (B ++ [qbC A (M.take j)])),.row 0 1 true ((arrI cuts.length A).map (D.int .i64))])
      (fun k=>k≤X.length) (fun k=>X.length-k) [] [] 1000 1000 ?_ ?_
     ·simp only[go_sem,seval]
      refine⟨0,by omega,?_⟩
      simp[qbE]
     ·intro k hk
      by_cases hkt:k<X.length
      ·have e1:qbE A (X.take (k+1))=max (qbE A (X.take k)) (A.getD (X.getD k 0).toNat 0):=qaC (f:=fun(t v:Int)=>max t (A.getD v.toNat 0)) (b:=0) (0:Int) hkt
       have hxk:=hlx _ (qal hkt:X.getD k 0∈X)
       have hxr2:=hbdi (X.getD k 0).toNat
       have hag:=qqo (N:=cuts.length) (l:=A) (v:=(X.getD k 0).toNat) (by omega)
       have hal:=qjK (N:=cuts.length) (l:=A) (by omega)
       have hfb:=qdV (arr:=A) (cut:=X.take k) (m:=i) (fun z _=>(hbdi z.toNat).2) (by omega)
       simp only[go_sem,seval,Try.results64,eL,hL,hX]
       repeat' first|assumption|(simp (disch:=first|assumption|omega|(simp;done)|(simp;omega)) only[qaa,qac,List.take_of_length_le,qab,qae,qaf];try simp only[go_sem,seval,Try.results64,eL,hL,hX])|(with_reducible refine And.intro ?_ ?_)|(with_reducible intro _)|((with_reducible (show Region.lexB _ _=true));kernel_rfl)|((try rw[qad]);omega)
       ·exact⟨k+1,by omega,by omega,rfl,by rw[hag,←e1]⟩
      ·obtain rfl:k=X.length:=by omega
       rw[List.take_length]
       have hfb:=qdV (arr:=A) (cut:=X) (m:=i) (fun z _=>(hbdi z.toNat).2) (by omega)
       by_cases hj0:j=0
       ·subst hj0
        rw[if_pos rfl,if_pos rfl]
        simp only[go_sem,seval,Try.results64,eL,hL,hX]
        repeat' first|assumption|(simp (disch:=first|assumption|omega|(simp;done)|(simp;omega)) only[qaa,qac,List.take_of_length_le,qab,qae,qaf];try simp only[go_sem,seval,Try.results64,eL,hL,hX])|(with_reducible refine And.intro ?_ ?_)|(with_reducible intro _)|((with_reducible (show Region.lexB _ _=true));kernel_rfl)|((try rw[qad]);omega)
        ·rw[qgb (by omega) (by omega)];omega
        ·have h1:qbC A (M.take 1)=X:=by
          have:M.take 1=[X]:=by simpa using hts
          rw[this];rfl
         refine⟨1,by omega,by omega,⟨rfl,?_⟩,?_⟩
         ·rw[if_neg (by decide),h1]
         ·rw[if_neg (by decide),h1,←hBL];exact qh6 (by omega) (by omega)
       ·rw[if_neg hj0,if_neg hj0]
        have hbm:qbC A (M.take j)∈M:=List.mem_of_mem_take (qgA (by simp;omega))
        have hsn:=qhZ (arr:=A) (l:=M.take j) (y:=X) (by simp;omega)
        rw[←hts] at hsn
        have hbb:=harb _ hbm
        have hbg:=fun z=>qon (c:=c) (N:=cuts.length) (l:=B) (x:=qbC A (M.take j)) (z:=z) (by omega)
        rw[hBL] at hbg
        generalize qbC A (M.take j)=Y at *
        simp only[go_sem,seval,Try.results64,eL,hL,hX,hbg]
        repeat' first|assumption|(simp (disch:=first|assumption|omega|(simp;done)|(simp;omega)) only[qaa,qac,List.take_of_length_le,qab,qae,qaf];try simp only[go_sem,seval,Try.results64,eL,hL,hX,hbg])|(with_reducible refine And.intro ?_ ?_)|(with_reducible intro _)|((with_reducible (show Region.lexB _ _=true));kernel_rfl)|((try rw[qad]);omega)
        ·rw[qgb (by simp;omega) (by simp;omega)];omega
        ·rw[qgb (by simp;omega) (by simp;omega)];omega
        ·refine⟨j+1,by omega,by omega,⟨rfl,?_⟩,?_⟩
         ·rw[if_neg (by omega),hsn,if_pos (show qbF _ _ _ by unfold qbF;omega)]
         ·rw[if_neg (by omega),hsn,if_pos (show qbF _ _ _ by unfold qbF;omega),←hBL];exact qmI (by omega) (by omega)
        ·refine⟨j+1,by omega,by omega,⟨rfl,?_⟩,?_⟩
         ·rw[if_neg (by omega),hsn,if_neg (show ¬ qbF _ _ _ by unfold qbF;omega)]
         ·rw[if_neg (by omega),hsn,if_neg (show ¬ qbF _ _ _ by unfold qbF;omega)]
    ·obtain rfl:j=M.length:=by omega
     rw[List.take_length,if_neg (by omega),if_neg (by omega)]
     simp only[go_sem,seval,Try.results64,eL,hL]
     have hfb:=harb _ (qgA (arr:=A) (l:=M) (by omega))
     repeat' first|assumption|(simp (disch:=first|assumption|omega|(simp;done)|(simp;omega)) only[qaa,qac,List.take_of_length_le,qab,qae,qaf];try simp only[go_sem,seval,Try.results64,eL,hL])|(with_reducible refine And.intro ?_ ?_)|(with_reducible intro _)|((with_reducible (show Region.lexB _ _=true));kernel_rfl)|((try rw[qad]);omega)
     ·rw[qjK (by omega)];omega
     ·refine⟨i+1,by omega,by omega,by omega,?_,?_⟩
      ·rw[hsu]
      ·rw[hsu,Int.add_comm 1,←hAL];exact qqp (by omega)
  ·obtain rfl:i=c.gates.length:=by omega
   simp only[go_sem,seval,Try.results64]
   repeat' first|assumption|(simp (disch:=first|assumption|omega|(simp;done)|(simp;omega)) only[qaa,qac,List.take_of_length_le,qab,qae,qaf];try simp only[go_sem,seval,Try.results64])|(with_reducible refine And.intro ?_ ?_)|(with_reducible intro _)|((with_reducible (show Region.lexB _ _=true));kernel_rfl)|((try rw[qad]);omega)
   refine qcA (by simp) (by simp only[go_sem,seval]) ?_
   simp only[go_sem,seval]
   repeat' first|assumption|(simp (disch:=first|assumption|omega|(simp;done)|(simp;omega)) only[qaa,qac,List.take_of_length_le,qab,qae,qaf];try simp only[go_sem,seval,Try.results64])|(with_reducible refine And.intro ?_ ?_)|(with_reducible intro _)|((with_reducible (show Region.lexB _ _=true));kernel_rfl)|((try rw[qad]);omega)
   rw[List.take_of_length_le (by rw[qgb (by omega) (by omega)];omega),List.take_of_length_le (by rw[qjK (by omega)];omega)]
   simp[qfl,arrI,hcl,hbli.1,hbli.2]
end Go.Proofs

set_option linter.unusedVariables false
set_option linter.unusedSimpArgs false
namespace Go.VL
section vals
variable {c:Circ}{st ins:List Bool}
end vals
noncomputable def qd0 (c:Circ) (i:Nat):Lut:=⟨c.first+(i:Int),(qbq c).getD (c.first.toNat+i) [],qga c (c.first+(i:Int)) ((qbq c).getD (c.first.toNat+i) [])⟩
structure MapOk (c:Circ) (j:Nat) (need:List Bool) (new:List Lut):Prop where
 each : ∀ l∈new,∃ i,i<j∧l=qd0 c i
 asc:new.Pairwise fun a b=>a.var<b.var
 all : ∀ i,i<j→((∃ l∈new,l.var=c.first+(i:Int))↔need.getD (c.first.toNat+i) false=true∨∃ l∈new,c.first+(i:Int)∈l.leaves)
theorem qls {c:Circ}(hc:c.Valid) : ∀ (j:Nat),j≤c.gates.length→∀ (need:List Bool) (out:List Lut),need.length=c.vars.toNat→∃ new,mapD c j need out=new++out∧MapOk c j need new
 | 0,_,need,out,_=>⟨[],rfl,by simp,by simp,by omega⟩
 | j+1,hj,need,out,hn=>by
  have hf:=hc.first_bd
  have hv:=hc.vars_bd
  have hvv:c.vars=c.first+(c.gates.length:Int):=rfl
  have hb:=qcP hc (i:=j) (by omega)
  simp only[mapD]
  split
  ·rename_i hnd
   obtain⟨new,e,m⟩:=qls hc j (by omega) (qbh need ((qbq c).getD (c.first.toNat+j) [])) (qd0 c j::out) (by rw[qcj];exact hn)
   refine⟨new ++ [qd0 c j],by rw[List.append_assoc];exact e,fun l hl=>?_,?_,fun i hi=>?_⟩
   ·rcases List.mem_append.1 hl with h|h
    ·obtain⟨i,h1,h2⟩:=m.each l h
     exact⟨i,by omega,h2⟩
    ·obtain rfl:l=qd0 c j:=by simpa using h
     exact⟨j,by omega,rfl⟩
   ·rw[List.pairwise_append]
    refine⟨m.asc,by simp,fun a ha b hb2=>?_⟩
    obtain rfl:b=qd0 c j:=by simpa using hb2
    obtain⟨i,h1,rfl⟩:=m.each a ha
    show c.first+(i:Int)<c.first+(j:Int)
    omega
   ·have hleaf : ∀ i',i'<j→(c.first+(i':Int)∈(qd0 c j).leaves↔c.first+(i':Int)∈(qbq c).getD (c.first.toNat+j) []):=fun i' _=>Iff.rfl
    by_cases hij:i=j
    ·subst hij
     constructor
     ·exact fun _=>.inl hnd
     ·exact fun _=>⟨qd0 c i,by simp,rfl⟩
    ·have hi2:i<j:=by omega
     have hset:=qdX ((qbq c).getD (c.first.toNat+j) []) need (c.first.toNat+i) (fun v hv=>by have:=hb.2.2 v hv;omega)
     have hmi:=m.all i hi2
     rw[hset,Bool.or_eq_true,decide_eq_true_eq] at hmi
     have hlt:c.first.toNat+i<need.length:=by omega
     have ev:((c.first.toNat+i:Nat):Int)=c.first+(i:Int):=by omega
     rw[ev] at hmi
     constructor
     ·rintro⟨l,hl,hlv⟩
      rcases List.mem_append.1 hl with h|h
      ·rcases hmi.1 ⟨l,h,hlv⟩ with(h2|⟨_,h2⟩)|⟨l2,h2,h3⟩
       ·exact .inl h2
       ·exact .inr ⟨qd0 c j,by simp,h2⟩
       ·exact .inr ⟨l2,List.mem_append_left _ h2,h3⟩
      ·obtain rfl:l=qd0 c j:=by simpa using h
       have:c.first+(j:Int)=c.first+(i:Int):=hlv
       omega
     ·rintro(h|⟨l,hl,hlv⟩)
      ·obtain⟨l,h1,h2⟩:=hmi.2 (.inl (.inl h))
       exact⟨l,List.mem_append_left _ h1,h2⟩
      ·rcases List.mem_append.1 hl with h|h
       ·obtain⟨l,h1,h2⟩:=hmi.2 (.inr ⟨l,h,hlv⟩)
        exact⟨l,List.mem_append_left _ h1,h2⟩
       ·obtain rfl:l=qd0 c j:=by simpa using h
        obtain⟨l,h1,h2⟩:=hmi.2 (.inl (.inr ⟨hlt,hlv⟩))
        exact⟨l,List.mem_append_left _ h1,h2⟩
  ·rename_i hnd
   obtain⟨new,e,m⟩:=qls hc j (by omega) need out hn
   refine⟨new,e,fun l hl=>?_,m.asc,fun i hi=>?_⟩
   ·obtain⟨i,h1,h2⟩:=m.each l hl
    exact⟨i,by omega,h2⟩
   ·by_cases hij:i=j
    ·subst hij
     constructor
     ·rintro⟨l,hl,hlv⟩
      obtain⟨i2,h1,rfl⟩:=m.each l hl
      have:c.first+(i2:Int)=c.first+(i:Int):=hlv
      omega
     ·rintro(h|⟨l,hl,hlv⟩)
      ·exact absurd h hnd
      ·obtain⟨i2,h1,rfl⟩:=m.each l hl
       have:=(qcP hc (i:=i2) (by omega)).2.2 _ hlv
       omega
    ·exact m.all i (by omega)
theorem qh7 (c:Circ):(qeS c).length=c.vars.toNat:=by rw[qeS,qcj];simp
theorem qem {c:Circ}(hc:c.Valid) : ∀ v∈qbg c,0≤v∧v<c.vars:=by
 intro v hv
 obtain⟨l,hl,rfl⟩:=List.mem_map.1 hv
 have:qbc l c.vars:=by
  rcases List.mem_append.1 hl with h|h
  ·exact hc.o l h
  ·exact hc.n l h
 unfold qbc at this
 omega
theorem qoo {c:Circ}(hc:c.Valid) {v:Nat}(hv:(v:Int)<c.vars):(qeS c).getD v false=decide ((v:Int)∈qbg c):=by
 rw[qeS,qdX _ _ _ fun z hz=>(qem hc z hz).1]
 have e:(List.replicate c.vars.toNat false).getD v false=false:=by
  rw[List.getD_eq_getElem?_getD,List.getElem?_replicate];split <;> rfl
 rw[e,Bool.false_or]
 exact decide_eq_decide.2 ⟨fun h=>h.2,fun h=>⟨by simp;omega,h⟩⟩
theorem qdz {c:Circ}(hc:c.Valid):MapOk c c.gates.length (qeS c) (qcM c):=by
 obtain⟨new,e,m⟩:=qls hc c.gates.length (Nat.le_refl _) (qeS c) [] (qh7 c)
 rw[List.append_nil] at e
 rw[qcM,e]
 exact m
theorem qjL {c:Circ}(hc:c.Valid) {i:Nat}(hi:i<c.gates.length):qd0 c i∈qcM c↔c.first+(i:Int)∈qbg c∨∃ l∈qcM c,c.first+(i:Int)∈l.leaves:=by
 have hf:=hc.first_bd
 have m:=qdz hc
 have:=m.all i hi
 have hvv:c.vars=c.first+(c.gates.length:Int):=rfl
 rw[qoo hc (by omega),decide_eq_true_eq,show((c.first.toNat+i:Nat):Int)=c.first+(i:Int) by omega] at this
 rw[←this]
 constructor
 ·exact fun h=>⟨_,h,rfl⟩
 ·rintro⟨l,hl,hv⟩
  obtain⟨i2,h1,rfl⟩:=m.each l hl
  have:c.first+(i2:Int)=c.first+(i:Int):=hv
  obtain rfl:i2=i:=by omega
  exact hl
theorem qh8 {c:Circ}(hc:c.Valid):(qcM c).length≤c.gates.length:=by
 have m:=qdz hc
 have h1:((qcM c).map fun l=>(l.var-c.first).toNat).Nodup:=by
  rw[List.nodup_iff_pairwise_ne,List.pairwise_map]
  refine m.asc.imp_of_mem fun {a b} ha hb h=>?_
  obtain⟨i,-,rfl⟩:=m.each a ha
  obtain⟨j,-,rfl⟩:=m.each b hb
  have:c.first+(i:Int)<c.first+(j:Int):=h
  show(c.first+(i:Int)-c.first).toNat≠(c.first+(j:Int)-c.first).toNat
  omega
 have h2:((qcM c).map fun l=>(l.var-c.first).toNat) ⊆ List.range c.gates.length:=by
  intro x hx
  obtain⟨l,hl,rfl⟩:=List.mem_map.1 hx
  obtain⟨i,hi,rfl⟩:=m.each l hl
  have:(qd0 c i).var=c.first+(i:Int):=rfl
  exact List.mem_range.2 (by omega)
 have:=h1.length_le_of_subset h2
 simpa using this
theorem qbi {c:Circ}(hc:c.Valid):(qaj c).length≤17:=by
 have:=qh8 hc
 have:=hc.ln
 have:=hc.lg
 simp only[qaj,List.length_append,List.length_map,List.length_range]
 omega
end Go.VL
