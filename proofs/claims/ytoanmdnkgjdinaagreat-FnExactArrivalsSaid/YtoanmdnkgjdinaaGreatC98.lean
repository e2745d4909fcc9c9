/- Contracts, plain definitions and lemmas. Conditions: none; lemmas. -/
import Derived.Test.YtoanmdnkgjdinaaGreatC96
import Derived.Test.YtoanmdnkgjdinaaGreatC62
set_option maxRecDepth 20000
set_option linter.unusedVariables false
set_option linter.unusedSimpArgs false
namespace Go.Proofs
open Go Go.VL
def qe3 (c:Circ) (N:Nat) (l:List (List Int)):List D:=qcR c l++List.replicate (N-l.length) .nil
def arrI (N:Nat) (l:List Int):List Int:=l++List.replicate (N-l.length) 0
theorem qf5 {c:Circ}{N:Nat}{l:List (List Int)}(h:c.first.toNat≤l.length) (hN:l.length≤N):(qe3 c N l).length=N:=by
 simp[qe3,qcQ h];omega
theorem qjt {N:Nat}{l:List Int}(hN:l.length≤N):(arrI N l).length=N:=by
 simp[arrI];omega
theorem qpI {N:Nat}{l:List Int}{v:Nat}(h:v<l.length):(arrI N l).getD v 0=l.getD v 0:=by
 simp[arrI,List.getD,List.getElem?_append_left h]
theorem qnV {α : Type}{n:Nat}{x : α}(h:0<n):List.replicate n x=x::List.replicate (n-1) x:=by
 obtain⟨m,rfl⟩ : ∃ m,n=m+1:=⟨n-1,by omega⟩
 rfl
theorem qnW {α : Type}{l r:List α}{x y : α}{n:Nat}(h:n=l.length):(l++x::r).set n y=l++y::r:=by
 subst h;simp
theorem qhX {c:Circ}{N:Nat}{l:List (List Int)}(h:c.first.toNat≤l.length) (hN:l.length<N) {x:List Int}:(qe3 c N l).set l.length (dIs x)=qe3 c N (l ++ [x]):=by
 unfold qe3
 rw[qnV (show 0<N-l.length by omega),qnW (by rw[qcQ h]),qgr h,List.append_assoc]
 simp[show N-(l.length+1)=N-l.length-1 by omega]
theorem qmj {c:Circ}{N:Nat}{l:List (List Int)}(h:c.first.toNat≤l.length) (hN:l.length<N) {x y:List Int}:(qe3 c N (l ++ [x])).set l.length (dIs y)=qe3 c N (l ++ [y]):=by
 rw[←qhX h hN,←qhX h hN,List.set_set]
theorem qnX {c:Circ}{N:Nat}{l:List (List Int)}(h:c.first.toNat≤l.length) {x:List Int}{z:D}:(qe3 c N (l ++ [x])).getD l.length z=dIs x:=by
 unfold qe3
 rw[qgr h,List.append_assoc,List.getD_eq_getElem?_getD,List.getElem?_append_right (by rw[qcQ h];omega),qcQ h]
 simp
theorem qpJ {N:Nat}{l:List Int}(hN:l.length<N) {x:Int}:(arrI N l).set l.length x=arrI N (l ++ [x]):=by
 unfold arrI
 rw[qnV (show 0<N-l.length by omega),qnW rfl,List.append_assoc]
 simp[show N-(l.length+1)=N-l.length-1 by omega]
theorem Tryz.c_bestCuts (c:Circ) (hc:c.Valid):ICall Tryz.prog 52 [.ptr 0 0] [.box [.d (dI c.inputs),.d (dIs c.next),.d (dPs c.gates),.d (dIs c.outs)]] (fun r H'=>r=.d (.tup [.lst 1 (qcR c (qbK c)),dIs (arrC c)])∧H'=[.box [.d (dI c.inputs),.d (dIs c.next),.d (dPs c.gates),.d (dIs c.outs)]]):=by
 have hf:=hc.first_bd
 have hi0:=hc.i0
 have hi1:=hc.i1
 have hfst:=Tryz.c_firstGate c (by omega)
 have hcu:=Tryz.c_Cuts c hc
 have hbd:=qjq c (qa7 c)
 have hcl:=qbi (c:=c) hf.1 c.gates.length
 have hco:=qcn hc c.gates.length (Nat.le_refl _)
 have hlg:=hc.lg
 rw[←qa7] at hcl hco
 refine qaJ (E:=Tryz.env 1) Tryz.tok rfl 1000 Tryz.func52 rfl rfl Tryz.ntmps52 (by simp) ?_
 simp only[go_sem,seval,Tryz.results52]
 repeat' first|assumption|(simp (disch:=first|assumption|omega|(simp;done)|(simp;omega)) only[qaa,qac,List.take_of_length_le,qab,qae,qaf];try simp only[go_sem,seval,Tryz.results52])|(with_reducible refine And.intro ?_ ?_)|(with_reducible intro _)|(refine qai hfst ?_;simp only[go_sem,seval,Tryz.results52])|(refine qbt hcu ?_;simp only[go_sem,seval,Tryz.results52])|((with_reducible (show Region.lexB _ _=true));kernel_rfl)|((try rw[qad]);omega)
 have hgate : ∀ i,i<c.gates.length→∃ x r,(qa7 c).getD (c.first.toNat+i) []=x::r∧r≠[]:=fun i hi=>by
  have h1:=qhJ hc hi
  rw[qa7,qdL hf.1 hi]
  cases hj:qe1 ((qaM c i).getD (qbA c i/2).toNat []) ((qaM c i).getD (qbB c i/2).toNat []) with
  | nil=>rw[hj] at h1;simp at h1
  | cons x r=>exact⟨x,r ++ [[c.first+(i:Int)]],rfl,by simp⟩
 have hleaf : ∀ i,i<c.gates.length→∀ cut∈((qa7 c).getD (c.first.toNat+i) []).dropLast,∀ z∈cut,0≤z∧z<c.first+(i:Int):=fun i hi cut hcut z hz=>by
  rw[qa7,qdL hf.1 hi,List.dropLast_concat] at hcut
  have hl:=qbi (c:=c) hf.1 i
  obtain⟨g1,g2⟩:=hc.g i hi
  have ha:(qbA c i/2).toNat<c.first.toNat+i:=by unfold qbA;unfold qbe at g1;omega
  have hb:(qbB c i/2).toNat<c.first.toNat+i:=by unfold qbB;unfold qbe at g2;omega
  obtain⟨a1,-⟩:=qcn hc i (by omega) _ (by rw[hl];exact ha)
  obtain⟨b1,-⟩:=qcn hc i (by omega) _ (by rw[hl];exact hb)
  refine qfT (P:=fun cut=>∀ z∈cut,0≤z∧z<c.first+(i:Int)) (fun x hx y hy hle z hz=>?_) cut hcut z hz
  rcases(qbJ _ _).1 hz with h2|h2
  ·have:=(a1 x hx).rng z h2;omega
  ·have:=(b1 y hy).rng z h2;omega
 have efin:qbK c=(qaP c (qa7 c) c.gates.length).1∧arrC c=(qaP c (qa7 c) c.gates.length).2:=⟨rfl,rfl⟩
 rw[efin.1,efin.2]
 generalize qa7 c=cuts at *
 have hbl:=qdf c cuts
 refine qaq (E:=Tryz.env 1) Tryz.tok (σ:=Nat) (fun i=>[(7,.d (dI (c.first+(i:Int)))),(6,.sl 2 0 1 0 cuts.length),(5,.sl 1 0 1 0 cuts.length),(4,.d (qkd cuts)),(0,.ptr 0 0)])
  (fun i=>[.box [.d (dI c.inputs),.d (dIs c.next),.d (dPs c.gates),.d (dIs c.outs)],.row 0 1 false (qe3 c cuts.length (qaP c cuts i).1),.row 0 1 true ((arrI cuts.length (qaP c cuts i).2).map (D.int .i64))])
  (fun i=>i≤c.gates.length) (fun i=>c.gates.length-i) [] [] 1000 1000 ?_ ?_
 ·simp only[go_sem,seval]
  refine⟨0,by omega,by omega,?_,?_⟩
  ·simp[qaP,qe3,qcR,hcl]
  ·simp[qaP,arrI,hcl]
 ·intro i hi
  have hbli:=hbl i
  by_cases hlt:i<c.gates.length
  ·have hsu:qaP c cuts (i+1)=((qaP c cuts i).1 ++ [qbv (qaP c cuts i).2 (cuts.getD (c.first.toNat+i) []).dropLast],(qaP c cuts i).2 ++ [1+qb6 (qaP c cuts i).2 (qbv (qaP c cuts i).2 (cuts.getD (c.first.toNat+i) []).dropLast)]):=rfl
   have hlf:=hleaf i hlt
   obtain⟨x,r,hxr,hr0⟩:=hgate i hlt
   have hle:=(hco (c.first.toNat+i) (by omega)).2.2.2
   have hM3 : ∀ z∈(cuts.getD (c.first.toNat+i) []).dropLast,z.length≤3:=fun z hz=>((hco (c.first.toNat+i) (by omega)).1 z (List.dropLast_subset _ hz)).len
   have hbdi:=hbd i
   generalize hL:cuts.getD (c.first.toNat+i) []=L at *
   generalize (qaP c cuts i).2=A at *
   generalize (qaP c cuts i).1=B at *
   have eL:(c.first+(i:Int)).toNat=c.first.toNat+i:=by omega
   have hL2:2≤L.length:=by
    rw[hxr]
    cases r with
    | nil=>exact absurd rfl hr0
    | cons y r=>simp
   have eM:List.take ((L.length:Int)-1).toNat (L.map fun x=>dIs x)=L.dropLast.map fun x=>dIs x:=by
    rw[List.dropLast_eq_take,List.map_take,show((L.length:Int)-1).toNat=L.length-1 by omega]
   have hML:L.dropLast.length=L.length-1:=by simp
   simp only[go_sem,seval,Tryz.results52,eL,hL,eM]
   repeat' first|assumption|(simp (disch:=first|assumption|omega|(simp;done)|(simp;omega)) only[qaa,qac,List.take_of_length_le,qab,qae,qaf];try simp only[go_sem,seval,Tryz.results52,eL,hL,eM])|(with_reducible refine And.intro ?_ ?_)|(with_reducible intro _)|((with_reducible (show Region.lexB _ _=true));kernel_rfl)|((try rw[qad]);omega)
   generalize L.dropLast=M at *
   have hBL:B.length=c.first.toNat+i:=hbli.1
   have hAL:A.length=c.first.toNat+i:=hbli.2
   have harb:=fun cut (hcut:cut∈M)=>qdM (arr:=A) (cut:=cut) (m:=i) (fun z _=>(hbdi z.toNat).2) (by omega)
   refine qaq (E:=Tryz.env 1) Tryz.tok (σ:=Nat) (fun j=>[(44,.d (dI j)),(43,.d (dI M.length)),(42,.d (dIss M)),(8,.d (dI (if j=0 then -1 else qb6 A (qbv A (M.take j))))),(7,.d (dI (c.first+(i:Int)))),(6,.sl 2 0 1 0 cuts.length),(5,.sl 1 0 1 0 cuts.length),(4,.d (qkd cuts)),(0,.ptr 0 0)])
    (fun j=>[.box [.d (dI c.inputs),.d (dIs c.next),.d (dPs c.gates),.d (dIs c.outs)],.row 0 1 false (if j=0 then qe3 c cuts.length B else qe3 c cuts.length (B ++ [qbv A (M.take j)])),.row 0 1 true ((arrI cuts.length A).map (D.int .i64))])
    (fun j=>j≤M.length) (fun j=>M.length-j) [] [] 1000 1000 ?_ ?_
   ·simp only[go_sem,seval]
    refine⟨0,by omega,?_⟩
    simp
   ·intro j hj
    by_cases hjt:j<M.length
    ·have hxm:=qak hjt (z:=([]:List Int))
     have hlx:=hlf _ hxm
     have hx3:=hM3 _ hxm
     have hts:M.take (j+1)=M.take j ++ [M.getD j []]:=by simpa using qaV (f:=fun x:List Int=>x) [] hjt
     generalize hX:M.getD j []=X at *
     simp only[go_sem,seval,Tryz.results52,eL,hL,hX]
     repeat' first|assumption|(simp (disch:=first|assumption|omega|(simp;done)|(simp;omega)) only[qaa,qac,List.take_of_length_le,qab,qae,qaf];try simp only[go_sem,seval,Tryz.results52,eL,hL,hX])|(with_reducible refine And.intro ?_ ?_)|(with_reducible intro _)|((with_reducible (show Region.lexB _ _=true));kernel_rfl)|((try rw[qad]);omega)
     refine qaq (E:=Tryz.env 1) Tryz.tok (σ:=Nat) (fun k=>[(50,.d (dI k)),(49,.d (dI X.length)),(48,.d (dIs X)),(11,.d (dI (qb6 A (X.take k)))),(10,.d (dIs X)),(44,.d (dI j)),(43,.d (dI M.length)),(42,.d (dIss M)),(8,.d (dI (if j=0 then -1 else qb6 A (qbv A (M.take j))))),(7,.d (dI (c.first+(i:Int)))),(6,.sl 2 0 1 0 cuts.length),(5,.sl 1 0 1 0 cuts.length),(4,.d (qkd cuts)),(0,.ptr 0 0)])
      (fun k=>[.box [.d (dI c.inputs),.d (dIs c.next),.d (dPs c.gates),.d (dIs c.outs)],.row 0 1 false (if j=0 then qe3 c cuts.length B else qe3 c cuts.length (B ++ [qbv A (M.take j)])),.row 0 1 true ((arrI cuts.length A).map (D.int .i64))])
      (fun k=>k≤X.length) (fun k=>X.length-k) [] [] 1000 1000 ?_ ?_
     ·simp only[go_sem,seval]
      refine⟨0,by omega,?_⟩
      simp[qb6]
     ·intro k hk
      by_cases hkt:k<X.length
      ·have e1:qb6 A (X.take (k+1))=max (qb6 A (X.take k)) (A.getD (X.getD k 0).toNat 0):=qaH (f:=fun(t v:Int)=>max t (A.getD v.toNat 0)) (b:=0) (0:Int) hkt
       have hxk:=hlx _ (qak hkt:X.getD k 0∈X)
       have hxr2:=hbdi (X.getD k 0).toNat
       have hag:=qpI (N:=cuts.length) (l:=A) (v:=(X.getD k 0).toNat) (by omega)
       have hal:=qjt (N:=cuts.length) (l:=A) (by omega)
       have hfb:=qdM (arr:=A) (cut:=X.take k) (m:=i) (fun z _=>(hbdi z.toNat).2) (by omega)
       simp only[go_sem,seval,Tryz.results52,eL,hL,hX]
       repeat' first|assumption|(simp (disch:=first|assumption|omega|(simp;done)|(simp;omega)) only[qaa,qac,List.take_of_length_le,qab,qae,qaf];try simp only[go_sem,seval,Tryz.results52,eL,hL,hX])|(with_reducible refine And.intro ?_ ?_)|(with_reducible intro _)|((with_reducible (show Region.lexB _ _=true));kernel_rfl)|((try rw[qad]);omega)
       ·exact⟨k+1,by omega,by omega,rfl,by rw[hag,←e1]⟩
      ·obtain rfl:k=X.length:=by omega
       rw[List.take_length]
       have hfb:=qdM (arr:=A) (cut:=X) (m:=i) (fun z _=>(hbdi z.toNat).2) (by omega)
       by_cases hj0:j=0
       ·subst hj0
        rw[if_pos rfl,if_pos rfl]
        simp only[go_sem,seval,Tryz.results52,eL,hL,hX]
        repeat' first|assumption|(simp (disch:=first|assumption|omega|(simp;done)|(simp;omega)) only[qaa,qac,List.take_of_length_le,qab,qae,qaf];try simp only[go_sem,seval,Tryz.results52,eL,hL,hX])|(with_reducible refine And.intro ?_ ?_)|(with_reducible intro _)|((with_reducible (show Region.lexB _ _=true));kernel_rfl)|((try rw[qad]);omega)
        ·rw[qf5 (by omega) (by omega)];omega
        ·have h1:qbv A (M.take 1)=X:=by
          have:M.take 1=[X]:=by simpa using hts
          rw[this];rfl
         refine⟨1,by omega,by omega,⟨rfl,?_⟩,?_⟩
         ·rw[if_neg (by decide),h1]
         ·rw[if_neg (by decide),h1,←hBL];exact qhX (by omega) (by omega)
       ·rw[if_neg hj0,if_neg hj0]
        have hbm:qbv A (M.take j)∈M:=List.mem_of_mem_take (qgp (by simp;omega))
        have hsn:=qhK (arr:=A) (l:=M.take j) (y:=X) (by simp;omega)
        rw[←hts] at hsn
        have hbb:=harb _ hbm
        have hbg:=fun z=>qnX (c:=c) (N:=cuts.length) (l:=B) (x:=qbv A (M.take j)) (z:=z) (by omega)
        rw[hBL] at hbg
        generalize qbv A (M.take j)=Y at *
        simp only[go_sem,seval,Tryz.results52,eL,hL,hX,hbg]
        repeat' first|assumption|(simp (disch:=first|assumption|omega|(simp;done)|(simp;omega)) only[qaa,qac,List.take_of_length_le,qab,qae,qaf];try simp only[go_sem,seval,Tryz.results52,eL,hL,hX,hbg])|(with_reducible refine And.intro ?_ ?_)|(with_reducible intro _)|((with_reducible (show Region.lexB _ _=true));kernel_rfl)|((try rw[qad]);omega)
        ·rw[qf5 (by simp;omega) (by simp;omega)];omega
        ·rw[qf5 (by simp;omega) (by simp;omega)];omega
        ·refine⟨j+1,by omega,by omega,⟨rfl,?_⟩,?_⟩
         ·rw[if_neg (by omega),hsn,if_pos (show qbx _ _ _ by unfold qbx;omega)]
         ·rw[if_neg (by omega),hsn,if_pos (show qbx _ _ _ by unfold qbx;omega),←hBL];exact qmj (by omega) (by omega)
        ·refine⟨j+1,by omega,by omega,⟨rfl,?_⟩,?_⟩
         ·rw[if_neg (by omega),hsn,if_neg (show ¬ qbx _ _ _ by unfold qbx;omega)]
         ·rw[if_neg (by omega),hsn,if_neg (show ¬ qbx _ _ _ by unfold qbx;omega)]
    ·obtain rfl:j=M.length:=by omega
     rw[List.take_length,if_neg (by omega),if_neg (by omega)]
     simp only[go_sem,seval,Tryz.results52,eL,hL]
     have hfb:=harb _ (qgp (arr:=A) (l:=M) (by omega))
     repeat' first|assumption|(simp (disch:=first|assumption|omega|(simp;done)|(simp;omega)) only[qaa,qac,List.take_of_length_le,qab,qae,qaf];try simp only[go_sem,seval,Tryz.results52,eL,hL])|(with_reducible refine And.intro ?_ ?_)|(with_reducible intro _)|((with_reducible (show Region.lexB _ _=true));kernel_rfl)|((try rw[qad]);omega)
     ·rw[qjt (by omega)];omega
     ·refine⟨i+1,by omega,by omega,by omega,?_,?_⟩
      ·rw[hsu]
      ·rw[hsu,Int.add_comm 1,←hAL];exact qpJ (by omega)
  ·obtain rfl:i=c.gates.length:=by omega
   simp only[go_sem,seval,Tryz.results52]
   repeat' first|assumption|(simp (disch:=first|assumption|omega|(simp;done)|(simp;omega)) only[qaa,qac,List.take_of_length_le,qab,qae,qaf];try simp only[go_sem,seval,Tryz.results52])|(with_reducible refine And.intro ?_ ?_)|(with_reducible intro _)|((with_reducible (show Region.lexB _ _=true));kernel_rfl)|((try rw[qad]);omega)
   refine qcJ (by simp) (by simp only[go_sem,seval]) ?_
   simp only[go_sem,seval]
   repeat' first|assumption|(simp (disch:=first|assumption|omega|(simp;done)|(simp;omega)) only[qaa,qac,List.take_of_length_le,qab,qae,qaf];try simp only[go_sem,seval,Tryz.results52])|(with_reducible refine And.intro ?_ ?_)|(with_reducible intro _)|((with_reducible (show Region.lexB _ _=true));kernel_rfl)|((try rw[qad]);omega)
   rw[List.take_of_length_le (by rw[qf5 (by omega) (by omega)];omega),List.take_of_length_le (by rw[qjt (by omega)];omega)]
   simp[qe3,arrI,hcl,hbli.1,hbli.2]
end Go.Proofs

set_option maxRecDepth 20000
set_option linter.unusedVariables false
set_option linter.unusedSimpArgs false
namespace Go.Proofs
open Go Go.VL
structure RevTo (l m:List Lut) (i:Nat):Prop where
 len:m.length=l.length
 get : ∀ p,p<l.length→m.getD p lu0=if p<i∨l.length≤p+i then l.getD (l.length-1-p) lu0 else l.getD p lu0
theorem RevTo.start (l:List Lut):RevTo l l 0:=⟨rfl,fun p hp=>by rw[if_neg (by omega)]⟩
theorem qkm {m:List Lut}{a p:Nat}{x:Lut}(h:a<m.length):(m.set a x).getD p lu0=if p=a then x else m.getD p lu0:=by
 by_cases e:p=a
 ·subst e;simp[List.getD,h]
 ·simp[List.getD,List.getElem?_set,show ¬ a=p by omega,e]
theorem RevTo.step {l m:List Lut}{i:Nat}(h:RevTo l m i) (hi:i+i+1<l.length):RevTo l ((m.set i (m.getD (l.length-1-i) lu0)).set (l.length-1-i) (m.getD i lu0)) (i+1):=by
 have hl:=h.len
 refine⟨by simp[hl],fun p hp=>?_⟩
 rw[qkm (by simp;omega),qkm (by omega)]
 have g1:=h.get p hp
 have g2:=h.get i (by omega)
 have g3:=h.get (l.length-1-i) (by omega)
 rw[if_neg (by omega)] at g2 g3
 rw[g1,g2,g3]
 by_cases e1:p=l.length-1-i
 ·subst e1
  rw[if_pos rfl,if_pos (by omega),show l.length-1-(l.length-1-i)=i by omega]
 ·rw[if_neg e1]
  by_cases e2:p=i
  ·subst e2
   rw[if_pos rfl,if_pos (by omega)]
  ·rw[if_neg e2]
   by_cases e3:p<i∨l.length≤p+i
   ·rw[if_pos e3,if_pos (by omega)]
   ·rw[if_neg e3,if_neg (by omega)]
theorem RevTo.done {l m:List Lut}{i:Nat}(h:RevTo l m i) (hi:l.length≤i+i+1):m=l.reverse:=by
 refine qbV lu0 (by simp[h.len]) fun p hp=>?_
 have hl:=h.len
 have e:l.reverse.getD p lu0=l.getD (l.length-1-p) lu0:=by simp[List.getD,show p<l.length by omega,show l.length-1-p<l.length by omega]
 rw[e,h.get p (by omega)]
 split
 ·rfl
 ·rw[show l.length-1-p=p by omega]
theorem Tryz.c_ReverseL (g:Nat) (l:List Lut) (hl:l.length≤1000000):ICall Tryz.prog 82 [.sl 0 g 3 0 l.length] [.row g 3 false (l.map fun x=>dLu x)] (fun _ H'=>H'=[.row g 3 false (l.reverse.map fun x=>dLu x)]):=by
 refine qaJ (E:=Tryz.env 1) Tryz.tok rfl 1000 Tryz.func82 rfl rfl Tryz.ntmps82 (by simp) ?_
 simp only[go_sem,seval,Tryz.results82]
 repeat' first|assumption|(simp (disch:=first|assumption|omega|(simp;done)|(simp;omega)) only[qaa,qac,List.take_of_length_le,qab,qag];try simp only[go_sem,seval,Tryz.results82])|(with_reducible refine And.intro ?_ ?_)|(with_reducible intro _)|((try rw[qad]);omega)
 refine qaB (E:=Tryz.env 1) Tryz.tok (σ:=Nat×List Lut) (fun s=>[(3,.d (dI ((l.length:Int)-1-(s.1:Int)))),(2,.d (dI s.1)),(0,.sl 0 g 3 0 l.length)]) (fun s=>[.row g 3 false (s.2.map fun x=>dLu x)])
  (fun s=>s.1≤l.length∧RevTo l s.2 s.1) (fun s=>l.length-s.1) [] 1000 1000 ?_ ?_ ?_
 ·simp only[go_sem,seval]
 ·simp only[go_sem,seval]
  exact⟨(0,l),⟨Nat.zero_le _,RevTo.start l⟩,⟨by simp,rfl⟩,rfl⟩
 ·rintro⟨i,m⟩ ⟨hi,hm⟩
  simp only at hi hm
  have hml:=hm.len
  by_cases hlt:i+i+1<l.length
  ·have ej:((l.length:Int)-1-(i:Int)).toNat=l.length-1-i:=by omega
   simp only[go_sem,seval,Tryz.results82,ej]
   repeat' first|assumption|(simp (disch:=first|assumption|omega|(simp;done)|(simp;omega)) only[qaa,qac,List.take_of_length_le,qab,qag];try simp only[go_sem,seval,Tryz.results82,ej])|(with_reducible refine And.intro ?_ ?_)|(with_reducible intro _)|((try rw[qad]);omega)
   refine qaT (E:=Tryz.env 1) Tryz.tok Tryz.follows 1000 1000 [13,15] (.fst 0 (.fst 1 (.fst 2 (.fst 3 (.fst 4 (.fst 5 (.fst 6 (.fst 8 (.fst 9 (.fst 10 (.fst 7 (.fst 11 (.fst 12 (.one 13 (.fst 14 (.one 15 (.done))))))))))))))))) (by kernel_rfl) ?_
   simp only[go_sem,seval,Tryz.results82,ej]
   repeat' first|assumption|(simp (disch:=first|assumption|omega|(simp;done)|(simp;omega)) only[qaa,qac,List.take_of_length_le,qab,qag];try simp only[go_sem,seval,Tryz.results82,ej])|(with_reducible refine And.intro ?_ ?_)|(with_reducible intro _)|((try rw[qad]);omega)
   refine⟨(i+1,_),⟨by simp only;omega,hm.step hlt⟩,by simp only;omega,⟨by simp only;omega,rfl⟩,?_⟩
   rw[List.map_set,List.map_set]
  ·simp only[go_sem,seval,Tryz.results82]
   repeat' first|assumption|(simp (disch:=first|assumption|omega|(simp;done)|(simp;omega)) only[qaa,qac,List.take_of_length_le,qab,qag];try simp only[go_sem,seval,Tryz.results82])|(with_reducible refine And.intro ?_ ?_)|(with_reducible intro _)|((try rw[qad]);omega)
   exact qcd (by rw[hm.done (by omega)])
theorem Tryz.c_CloneI (l:List Int) (hl:l.length≤1048576):Pure Tryz.prog 80 [dIs l] (dIs l):=by
 refine qiu (T:=Tryz.tyT) Tryz.tok Tryz.func80 rfl rfl (by simp[Tryz.ntmps80]) ?_
 rw[Tryz.ntmps80]
 refine qjn (E:=Tryz.env 0) (ks:=[]) (qiD (qqT Tryz.tok rfl rfl trivial (qny (qjn (qjn (qiD (qqT Tryz.tok rfl rfl ?_ (qpw Tryz.tok rfl rfl ?_ rfl fun b hb=>qpx Tryz.tok 1000 ?_))))))))
 ·simp only[go_sem,seval]
 ·simp only[go_sem,seval]
 ·simp only[go_sem,seval,Tryz.results80]
  exact⟨hb,fun h=>by omega⟩
theorem qk5 {c:Circ}(hb : ∀ z∈qbb c,0≤z):qba (List.replicate c.vars.toNat false) (c.roots.map (· / 2))=qeF c:=by
 have hm : ∀ z:Int,z∈c.roots.map (· / 2)↔z∈qbb c:=fun z=>by simp[Circ.roots,qbb,or_and_right,exists_or,or_comm]
 refine qbV false (by rw[qeF,qcj,qcj]) fun j hj=>?_
 rw[qeF,qdO _ _ _ (fun v hv=>hb v ((hm v).1 hv)),qdO _ _ _ hb]
 simp only[hm]
end Go.Proofs
