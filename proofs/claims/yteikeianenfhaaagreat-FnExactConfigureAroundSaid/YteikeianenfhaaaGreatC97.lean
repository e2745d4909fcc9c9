/- Contracts: the best cuts of a circuit. Conditions: none; lemmas. -/
import Derived.Test.YteikeianenfhaaaGreatC96
set_option maxRecDepth 20000
set_option linter.unusedVariables false
set_option linter.unusedSimpArgs false
namespace Go.Proofs
open Go Go.VL
def qfv (c:Circ) (N:Nat) (l:List (List Int)):List D:=qdf c l++List.replicate (N-l.length) .nil
def arrI (N:Nat) (l:List Int):List Int:=l++List.replicate (N-l.length) 0
theorem qgh {c:Circ}{N:Nat}{l:List (List Int)}(h:c.first.toNat<=l.length) (hN:l.length<=N):(qfv c N l).length=N:=by
 simp[qfv,qdb h];omega
theorem qki {N:Nat}{l:List Int}(hN:l.length<=N):(arrI N l).length=N:=by
 simp[arrI];omega
theorem qq8 {N:Nat}{l:List Int}{v:Nat}(h:v<l.length):(arrI N l).getD v 0=l.getD v 0:=by
 simp[arrI,List.getD,List.getElem?_append_left h]
theorem qpe {α : Type}{n:Nat}{x : α}(h:0<n):List.replicate n x=x::List.replicate (n-1) x:=by
 obtain⟨m,rfl⟩ : ∃ m,n=m+1:=⟨n-1,by omega⟩;rfl
theorem qpf {α : Type}{l r:List α}{x y : α}{n:Nat}(h:n=l.length):(l++x::r).set n y=l++y::r:=by
 subst h;simp
theorem qix {c:Circ}{N:Nat}{l:List (List Int)}(h:c.first.toNat<=l.length) (hN:l.length<N) {x:List Int}:(qfv c N l).set l.length (dIs x)=qfv c N (l ++ [x]):=by
 unfold qfv;rw[qpe (show 0<N-l.length by omega),qpf (by rw[qdb h]),qgW h,yaq];simp[show N-(l.length+1)=N-l.length-1 by omega]
theorem qnK {c:Circ}{N:Nat}{l:List (List Int)}(h:c.first.toNat<=l.length) (hN:l.length<N) {x y:List Int}:(qfv c N (l ++ [x])).set l.length (dIs y)=qfv c N (l ++ [y]):=by
 rw[<-qix h hN,<-qix h hN,List.set_set]
theorem qpg {c:Circ}{N:Nat}{l:List (List Int)}(h:c.first.toNat<=l.length) {x:List Int}{z:D}:(qfv c N (l ++ [x])).getD l.length z=dIs x:=by
 unfold qfv;rw[qgW h,yaq,List.getD_eq_getElem?_getD,List.getElem?_append_right (by rw[qdb h];omega),qdb h];simp
theorem qq9 {N:Nat}{l:List Int}(hN:l.length<N) {x:Int}:(arrI N l).set l.length x=arrI N (l ++ [x]):=by
 unfold arrI;rw[qpe (show 0<N-l.length by omega),qpf rfl,yaq];simp[show N-(l.length+1)=N-l.length-1 by omega]
theorem Tryz.c_bestCuts (c:Circ) (hc:c.Valid):ICall Tryz.prog 102 [.ptr 0 0] [.box [.d (dI c.inputs),.d (dIs c.next),.d (dPs c.gates),.d (dIs c.outs)]] (fun r H'=>r=.d (.tup [.lst 1 (qdf c (qbr c)),dIs (arrC c)])/\H'=[.box [.d (dI c.inputs),.d (dIs c.next),.d (dPs c.gates),.d (dIs c.outs)]]):=by
 have hf:=hc.first_bd;have hi0:=hc.i0;have hi1:=hc.i1;have hfst:=Tryz.c_firstGate c (by omega);have hcu:=Tryz.c_Cuts c hc;have hbd:=qke c (qbk c);have hcl:=qa6 (c:=c) hf.1 c.gates.length;have hco:=qcv hc c.gates.length (yad _);have hlg:=hc.lg;rw[<-qbk] at hcl hco;refine qaO (E:=Tryz.env 1) Tryz.tok rfl 1000 Tryz.func102 rfl rfl Tryz.ntmps102 (by simp) ?_;simp only[go_sem,seval]
 repeat' first|assumption|(simp (disch:=first|assumption|omega|(simp;done)|(simp;omega)) only[qaa,qac,yaa,qab,qae,qaf];try simp only[go_sem,seval])|(with_reducible first|refine And.intro ?_ ?_|intro _)|(refine qaj hfst ?_;simp only[go_sem,seval])|(refine qbK hcu ?_;simp only[go_sem,seval])|((with_reducible (show Region.lexB _ _=true));kernel_rfl)|((try rw[qad]);omega)
 have hgate : ∀ i,i<c.gates.length->∃ x r,(qbk c).getD (c.first.toNat+i) []=x::r/\r≠[]:=fun i hi=>by
  have h1:=qir hc hi;rw[qbk,qcW hf.1 hi];cases hj:qft ((qaK c i).getD (qbn c i/2).toNat []) ((qaK c i).getD (qbo c i/2).toNat []) with
  | nil=>rw[hj] at h1;simp at h1
  | cons x r=>exact⟨x,r ++ [[c.first+(i:Int)]],rfl,by simp⟩
 have hleaf : ∀ i,i<c.gates.length->∀ cut∈((qbk c).getD (c.first.toNat+i) []).dropLast,∀ z∈cut,0<=z/\z<c.first+(i:Int):=fun i hi cut hcut z hz=>by
  rw[qbk,qcW hf.1 hi,List.dropLast_concat] at hcut;have hl:=qa6 (c:=c) hf.1 i;obtain⟨g1,g2⟩:=hc.g i hi;have ha:(qbn c i/2).toNat<c.first.toNat+i:=by unfold qbn;unfold qa4 at g1;omega
  have hb:(qbo c i/2).toNat<c.first.toNat+i:=by unfold qbo;unfold qa4 at g2;omega
  obtain⟨a1,-⟩:=qcv hc i (by omega) _ (by rw[hl];exact ha);obtain⟨b1,-⟩:=qcv hc i (by omega) _ (by rw[hl];exact hb);refine qe4 (P:=fun cut=>∀ z∈cut,0<=z/\z<c.first+(i:Int)) (fun x hx y hy hle z hz=>?_) cut hcut z hz;rcases(qbu _ _).1 hz with h2|h2
  ·have:=(a1 x hx).rng z h2;omega
  ·have:=(b1 y hy).rng z h2;omega
 have efin:qbr c=(qaU c (qbk c) c.gates.length).1/\arrC c=(qaU c (qbk c) c.gates.length).2:=⟨rfl,rfl⟩;rw[efin.1,efin.2];generalize qbk c=cuts at *
 have hbl:=qdJ c cuts;refine qap (E:=Tryz.env 1) Tryz.tok (σ:=Nat) (fun i=>[(7,.d (dI (c.first+(i:Int)))),(6,.sl 2 0 1 0 cuts.length),(5,.sl 1 0 1 0 cuts.length),(4,.d (qlc cuts)),(0,.ptr 0 0)])
  (fun i=>[.box [.d (dI c.inputs),.d (dIs c.next),.d (dPs c.gates),.d (dIs c.outs)],.row 0 1 false (qfv c cuts.length (qaU c cuts i).1),.row 0 1 true ((arrI cuts.length (qaU c cuts i).2).map (D.int .i64))])
  (fun i=>i<=c.gates.length) (fun i=>c.gates.length-i) [] [] 1000 1000 ?_ ?_
 ·simp only[go_sem,seval];refine⟨0,by omega,by omega,?_,?_⟩
  ·simp[qaU,qfv,qdf,hcl]
  ·simp[qaU,arrI,hcl]
 ·intro i hi;have hbli:=hbl i;by_cases hlt:i<c.gates.length
  ·have hsu:qaU c cuts (i+1)=((qaU c cuts i).1 ++ [qbG (qaU c cuts i).2 (cuts.getD (c.first.toNat+i) []).dropLast],(qaU c cuts i).2 ++ [1+qce (qaU c cuts i).2 (qbG (qaU c cuts i).2 (cuts.getD (c.first.toNat+i) []).dropLast)]):=rfl;have hlf:=hleaf i hlt;obtain⟨x,r,hxr,hr0⟩:=hgate i hlt;have hle:=(hco (c.first.toNat+i) (by omega)).2.2.2;have hM3 : ∀ z∈(cuts.getD (c.first.toNat+i) []).dropLast,z.length<=3:=fun z hz=>((hco (c.first.toNat+i) (by omega)).1 z (List.dropLast_subset _ hz)).len
   have hbdi:=hbd i;generalize hL:cuts.getD (c.first.toNat+i) []=L at *
   generalize (qaU c cuts i).2=A at *
   generalize (qaU c cuts i).1=B at *
   have eL:(c.first+(i:Int)).toNat=c.first.toNat+i:=by omega
   have hL2:2<=L.length:=by
    rw[hxr];cases r with
    | nil=>exact absurd rfl hr0
    | cons y r=>simp
   have eM:List.take ((L.length:Int)-1).toNat (L.map fun x=>dIs x)=L.dropLast.map fun x=>dIs x:=by
    rw[List.dropLast_eq_take,List.map_take,show((L.length:Int)-1).toNat=L.length-1 by omega]
   have hML:L.dropLast.length=L.length-1:=by simp
   simp only[go_sem,seval,eL,hL,eM]
   repeat' first|assumption|(simp (disch:=first|assumption|omega|(simp;done)|(simp;omega)) only[qaa,qac,yaa,qab,qae,qaf];try simp only[go_sem,seval,eL,hL,eM])|(with_reducible first|refine And.intro ?_ ?_|intro _)|((with_reducible (show Region.lexB _ _=true));kernel_rfl)|((try rw[qad]);omega)
   generalize L.dropLast=M at *
   have hBL:B.length=c.first.toNat+i:=hbli.1
   have hAL:A.length=c.first.toNat+i:=hbli.2
   have harb:=fun cut (hcut:cut∈M)=>qef (arr:=A) (cut:=cut) (m:=i) (fun z _=>(hbdi z.toNat).2) (by omega)
   refine qap (E:=Tryz.env 1) Tryz.tok (σ:=Nat) (fun j=>[(44,.d (dI j)),(43,.d (dI M.length)),(42,.d (dIss M)),(8,.d (dI (if j=0 then -1 else qce A (qbG A (M.take j))))),(7,.d (dI (c.first+(i:Int)))),(6,.sl 2 0 1 0 cuts.length),(5,.sl 1 0 1 0 cuts.length),(4,.d (qlc cuts)),(0,.ptr 0 0)])
    (fun j=>[.box [.d (dI c.inputs),.d (dIs c.next),.d (dPs c.gates),.d (dIs c.outs)],.row 0 1 false (if j=0 then qfv c cuts.length B else qfv c cuts.length (B ++ [qbG A (M.take j)])),.row 0 1 true ((arrI cuts.length A).map (D.int .i64))])
    (fun j=>j<=M.length) (fun j=>M.length-j) [] [] 1000 1000 ?_ ?_
   ·simp only[go_sem,seval];refine⟨0,by omega,?_⟩;simp
   ·intro j hj;by_cases hjt:j<M.length
    ·have hxm:=qal hjt (z:=([]:List Int));have hlx:=hlf _ hxm;have hx3:=hM3 _ hxm;have hts:M.take (j+1)=M.take j ++ [M.getD j []]:=by simpa using qaV (f:=fun x:List Int=>x) [] hjt
     generalize hX:M.getD j []=X at *
     simp only[go_sem,seval,eL,hL,hX]
     repeat' first|assumption|(simp (disch:=first|assumption|omega|(simp;done)|(simp;omega)) only[qaa,qac,yaa,qab,qae,qaf];try simp only[go_sem,seval,eL,hL,hX])|(with_reducible first|refine And.intro ?_ ?_|intro _)|((with_reducible (show Region.lexB _ _=true));kernel_rfl)|((try rw[qad]);omega)
     refine qap (E:=Tryz.env 1) Tryz.tok (σ:=Nat) (fun k=>[(50,.d (dI k)),(49,.d (dI X.length)),(48,.d (dIs X)),(11,.d (dI (qce A (X.take k)))),(10,.d (dIs X)),(44,.d (dI j)),(43,.d (dI M.length)),(42,.d (dIss M)),(8,.d (dI (if j=0 then -1 else qce A (qbG A (M.take j))))),(7,.d (dI (c.first+(i:Int)))),(6,.sl 2 0 1 0 cuts.length),(5,.sl 1 0 1 0 cuts.length),(4,.d (qlc cuts)),(0,.ptr 0 0)])
      (fun k=>[.box [.d (dI c.inputs),.d (dIs c.next),.d (dPs c.gates),.d (dIs c.outs)],.row 0 1 false (if j=0 then qfv c cuts.length B else qfv c cuts.length (B ++ [qbG A (M.take j)])),.row 0 1 true ((arrI cuts.length A).map (D.int .i64))])
      (fun k=>k<=X.length) (fun k=>X.length-k) [] [] 1000 1000 ?_ ?_
     ·simp only[go_sem,seval];refine⟨0,by omega,?_⟩;simp[qce]
     ·intro k hk;by_cases hkt:k<X.length
      ·have e1:qce A (X.take (k+1))=max (qce A (X.take k)) (A.getD (X.getD k 0).toNat 0):=qaC (f:=fun(t v:Int)=>max t (A.getD v.toNat 0)) (b:=0) (0:Int) hkt;have hxk:=hlx _ (qal hkt:X.getD k 0∈X);have hxr2:=hbdi (X.getD k 0).toNat;have hag:=qq8 (N:=cuts.length) (l:=A) (v:=(X.getD k 0).toNat) (by omega);have hal:=qki (N:=cuts.length) (l:=A) (by omega);have hfb:=qef (arr:=A) (cut:=X.take k) (m:=i) (fun z _=>(hbdi z.toNat).2) (by omega);simp only[go_sem,seval,eL,hL,hX]
       repeat' first|assumption|(simp (disch:=first|assumption|omega|(simp;done)|(simp;omega)) only[qaa,qac,yaa,qab,qae,qaf];try simp only[go_sem,seval,eL,hL,hX])|(with_reducible first|refine And.intro ?_ ?_|intro _)|((with_reducible (show Region.lexB _ _=true));kernel_rfl)|((try rw[qad]);omega)
       ·exact⟨k+1,by omega,by omega,rfl,by rw[hag,<-e1]⟩
      ·obtain rfl:k=X.length:=by omega
       rw[yav];have hfb:=qef (arr:=A) (cut:=X) (m:=i) (fun z _=>(hbdi z.toNat).2) (by omega);by_cases hj0:j=0
       ·subst hj0;rw[if_pos rfl,if_pos rfl];simp only[go_sem,seval,eL,hL,hX]
        repeat' first|assumption|(simp (disch:=first|assumption|omega|(simp;done)|(simp;omega)) only[qaa,qac,yaa,qab,qae,qaf];try simp only[go_sem,seval,eL,hL,hX])|(with_reducible first|refine And.intro ?_ ?_|intro _)|((with_reducible (show Region.lexB _ _=true));kernel_rfl)|((try rw[qad]);omega)
        ·rw[qgh (by omega) (by omega)];omega
        ·have h1:qbG A (M.take 1)=X:=by
          have:M.take 1=[X]:=by simpa using hts
          rw[this];rfl
         refine⟨1,by omega,by omega,⟨rfl,?_⟩,?_⟩
         ·rw[if_neg (by decide),h1]
         ·rw[if_neg (by decide),h1,<-hBL];exact qix (by omega) (by omega)
       ·rw[if_neg hj0,if_neg hj0];have hbm:qbG A (M.take j)∈M:=yat (qgU (by simp;omega));have hsn:=qis (arr:=A) (l:=M.take j) (y:=X) (by simp;omega);rw[<-hts] at hsn;have hbb:=harb _ hbm;have hbg:=fun z=>qpg (c:=c) (N:=cuts.length) (l:=B) (x:=qbG A (M.take j)) (z:=z) (by omega)
        rw[hBL] at hbg;generalize qbG A (M.take j)=Y at *
        simp only[go_sem,seval,eL,hL,hX,hbg]
        repeat' first|assumption|(simp (disch:=first|assumption|omega|(simp;done)|(simp;omega)) only[qaa,qac,yaa,qab,qae,qaf];try simp only[go_sem,seval,eL,hL,hX,hbg])|(with_reducible first|refine And.intro ?_ ?_|intro _)|((with_reducible (show Region.lexB _ _=true));kernel_rfl)|((try rw[qad]);omega)
        ·rw[qgh (by simp;omega) (by simp;omega)];omega
        ·rw[qgh (by simp;omega) (by simp;omega)];omega
        ·refine⟨j+1,by omega,by omega,⟨rfl,?_⟩,?_⟩
         ·rw[if_neg (by omega),hsn,if_pos (show qbI _ _ _ by unfold qbI;omega)]
         ·rw[if_neg (by omega),hsn,if_pos (show qbI _ _ _ by unfold qbI;omega),<-hBL];exact qnK (by omega) (by omega)
        ·refine⟨j+1,by omega,by omega,⟨rfl,?_⟩,?_⟩
         ·rw[if_neg (by omega),hsn,if_neg (show ¬ qbI _ _ _ by unfold qbI;omega)]
         ·rw[if_neg (by omega),hsn,if_neg (show ¬ qbI _ _ _ by unfold qbI;omega)]
    ·obtain rfl:j=M.length:=by omega
     rw[yav,if_neg (by omega),if_neg (by omega)];simp only[go_sem,seval,eL,hL];have hfb:=harb _ (qgU (arr:=A) (l:=M) (by omega))
     repeat' first|assumption|(simp (disch:=first|assumption|omega|(simp;done)|(simp;omega)) only[qaa,qac,yaa,qab,qae,qaf];try simp only[go_sem,seval,eL,hL])|(with_reducible first|refine And.intro ?_ ?_|intro _)|((with_reducible (show Region.lexB _ _=true));kernel_rfl)|((try rw[qad]);omega)
     ·rw[qki (by omega)];omega
     ·refine⟨i+1,by omega,by omega,by omega,?_,?_⟩
      ·rw[hsu]
      ·rw[hsu,Int.add_comm 1,<-hAL];exact qq9 (by omega)
  ·obtain rfl:i=c.gates.length:=by omega
   simp only[go_sem,seval]
   repeat' first|assumption|(simp (disch:=first|assumption|omega|(simp;done)|(simp;omega)) only[qaa,qac,yaa,qab,qae,qaf];try simp only[go_sem,seval])|(with_reducible first|refine And.intro ?_ ?_|intro _)|((with_reducible (show Region.lexB _ _=true));kernel_rfl)|((try rw[qad]);omega)
   refine qcH (by simp) (by simp only[go_sem,seval]) ?_;simp only[go_sem,seval]
   repeat' first|assumption|(simp (disch:=first|assumption|omega|(simp;done)|(simp;omega)) only[qaa,qac,yaa,qab,qae,qaf];try simp only[go_sem,seval])|(with_reducible first|refine And.intro ?_ ?_|intro _)|((with_reducible (show Region.lexB _ _=true));kernel_rfl)|((try rw[qad]);omega)
   rw[yaa (by rw[qgh (by omega) (by omega)];omega),yaa (by rw[qki (by omega)];omega)];simp[qfv,arrI,hcl,hbli.1,hbli.2]
end Go.Proofs
