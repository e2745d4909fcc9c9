/- Contracts, plain definitions and lemmas. Conditions: none; lemmas. -/
import Derived.Test.YteikeianenfhaaaGreatC98
import Derived.Test.YteikeianenfhaaaGreatC70
set_option maxRecDepth 20000
set_option linter.unusedVariables false
set_option linter.unusedSimpArgs false
set_option maxHeartbeats 2000000
namespace Go.Proofs
open Go Go.VL Tryz
theorem Tryz.c_MapLuts (c:Circ) (hc:c.Valid):PureF prog 101 [dC c] (dLus (qeu c)):=by
 have hf:=hc.first_bd;have hi0:=hc.i0;have hi1:=hc.i1;have hlo:=hc.lo;have hln:=hc.ln;have hlg:=hc.lg;have hfst:=c_firstGate c (by omega);have hvs:=c_vars c (by omega);have hcv:=c_CircuitValid c;have hbe:=c_bestCuts c hc;have hro:=c_roots c (by omega);have hvv:c.vars=c.first+(c.gates.length:Int):=rfl
 have hrv:=qiR hc;have hn0:=qm3 (c:=c) (fun z hz=>(hrv z hz).1);have hr2 : ∀ z∈c.roots,0<=z/2/\z/2<c.vars:=fun z hz=>hrv _ (by
  simp only[qcO,List.mem_map,yas];exact⟨z,by simpa [Circ.roots,or_comm] using hz,rfl⟩)
 have hrl:c.roots.length<=2000000:=by unfold Circ.roots;simp;omega
 refine qe0 (E:=env 0) tok rfl 1000 func101 rfl rfl ntmps101 (by simp) fun ok=>?_
 simp only[go_sem,seval] at ok⊢
 repeat' first|assumption|(simp (disch:=first|assumption|omega|(simp;done)|(simp;omega)) only[yaa];try simp only[go_sem,seval])|(with_reducible first|apply And.intro|intro _)|(refine qab hfst ?_;simp only[go_sem,seval])|(refine qab hcv ?_;simp only[go_sem,seval])|(refine qab hvs ?_;simp only[go_sem,seval])|(refine qab hro ?_;simp only[go_sem,seval])|((try rw[qaa]);omega)
 ·rename_i h9;exact absurd hc h9
 refine qal hbe [0] (by simp only[go_sem,seval]) ?_;rintro r0 H1 ⟨rfl,rfl⟩;simp only[go_sem,seval]
 repeat' first|assumption|(simp (disch:=first|assumption|omega|(simp;done)|(simp;omega)) only[yaa];try simp only[go_sem,seval])|(with_reducible first|apply And.intro|intro _)|(refine qab hvs ?_;simp only[go_sem,seval])|(refine qab hro ?_;simp only[go_sem,seval])|((try rw[qaa]);omega)
 have hrd:(c.roots.map (· / 2)).length=c.roots.length:=by simp
 generalize hroots:c.roots=roots at *
 refine qao (E:=env 0) tok (σ:=Nat) (fun i=>[(23,.d (dI i)),(22,.d (dI roots.length)),(21,.d (dIs roots)),(5,.sl 1 0 1 0 c.vars.toNat),(3,.d (.lst 1 (qfZ c (qbY c)))),(1,.ptr 0 0)])
  (fun i=>[.box [.d (dI c.inputs),.d (dIs c.next),.d (dPs c.gates),.d (dIs c.outs)],.row 0 1 true ((qck (List.replicate c.vars.toNat false) ((roots.map (· / 2)).take i)).map D.bool)])
  (fun i=>i<=roots.length) (fun i=>roots.length-i) [] [] 1000 1000 ?_ ?_
 ·simp only[go_sem,seval];refine⟨0,by omega,?_⟩;simp[qck]
 ·intro i hi;have hsl:=qcL ((roots.map (· / 2)).take i) (List.replicate c.vars.toNat false);rw[yaH] at hsl;by_cases hlt:i<roots.length
  ·have hrg:(roots.map (· / 2)).getD i 0=roots.getD i 0/2:=by simp[List.getD,hlt]
   have hbd:=hr2 _ (qac hlt:roots.getD i 0∈roots);have hst:qck (List.replicate c.vars.toNat false) ((roots.map (· / 2)).take (i+1))=(qck (List.replicate c.vars.toNat false) ((roots.map (· / 2)).take i)).set (roots.getD i 0/2).toNat true:=by
    rw[<-hrg];exact qa8 (f:=fun(n:List Bool) (v:Int)=>n.set v.toNat true) (b:=List.replicate c.vars.toNat false) (0:Int) (by rw[hrd];exact hlt)
   simp only[go_sem,seval]
   repeat' first|assumption|(simp (disch:=first|assumption|omega|(simp;done)|(simp;omega)) only[yaa];try simp only[go_sem,seval])|(with_reducible first|apply And.intro|intro _)|((try rw[qaa]);omega)
   exact⟨i+1,by omega,by omega,rfl,by rw[hst]⟩
  ·have hst:qck (List.replicate c.vars.toNat false) ((roots.map (· / 2)).take i)=qg0 c:=by rw[<-hn0,yaa (by rw[hrd];omega)]
   rw[hst];simp only[go_sem,seval]
   repeat' first|assumption|(simp (disch:=first|assumption|omega|(simp;done)|(simp;omega)) only[yaa];try simp only[go_sem,seval])|(with_reducible first|apply And.intro|intro _)|(refine qab hvs ?_;simp only[go_sem,seval])|((try rw[qaa]);omega)
   have hne0:=qlN c;have hlu:qeu c=mapD c c.gates.length (qg0 c) []:=rfl;refine qao (E:=env 0) tok (σ:=Nat×List Bool×List Lut) (fun s=>[(9,.d (dI (c.first+(s.1:Int)-1))),(8,.sl 2 s.2.2.length 3 0 s.2.2.length),(5,.sl 1 0 1 0 c.vars.toNat),(3,.d (.lst 1 (qfZ c (qbY c)))),(1,.ptr 0 0)])
    (fun s=>[.box [.d (dI c.inputs),.d (dIs c.next),.d (dPs c.gates),.d (dIs c.outs)],.row 0 1 true (s.2.1.map D.bool),.row s.2.2.length 3 false (s.2.2.reverse.map fun x=>dLu x)])
    (fun s=>s.1<=c.gates.length/\s.2.1.length=c.vars.toNat/\s.2.2.length+s.1<=c.gates.length/\mapD c s.1 s.2.1 s.2.2=qeu c) (fun s=>s.1) [] [(8,3,false)] 1000 1000 ?_ ?_
   ·simp only[go_sem,seval];refine⟨(c.gates.length,qg0 c,[]),⟨by simp,hne0,by simp,hlu.symm⟩,?_⟩;simp;omega
   ·rintro⟨j,need,out⟩ ⟨hj,hnl,hol,hinv⟩;simp only at hj hnl hol hinv;cases j with
    | zero=>
     simp only[go_sem,seval]
     repeat' first|assumption|(simp (disch:=first|assumption|omega|(simp;done)|(simp;omega)) only[yaa];try simp only[go_sem,seval])|(with_reducible first|apply And.intro|intro _)|(refine qab hfst ?_;simp only[go_sem,seval])|((try rw[qaa]);omega)
     have hrl9:out.length=out.reverse.length:=by simp
     rw[hrl9];refine qal (c_ReverseL out.reverse.length out.reverse (by simp;omega)) [2] (by simp only[go_sem,seval]) ?_
     ·rintro r0 H1 rfl;rw[List.reverse_reverse];have hmd:mapD c 0 need out=out:=rfl;rw[<-hinv,hmd];simp only[go_sem,seval]
      repeat' first|assumption|(simp (disch:=first|assumption|omega|(simp;done)|(simp;omega)) only[yaa];try simp only[go_sem,seval])|(with_reducible first|apply And.intro|intro _)|((try rw[qaa]);omega)
    | succ m=>
     have hbo:=qet hc (i:=m) (by omega);have hbl:=qqH c;have ev:(c.first+((m+1:Nat):Int)-1)=c.first+(m:Int):=by omega
     have ev2:(c.first+(m:Int)).toNat=c.first.toNat+m:=by omega
     have hbg : ∀ z,(qfZ c (qbY c)).getD (c.first.toNat+m) z=dIs ((qbY c).getD (c.first.toNat+m) []):=fun z=>qqI (by omega) (by omega)
     have hstep:mapD c (m+1) need out=if need.getD (c.first.toNat+m) false=true then
       mapD c m (qck need ((qbY c).getD (c.first.toNat+m) [])) (⟨c.first+(m:Int),(qbY c).getD (c.first.toNat+m) [],qlI c (c.first+(m:Int)) ((qbY c).getD (c.first.toNat+m) [])⟩::out)
      else mapD c m need out:=rfl
     have htb:=c_coneTable c hc (c.first+(m:Int)) (by omega) (by omega) ((qbY c).getD (c.first.toNat+m) []) hbo.2.1 hbo.1 (fun z hz=>by have:=hbo.2.2 z hz;omega);have hcl:=c_CloneJ ((qbY c).getD (c.first.toNat+m) []) (by have:=hbo.2.1;omega);have hbD:(qfZ c (qbY c)).length=c.first.toNat+c.gates.length:=by rw[qe3 (by omega)];exact hbl
     rw[ev];generalize hL:(qbY c).getD (c.first.toNat+m) []=L at *
     by_cases hnd:need.getD (c.first.toNat+m) false=true
     ·rw[if_pos hnd] at hstep;simp only[go_sem,seval,ev2,hnd,hbg]
      repeat' first|assumption|(simp (disch:=first|assumption|omega|(simp;done)|(simp;omega)) only[yaa];try simp only[go_sem,seval,ev2,hnd,hbg])|(with_reducible first|apply And.intro|intro _)|(refine qab hfst ?_;simp only[go_sem,seval,ev2,hnd,hbg])|((try rw[qaa]);omega)
      refine qao (E:=env 0) tok (σ:=Nat) (fun k=>[(49,.d (dI k)),(48,.d (dI L.length)),(47,.d (dIs L)),(9,.d (dI (c.first+(m:Int)))),(8,.sl 2 out.length 3 0 out.length),(5,.sl 1 0 1 0 c.vars.toNat),(3,.d (.lst 1 (qfZ c (qbY c)))),(1,.ptr 0 0)])
       (fun k=>[.box [.d (dI c.inputs),.d (dIs c.next),.d (dPs c.gates),.d (dIs c.outs)],.row 0 1 true ((qck need (L.take k)).map D.bool),.row out.length 3 false (out.reverse.map fun x=>dLu x)])
       (fun k=>k<=L.length) (fun k=>L.length-k) [] [] 1000 1000 ?_ ?_
      ·simp only[go_sem,seval];exact⟨0,by omega,rfl,rfl⟩
      ·intro k hk;have hsl:=qcL (L.take k) need;by_cases hkt:k<L.length
       ·have hst:qck need (L.take (k+1))=(qck need (L.take k)).set (L.getD k 0).toNat true:=qa8 (f:=fun(n:List Bool) (v:Int)=>n.set v.toNat true) (b:=need) (0:Int) hkt;have hz:=hbo.2.2 _ (qac hkt:L.getD k 0∈L);simp only[go_sem,seval,ev2,hbg]
        repeat' first|assumption|(simp (disch:=first|assumption|omega|(simp;done)|(simp;omega)) only[yaa];try simp only[go_sem,seval,ev2,hbg])|(with_reducible first|apply And.intro|intro _)|((try rw[qaa]);omega)
        exact⟨k+1,by omega,by omega,rfl,hst.symm⟩
       ·have hst:qck need (L.take k)=qck need L:=by rw[yaa (by omega)]
        rw[hst];rw[hst] at hsl;simp only[go_sem,seval,ev2,hbg]
        repeat' first|assumption|(simp (disch:=first|assumption|omega|(simp;done)|(simp;omega)) only[yaa];try simp only[go_sem,seval,ev2,hbg])|(with_reducible first|apply And.intro|intro _)|((try rw[qaa]);omega)
        refine qqg (E:=env 0) tok Tryz.follows 1000 1000 [] (.fst 0 (.fst 1 (.fst 2 (.fst 3 (.fst 4 (.fst 7 (.fst 8 (.fst 9 (.fst 10 (.fst 5 (.fst 11 (.one 6 (.one 12 (.fst 13 (.one 14 (.one 15 (.fst 16 (.done)))))))))))))))))) (by kernel_rfl) ?_;simp only[go_sem,seval,ev2,hbg]
        repeat' first|assumption|(simp (disch:=first|assumption|omega|(simp;done)|(simp;omega)) only[yaa];try simp only[go_sem,seval,ev2,hbg])|(with_reducible first|apply And.intro|intro _)|(refine qab htb ?_;simp only[go_sem,seval,ev2,hbg])|(refine qab hcl ?_;simp only[go_sem,seval,ev2,hbg])|((try rw[qaa]);omega)
        ·simp
        ·exact⟨(m,qck need L,⟨c.first+(m:Int),L,qlI c (c.first+(m:Int)) L⟩::out),⟨by simp only;omega,hsl.trans hnl,by simp only[yau];omega,by rw[<-hinv,hstep]⟩,by simp only;omega,⟨rfl,by simp⟩,rfl,by simp,by simp⟩
     ·rw[if_neg hnd] at hstep;rw[Bool.not_eq_true] at hnd;simp only[go_sem,seval,ev2,hnd,hbg]
      repeat' first|assumption|(simp (disch:=first|assumption|omega|(simp;done)|(simp;omega)) only[yaa];try simp only[go_sem,seval,ev2,hnd,hbg])|(with_reducible first|apply And.intro|intro _)|(refine qab hfst ?_;simp only[go_sem,seval,ev2,hnd,hbg])|((try rw[qaa]);omega)
      exact⟨(m,need,out),⟨by simp only;omega,hnl,by simp only;omega,by rw[<-hinv,hstep]⟩,by simp only;omega,⟨rfl,rfl⟩,rfl,rfl,rfl⟩
end Go.Proofs

set_option linter.unusedVariables false
set_option linter.unusedSimpArgs false
namespace Go.VL
theorem qbm {β : Type}{f : β->Nat->β}{b : β}{i:Nat}:(List.range (i+1)).foldl f b=f ((List.range i).foldl f b) i:=by
 rw[yaO,yaQ];rfl
def boxF (s:Int×Int×Int×Int) (t:Int):Int×Int×Int×Int:=(min s.1 (t/5),max s.2.1 (t/5),min s.2.2.1 (t%5),max s.2.2.2 (t%5))
def boxC (tiles:List Int):Int×Int×Int×Int:=tiles.foldl boxF (5,0,5,0)
def qfy (tiles:List Int):Int:=if tiles=[] then 0 else(boxC tiles).2.1-(boxC tiles).1+(boxC tiles).2.2.2-(boxC tiles).2.2.1
theorem qqS {tiles:List Int}(h : ∀ t∈tiles,0<=t/\t<=24):(0<=(boxC tiles).1/\(boxC tiles).1<=5)/\(0<=(boxC tiles).2.1/\(boxC tiles).2.1<=5)/\(0<=(boxC tiles).2.2.1/\(boxC tiles).2.2.1<=5)/\0<=(boxC tiles).2.2.2/\(boxC tiles).2.2.2<=5:=by
 have : ∀ (tiles:List Int) (s:Int×Int×Int×Int),(∀ t∈tiles,0<=t/\t<=24)->((0<=s.1/\s.1<=5)/\(0<=s.2.1/\s.2.1<=5)/\(0<=s.2.2.1/\s.2.2.1<=5)/\0<=s.2.2.2/\s.2.2.2<=5)->
   ((0<=(tiles.foldl boxF s).1/\(tiles.foldl boxF s).1<=5)/\(0<=(tiles.foldl boxF s).2.1/\(tiles.foldl boxF s).2.1<=5)/\(0<=(tiles.foldl boxF s).2.2.1/\(tiles.foldl boxF s).2.2.1<=5)/\0<=(tiles.foldl boxF s).2.2.2/\(tiles.foldl boxF s).2.2.2<=5):=by
  intro tiles;induction tiles with
  | nil=>exact fun s _ h=>h
  | cons t r ih=>
   intro s h hs;have ht:=h t (by simp);exact ih (boxF s t) (fun z hz=>h z (by simp[hz])) (by simp only[boxF];omega)
 exact this tiles (5,0,5,0) h (by simp)
theorem qtg {tiles:List Int}(h : ∀ t∈tiles,0<=t/\t<=24) : -10<=qfy tiles/\qfy tiles<=10:=by
 have:=qqS h;unfold qfy;split <;> omega
def qbL (c:Circ) (net:Int):Nat->List Int
 | 0=>[]
 | o+1=>qbL c net o++(if c.outs.getD o 0/2=net then [(o:Int)*5+4] else [])
def qcl (place:List Int) (i:Int):Int:=place.getD i.toNat 0
def qaz (c:Circ) (cells:List Cel) (place:List Int) (net:Int):List Int:=(qgl cells net).map (qcl place)++qbL c net c.outs.length
def qqT (c:Circ) (net:Int):List Int:=if 1<=net/\net<=c.inputs then [(net-1)*5] else []
def qcC (cells:List Cel) (place:List Int) (net:Int):Nat->List Int
 | 0=>[]
 | i+1=>qcC cells place net i++(if(cells.getD i ce0).net=net then [place.getD i 0] else [])
def addU (out:List Int) (s:Int):List Int:=if s∈out then out else out ++ [s]
def qfz (c:Circ) (cells:List Cel) (place:List Int) (net:Int):List Int:=
 if qaz c cells place net=[] then [] else(qaz c cells place net).foldl addU (qqT c net++qcC cells place net cells.length)
def qoY (c:Circ) (cells:List Cel) (place:List Int):Nat->Int
 | 0=>0
 | k+1=>qoY c cells place k+qfy (qfz c cells place ((k:Int)+1))
def qgn (c:Circ) (cells:List Cel) (place:List Int):Int:=qoY c cells place (c.vars.toNat-1)
structure PlaceOk (n:Nat) (place:List Int):Prop where
 len:place.length=n
 rng : ∀ t∈place,0<=t/\t<=24
 nd:place.Nodup
theorem PlaceOk.get {n:Nat}{place:List Int}(h:PlaceOk n place) {i:Nat}(hi:i<n):0<=place.getD i 0/\place.getD i 0<=24:=h.rng _ (qac (by rw[h.len];exact hi))
theorem qg3 {c:Circ}{net t:Int} : ∀ {n:Nat},t∈qbL c net n↔∃ o:Nat,o<n/\c.outs.getD o 0/2=net/\t=(o:Int)*5+4
 | 0=>by simp[qbL]
 | n+1=>by
  rw[qbL,yas,qg3];constructor
  ·rintro(⟨o,h1,h2,h3⟩|h)
   ·exact⟨o,by omega,h2,h3⟩
   ·split at h
    ·rename_i h2;exact⟨n,by omega,h2,by simpa using h⟩
    ·simp at h
  ·rintro⟨o,h1,h2,h3⟩;by_cases ho:o<n
   ·exact .inl ⟨o,ho,h2,h3⟩
   ·obtain rfl:o=n:=by omega
    rw[if_pos h2];exact .inr (by simp[h3])
theorem qhu {cells:List Cel}{place:List Int}{net t:Int} : ∀ {n:Nat},t∈qcC cells place net n↔∃ i:Nat,i<n/\(cells.getD i ce0).net=net/\t=place.getD i 0
 | 0=>by simp[qcC]
 | n+1=>by
  rw[qcC,yas,qhu];constructor
  ·rintro(⟨o,h1,h2,h3⟩|h)
   ·exact⟨o,by omega,h2,h3⟩
   ·split at h
    ·rename_i h2;exact⟨n,by omega,h2,by simpa using h⟩
    ·simp at h
  ·rintro⟨o,h1,h2,h3⟩;by_cases ho:o<n
   ·exact .inl ⟨o,ho,h2,h3⟩
   ·obtain rfl:o=n:=by omega
    rw[if_pos h2];exact .inr (by simp[h3])
theorem qcD {c:Circ}{cells:List Cel}{place:List Int}{net t:Int}:t∈qaz c cells place net↔(∃ i:Nat,i<cells.length/\net∈(cells.getD i ce0).inputs/\t=place.getD i 0)∨∃ o:Nat,o<c.outs.length/\c.outs.getD o 0/2=net/\t=(o:Int)*5+4:=by
 rw[qaz,yas,qg3,List.mem_map];constructor
 ·rintro(⟨i,h1,rfl⟩|h)
  ·obtain⟨j,h2,h3,rfl⟩:=qfn.1 h1;exact .inl ⟨j,h2,h3,rfl⟩
  ·exact .inr h
 ·rintro(⟨i,h1,h2,rfl⟩|h)
  ·exact .inl ⟨(i:Int),qfn.2 ⟨i,h1,h2,rfl⟩,rfl⟩
  ·exact .inr h
theorem qnX {out:List Int}{s z:Int}:z∈addU out s↔z∈out∨z=s:=by
 unfold addU;split
 ·rename_i h;constructor
  ·exact .inl
  ·rintro(h1|rfl)
   ·exact h1
   ·exact h
 ·simp
theorem qgo {z:Int} : ∀ {l out:List Int},z∈l.foldl addU out↔z∈out∨z∈l
 | [],out=>by simp
 | s::l,out=>by
  rw[yap,qgo,qnX,yaA,or_assoc]
theorem qd6 : ∀ {l out:List Int},∃ r,l.foldl addU out=out++r
 | [],out=>⟨[],by simp⟩
 | s::l,out=>by
  obtain⟨r,hr⟩:=qd6 (l:=l) (out:=addU out s);rw[yap,hr];unfold addU;split
  ·exact⟨r,rfl⟩
  ·exact⟨s::r,by simp⟩
theorem qnY {c:Circ}{cells:List Cel}{place:List Int}(hc:c.Valid) (hp:PlaceOk cells.length place) {net:Int} : ∀ t∈qfz c cells place net,0<=t/\t<=24:=by
 intro t ht;have hlo:=hc.lo;have hi1:=hc.i1;unfold qfz at ht;split at ht
 ·simp at ht
 ·rw[qgo,yas] at ht;rcases ht with(h|h)|h
  ·unfold qqT at h;split at h
   ·obtain rfl:t=(net-1)*5:=by simpa using h
    omega
   ·simp at h
  ·obtain⟨i,h1,h2,rfl⟩:=qhu.1 h;exact hp.get h1
  ·rcases qcD.1 h with⟨i,h1,h2,rfl⟩|⟨o,h1,h2,rfl⟩
   ·exact hp.get h1
   ·omega
def tryP (place:List Int) (i:Nat) (tile:Int):List Int:=(place.map fun x=>if x=tile then place.getD i 0 else x).set i tile
theorem qhM {place:List Int}{i:Nat}{tile:Int}:(tryP place i tile).length=place.length:=by simp[tryP]
theorem qhN {place:List Int}{i j:Nat}{tile:Int}(hj:j<place.length):(tryP place i tile).getD j 0=if j=i then tile else if place.getD j 0=tile then place.getD i 0 else place.getD j 0:=by
 unfold tryP;by_cases h:j=i
 ·subst h;simp[List.getD,hj]
 ·simp[List.getD,List.getElem?_set,Ne.symm h,hj,h]
theorem qd7 {l:List Int}:l.Nodup↔∀ i j,i<l.length->j<l.length->l.getD i 0=l.getD j 0->i=j:=by
 rw[List.nodup_iff_pairwise_ne,ybj];constructor
 ·intro h i j hi hj e;have e2:l[i]=l[j]:=by simpa [List.getD,hi,hj] using e
  rcases Nat.lt_trichotomy i j with h1|h1|h1
  ·exact absurd e2 (h i j hi hj h1)
  ·exact h1
  ·exact absurd e2.symm (h j i hj hi h1)
 ·intro h i j hi hj hij e;have:=h i j hi hj (by simpa [List.getD,hi,hj] using e);omega
theorem PlaceOk.try_ {n:Nat}{place:List Int}(h:PlaceOk n place) {i:Nat}(hi:i<n) {tile:Int}(ht:0<=tile/\tile<=24):PlaceOk n (tryP place i tile):=by
 have hl:=h.len;refine⟨by rw[qhM,hl],fun t hm=>?_,?_⟩
 ·obtain⟨j,hj,rfl⟩:=qaE 0 hm;rw[qhM,hl] at hj;rw[qhN (by omega)];have:=h.get hi;have:=h.get hj;split
  ·exact ht
  ·split <;> omega
 ·have hnd:=qd7.1 h.nd;refine qd7.2 fun a b ha hb e=>?_
  rw[qhM,hl] at ha hb;rw[qhN (by omega),qhN (by omega)] at e;by_cases h1:a=i
  ·by_cases h2:b=i
   ·omega
   ·rw[if_pos h1,if_neg h2] at e;split at e
    ·rename_i h3;have:=hnd b i (by omega) (by omega) (by rw[h3,e]);omega
    ·rename_i h3;exact absurd e.symm h3
  ·by_cases h2:b=i
   ·rw[if_neg h1,if_pos h2] at e;split at e
    ·rename_i h3;have:=hnd a i (by omega) (by omega) (by rw[h3,<-e]);omega
    ·rename_i h3;exact absurd e h3
   ·rw[if_neg h1,if_neg h2] at e;split at e
    ·rename_i h3;split at e
     ·rename_i h4;exact hnd a b (by omega) (by omega) (by rw[h3,h4])
     ·have:=hnd i b (by omega) (by omega) e;omega
    ·split at e
     ·have:=hnd a i (by omega) (by omega) e;omega
     ·exact hnd a b (by omega) (by omega) e
def qhD (c:Circ) (cells:List Cel) (i:Nat) (st:List Int×Int) (t:Nat):List Int×Int:=
 if qgn c cells (tryP st.1 i (t:Int))<st.2 then(tryP st.1 i (t:Int),qgn c cells (tryP st.1 i (t:Int))) else st
def rowP (c:Circ) (cells:List Cel) (st:List Int×Int) (i:Nat):List Int×Int:=(List.range 25).foldl (qhD c cells i) st
def qfF (c:Circ) (cells:List Cel) (st:List Int×Int) (s:Nat):List Int×Int:=(List.range cells.length).foldl (rowP c cells) st
def qeI (n:Nat):List Int:=(List.range n).map fun(i:Nat)=>(i:Int)
def qdb (c:Circ) (cells:List Cel):List Int:=((List.range 3).foldl (qfF c cells) (qeI cells.length,qgn c cells (qeI cells.length))).1
theorem qth {c:Circ}{cells:List Cel}{i:Nat}(hi:i<cells.length) {st:List Int×Int}(h:PlaceOk cells.length st.1) {t:Nat}(ht:t<25):PlaceOk cells.length (qhD c cells i st t).1:=by
 unfold qhD;split
 ·exact h.try_ hi (by omega)
 ·exact h
theorem qm4 {c:Circ}{cells:List Cel}{i:Nat}(hi:i<cells.length) {st:List Int×Int}(h:PlaceOk cells.length st.1) : ∀ t,t<=25->PlaceOk cells.length ((List.range t).foldl (qhD c cells i) st).1
 | 0,_=>h
 | t+1,ht=>by
  rw[qbm];exact qth hi (qm4 hi h t (by omega)) (by omega)
theorem qiS {c:Circ}{cells:List Cel}{st:List Int×Int}(h:PlaceOk cells.length st.1) : ∀ n,n<=cells.length->PlaceOk cells.length ((List.range n).foldl (rowP c cells) st).1
 | 0,_=>h
 | n+1,hn=>by
  rw[qbm];exact qm4 (by omega) (qiS h n (by omega)) 25 (by omega)
theorem qnZ {n:Nat}(h:n<=25):PlaceOk n (qeI n):=by
 refine⟨by simp[qeI],fun t ht=>?_,?_⟩
 ·obtain⟨i,hi,rfl⟩:=List.mem_map.1 ht;have:=List.mem_range.1 hi;omega
 ·unfold qeI;rw[List.nodup_iff_pairwise_ne,List.pairwise_map];exact List.Pairwise.imp (fun {a b} h e=>h (by omega)) List.nodup_range
theorem qiT {c:Circ}{cells:List Cel}(hn:cells.length<=25) : ∀ s,PlaceOk cells.length ((List.range s).foldl (qfF c cells) (qeI cells.length,qgn c cells (qeI cells.length))).1
 | 0=>qnZ hn
 | s+1=>by
  rw[qbm];exact qiS (qiT hn s) _ (yad _)
theorem qlQ {c:Circ}{cells:List Cel}(hn:cells.length<=25):PlaceOk cells.length (qdb c cells):=qiT hn 3
end Go.VL

set_option maxRecDepth 20000
set_option linter.unusedVariables false
set_option linter.unusedSimpArgs false
namespace Go.Proofs
open Go Go.VL
abbrev dCe (x:Cel):D:=.agg [dI x.net,dIs x.inputs,dI x.table,dB x.reg]
abbrev dCes (l:List Cel):D:=.lst 4 (l.map fun x=>dCe x)
theorem qaw {l:List Cel}{i:Nat}{z:D}(h:i<l.length):(l.map fun x=>dCe x).getD i z=dCe (l.getD i ce0):=getD_lt _ _ _ _ _ h
def dLat (c:Circ) (i:Nat):D:=if(c.next.getD i 0)/2 > 0 then dCe (qaO c i) else .agg [dI (c.inputs+1+(i:Int)),.nil,dI ((c.next.getD i 0)%2),dB true]
theorem dLat_wk (c:Circ) (i:Nat):WK (dLat c i) (dCe (qaO c i)):=by
 unfold dLat;split
 ·exact .refl _
 ·rename_i h;have e:qaO c i=⟨c.inputs+1+i,[],(c.next.getD i 0)%2,true⟩:=if_neg h;rw[e];exact .aggs ⟨.refl _,.nil (by omega),.refl _,.refl _,trivial⟩
theorem qti (c:Circ):WK (.lst 4 ((List.range c.next.length).map (dLat c)++(qeu c).map fun l=>dCe (qbE l))) (dCes (qad c)):=by
 have e:(qad c).map (fun x=>dCe x)=(List.range c.next.length).map (fun i=>dCe (qaO c i))++(qeu c).map fun l=>dCe (qbE l):=by
  rw[qad,yaE,List.map_map,List.map_map];rfl
 show WK _ (.lst 4 ((qad c).map fun x=>dCe x))
 rw[e];refine .lst (by simp) fun j hj=>?_
 by_cases h:j<c.next.length
 ·rw[qae (by simpa using h),qae (by simpa using h)];simp only[List.getD_eq_getElem?_getD,List.getElem?_map,List.getElem?_range h,yaj,yaf];exact dLat_wk c j
 ·rw[List.getD_eq_getElem?_getD,List.getD_eq_getElem?_getD,List.getElem?_append_right (by simpa using h),List.getElem?_append_right (by simpa using h)];simp only[yay,ybo];exact .refl _
end Go.Proofs
