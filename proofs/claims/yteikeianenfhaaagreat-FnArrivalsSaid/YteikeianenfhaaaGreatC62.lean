/- Contracts, plain definitions and lemmas. Conditions: none; lemmas. -/
import Derived.Test.YteikeianenfhaaaGreatC98
import Derived.Test.YteikeianenfhaaaGreatC61
set_option maxRecDepth 20000
set_option linter.unusedVariables false
set_option linter.unusedSimpArgs false
set_option maxHeartbeats 2000000
namespace Go.Proofs
open Go Go.VL Tryz
theorem Tryz.c_MapLuts (c:Circ) (hc:c.Valid):PureF prog 101 [dC c] (dLus (qcw c)):=by
 have hf:=hc.first_bd;have hi0:=hc.i0;have hi1:=hc.i1;have hlo:=hc.lo;have hln:=hc.ln;have hlg:=hc.lg;have hfst:=c_firstGate c (by omega);have hvs:=c_vars c (by omega);have hcv:=c_CircuitValid c;have hbe:=c_bestCuts c hc;have hro:=c_roots c (by omega);have hvv:c.vars=c.first+(c.gates.length:Int):=rfl
 have hrv:=qfi hc;have hn0:=qk6 (c:=c) (fun z hz=>(hrv z hz).1);have hr2 : ∀ z∈c.roots,0<=z/2/\z/2<c.vars:=fun z hz=>hrv _ (by
  simp only[qaP,List.mem_map,yao];exact⟨z,by simpa [Circ.roots,or_comm] using hz,rfl⟩)
 have hrl:c.roots.length<=2000000:=by unfold Circ.roots;simp;omega
 refine qck (E:=env 0) tok rfl 1000 func101 rfl rfl ntmps101 (by simp) fun ok=>?_
 simp only[go_sem,seval] at ok⊢
 repeat' first|assumption|(simp (disch:=first|assumption|omega|(simp;done)|(simp;omega)) only[yaa];try simp only[go_sem,seval])|(with_reducible first|apply And.intro|intro _)|(refine qad hfst ?_;simp only[go_sem,seval])|(refine qad hcv ?_;simp only[go_sem,seval])|(refine qad hvs ?_;simp only[go_sem,seval])|(refine qad hro ?_;simp only[go_sem,seval])|((try rw[qaa]);omega)
 ·rename_i h9;exact absurd hc h9
 refine qaq hbe [0] (by simp only[go_sem,seval]) ?_;rintro r0 H1 ⟨rfl,rfl⟩;simp only[go_sem,seval]
 repeat' first|assumption|(simp (disch:=first|assumption|omega|(simp;done)|(simp;omega)) only[yaa];try simp only[go_sem,seval])|(with_reducible first|apply And.intro|intro _)|(refine qad hvs ?_;simp only[go_sem,seval])|(refine qad hro ?_;simp only[go_sem,seval])|((try rw[qaa]);omega)
 have hrd:(c.roots.map (· / 2)).length=c.roots.length:=by simp
 generalize hroots:c.roots=roots at *
 refine qai (E:=env 0) tok (σ:=Nat) (fun i=>[(23,.d (dI i)),(22,.d (dI roots.length)),(21,.d (dIs roots)),(5,.sl 1 0 1 0 c.vars.toNat),(3,.d (.lst 1 (qcI c (qa8 c)))),(1,.ptr 0 0)])
  (fun i=>[.box [.d (dI c.inputs),.d (dIs c.next),.d (dPs c.gates),.d (dIs c.outs)],.row 0 1 true ((qa5 (List.replicate c.vars.toNat false) ((roots.map (· / 2)).take i)).map D.bool)])
  (fun i=>i<=roots.length) (fun i=>roots.length-i) [] [] 1000 1000 ?_ ?_
 ·simp only[go_sem,seval];refine⟨0,by omega,?_⟩;simp[qa5]
 ·intro i hi;have hsl:=qb4 ((roots.map (· / 2)).take i) (List.replicate c.vars.toNat false);rw[yaF] at hsl;by_cases hlt:i<roots.length
  ·have hrg:(roots.map (· / 2)).getD i 0=roots.getD i 0/2:=by simp[List.getD,hlt]
   have hbd:=hr2 _ (qab hlt:roots.getD i 0∈roots);have hst:qa5 (List.replicate c.vars.toNat false) ((roots.map (· / 2)).take (i+1))=(qa5 (List.replicate c.vars.toNat false) ((roots.map (· / 2)).take i)).set (roots.getD i 0/2).toNat true:=by
    rw[<-hrg];exact qaw (f:=fun(n:List Bool) (v:Int)=>n.set v.toNat true) (b:=List.replicate c.vars.toNat false) (0:Int) (by rw[hrd];exact hlt)
   simp only[go_sem,seval]
   repeat' first|assumption|(simp (disch:=first|assumption|omega|(simp;done)|(simp;omega)) only[yaa];try simp only[go_sem,seval])|(with_reducible first|apply And.intro|intro _)|((try rw[qaa]);omega)
   exact⟨i+1,by omega,by omega,rfl,by rw[hst]⟩
  ·have hst:qa5 (List.replicate c.vars.toNat false) ((roots.map (· / 2)).take i)=qez c:=by rw[<-hn0,yaa (by rw[hrd];omega)]
   rw[hst];simp only[go_sem,seval]
   repeat' first|assumption|(simp (disch:=first|assumption|omega|(simp;done)|(simp;omega)) only[yaa];try simp only[go_sem,seval])|(with_reducible first|apply And.intro|intro _)|(refine qad hvs ?_;simp only[go_sem,seval])|((try rw[qaa]);omega)
   have hne0:=qhH c;have hlu:qcw c=mapD c c.gates.length (qez c) []:=rfl;refine qai (E:=env 0) tok (σ:=Nat×List Bool×List Lut) (fun s=>[(9,.d (dI (c.first+(s.1:Int)-1))),(8,.sl 2 s.2.2.length 3 0 s.2.2.length),(5,.sl 1 0 1 0 c.vars.toNat),(3,.d (.lst 1 (qcI c (qa8 c)))),(1,.ptr 0 0)])
    (fun s=>[.box [.d (dI c.inputs),.d (dIs c.next),.d (dPs c.gates),.d (dIs c.outs)],.row 0 1 true (s.2.1.map D.bool),.row s.2.2.length 3 false (s.2.2.reverse.map fun x=>dLu x)])
    (fun s=>s.1<=c.gates.length/\s.2.1.length=c.vars.toNat/\s.2.2.length+s.1<=c.gates.length/\mapD c s.1 s.2.1 s.2.2=qcw c) (fun s=>s.1) [] [(8,3,false)] 1000 1000 ?_ ?_
   ·simp only[go_sem,seval];refine⟨(c.gates.length,qez c,[]),⟨by simp,hne0,by simp,hlu.symm⟩,?_⟩;simp;omega
   ·rintro⟨j,need,out⟩ ⟨hj,hnl,hol,hinv⟩;simp only at hj hnl hol hinv;cases j with
    | zero=>
     simp only[go_sem,seval]
     repeat' first|assumption|(simp (disch:=first|assumption|omega|(simp;done)|(simp;omega)) only[yaa];try simp only[go_sem,seval])|(with_reducible first|apply And.intro|intro _)|(refine qad hfst ?_;simp only[go_sem,seval])|((try rw[qaa]);omega)
     have hrl9:out.length=out.reverse.length:=by simp
     rw[hrl9];refine qaq (c_ReverseL out.reverse.length out.reverse (by simp;omega)) [2] (by simp only[go_sem,seval]) ?_
     ·rintro r0 H1 rfl;rw[List.reverse_reverse];have hmd:mapD c 0 need out=out:=rfl;rw[<-hinv,hmd];simp only[go_sem,seval]
      repeat' first|assumption|(simp (disch:=first|assumption|omega|(simp;done)|(simp;omega)) only[yaa];try simp only[go_sem,seval])|(with_reducible first|apply And.intro|intro _)|((try rw[qaa]);omega)
    | succ m=>
     have hbo:=qcy hc (i:=m) (by omega);have hbl:=qj5 c;have ev:(c.first+((m+1:Nat):Int)-1)=c.first+(m:Int):=by omega
     have ev2:(c.first+(m:Int)).toNat=c.first.toNat+m:=by omega
     have hbg : ∀ z,(qcI c (qa8 c)).getD (c.first.toNat+m) z=dIs ((qa8 c).getD (c.first.toNat+m) []):=fun z=>qj9 (by omega) (by omega)
     have hstep:mapD c (m+1) need out=if need.getD (c.first.toNat+m) false=true then
       mapD c m (qa5 need ((qa8 c).getD (c.first.toNat+m) [])) (⟨c.first+(m:Int),(qa8 c).getD (c.first.toNat+m) [],qfJ c (c.first+(m:Int)) ((qa8 c).getD (c.first.toNat+m) [])⟩::out)
      else mapD c m need out:=rfl
     have htb:=c_coneTable c hc (c.first+(m:Int)) (by omega) (by omega) ((qa8 c).getD (c.first.toNat+m) []) hbo.2.1 hbo.1 (fun z hz=>by have:=hbo.2.2 z hz;omega);have hcl:=c_CloneJ ((qa8 c).getD (c.first.toNat+m) []) (by have:=hbo.2.1;omega);have hbD:(qcI c (qa8 c)).length=c.first.toNat+c.gates.length:=by rw[qcH (by omega)];exact hbl
     rw[ev];generalize hL:(qa8 c).getD (c.first.toNat+m) []=L at *
     by_cases hnd:need.getD (c.first.toNat+m) false=true
     ·rw[if_pos hnd] at hstep;simp only[go_sem,seval,ev2,hnd,hbg]
      repeat' first|assumption|(simp (disch:=first|assumption|omega|(simp;done)|(simp;omega)) only[yaa];try simp only[go_sem,seval,ev2,hnd,hbg])|(with_reducible first|apply And.intro|intro _)|(refine qad hfst ?_;simp only[go_sem,seval,ev2,hnd,hbg])|((try rw[qaa]);omega)
      refine qai (E:=env 0) tok (σ:=Nat) (fun k=>[(49,.d (dI k)),(48,.d (dI L.length)),(47,.d (dIs L)),(9,.d (dI (c.first+(m:Int)))),(8,.sl 2 out.length 3 0 out.length),(5,.sl 1 0 1 0 c.vars.toNat),(3,.d (.lst 1 (qcI c (qa8 c)))),(1,.ptr 0 0)])
       (fun k=>[.box [.d (dI c.inputs),.d (dIs c.next),.d (dPs c.gates),.d (dIs c.outs)],.row 0 1 true ((qa5 need (L.take k)).map D.bool),.row out.length 3 false (out.reverse.map fun x=>dLu x)])
       (fun k=>k<=L.length) (fun k=>L.length-k) [] [] 1000 1000 ?_ ?_
      ·simp only[go_sem,seval];exact⟨0,by omega,rfl,rfl⟩
      ·intro k hk;have hsl:=qb4 (L.take k) need;by_cases hkt:k<L.length
       ·have hst:qa5 need (L.take (k+1))=(qa5 need (L.take k)).set (L.getD k 0).toNat true:=qaw (f:=fun(n:List Bool) (v:Int)=>n.set v.toNat true) (b:=need) (0:Int) hkt;have hz:=hbo.2.2 _ (qab hkt:L.getD k 0∈L);simp only[go_sem,seval,ev2,hbg]
        repeat' first|assumption|(simp (disch:=first|assumption|omega|(simp;done)|(simp;omega)) only[yaa];try simp only[go_sem,seval,ev2,hbg])|(with_reducible first|apply And.intro|intro _)|((try rw[qaa]);omega)
        exact⟨k+1,by omega,by omega,rfl,hst.symm⟩
       ·have hst:qa5 need (L.take k)=qa5 need L:=by rw[yaa (by omega)]
        rw[hst];rw[hst] at hsl;simp only[go_sem,seval,ev2,hbg]
        repeat' first|assumption|(simp (disch:=first|assumption|omega|(simp;done)|(simp;omega)) only[yaa];try simp only[go_sem,seval,ev2,hbg])|(with_reducible first|apply And.intro|intro _)|((try rw[qaa]);omega)
        refine qda (E:=env 0) tok Tryz.follows 1000 1000 [] (.fst 0 (.fst 1 (.fst 2 (.fst 3 (.fst 4 (.fst 7 (.fst 8 (.fst 9 (.fst 10 (.fst 5 (.fst 11 (.one 6 (.one 12 (.fst 13 (.one 14 (.one 15 (.fst 16 (.done)))))))))))))))))) (by kernel_rfl) ?_;simp only[go_sem,seval,ev2,hbg]
        repeat' first|assumption|(simp (disch:=first|assumption|omega|(simp;done)|(simp;omega)) only[yaa];try simp only[go_sem,seval,ev2,hbg])|(with_reducible first|apply And.intro|intro _)|(refine qad htb ?_;simp only[go_sem,seval,ev2,hbg])|(refine qad hcl ?_;simp only[go_sem,seval,ev2,hbg])|((try rw[qaa]);omega)
        ·simp
        ·exact⟨(m,qa5 need L,⟨c.first+(m:Int),L,qfJ c (c.first+(m:Int)) L⟩::out),⟨by simp only;omega,hsl.trans hnl,by simp only[yah];omega,by rw[<-hinv,hstep]⟩,by simp only;omega,⟨rfl,by simp⟩,rfl,by simp,by simp⟩
     ·rw[if_neg hnd] at hstep;rw[Bool.not_eq_true] at hnd;simp only[go_sem,seval,ev2,hnd,hbg]
      repeat' first|assumption|(simp (disch:=first|assumption|omega|(simp;done)|(simp;omega)) only[yaa];try simp only[go_sem,seval,ev2,hnd,hbg])|(with_reducible first|apply And.intro|intro _)|(refine qad hfst ?_;simp only[go_sem,seval,ev2,hnd,hbg])|((try rw[qaa]);omega)
      exact⟨(m,need,out),⟨by simp only;omega,hnl,by simp only;omega,by rw[<-hinv,hstep]⟩,by simp only;omega,⟨rfl,rfl⟩,rfl,rfl,rfl⟩
end Go.Proofs

set_option linter.unusedVariables false
set_option linter.unusedSimpArgs false
namespace Go.VL
def qaR (c:Circ) (net:Int):Nat->List Int
 | 0=>[]
 | o+1=>qaR c net o++(if c.outs.getD o 0/2=net then [(o:Int)*5+4] else [])
def qbp (place:List Int) (i:Int):Int:=place.getD i.toNat 0
def qaE (c:Circ) (cells:List Cel) (place:List Int) (net:Int):List Int:=(qcJ cells net).map (qbp place)++qaR c net c.outs.length
def qgL (c:Circ) (net:Int):List Int:=if 1<=net/\net<=c.inputs then [(net-1)*5] else []
def qaY (cells:List Cel) (place:List Int) (net:Int):Nat->List Int
 | 0=>[]
 | i+1=>qaY cells place net i++(if(cells.getD i ce0).net=net then [place.getD i 0] else [])
def addU (out:List Int) (s:Int):List Int:=if s∈out then out else out ++ [s]
def qds (c:Circ) (cells:List Cel) (place:List Int) (net:Int):List Int:=
 if qaE c cells place net=[] then [] else(qaE c cells place net).foldl addU (qgL c net++qaY cells place net cells.length)
structure PlaceOk (n:Nat) (place:List Int):Prop where
 len:place.length=n
 rng : ∀ t∈place,0<=t/\t<=24
 nd:place.Nodup
theorem PlaceOk.get {n:Nat}{place:List Int}(h:PlaceOk n place) {i:Nat}(hi:i<n):0<=place.getD i 0/\place.getD i 0<=24:=h.rng _ (qab (by rw[h.len];exact hi))
theorem qiB {c:Circ}{net t:Int} : ∀ {n:Nat},t∈qaR c net n↔∃ o:Nat,o<n/\c.outs.getD o 0/2=net/\t=(o:Int)*5+4
 | 0=>by simp[qaR]
 | n+1=>by
  rw[qaR,yao,qiB];constructor
  ·rintro(⟨o,h1,h2,h3⟩|h)
   ·exact⟨o,by omega,h2,h3⟩
   ·split at h
    ·rename_i h2;exact⟨n,by omega,h2,by simpa using h⟩
    ·simp at h
  ·rintro⟨o,h1,h2,h3⟩;by_cases ho:o<n
   ·exact .inl ⟨o,ho,h2,h3⟩
   ·obtain rfl:o=n:=by omega
    rw[if_pos h2];exact .inr (by simp[h3])
theorem qgD {cells:List Cel}{place:List Int}{net t:Int} : ∀ {n:Nat},t∈qaY cells place net n↔∃ i:Nat,i<n/\(cells.getD i ce0).net=net/\t=place.getD i 0
 | 0=>by simp[qaY]
 | n+1=>by
  rw[qaY,yao,qgD];constructor
  ·rintro(⟨o,h1,h2,h3⟩|h)
   ·exact⟨o,by omega,h2,h3⟩
   ·split at h
    ·rename_i h2;exact⟨n,by omega,h2,by simpa using h⟩
    ·simp at h
  ·rintro⟨o,h1,h2,h3⟩;by_cases ho:o<n
   ·exact .inl ⟨o,ho,h2,h3⟩
   ·obtain rfl:o=n:=by omega
    rw[if_pos h2];exact .inr (by simp[h3])
theorem qfL {c:Circ}{cells:List Cel}{place:List Int}{net t:Int}:t∈qaE c cells place net↔(∃ i:Nat,i<cells.length/\net∈(cells.getD i ce0).inputs/\t=place.getD i 0)∨∃ o:Nat,o<c.outs.length/\c.outs.getD o 0/2=net/\t=(o:Int)*5+4:=by
 rw[qaE,yao,qiB,List.mem_map];constructor
 ·rintro(⟨i,h1,rfl⟩|h)
  ·obtain⟨j,h2,h3,rfl⟩:=qdL.1 h1;exact .inl ⟨j,h2,h3,rfl⟩
  ·exact .inr h
 ·rintro(⟨i,h1,h2,rfl⟩|h)
  ·exact .inl ⟨(i:Int),qdL.2 ⟨i,h1,h2,rfl⟩,rfl⟩
  ·exact .inr h
theorem qlN {out:List Int}{s z:Int}:z∈addU out s↔z∈out∨z=s:=by
 unfold addU;split
 ·rename_i h;constructor
  ·exact .inl
  ·rintro(h1|rfl)
   ·exact h1
   ·exact h
 ·simp
theorem qhJ {z:Int} : ∀ {l out:List Int},z∈l.foldl addU out↔z∈out∨z∈l
 | [],out=>by simp
 | s::l,out=>by
  rw[yan,qhJ,qlN,yas,or_assoc]
theorem qfM : ∀ {l out:List Int},∃ r,l.foldl addU out=out++r
 | [],out=>⟨[],by simp⟩
 | s::l,out=>by
  obtain⟨r,hr⟩:=qfM (l:=l) (out:=addU out s);rw[yan,hr];unfold addU;split
  ·exact⟨r,rfl⟩
  ·exact⟨s::r,by simp⟩
theorem qjh {c:Circ}{cells:List Cel}{place:List Int}(hc:c.Valid) (hp:PlaceOk cells.length place) {net:Int} : ∀ t∈qds c cells place net,0<=t/\t<=24:=by
 intro t ht;have hlo:=hc.lo;have hi1:=hc.i1;unfold qds at ht;split at ht
 ·simp at ht
 ·rw[qhJ,yao] at ht;rcases ht with(h|h)|h
  ·unfold qgL at h;split at h
   ·obtain rfl:t=(net-1)*5:=by simpa using h
    omega
   ·simp at h
  ·obtain⟨i,h1,h2,rfl⟩:=qgD.1 h;exact hp.get h1
  ·rcases qfL.1 h with⟨i,h1,h2,rfl⟩|⟨o,h1,h2,rfl⟩
   ·exact hp.get h1
   ·omega
theorem qiC {l:List Int}:l.Nodup↔∀ i j,i<l.length->j<l.length->l.getD i 0=l.getD j 0->i=j:=by
 rw[List.nodup_iff_pairwise_ne,List.pairwise_iff_getElem];constructor
 ·intro h i j hi hj e;have e2:l[i]=l[j]:=by simpa [List.getD,hi,hj] using e
  rcases Nat.lt_trichotomy i j with h1|h1|h1
  ·exact absurd e2 (h i j hi hj h1)
  ·exact h1
  ·exact absurd e2.symm (h j i hj hi h1)
 ·intro h i j hi hj hij e;have:=h i j hi hj (by simpa [List.getD,hi,hj] using e);omega
end Go.VL
