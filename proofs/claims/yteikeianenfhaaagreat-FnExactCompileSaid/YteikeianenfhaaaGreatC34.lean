/- Contracts, plain definitions and lemmas. Conditions: none; lemmas. -/
import Derived.Test.YteikeianenfhaaaGreatC32
set_option maxRecDepth 20000
set_option linter.unusedSimpArgs false
set_option linter.unusedVariables false
set_option maxHeartbeats 2000000
namespace Go.Proofs
set_option linter.defProp false
open Go Go.VL Tryz
variable {first r:Int}{u:List Bool}
def lmap (m:List Int) (l:Int):Int:=if l%2=1 then flip (m.getD (l/2).toNat 0) else m.getD (l/2).toNat 0
def BQ {x:Int}(h:0<=x):((x.toNat ^^^ (0:Int).toNat:Nat):Int)=x:=by simp;omega
def Tryz.bf (m:List Int) (l:Int) (h:0<=l/\l<2*m.length) (hm : ∀ x∈m,0<=x):Pure prog 202 [ai m,dI l] (dI (lmap m l)):=by
 refine bw func202 rfl ntmps202 fun ok=>?_
 simp only[go_sem,seval] at ok;have hx:=hm _ (aP (l:=m) (i:=(l/2).toNat) (z:=0) (by omega));have h2:=aB (y:=2) h.1;simp only[go_sem,seval]
 repeat' first|assumption|simp (disch:=first|assumption|omega|simp;try omega) only[aB];try simp only[go_sem,seval]|(with_reducible first|apply aa|intro)|(try rw[ae]);omega
 rcases Int.emod_two_eq l with e|e
 ·rw[e,BQ hx,lmap,if_neg (by omega)]
 ·rw[e,pZ hx,lmap,if_pos (by omega)]
def kw (first:Int) (u:List Bool) (r:Int):List Bool:=if first<=r/2 then u.set (r/2-first).toNat true else u
def jx (first:Int) (l:List Int) (u:List Bool):Nat->List Bool
 | 0=>u
 | i+1=>kw first (jx first l u i) (l.getD i 0)
def iP (c:ac) (u:List Bool) (i:Nat):Nat->List Bool
 | 0=>u
 | 1=>if u.getD i false then kw c.first u (c.gates.getD i (0,0)).1 else u
 | _=>if u.getD i false then kw c.first (kw c.first u (c.gates.getD i (0,0)).1) (c.gates.getD i (0,0)).2 else u
def aV (c:ac):Nat->List Bool
 | 0=>jx c.first (c.outs++c.next) (List.replicate c.gates.length false) (c.outs++c.next).length
 | k+1=>iP c (aV c k) (c.gates.length-1-k) 2
def BI:(kw first u r).length=u.length:=by unfold kw;split <;> simp
def BJ {first:Int}{l:List Int}{u:List Bool} : ∀ i,(jx first l u i).length=u.length
 | 0=>rfl
 | i+1=>by rw[jx,BI,BJ i]
def Jr {c:ac}{i:Nat} : ∀ k,(iP c u i k).length=u.length
 | 0=>rfl
 | 1=>by simp only[iP];split <;> simp[BI]
 | k+2=>by simp only[iP];split <;> simp[BI]
def sU {c:ac} : ∀ k,(aV c k).length=c.gates.length
 | 0=>by rw[aV,BJ];simp
 | k+1=>by rw[aV,Jr,sU k]
def Ou {G:Nat}(h:r<2*(first+(G:Int))):(kw first u r).getD G false=u.getD G false:=by
 unfold kw;split
 ·rw[List.getD_eq_getElem?_getD,List.getElem?_set_ne (by omega),<-List.getD_eq_getElem?_getD]
 ·rfl
set_option maxHeartbeats 4000000 in
def Tryz.md (c:ac) (hv:c.Valid):Pure prog 200 [dC c] (eZ (aV c c.gates.length)):=by
 refine bw func200 rfl ntmps200 fun ok=>?_
 simp only[go_sem,seval] at ok;have hfb:=hv.am;have hvb:=hv.aM;have hln:=hv.ln;have hlg:=hv.lg;have hlo:=hv.lo;have hi0:=hv.i0;have hi1:=hv.i1;simp only[go_sem,seval]
 repeat' first|assumption|simp (disch:=first|assumption|omega|simp;try omega) only[aB];try simp only[go_sem,seval]|(with_reducible first|apply aa|intro)|(refine aA (ba c (by omega)) ?_;simp only[go_sem,seval])|(try rw[ae]);omega
 refine cg (n:=0) [3,6] (aw [1,4,2] (.two 0 (.two 3 (.one 5 (.one 6 (.fst 7 .done))) 5 (.one 3 (.one 6 (.fst 7 .done)))) 5 (.one 0 (.one 3 (.one 6 (.fst 7 .done)))))) ?_;simp only[go_sem,seval]
 repeat' first|assumption|simp (disch:=first|assumption|omega|simp;try omega) only[aB];try simp only[go_sem,seval]|(with_reducible first|apply aa|intro)|(try rw[ae]);omega
 all_goals (
  have hrl : ∀ i,i<(c.outs++c.next).length->bj ((c.outs++c.next).getD i 0) c.vars:=fun i hi=>by
   have:=aP (l:=c.outs++c.next) (i:=i) (z:=0) hi;rcases List.mem_append.1 this with h|h
   ·exact hv.o _ h
   ·exact hv.n _ h
  have hll:(c.outs++c.next).length<=6:=by simp;omega
  have hve:c.vars=c.first+c.gates.length:=rfl
  refine ce (E:=env 0) tok (σ:=Nat) (fun i=>[(1,.ptr 0 0),(3,.d (dI c.first)),(4,.sl 1 0 1 0 c.gates.length),(5,.d (ai (c.outs++c.next))),(6,.d (dI i))])
   (fun i=>[.box [.d (dI c.inputs),.d (ai c.next),.d (aO c.gates),.d (ai c.outs)],.row 0 1 true ((jx c.first (c.outs++c.next) (List.replicate c.gates.length false) i).map D.bool)]) (fun i=>i<=(c.outs++c.next).length) (fun i=>(c.outs++c.next).length-i) [] 1000 1000 ?_ ?_ ?_
  ·simp only[go_sem,seval]
  ·simp only[go_sem,seval];exact⟨0,by omega,⟨ag (by rw[cr];exact aC _),rfl⟩,rfl⟩
  ·intro i hi;have hml:(jx c.first (c.outs++c.next) (List.replicate c.gates.length false) i).length=c.gates.length:=by rw[BJ];simp
   have hs:jx c.first (c.outs++c.next) (List.replicate c.gates.length false) (i+1)=kw c.first (jx c.first (c.outs++c.next) (List.replicate c.gates.length false) i) ((c.outs++c.next).getD i 0):=rfl
   have hr:=hrl i;have hq:aV c 0=jx c.first (c.outs++c.next) (List.replicate c.gates.length false) (c.outs++c.next).length:=rfl
   generalize c.outs++c.next=rs at *
   unfold bj at hr;by_cases hlt:i<rs.length
   ·have hr:=hr hlt;simp only[go_sem,seval]
    repeat' first|assumption|simp (disch:=first|assumption|omega|simp;try omega) only[aB];try simp only[go_sem,seval]|(with_reducible first|apply aa|intro)|(try rw[ae]);omega
    ·rename_i h1 h2;exact⟨i+1,by omega,by omega,rfl,by rw[hs,kw,if_pos h2]⟩
    ·rename_i h1 h2;exact⟨i+1,by omega,by omega,rfl,by rw[hs,kw,if_neg h2]⟩
   ·obtain rfl:i=rs.length:=by omega
    simp only[go_sem,seval]
    repeat' first|assumption|simp (disch:=first|assumption|omega|simp;try omega) only[aB];try simp only[go_sem,seval]|(with_reducible first|apply aa|intro)|(try rw[ae]);omega
    rw[<-hq];refine ce (E:=env 0) tok (σ:=Nat) (fun k=>[(1,.ptr 0 0),(3,.d (dI c.first)),(4,.sl 1 0 1 0 c.gates.length),(7,.d (dI ((c.gates.length:Int)-1-(k:Int))))])
     (fun k=>[.box [.d (dI c.inputs),.d (ai c.next),.d (aO c.gates),.d (ai c.outs)],.row 0 1 true ((aV c k).map D.bool)]) (fun k=>k<=c.gates.length) (fun k=>c.gates.length-k) [] 1000 1000 ?_ ?_ ?_
    ·simp only[go_sem,seval]
    ·simp only[go_sem,seval];exact⟨0,by omega,by simp,rfl⟩
    ·intro k hk;have hul:=sU (c:=c) k;by_cases hlt:k<c.gates.length
     ·have hg:=hv.g (c.gates.length-1-k) (by omega);unfold bj at hg;have hki:((c.gates.length:Int)-1-(k:Int)).toNat=c.gates.length-1-k:=by omega
      have hs2:aV c (k+1)=iP c (aV c k) (c.gates.length-1-k) 2:=rfl;simp only[go_sem,seval,hki]
      repeat' first|assumption|simp (disch:=first|assumption|omega|simp;try omega) only[aB];try simp only[go_sem,seval,hki]|(with_reducible first|apply aa|intro)|(try rw[ae]);omega
      refine cg (n:=0) [] (aw [0,2,7,9,1,3,4,5,6,8,10,11,12,13] (.one 14 (.fst 15 .done))) ?_;simp only[go_sem,seval,hki]
      repeat' first|assumption|simp (disch:=first|assumption|omega|simp;try omega) only[aB];try simp only[go_sem,seval,hki]|(with_reducible first|apply aa|intro)|(try rw[ae]);omega
      all_goals (
       have hu0 : ∀ u,iP c u (c.gates.length-1-k) 0=u:=fun u=>rfl
       have hu1 : ∀ u,iP c u (c.gates.length-1-k) 1=if u.getD (c.gates.length-1-k) false then kw c.first u (c.gates.getD (c.gates.length-1-k) (0,0)).1 else u:=fun u=>rfl
       have hu2 : ∀ u,iP c u (c.gates.length-1-k) 2=if u.getD (c.gates.length-1-k) false then kw c.first (kw c.first u (c.gates.getD (c.gates.length-1-k) (0,0)).1) (c.gates.getD (c.gates.length-1-k) (0,0)).2 else u:=fun u=>rfl
       generalize hG:c.gates.length-1-k=G at *
       generalize hA:(c.gates.getD G (0,0)).1=A at *
       generalize hB:(c.gates.getD G (0,0)).2=B at *
       refine ce (E:=env 0) tok (σ:=Nat) (fun j=>[(1,.ptr 0 0),(3,.d (dI c.first)),(4,.sl 1 0 1 0 c.gates.length),(7,.d (dI ((c.gates.length:Int)-1-(k:Int)))),(8,.d (ai [A/2,B/2])),(9,.d (dI j))])
        (fun j=>[.box [.d (dI c.inputs),.d (ai c.next),.d (aO c.gates),.d (ai c.outs)],.row 0 1 true ((iP c (aV c k) G j).map D.bool)]) (fun j=>j<=2) (fun j=>2-j) [] 1000 1000 ?_ ?_ ?_
       ·simp only[go_sem,seval]
       ·simp only[go_sem,seval];exact⟨0,by omega,rfl,rfl⟩
       ·intro j hj;have hil:=Jr (c:=c) (u:=aV c k) (i:=G) j;obtain rfl|rfl|rfl:j=0∨j=1∨j=2:=by omega
        ·simp only[go_sem,seval,hki,hu0]
         repeat' first|assumption|simp (disch:=first|assumption|omega|simp;try omega) only[aB];try simp only[go_sem,seval,hki,hu0]|(with_reducible first|apply aa|intro)|(try rw[ae]);omega
         all_goals (
          refine⟨1,by omega,by omega,rfl,?_⟩;rw[hu1];unfold kw
          repeat' split
          all_goals first|rfl|(exfalso;simp_all;done))
        ·have hk1:(iP c (aV c k) G 1).getD G false=(aV c k).getD G false:=by
          rw[hu1];split
          ·exact Ou hg.1.2
          ·rfl
         simp only[go_sem,seval,hki,hk1]
         repeat' first|assumption|simp (disch:=first|assumption|omega|simp;try omega) only[aB];try simp only[go_sem,seval,hki,hk1]|(with_reducible first|apply aa|intro)|(try rw[ae]);omega
         all_goals first
          | (
            refine⟨2,by omega,by omega,rfl,?_⟩;rw[hu1,hu2];unfold kw
            repeat' split
            all_goals first|rfl|(exfalso;simp_all;done))
        ·simp only[go_sem,seval,hki]
         repeat' first|assumption|simp (disch:=first|assumption|omega|simp;try omega) only[aB];try simp only[go_sem,seval,hki]|(with_reducible first|apply aa|intro)|(try rw[ae]);omega
         all_goals first
          | exact⟨k+1,by omega,by omega,by omega,by rw[hs2]⟩)
     ·obtain rfl:k=c.gates.length:=by omega
      simp only[go_sem,seval]
      repeat' first|assumption|simp (disch:=first|assumption|omega|simp;try omega) only[aB];try simp only[go_sem,seval]|(with_reducible first|apply aa|intro)|(try rw[ae]);omega
      skip)

def Tryz.me (c:ac) (g:Nat) (a b:Int) (hi:0<=c.inputs/\c.inputs<=1000) (hn:c.next.length<=1000) (hg:c.gates.length<=100000) (ha:0<=a/\a<=1000000) (hb:0<=b/\b<=1000000) :
  aQ prog 201 [.agg [.d (dI c.inputs),.sl 0 g 1 0 c.next.length,.d (aO c.gates),.d .nil],.d (dI a),.d (dI b)] [.row g 1 true (c.next.map (D.int .i64))]
   (fun r H=>r=.tup [.agg [.d (dI c.inputs),.sl 0 g 1 0 c.next.length,.d (aO (dO c a b).1.gates),.d .nil],.d (dI (dO c a b).2)]/\H=[.row g 1 true (c.next.map (D.int .i64))]):=by
 refine jp (E:=env 1) tok rfl 1000 func201 rfl rfl ntmps201 (by simp) ?_;have hw:og [D.agg [dI c.inputs,ai c.next,aO c.gates,.nil]] [dC ⟨c.inputs,c.next,c.gates,[]⟩]:=by simp[go_sem]
 have hfi:=(ba ⟨c.inputs,c.next,c.gates,[]⟩ (by show -1000<=c.inputs/\c.inputs<=1000;omega)).wk hw;have hfst:ac.first ⟨c.inputs,c.next,c.gates,[]⟩=(aj c:Int):=by show 1+c.inputs+(c.next.length:Int)=(aj c:Int);unfold aj;omega
 have hfs:aj c<=3000:=by unfold aj;omega
 by_cases hxy:b<a
 ·have e1:cf a b=b:=if_pos hxy;have e2:bW a b=a:=if_pos hxy;have hc:=Cu c a b;rw[e1,e2] at hc;have hfl:b=flip a↔b=a-1/\b%2=0:=by unfold flip;split <;> omega
  rw[hfl] at hc;rcases hc with⟨hc,hq⟩|⟨hc,hc2,hq⟩|⟨hc,hc2,hc3⟩
  ·rw[hq];simp only[go_sem,seval,hxy]
   repeat' first|assumption|simp (disch:=first|assumption|omega|simp;try omega) only[aB];try simp only[go_sem,seval]|(with_reducible first|apply aa|intro)|(refine aA hfi ?_;simp only[go_sem,seval])|(try rw[ae]);omega
   all_goals (refine uK ?_ ⟨rfl,rfl⟩;simp only[go_sem,seval])
  ·rw[hq];simp only[go_sem,seval,hxy]
   repeat' first|assumption|simp (disch:=first|assumption|omega|simp;try omega) only[aB];try simp only[go_sem,seval]|(with_reducible first|apply aa|intro)|(refine aA hfi ?_;simp only[go_sem,seval])|(try rw[ae]);omega
   all_goals (refine uK ?_ ⟨rfl,rfl⟩;simp only[go_sem,seval])
  ·simp only[go_sem,seval,hxy]
   repeat' first|assumption|simp (disch:=first|assumption|omega|simp;try omega) only[aB];try simp only[go_sem,seval]|(with_reducible first|apply aa|intro)|(refine aA hfi ?_;simp only[go_sem,seval])|(try rw[ae]);omega
   all_goals first|(exfalso;omega)|skip
   refine ce (E:=env 1) tok (σ:=Nat) (fun i=>[(0,.agg [.d (dI c.inputs),.sl 0 g 1 0 c.next.length,.d (aO c.gates),.d .nil]),(1,.d (dI b)),(2,.d (dI a)),(3,.ptr 1 0),(6,.ptr 2 0),(9,.d (dI (ac.first ⟨c.inputs,c.next,c.gates,[]⟩))),(10,.d (dI i))])
    (fun i=>[.row g 1 true (c.next.map (D.int .i64)),.box [.d (dI c.inputs),.sl 0 g 1 0 c.next.length,.d (aO c.gates),.d .nil],.box [.d (dI 0),.d .nil,.d .nil,.d .nil]]) (fun i=>i<=c.gates.length/\∀ j,j<i->c.gates.getD j (0,0)≠(b,a)) (fun i=>c.gates.length-i) [] 1000 1000 ?_ ?_ ?_
   ·simp only[go_sem,seval]
   ·simp only[go_sem,seval];exact⟨0,⟨by omega,fun j hj=>absurd hj (by omega)⟩,rfl⟩
   ·rintro i ⟨hi,hinv⟩;by_cases hlt:i<c.gates.length
    ·by_cases hg2:c.gates.getD i (0,0)=(b,a)
     ·have hix:=Kz hlt hg2 hinv;have hmem:(b,a)∈c.gates:=Bl.2 ⟨i,hlt,hg2⟩;rcases hc3 with⟨_,hq⟩|⟨hno,_⟩
      ·rw[hix] at hq;rw[hq];simp only[go_sem,seval,hg2]
       repeat' first|assumption|simp (disch:=first|assumption|omega|simp;try omega) only[aB];try simp only[go_sem,seval,hg2]|(with_reducible first|apply aa|intro)|(try rw[ae]);omega
       all_goals (refine uK ?_ ⟨rfl,rfl⟩;simp only[go_sem,seval])
       all_goals first|(rw[hfst,ae];omega)|(rw[hfst])
      ·exact absurd hmem hno
     ·have hg3 : ¬ ((c.gates.getD i (0,0)).1=b/\(c.gates.getD i (0,0)).2=a):=fun h=>hg2 (Prod.ext h.1 h.2)
      simp only[go_sem,seval]
      repeat' first|assumption|simp (disch:=first|assumption|omega|simp;try omega) only[aB];try simp only[go_sem,seval]|(with_reducible first|apply aa|intro)|(try rw[ae]);omega
      exact IA hlt hg2 hinv
    ·obtain rfl:i=c.gates.length:=by omega
     rcases hc3 with⟨hyes,_⟩|⟨_,hq⟩
     ·obtain⟨j,hj,hj2⟩:=Bl.1 hyes;exact absurd hj2 (hinv j hj)
     ·rw[hq];simp only[go_sem,seval]
      repeat' first|assumption|simp (disch:=first|assumption|omega|simp;try omega) only[aB];try simp only[go_sem,seval]|(with_reducible first|apply aa|intro)|(try rw[ae]);omega
      refine cg (n:=1) [8] (aw [1,2,0] (.two 3 (aw [4,5,6,7] (.one 8 (.fst 9 .done))) 8 (.one 3 (aw [4,5,6,7,9] .done)))) ?_;simp only[go_sem,seval]
      repeat' first|assumption|simp (disch:=first|assumption|omega|simp;try omega) only[aB];try simp only[go_sem,seval]|(with_reducible first|apply aa|intro)|(try rw[ae]);omega
      all_goals first|(rw[hfst,ae];omega)|skip
      all_goals (refine uK ?_ ⟨rfl,rfl⟩;simp only[go_sem,seval])
      all_goals exact⟨ag (by simp),by rw[hfst];omega⟩
 ·have e1:cf a b=a:=if_neg hxy;have e2:bW a b=b:=if_neg hxy;have hc:=Cu c a b;rw[e1,e2] at hc;have hfl:a=flip b↔a=b-1/\a%2=0:=by unfold flip;split <;> omega
  rw[hfl] at hc;rcases hc with⟨hc,hq⟩|⟨hc,hc2,hq⟩|⟨hc,hc2,hc3⟩
  ·rw[hq];simp only[go_sem,seval,hxy]
   repeat' first|assumption|simp (disch:=first|assumption|omega|simp;try omega) only[aB];try simp only[go_sem,seval]|(with_reducible first|apply aa|intro)|(refine aA hfi ?_;simp only[go_sem,seval])|(try rw[ae]);omega
   all_goals (refine uK ?_ ⟨rfl,rfl⟩;simp only[go_sem,seval])
  ·rw[hq];simp only[go_sem,seval,hxy]
   repeat' first|assumption|simp (disch:=first|assumption|omega|simp;try omega) only[aB];try simp only[go_sem,seval]|(with_reducible first|apply aa|intro)|(refine aA hfi ?_;simp only[go_sem,seval])|(try rw[ae]);omega
   all_goals (refine uK ?_ ⟨rfl,rfl⟩;simp only[go_sem,seval])
  ·simp only[go_sem,seval,hxy]
   repeat' first|assumption|simp (disch:=first|assumption|omega|simp;try omega) only[aB];try simp only[go_sem,seval]|(with_reducible first|apply aa|intro)|(refine aA hfi ?_;simp only[go_sem,seval])|(try rw[ae]);omega
   all_goals first|(exfalso;omega)|skip
   refine ce (E:=env 1) tok (σ:=Nat) (fun i=>[(0,.agg [.d (dI c.inputs),.sl 0 g 1 0 c.next.length,.d (aO c.gates),.d .nil]),(1,.d (dI a)),(2,.d (dI b)),(3,.ptr 1 0),(6,.ptr 2 0),(9,.d (dI (ac.first ⟨c.inputs,c.next,c.gates,[]⟩))),(10,.d (dI i))])
    (fun i=>[.row g 1 true (c.next.map (D.int .i64)),.box [.d (dI c.inputs),.sl 0 g 1 0 c.next.length,.d (aO c.gates),.d .nil],.box [.d (dI 0),.d .nil,.d .nil,.d .nil]]) (fun i=>i<=c.gates.length/\∀ j,j<i->c.gates.getD j (0,0)≠(a,b)) (fun i=>c.gates.length-i) [] 1000 1000 ?_ ?_ ?_
   ·simp only[go_sem,seval]
   ·simp only[go_sem,seval];exact⟨0,⟨by omega,fun j hj=>absurd hj (by omega)⟩,rfl⟩
   ·rintro i ⟨hi,hinv⟩;by_cases hlt:i<c.gates.length
    ·by_cases hg2:c.gates.getD i (0,0)=(a,b)
     ·have hix:=Kz hlt hg2 hinv;have hmem:(a,b)∈c.gates:=Bl.2 ⟨i,hlt,hg2⟩;rcases hc3 with⟨_,hq⟩|⟨hno,_⟩
      ·rw[hix] at hq;rw[hq];simp only[go_sem,seval,hg2]
       repeat' first|assumption|simp (disch:=first|assumption|omega|simp;try omega) only[aB];try simp only[go_sem,seval,hg2]|(with_reducible first|apply aa|intro)|(try rw[ae]);omega
       all_goals (refine uK ?_ ⟨rfl,rfl⟩;simp only[go_sem,seval])
       all_goals first|(rw[hfst,ae];omega)|(rw[hfst])
      ·exact absurd hmem hno
     ·have hg3 : ¬ ((c.gates.getD i (0,0)).1=a/\(c.gates.getD i (0,0)).2=b):=fun h=>hg2 (Prod.ext h.1 h.2)
      simp only[go_sem,seval]
      repeat' first|assumption|simp (disch:=first|assumption|omega|simp;try omega) only[aB];try simp only[go_sem,seval]|(with_reducible first|apply aa|intro)|(try rw[ae]);omega
      exact IA hlt hg2 hinv
    ·obtain rfl:i=c.gates.length:=by omega
     rcases hc3 with⟨hyes,_⟩|⟨_,hq⟩
     ·obtain⟨j,hj,hj2⟩:=Bl.1 hyes;exact absurd hj2 (hinv j hj)
     ·rw[hq];simp only[go_sem,seval]
      repeat' first|assumption|simp (disch:=first|assumption|omega|simp;try omega) only[aB];try simp only[go_sem,seval]|(with_reducible first|apply aa|intro)|(try rw[ae]);omega
      refine cg (n:=1) [8] (aw [1,2,0] (.two 3 (aw [4,5,6,7] (.one 8 (.fst 9 .done))) 8 (.one 3 (aw [4,5,6,7,9] .done)))) ?_;simp only[go_sem,seval]
      repeat' first|assumption|simp (disch:=first|assumption|omega|simp;try omega) only[aB];try simp only[go_sem,seval]|(with_reducible first|apply aa|intro)|(try rw[ae]);omega
      all_goals first|(rw[hfst,ae];omega)|skip
      all_goals (refine uK ?_ ⟨rfl,rfl⟩;simp only[go_sem,seval])
      all_goals exact⟨ag (by simp),by rw[hfst];omega⟩
end Go.Proofs
