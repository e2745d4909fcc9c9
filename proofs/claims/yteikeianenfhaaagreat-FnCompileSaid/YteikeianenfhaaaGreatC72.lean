/- Contracts, plain definitions and lemmas. Conditions: none; lemmas. -/
import Derived.Test.YteikeianenfhaaaGreatC98
import Derived.Test.YteikeianenfhaaaGreatC61
set_option maxRecDepth 20000
set_option linter.unusedVariables false
set_option linter.unusedSimpArgs false
set_option maxHeartbeats 2000000
set_option linter.defProp false
namespace Go.Proofs
open Go Go.VL Tryz
def Tryz.pB (c:ac) (hc:c.Valid):bk prog 101 [dC c] (qf (jE c)):=by
 have hf:=hc.al;have hi0:=hc.i0;have hi1:=hc.i1;have hlo:=hc.lo;have hln:=hc.ln;have hlg:=hc.lg;have hfst:=bi c (by omega);have hvs:=iP c (by omega);have hcv:=aR c;have hbe:=nz c hc;have hro:=lX c (by omega);have hvv:c.vars=c.first+(c.gates.length:Int):=rfl
 have hrv:=Gc hc;have hn0:=NW (c:=c) (fun z hz=>(hrv z hz).1);have hr2 : ∀ z∈c.roots,0<=z/2/\z/2<c.vars:=fun z hz=>hrv _ (by
  simp only[k7,List.mem_map,gM];exact⟨z,by simpa [ac.roots,or_comm] using hz,rfl⟩)
 have hrl:c.roots.length<=2000000:=by unfold ac.roots;simp;omega
 refine wD rfl 1000 func101 rfl rfl ntmps101 (by simp) fun ok=>?_
 simp only[go_sem,seval] at ok⊢
 repeat' first|simp (disch:=first|assumption|omega|simp;try omega) only[ag];try simp only[go_sem,seval]|(with_reducible first|apply aa|intro)|(refine az hfst ?_;simp only[go_sem,seval])|(refine az hcv ?_;simp only[go_sem,seval])|(refine az hvs ?_;simp only[go_sem,seval])|(refine az hro ?_;simp only[go_sem,seval])|(try rw[ae]);omega
 ·rename_i h9;exact absurd hc h9
 refine c7 hbe [0] (by simp only[go_sem,seval]) ?_;rintro r0 H1 ⟨rfl,rfl⟩;simp only[go_sem,seval]
 repeat' first|simp (disch:=first|assumption|omega|simp;try omega) only[ag];try simp only[go_sem,seval]|(with_reducible first|apply aa|intro)|(refine az hvs ?_;simp only[go_sem,seval])|(refine az hro ?_;simp only[go_sem,seval])|(try rw[ae]);omega
 have hrd:(c.roots.map (· / 2)).length=c.roots.length:=by simp
 generalize hroots:c.roots=roots at *
 refine cD (σ:=Nat) (fun i=>[(23,.d (dI i)),(22,.d (dI roots.length)),(21,.d (aj roots)),(5,.sl 1 0 1 0 c.vars.toNat),(3,.d (.lst 1 (iZ c (cY c)))),(1,.ptr 0 0)])
  (fun i=>[.box [.d (dI c.inputs),.d (aj c.next),.d (aY c.gates),.d (aj c.outs)],.row 0 1 true ((fQ (List.replicate c.vars.toNat false) ((roots.map (· / 2)).take i)).map D.bool)])
  (fun i=>i<=roots.length) (fun i=>roots.length-i) [] [] 1000 1000 ?_ ?_
 ·simp only[go_sem,seval];refine⟨0,by omega,?_⟩;simp[fQ]
 ·intro i hi;have hsl:=uS ((roots.map (· / 2)).take i) (List.replicate c.vars.toNat false);rw[m9] at hsl;by_cases hlt:i<roots.length
  ·have hrg:(roots.map (· / 2)).getD i 0=roots.getD i 0/2:=by simp[List.getD,hlt]
   have hbd:=hr2 _ (aO hlt:roots.getD i 0∈roots);have hst:fQ (List.replicate c.vars.toNat false) ((roots.map (· / 2)).take (i+1))=(fQ (List.replicate c.vars.toNat false) ((roots.map (· / 2)).take i)).set (roots.getD i 0/2).toNat true:=by
    rw[<-hrg];exact iH (f:=fun(n:ZB) (v:Int)=>n.set v.toNat true) (b:=List.replicate c.vars.toNat false) (0:Int) (by rw[hrd];exact hlt)
   simp only[go_sem,seval]
   repeat' first|simp (disch:=first|assumption|omega|simp;try omega) only[ag];try simp only[go_sem,seval]|(with_reducible first|apply aa|intro)|(try rw[ae]);omega
   exact⟨i+1,by omega,by omega,rfl,by rw[hst]⟩
  ·have hst:fQ (List.replicate c.vars.toNat false) ((roots.map (· / 2)).take i)=mv c:=by rw[<-hn0,ag (by rw[hrd];omega)]
   rw[hst];simp only[go_sem,seval]
   repeat' first|simp (disch:=first|assumption|omega|simp;try omega) only[ag];try simp only[go_sem,seval]|(with_reducible first|apply aa|intro)|(refine az hvs ?_;simp only[go_sem,seval])|(try rw[ae]);omega
   have hne0:=Fv c;have hlu:jE c=gk c c.gates.length (mv c) []:=rfl;refine cD (σ:=Nat×ZB×List lR) (fun s=>[(9,.d (dI (c.first+(s.1:Int)-1))),(8,.sl 2 s.2.2.length 3 0 s.2.2.length),(5,.sl 1 0 1 0 c.vars.toNat),(3,.d (.lst 1 (iZ c (cY c)))),(1,.ptr 0 0)])
    (fun s=>[.box [.d (dI c.inputs),.d (aj c.next),.d (aY c.gates),.d (aj c.outs)],.row 0 1 true (s.2.1.map D.bool),.row s.2.2.length 3 false (s.2.2.reverse.map fun x=>v9 x)])
    (fun s=>s.1<=c.gates.length/\s.2.1.length=c.vars.toNat/\s.2.2.length+s.1<=c.gates.length/\gk c s.1 s.2.1 s.2.2=jE c) (fun s=>s.1) [] [(8,3,false)] 1000 1000 ?_ ?_
   ·simp only[go_sem,seval];refine⟨(c.gates.length,mv c,[]),⟨by simp,hne0,by simp,hlu.symm⟩,?_⟩;simp;omega
   ·rintro⟨j,need,out⟩ ⟨hj,hnl,hol,hinv⟩;simp only at hj hnl hol hinv;cases j with
    | zero=>
     simp only[go_sem,seval]
     repeat' first|simp (disch:=first|assumption|omega|simp;try omega) only[ag];try simp only[go_sem,seval]|(with_reducible first|apply aa|intro)|(refine az hfst ?_;simp only[go_sem,seval])|(try rw[ae]);omega
     have hrl9:out.length=out.reverse.length:=by simp
     rw[hrl9];refine c7 (nR out.reverse.length out.reverse (by simp;omega)) [2] (by simp only[go_sem,seval]) ?_
     ·rintro r0 H1 rfl;rw[List.reverse_reverse];have hmd:gk c 0 need out=out:=rfl;rw[<-hinv,hmd];simp only[go_sem,seval]
      repeat' first|simp (disch:=first|assumption|omega|simp;try omega) only[ag];try simp only[go_sem,seval]|(with_reducible first|apply aa|intro)|(try rw[ae]);omega
    | succ m=>
     have hbo:=ri hc (i:=m) (by omega);have hbl:=Lv c;have ev:(c.first+((m+1:Nat):Int)-1)=c.first+(m:Int):=by omega
     have ev2:(c.first+(m:Int)).toNat=c.first.toNat+m:=by omega
     have hbg : ∀ z,(iZ c (cY c)).getD (c.first.toNat+m) z=aj ((cY c).getD (c.first.toNat+m) []):=fun z=>Lt (by omega) (by omega)
     have hstep:gk c (m+1) need out=if need.getD (c.first.toNat+m) false=true then
       gk c m (fQ need ((cY c).getD (c.first.toNat+m) [])) (⟨c.first+(m:Int),(cY c).getD (c.first.toNat+m) [],uY c (c.first+(m:Int)) ((cY c).getD (c.first.toNat+m) [])⟩::out)
      else gk c m need out:=rfl
     have htb:=mw c hc (c.first+(m:Int)) (by omega) (by omega) ((cY c).getD (c.first.toNat+m) []) hbo.2.1 hbo.1 (fun z hz=>by have:=hbo.2.2 z hz;omega);have hcl:=rn ((cY c).getD (c.first.toNat+m) []) (by have:=hbo.2.1;omega);have hbD:(iZ c (cY c)).length=c.first.toNat+c.gates.length:=by rw[vL (by omega)];exact hbl
     rw[ev];generalize hL:(cY c).getD (c.first.toNat+m) []=L at *
     by_cases hnd:need.getD (c.first.toNat+m) false=true
     ·rw[if_pos hnd] at hstep;simp only[go_sem,seval,ev2,hnd,hbg]
      repeat' first|simp (disch:=first|assumption|omega|simp;try omega) only[ag];try simp only[go_sem,seval,ev2,hnd,hbg]|(with_reducible first|apply aa|intro)|(refine az hfst ?_;simp only[go_sem,seval,ev2,hnd,hbg])|(try rw[ae]);omega
      refine cD (σ:=Nat) (fun k=>[(49,.d (dI k)),(48,.d (dI L.length)),(47,.d (aj L)),(9,.d (dI (c.first+(m:Int)))),(8,.sl 2 out.length 3 0 out.length),(5,.sl 1 0 1 0 c.vars.toNat),(3,.d (.lst 1 (iZ c (cY c)))),(1,.ptr 0 0)])
       (fun k=>[.box [.d (dI c.inputs),.d (aj c.next),.d (aY c.gates),.d (aj c.outs)],.row 0 1 true ((fQ need (L.take k)).map D.bool),.row out.length 3 false (out.reverse.map fun x=>v9 x)])
       (fun k=>k<=L.length) (fun k=>L.length-k) [] [] 1000 1000 ?_ ?_
      ·simp only[go_sem,seval];exact⟨0,by omega,rfl,rfl⟩
      ·intro k hk;have hsl:=uS (L.take k) need;by_cases hkt:k<L.length
       ·have hst:fQ need (L.take (k+1))=(fQ need (L.take k)).set (L.getD k 0).toNat true:=iH (f:=fun(n:ZB) (v:Int)=>n.set v.toNat true) (b:=need) (0:Int) hkt;have hz:=hbo.2.2 _ (aO hkt:L.getD k 0∈L);simp only[go_sem,seval,ev2,hbg]
        repeat' first|simp (disch:=first|assumption|omega|simp;try omega) only[ag];try simp only[go_sem,seval,ev2,hbg]|(with_reducible first|apply aa|intro)|(try rw[ae]);omega
        exact⟨k+1,by omega,by omega,rfl,hst.symm⟩
       ·have hst:fQ need (L.take k)=fQ need L:=by rw[ag (by omega)]
        rw[hst];rw[hst] at hsl;simp only[go_sem,seval,ev2,hbg]
        repeat' first|simp (disch:=first|assumption|omega|simp;try omega) only[ag];try simp only[go_sem,seval,ev2,hbg]|(with_reducible first|apply aa|intro)|(try rw[ae]);omega
        refine co (n:=0) [15] (ax [0,1,2,3,4,7,8,9,10,5,11] (.one 6 (.one 12 (.fst 13 (.one 14 (.one 15 (.fst 16 .done))))))) ?_;simp only[go_sem,seval,ev2,hbg]
        repeat' first|simp (disch:=first|assumption|omega|simp;try omega) only[ag];try simp only[go_sem,seval,ev2,hbg]|(with_reducible first|apply aa|intro)|(refine az htb ?_;simp only[go_sem,seval,ev2,hbg])|(refine az hcl ?_;simp only[go_sem,seval,ev2,hbg])|(try rw[ae]);omega
        ·simp
        ·exact⟨(m,fQ need L,⟨c.first+(m:Int),L,uY c (c.first+(m:Int)) L⟩::out),⟨by simp only;omega,hsl.trans hnl,by simp only[eD];omega,by rw[<-hinv,hstep]⟩,by simp only;omega,⟨rfl,by simp⟩,rfl,by simp,by simp⟩
     ·rw[if_neg hnd] at hstep;rw[Bool.not_eq_true] at hnd;simp only[go_sem,seval,ev2,hnd,hbg]
      repeat' first|simp (disch:=first|assumption|omega|simp;try omega) only[ag];try simp only[go_sem,seval,ev2,hnd,hbg]|(with_reducible first|apply aa|intro)|(refine az hfst ?_;simp only[go_sem,seval,ev2,hnd,hbg])|(try rw[ae]);omega
      exact⟨(m,need,out),⟨by simp only;omega,hnl,by simp only;omega,by rw[<-hinv,hstep]⟩,by simp only;omega,⟨rfl,rfl⟩,rfl,rfl,rfl⟩
end Go.Proofs

namespace Go.VL
variable {i n:Nat}{tiles place:ZA}{c:ac}{cells:List bW}{net tile:Int}
def uP {β : Type}{f : β->Nat->β}{b : β}:(List.range (i+1)).foldl f b=f ((List.range i).foldl f b) i:=by
 rw[kO,ng];rfl
def bF (s:Int×Int×Int×Int) (t:Int):Int×Int×Int×Int:=(min s.1 (t/5),max s.2.1 (t/5),min s.2.2.1 (t%5),max s.2.2.2 (t%5))
def bR (tiles:ZA):Int×Int×Int×Int:=tiles.foldl bF (5,0,5,0)
def lu (tiles:ZA):Int:=if tiles=[] then 0 else(bR tiles).2.1-(bR tiles).1+(bR tiles).2.2.2-(bR tiles).2.2.1
def FN (h : ∀ t∈tiles,0<=t/\t<=24):(0<=(bR tiles).1/\(bR tiles).1<=5)/\(0<=(bR tiles).2.1/\(bR tiles).2.1<=5)/\(0<=(bR tiles).2.2.1/\(bR tiles).2.2.1<=5)/\0<=(bR tiles).2.2.2/\(bR tiles).2.2.2<=5:=by
 have : ∀ (tiles:ZA) (s:Int×Int×Int×Int),(∀ t∈tiles,0<=t/\t<=24)->((0<=s.1/\s.1<=5)/\(0<=s.2.1/\s.2.1<=5)/\(0<=s.2.2.1/\s.2.2.1<=5)/\0<=s.2.2.2/\s.2.2.2<=5)->
   ((0<=(tiles.foldl bF s).1/\(tiles.foldl bF s).1<=5)/\(0<=(tiles.foldl bF s).2.1/\(tiles.foldl bF s).2.1<=5)/\(0<=(tiles.foldl bF s).2.2.1/\(tiles.foldl bF s).2.2.1<=5)/\0<=(tiles.foldl bF s).2.2.2/\(tiles.foldl bF s).2.2.2<=5):=by
  intro tiles;induction tiles with
  | nil=>exact fun s _ h=>h
  | cons t r ih=>
   intro s h hs;have ht:=h t (by simp);exact ih (bF s t) (fun z hz=>h z (by simp[hz])) (by simp only[bF];omega)
 exact this tiles (5,0,5,0) h (by simp)
def Eo (h : ∀ t∈tiles,0<=t/\t<=24) : -10<=lu tiles/\lu tiles<=10:=by
 have:=FN h;unfold lu;split <;> omega
def eG (c:ac) (net:Int):Nat->ZA
 | 0=>[]
 | o+1=>eG c net o++(if c.outs.getD o 0/2=net then [(o:Int)*5+4] else [])
def io (place:ZA) (i:Int):Int:=place.getD i.toNat 0
def fU (c:ac) (cells:List bW) (place:ZA) (net:Int):ZA:=(m6 cells net).map (io place)++eG c net c.outs.length
def pP (c:ac) (net:Int):ZA:=if 1<=net/\net<=c.inputs then [(net-1)*5] else []
def ld (cells:List bW) (place:ZA) (net:Int):Nat->ZA
 | 0=>[]
 | i+1=>ld cells place net i++(if(cells.getD i bP).net=net then [place.getD i 0] else [])
def bj (out:ZA) (s:Int):ZA:=if s∈out then out else out ++ [s]
def jG (c:ac) (cells:List bW) (place:ZA) (net:Int):ZA:=
 if fU c cells place net=[] then [] else(fU c cells place net).foldl bj (pP c net++ld cells place net cells.length)
def pc (c:ac) (cells:List bW) (place:ZA):Nat->Int
 | 0=>0
 | k+1=>pc c cells place k+lu (jG c cells place ((k:Int)+1))
def jK (c:ac) (cells:List bW) (place:ZA):Int:=pc c cells place (c.vars.toNat-1)
structure ay (n:Nat) (place:ZA):Prop where
 len:place.length=n
 rng : ∀ t∈place,0<=t/\t<=24
 nd:place.Nodup
def ay.get (h:ay n place) (hi:i<n):0<=place.getD i 0/\place.getD i 0<=24:=h.rng _ (aO (by rw[h.len];exact hi))
def Et {c:ac}{net t:Int} : ∀ {n:Nat},t∈eG c net n↔∃ o:Nat,o<n/\c.outs.getD o 0/2=net/\t=(o:Int)*5+4
 | 0=>by simp[eG]
 | n+1=>by
  rw[eG,gM,Et];constructor
  ·rintro(⟨o,h1,h2,h3⟩|h)
   ·exact⟨o,by omega,h2,h3⟩
   ·split at h
    ·rename_i h2;exact⟨n,by omega,h2,by simpa using h⟩
    ·simp at h
  ·rintro⟨o,h1,h2,h3⟩;by_cases ho:o<n
   ·exact .inl ⟨o,ho,h2,h3⟩
   ·obtain rfl:o=n:=by omega
    rw[if_pos h2];exact .inr (by simp[h3])
def G4 {cells:List bW}{place:ZA}{net t:Int} : ∀ {n:Nat},t∈ld cells place net n↔∃ i:Nat,i<n/\(cells.getD i bP).net=net/\t=place.getD i 0
 | 0=>by simp[ld]
 | n+1=>by
  rw[ld,gM,G4];constructor
  ·rintro(⟨o,h1,h2,h3⟩|h)
   ·exact⟨o,by omega,h2,h3⟩
   ·split at h
    ·rename_i h2;exact⟨n,by omega,h2,by simpa using h⟩
    ·simp at h
  ·rintro⟨o,h1,h2,h3⟩;by_cases ho:o<n
   ·exact .inl ⟨o,ho,h2,h3⟩
   ·obtain rfl:o=n:=by omega
    rw[if_pos h2];exact .inr (by simp[h3])
def AW {t:Int}:t∈fU c cells place net↔(∃ i:Nat,i<cells.length/\net∈(cells.getD i bP).inputs/\t=place.getD i 0)∨∃ o:Nat,o<c.outs.length/\c.outs.getD o 0/2=net/\t=(o:Int)*5+4:=by
 rw[fU,gM,Et,List.mem_map];constructor
 ·rintro(⟨i,h1,rfl⟩|h)
  ·obtain⟨j,h2,h3,rfl⟩:=Ac.1 h1;exact .inl ⟨j,h2,h3,rfl⟩
  ·exact .inr h
 ·rintro(⟨i,h1,h2,rfl⟩|h)
  ·exact .inl ⟨(i:Int),Ac.2 ⟨i,h1,h2,rfl⟩,rfl⟩
  ·exact .inr h
def Jx {out:ZA}{s z:Int}:z∈bj out s↔z∈out∨z=s:=by
 unfold bj;split
 ·rename_i h;constructor
  ·exact .inl
  ·rintro(h1|rfl)
   ·exact h1
   ·exact h
 ·simp
def B4 {z:Int} : ∀ {l out:ZA},z∈l.foldl bj out↔z∈out∨z∈l
 | [],out=>by simp
 | s::l,out=>by
  rw[e6,B4,Jx,jY,or_assoc]
def ze : ∀ {l out:ZA},∃ r,l.foldl bj out=out++r
 | [],out=>⟨[],by simp⟩
 | s::l,out=>by
  obtain⟨r,hr⟩:=ze (l:=l) (out:=bj out s);rw[e6,hr];unfold bj;split
  ·exact⟨r,rfl⟩
  ·exact⟨s::r,by simp⟩
def Ak (hc:c.Valid) (hp:ay cells.length place)  : ∀ t∈jG c cells place net,0<=t/\t<=24:=by
 intro t ht;have hlo:=hc.lo;have hi1:=hc.i1;unfold jG at ht;split at ht
 ·simp at ht
 ·rw[B4,gM] at ht;rcases ht with(h|h)|h
  ·unfold pP at h;split at h
   ·obtain rfl:t=(net-1)*5:=by simpa using h
    omega
   ·simp at h
  ·obtain⟨i,h1,h2,rfl⟩:=G4.1 h;exact hp.get h1
  ·rcases AW.1 h with⟨i,h1,h2,rfl⟩|⟨o,h1,h2,rfl⟩
   ·exact hp.get h1
   ·omega
def Ny {c:ac}{cells:List bW}{place:ZA}(hc:c.Valid) (hp:ay cells.length place) : ∀ (k:Nat),-10*(k:Int)<=pc c cells place k/\pc c cells place k<=10*k
 | 0=>by simp[pc]
 | k+1=>by
  have:=Ny hc hp k;have:=Eo (Ak hc hp (net:=(k:Int)+1));rw[pc];omega
def ey (place:ZA) (i:Nat) (tile:Int):ZA:=(place.map fun x=>if x=tile then place.getD i 0 else x).set i tile
def Bi:(ey place i tile).length=place.length:=by simp[ey]
def z5 {j:Nat}(hj:j<place.length):(ey place i tile).getD j 0=if j=i then tile else if place.getD j 0=tile then place.getD i 0 else place.getD j 0:=by
 unfold ey;by_cases h:j=i
 ·subst h;simp[List.getD,hj]
 ·simp[List.getD,List.getElem?_set,Ne.symm h,hj,h]
def z8 {l:ZA}:l.Nodup↔∀ i j,i<l.length->j<l.length->l.getD i 0=l.getD j 0->i=j:=by
 rw[List.nodup_iff_pairwise_ne,A9];constructor
 ·intro h i j hi hj e;have e2:l[i]=l[j]:=by simpa [List.getD,hi,hj] using e
  rcases Nat.lt_trichotomy i j with h1|h1|h1
  ·exact absurd e2 (h i j hi hj h1)
  ·exact h1
  ·exact absurd e2.symm (h j i hj hi h1)
 ·intro h i j hi hj hij e;have:=h i j hi hj (by simpa [List.getD,hi,hj] using e);omega
def ay.wX (h:ay n place) (hi:i<n) (ht:0<=tile/\tile<=24):ay n (ey place i tile):=by
 have hl:=h.len;refine⟨by rw[Bi,hl],fun t hm=>?_,?_⟩
 ·obtain⟨j,hj,rfl⟩:=gm 0 hm;rw[Bi,hl] at hj;rw[z5 (by omega)];have:=h.get hi;have:=h.get hj;split
  ·exact ht
  ·split <;> omega
 ·have hnd:=z8.1 h.nd;refine z8.2 fun a b ha hb e=>?_
  rw[Bi,hl] at ha hb;rw[z5 (by omega),z5 (by omega)] at e;by_cases h1:a=i
  ·by_cases h2:b=i
   ·omega
   ·rw[if_pos h1,if_neg h2] at e;split at e
    ·rename_i h3;have:=hnd b i (by omega) (by omega) (by rw[h3,e]);omega
    ·rename_i h3;exact absurd e.symm h3
  ·by_cases h2:b=i
   ·rw[if_neg h1,if_pos h2] at e;split at e
    ·rename_i h3;have:=hnd a i (by omega) (by omega) (by rw[h3,<-e]);omega
    ·rename_i h3;exact absurd e h3
   ·rw[if_neg h1,if_neg h2] at e;split at e
    ·rename_i h3;split at e
     ·rename_i h4;exact hnd a b (by omega) (by omega) (by rw[h3,h4])
     ·have:=hnd i b (by omega) (by omega) e;omega
    ·split at e
     ·have:=hnd a i (by omega) (by omega) e;omega
     ·exact hnd a b (by omega) (by omega) e
def lf (c:ac) (cells:List bW) (i:Nat) (st:ZA×Int) (t:Nat):ZA×Int:=
 if jK c cells (ey st.1 i (t:Int))<st.2 then(ey st.1 i (t:Int),jK c cells (ey st.1 i (t:Int))) else st
def fj (c:ac) (cells:List bW) (st:ZA×Int) (i:Nat):ZA×Int:=(List.range 25).foldl (lf c cells i) st
def l5 (c:ac) (cells:List bW) (st:ZA×Int) (s:Nat):ZA×Int:=(List.range cells.length).foldl (fj c cells) st
def ii (n:Nat):ZA:=(List.range n).map fun(i:Nat)=>(i:Int)
def kX (c:ac) (cells:List bW):ZA:=((List.range 3).foldl (l5 c cells) (ii cells.length,jK c cells (ii cells.length))).1
def OG (hi:i<cells.length) {st:ZA×Int}(h:ay cells.length st.1) {t:Nat}(ht:t<25):ay cells.length (lf c cells i st t).1:=by
 unfold lf;split
 ·exact h.wX hi (by omega)
 ·exact h
def BX {c:ac}{cells:List bW}{i:Nat}(hi:i<cells.length) {st:ZA×Int}(h:ay cells.length st.1) : ∀ t,t<=25->ay cells.length ((List.range t).foldl (lf c cells i) st).1
 | 0,_=>h
 | t+1,ht=>by
  rw[uP];exact OG hi (BX hi h t (by omega)) (by omega)
def CJ {c:ac}{cells:List bW}{st:ZA×Int}(h:ay cells.length st.1) : ∀ n,n<=cells.length->ay cells.length ((List.range n).foldl (fj c cells) st).1
 | 0,_=>h
 | n+1,hn=>by
  rw[uP];exact BX (by omega) (CJ h n (by omega)) 25 (by omega)
def Ep (h:n<=25):ay n (ii n):=by
 refine⟨by simp[ii],fun t ht=>?_,?_⟩
 ·obtain⟨i,hi,rfl⟩:=List.mem_map.1 ht;have:=List.mem_range.1 hi;omega
 ·unfold ii;rw[List.nodup_iff_pairwise_ne,List.pairwise_map];exact List.Pairwise.imp (fun {a b} h e=>h (by omega)) List.nodup_range
def Cy {c:ac}{cells:List bW}(hn:cells.length<=25) : ∀ s,ay cells.length ((List.range s).foldl (l5 c cells) (ii cells.length,jK c cells (ii cells.length))).1
 | 0=>Ep hn
 | s+1=>by
  rw[uP];exact CJ (Cy hn s) _ (aD _)
def EJ (hn:cells.length<=25):ay cells.length (kX c cells):=Cy hn 3
end Go.VL

namespace Go.Proofs
open Go Go.VL
variable {i:Nat}
abbrev gN (x:bW):D:=.agg [dI x.net,aj x.inputs,dI x.table,dB x.gj]
abbrev cm (l:List bW):D:=.lst 4 (l.map fun x=>gN x)
def bB {l:List bW}{z:D}(h:i<l.length):(l.map fun x=>gN x).getD i z=gN (l.getD i bP):=cn _ _ _ _ _ h
def eQ (c:ac) (i:Nat):D:=if(c.next.getD i 0)/2 > 0 then gN (jB c i) else .agg [dI (c.inputs+1+(i:Int)),.nil,dI ((c.next.getD i 0)%2),dB true]
def u5 (c:ac) (i:Nat):WK (eQ c i) (gN (jB c i)):=by
 unfold eQ;split
 ·exact .refl _
 ·rename_i h;have e:jB c i=⟨c.inputs+1+i,[],(c.next.getD i 0)%2,true⟩:=if_neg h;rw[e];exact .E5 ⟨.refl _,.nil (by omega),.refl _,.refl _,trivial⟩
def LU (c:ac):WK (.lst 4 ((List.range c.next.length).map (eQ c)++(jE c).map fun l=>gN (g9 l))) (cm (aw c)):=by
 have e:(aw c).map (fun x=>gN x)=(List.range c.next.length).map (fun i=>gN (jB c i))++(jE c).map fun l=>gN (g9 l):=by
  rw[aw,gw,List.map_map,List.map_map];rfl
 show WK _ (.lst 4 ((aw c).map fun x=>gN x))
 rw[e];refine .lst (by simp) fun j hj=>?_
 by_cases h:j<c.next.length
 ·rw[cW (by simpa using h),cW (by simpa using h)];simp only[List.getD_eq_getElem?_getD,List.getElem?_map,List.getElem?_range h,dE,cP];exact u5 c j
 ·rw[List.getD_eq_getElem?_getD,List.getD_eq_getElem?_getD,List.getElem?_append_right (by simpa using h),List.getElem?_append_right (by simpa using h)];simp only[gQ,v7];exact .refl _
def Tryz.qg (c:ac) (hc:c.Valid):Pure prog 74 [dC c] (cm (aw c)):=by
 have hmp:=ta c hc;have hln:=hc.ln;have hll:=DH hc;have hlg:=hc.lg;have hlk:=sB hc;have hi0:=hc.i0;have hi1:=hc.i1;refine Pure.res ?_ (LU c);refine bz func74 rfl ntmps74 fun ok=>?_
 simp only[go_sem,seval] at ok⊢
 repeat' first|simp (disch:=omega) only[ag,aC,eC,bB];try simp only[go_sem,seval]|(with_reducible first|apply aa|intro)|(try rw[ae]);omega
 refine cD (σ:=Nat) (fun i=>[(0,.d (dC c)),(1,.ptr 0 0),(3,.sl 1 i 4 0 i),(4,.d (dI i))]) (fun i=>[.box [.d (dI c.inputs),.d (aj c.next),.d (aY c.gates),.d (aj c.outs)],.row i 4 true ((List.range i).map (eQ c))]) (fun i=>i<=c.next.length) (fun i=>c.next.length-i) [] [] 1000 1000 ?_ ?_
 ·simp only[go_sem,seval];exact⟨0,by omega,by simp⟩
 ·intro i hi;have hrl:((List.range i).map (eQ c)).length=i:=by simp
  have hrs:(List.range (i+1)).map (eQ c)=(List.range i).map (eQ c) ++ [eQ c i]:=by rw[kO,gw];rfl
  by_cases hlt:i<c.next.length
  ·have hno:=hc.n _ (aO hlt:c.next.getD i 0∈c.next);unfold bm at hno;have hld:eQ c i=if(c.next.getD i 0)/2 > 0 then gN (jB c i) else .agg [dI (c.inputs+1+(i:Int)),.nil,dI ((c.next.getD i 0)%2),dB true]:=rfl;have hlc:jB c i=if(c.next.getD i 0)/2 > 0 then⟨c.inputs+1+i,[(c.next.getD i 0)/2],2-(c.next.getD i 0)%2,true⟩ else⟨c.inputs+1+i,[],(c.next.getD i 0)%2,true⟩:=rfl;generalize (List.range i).map (eQ c)=q at *
   have hr:=aC (y:=2) hno.1;simp only[go_sem,seval]
   repeat' first|simp (disch:=omega) only[ag,aC,eC,bB];try simp only[go_sem,seval,hr,hrl]|(with_reducible first|apply aa|intro)|(try rw[ae]);omega
   ·rename_i h9;refine⟨i+1,by omega,by omega,rfl,rfl,?_⟩;rw[hrs,hld,if_pos (by omega),hlc,if_pos (by omega)];rfl
   ·rename_i h9;refine⟨i+1,by omega,by omega,rfl,rfl,?_⟩;rw[hrs,hld,if_neg (by omega)]
  ·obtain rfl:i=c.next.length:=by omega
   simp only[go_sem,seval]
   repeat' first|simp (disch:=omega) only[ag,aC,eC,bB];try simp only[go_sem,seval]|(with_reducible first|apply aa|intro)|(refine kN hmp ?_;simp only[go_sem,seval])|(try rw[ae]);omega
   generalize (List.range c.next.length).map (eQ c)=q at *
   have hlv : ∀ l∈jE c,l.leaves.length<=3:=fun l hl=>by
    obtain⟨m,hm,rfl⟩:=hlk.each l hl;exact(ri hc hm).2.1
   generalize jE c=luts at *
   refine cD (σ:=Nat) (fun i=>[(3,.sl 1 (c.next.length+i) 4 0 (c.next.length+i)),(7,.d (qf luts)),(8,.d (dI i))]) (fun i=>[.dead 0,.row (c.next.length+i) 4 true (q++(luts.take i).map fun l=>gN (g9 l))]) (fun i=>i<=luts.length) (fun i=>luts.length-i) [] [] 1000 1000 ?_ ?_
   ·simp only[go_sem,seval];exact⟨0,by omega,by simp⟩
   ·intro i hi;by_cases hlt:i<luts.length
    ·have hlv2:=hlv _ (aO hlt:luts.getD i kI∈luts);have hts:(luts.take (i+1)).map (fun l=>gN (g9 l))=(luts.take i).map (fun l=>gN (g9 l)) ++ [gN (g9 (luts.getD i kI))]:=nm kI hlt;have hql:(q++(luts.take i).map fun l=>gN (g9 l)).length=c.next.length+i:=by simp[hrl];omega
     have hqa:q++(luts.take (i+1)).map (fun l=>gN (g9 l))=(q++(luts.take i).map fun l=>gN (g9 l)) ++ [gN (g9 (luts.getD i kI))]:=by rw[hts,fA]
     generalize hd9:luts.getD i kI=x at *
     generalize (q++(luts.take i).map fun l=>gN (g9 l))=q2 at *
     simp only[go_sem,seval]
     repeat' first|simp (disch:=omega) only[ag,aC,eC,bB];try simp only[go_sem,seval,hd9,hql]|(with_reducible first|apply aa|intro)|(try rw[ae]);omega
     refine co (n:=0) [12,20] (ax [0,1,2,3,4,7,8,9,10,13,14,15,16,11] (.three 5 (.two 6 (.two 12 (.one 17 (.fst 18 (.one 19 (.one 20 (.fst 21 .done))))) 17 (.one 12 (.fst 18 (.one 19 (.one 20 (.fst 21 .done)))))) 17 (.one 6 (.one 12 (.fst 18 (.one 19 (.one 20 (.fst 21 .done))))))) 6 (.three 5 (.two 12 (.one 17 (.fst 18 (.one 19 (.one 20 (.fst 21 .done))))) 17 (.one 12 (.fst 18 (.one 19 (.one 20 (.fst 21 .done)))))) 12 (.two 5 (.one 17 (.fst 18 (.one 19 (.one 20 (.fst 21 .done))))) 17 (.one 5 (.fst 18 (.one 19 (.one 20 (.fst 21 .done)))))) 17 (.two 5 (.one 12 (.fst 18 (.one 19 (.one 20 (.fst 21 .done))))) 12 (.one 5 (.fst 18 (.one 19 (.one 20 (.fst 21 .done))))))) 17 (.two 5 (.one 6 (.one 12 (.fst 18 (.one 19 (.one 20 (.fst 21 .done)))))) 6 (.two 5 (.one 12 (.fst 18 (.one 19 (.one 20 (.fst 21 .done))))) 12 (.one 5 (.fst 18 (.one 19 (.one 20 (.fst 21 .done))))))))) ?_;simp only[go_sem,seval,hd9,hql]
     repeat' first|simp (disch:=omega) only[ag,aC,eC,bB];try simp only[go_sem,seval,hd9,hql]|(with_reducible first|apply aa|intro)|(try rw[ae]);omega
     refine⟨i+1,by omega,by omega,⟨by omega,rfl⟩,by omega,?_⟩;rw[hqa,<-hql];exact Iv
    ·simp only[go_sem,seval]
     repeat' first|simp (disch:=omega) only[ag,aC,eC,bB];try simp only[go_sem,seval]|(with_reducible first|apply aa|intro)|(try rw[ae]);omega
def Tryz.p5 (cells:List bW) (net:Int) (hl:cells.length<=100) (hi : ∀ x∈cells,x.inputs.length<=100):Pure prog 193 [cm cells,dI net] (aj (m6 cells net)):=by
 refine bz func193 rfl ntmps193 fun ok=>?_
 simp only[go_sem,seval] at ok⊢
 repeat' first|simp (disch:=omega) only[ag,aC,eC,bB];try simp only[go_sem,seval]|(with_reducible first|apply aa|intro)|(try rw[ae]);omega
 refine cD (σ:=Nat) (fun i=>[(0,.d (cm cells)),(1,.d (dI net)),(5,.sl 0 (e7 cells net i).length 1 0 (e7 cells net i).length),(6,.d (dI i))]) (fun i=>[.row (e7 cells net i).length 1 true ((e7 cells net i).map (D.int .i64))]) (fun i=>i<=cells.length/\(e7 cells net i).length<=100*i) (fun i=>cells.length-i) [] [] 1000 1000 ?_ ?_
 ·simp only[go_sem,seval];exact⟨0,⟨by omega,by simp[e7]⟩,by simp[e7]⟩
 ·rintro i ⟨hii,hsl⟩;by_cases hlt:i<cells.length
  ·have hin:=hi _ (aO hlt:cells.getD i bP∈cells);have hsn:e7 cells net (i+1)=e7 cells net i++rA (cells.getD i bP) net i:=rfl;have hus:rA (cells.getD i bP) net i=((cells.getD i bP).inputs.filter fun z=>decide (z=net)).map fun _=>(i:Int):=rfl
   generalize hd9:cells.getD i bP=x at *
   generalize e7 cells net i=q at *
   simp only[go_sem,seval]
   repeat' first|simp (disch:=omega) only[ag,aC,eC,bB];try simp only[go_sem,seval]|(with_reducible first|apply aa|intro)|(try rw[ae]);omega
   refine cD (σ:=Nat×ZA) (fun s=>[(0,.d (cm cells)),(1,.d (dI net)),(5,.sl 0 s.2.length 1 0 s.2.length),(6,.d (dI i)),(7,.d (dI s.1))]) (fun s=>[.row s.2.length 1 true (s.2.map (D.int .i64))])
    (fun s=>s.1<=x.inputs.length/\s.2.length<=100*i+s.1/\s.2=q++((x.inputs.take s.1).filter fun z=>decide (z=net)).map fun _=>(i:Int)) (fun s=>x.inputs.length-s.1) [] [] 1000 1000 ?_ ?_
   ·simp only[go_sem,seval];exact⟨(0,q),⟨by simp,by simp only;omega,by simp⟩,by simp⟩
   ·rintro⟨k,o⟩ ⟨hk,hol,ho⟩;simp only at hk hol ho;by_cases hkt:k<x.inputs.length
    ·have hts:(x.inputs.take (k+1)).filter (fun z=>decide (z=net))=(x.inputs.take k).filter (fun z=>decide (z=net))++(if x.inputs.getD k 0=net then [x.inputs.getD k 0] else []):=by
      rw[la hkt,List.filter_append];congr 1;have e:x.inputs.getD k 0=x.inputs[k]:=by simp[List.getD,hkt]
      rw[e];by_cases h:x.inputs[k]=net <;> simp[h]
     simp only[go_sem,seval]
     repeat' first|simp (disch:=omega) only[ag,aC,eC,bB];try simp only[go_sem,seval,hd9]|(with_reducible first|apply aa|intro)|(try rw[ae]);omega
     ·rename_i h9;refine⟨(k+1,o ++ [(i:Int)]),⟨by simp only;omega,by simp only[b8,nn];omega,?_⟩,by simp only;omega,by simp,by simp⟩;show o ++ [(i:Int)]=q++((x.inputs.take (k+1)).filter _).map _
      rw[hts,if_pos h9,gw,<-fA,<-ho];rfl
     ·rename_i h9;refine⟨(k+1,o),⟨by simp only;omega,by simp only;omega,?_⟩,by simp only;omega,⟨rfl,rfl⟩,rfl,rfl⟩;show o=q++((x.inputs.take (k+1)).filter _).map _
      rw[hts,if_neg h9,jq];exact ho
    ·have e:o=e7 cells net (i+1):=by rw[hsn,hus,ho,ag (by omega)]
     simp only[go_sem,seval]
     repeat' first|simp (disch:=omega) only[ag,aC,eC,bB];try simp only[go_sem,seval,hd9]|(with_reducible first|apply aa|intro)|(try rw[ae]);omega
     refine⟨i+1,⟨by omega,by rw[<-e];omega⟩,by omega,?_⟩;rw[<-e];exact⟨⟨rfl,rfl⟩,rfl,rfl⟩
  ·simp only[go_sem,seval]
   repeat' first|simp (disch:=omega) only[ag,aC,eC,bB];try simp only[go_sem,seval]|(with_reducible first|apply aa|intro)|(try rw[ae]);omega
   rw[m6,show i=cells.length by omega]
def Tryz.ru (tiles:ZA) (h : ∀ t∈tiles,0<=t/\t<=24):Pure prog 192 [aj tiles] (dI (lu tiles)):=by
 refine bz func192 rfl ntmps192 fun ok=>?_
 simp only[go_sem,seval] at ok⊢
 repeat' first|simp (disch:=omega) only[ag,aC,eC,bB];try simp only[go_sem,seval]|(with_reducible first|apply aa|intro)|(try rw[ae]);omega
 ·rename_i h9;have:tiles=[]:=List.length_eq_zero_iff.1 (by omega);rw[this];rfl
 rename_i h9;have hne:tiles≠[]:=by rintro rfl;exact h9 rfl
 have hdc:lu tiles=(bR tiles).2.1-(bR tiles).1+(bR tiles).2.2.2-(bR tiles).2.2.1:=if_neg hne;have hbb:=FN h;rw[hdc];refine cQ (σ:=Nat) (fun i=>[(0,.d (aj tiles)),(2,.d (dI 0)),(3,.d (dI ((tiles.take i).foldl bF (5,0,5,0)).1)),(4,.d (dI ((tiles.take i).foldl bF (5,0,5,0)).2.1)),(5,.d (dI ((tiles.take i).foldl bF (5,0,5,0)).2.2.1)),(6,.d (dI ((tiles.take i).foldl bF (5,0,5,0)).2.2.2)),(7,.d (dI i))]) (fun _=>[]) (fun i=>i<=tiles.length) (fun i=>tiles.length-i) [] 1000 1000 ?_ ?_ ?_
 ·simp only[go_sem,seval]
 ·simp only[go_sem,seval];exact⟨0,by omega,by simp⟩
 ·intro i hi;by_cases hlt:i<tiles.length
  ·have hts:=iH (f:=bF) (b:=(5,0,5,0)) (0:Int) hlt;have ht:=h _ (aO hlt:tiles.getD i 0∈tiles);have hr:=aC (y:=5) ht.1;generalize (tiles.take i).foldl bF (5,0,5,0)=s at *
   obtain⟨s1,s2,s3,s4⟩:=s;simp only[go_sem,seval]
   repeat' first|simp (disch:=omega) only[ag,aC,eC,bB];try simp only[go_sem,seval,hr]|(with_reducible first|apply aa|intro)|(try rw[ae]);omega
   refine⟨i+1,by omega,by omega,?_⟩;rw[hts];simp[bF]
  ·have e:tiles.take i=tiles:=ag (by omega);rw[e,<-bR];simp only[go_sem,seval]
   repeat' first|simp (disch:=omega) only[ag,aC,eC,bB];try simp only[go_sem,seval]|(with_reducible first|apply aa|intro)|(try rw[ae]);omega
def Tryz.tH (l:ZA) (n:Int):Pure prog 194 [aj l,dI n] (.bool (decide (n∈l))):=by
 refine bz func194 rfl ntmps194 fun ok=>?_
 simp only[go_sem,seval] at ok⊢
 repeat' first|simp (disch:=omega) only[ag,aC,eC,bB];try simp only[go_sem,seval]|(with_reducible first|apply aa|intro)|(try rw[ae]);omega
 refine cQ (σ:=Nat) (fun i=>[(0,.d (aj l)),(1,.d (dI n)),(4,.d (dB false)),(5,.d (dI i))]) (fun _=>[]) (fun i=>i<=l.length/\∀ j,j<i->l.getD j 0≠n) (fun i=>l.length-i) [] 1000 1000 ?_ ?_ ?_
 ·simp only[go_sem,seval]
 ·simp only[go_sem,seval];exact⟨0,⟨by omega,by omega⟩,rfl⟩
 ·rintro i ⟨hi,hinv⟩;by_cases hlt:i<l.length
  ·simp only[go_sem,seval]
   repeat' first|simp (disch:=omega) only[ag,aC,eC,bB];try simp only[go_sem,seval]|(with_reducible first|apply aa|intro)|(try rw[ae]);omega
   ·rename_i h9;rw[<-h9,decide_eq_true (aO hlt)]
   ·rename_i h9;refine⟨i+1,⟨by omega,fun j hj=>?_⟩,by omega,rfl⟩;by_cases hji:j=i
    ·subst hji;exact h9
    ·exact hinv j (by omega)
  ·simp only[go_sem,seval]
   repeat' first|simp (disch:=omega) only[ag,aC,eC,bB];try simp only[go_sem,seval]|(with_reducible first|apply aa|intro)|(try rw[ae]);omega
   simp only[false_eq_decide_iff];intro hm;obtain⟨j,hj,he⟩:=gm 0 hm;exact hinv j (by omega) he
def oB (c:ac) (cells:List bW) (place:ZA) (net:Int) (i:Nat):ZA:=pP c net++ld cells place net i
def Rz {c:ac}{cells:List bW}{place:ZA}{net:Int}:oB c cells place net (i+1)=oB c cells place net i++(if(cells.getD i bP).net=net then [place.getD i 0] else []):=by
 rw[oB,oB,fA];rfl
def Tryz.mW (c:ac) (hc:c.Valid) (cells:List bW) (hcl:cells.length<=25) (hci : ∀ x∈cells,x.inputs.length<=3) (place:ZA) (hp:ay cells.length place) (net:Int) (hn : -100<=net/\net<=100) :
  Pure prog 140 [dC c,cm cells,aj place,dI net] (aj (jG c cells place net)):=by
 have hlo:=hc.lo;have hi0:=hc.i0;have hi1:=hc.i1;have hsk:=p5 cells net (by omega) (fun x hx=>by have:=hci x hx;omega);have hpl:=hp.len;refine bz func140 rfl ntmps140 fun ok=>?_
 simp only[go_sem,seval] at ok⊢
 repeat' first|simp (disch:=omega) only[ag,aC,eC,bB];try simp only[go_sem,seval]|(with_reducible first|apply aa|intro)|(refine az hsk ?_;simp only[go_sem,seval])|(try rw[ae]);omega
 have hbox:[I.d (dI c.inputs),I.d (aj c.next),I.d (aY c.gates),I.d (aj c.outs)]=[I.d (dI c.inputs),I.d (aj c.next),I.d (aY c.gates),I.d (aj c.outs)]:=rfl;have hsm : ∀ z∈m6 cells net,0<=z/\z<cells.length:=fun z hz=>by
  obtain⟨m,hm,-,rfl⟩:=Ac.1 hz;omega
 have hsl:(m6 cells net).length<=3*cells.length:=by
  have key : ∀ n,n<=cells.length->(e7 cells net n).length<=3*n:=by
   intro n;induction n with
   | zero=>intro _;simp[e7]
   | succ n ih=>
    intro h;have h1:=ih (by omega);have h2:=hci _ (aO (by omega):cells.getD n bP∈cells);have h3:(rA (cells.getD n bP) net n).length<=(cells.getD n bP).inputs.length:=by
     simp only[rA,gQ];exact List.length_filter_le _ _
    rw[e7,b8];omega
  exact key _ (aD _)
 have hstd:fU c cells place net=(m6 cells net).map (io place)++eG c net c.outs.length:=rfl;have hpn:jG c cells place net=if fU c cells place net=[] then [] else(fU c cells place net).foldl bj (pP c net++ld cells place net cells.length):=rfl
 generalize m6 cells net=list at *
 refine cD (σ:=Nat) (fun i=>[(0,.d (dC c)),(1,.d (cm cells)),(2,.d (aj place)),(3,.d (dI net)),(4,.ptr 0 0),(9,.sl 1 i 1 0 i),(10,.d (aj list)),(11,.d (dI i))]) (fun i=>[.box [.d (dI c.inputs),.d (aj c.next),.d (aY c.gates),.d (aj c.outs)],.row i 1 true (((list.take i).map (io place)).map (D.int .i64))])
  (fun i=>i<=list.length) (fun i=>list.length-i) [] [] 1000 1000 ?_ ?_
 ·simp only[go_sem,seval];exact⟨0,by omega,by simp⟩
 ·intro i hi;have hql:((list.take i).map (io place)).length=i:=by simp;omega
  by_cases hlt:i<list.length
  ·have hz:=hsm _ (aO hlt:list.getD i 0∈list);have hts:(list.take (i+1)).map (io place)=(list.take i).map (io place) ++ [place.getD (list.getD i 0).toNat 0]:=nm 0 hlt;generalize (list.take i).map (io place)=q at *
   simp only[go_sem,seval]
   repeat' first|simp (disch:=omega) only[ag,aC,eC,bB];try simp only[go_sem,seval,hql]|(with_reducible first|apply aa|intro)|(try rw[ae]);omega
   refine⟨i+1,by omega,by omega,?_⟩
   repeat' apply And.intro
   all_goals first|rfl|(rw[hts])
  ·rw[show list.take i=list from ag (by omega)];rw[show list.take i=list from ag (by omega)] at hql;obtain rfl:i=list.length:=by omega
   generalize hq9:list.map (io place)=q at *
   simp only[go_sem,seval]
   repeat' first|simp (disch:=omega) only[ag,aC,eC,bB];try simp only[go_sem,seval,hql]|(with_reducible first|apply aa|intro)|(try rw[ae]);omega
   refine cD (σ:=Nat) (fun o=>[(0,.d (dC c)),(1,.d (cm cells)),(2,.d (aj place)),(3,.d (dI net)),(4,.ptr 0 0),(9,.sl 1 (q++eG c net o).length 1 0 (q++eG c net o).length),(12,.d (dI o))]) (fun o=>[.box [.d (dI c.inputs),.d (aj c.next),.d (aY c.gates),.d (aj c.outs)],.row (q++eG c net o).length 1 true ((q++eG c net o).map (D.int .i64))])
    (fun o=>o<=c.outs.length/\(eG c net o).length<=o) (fun o=>c.outs.length-o) [] [] 1000 1000 ?_ ?_
   ·simp only[go_sem,seval];refine⟨0,⟨by omega,by simp[eG]⟩,?_⟩;simp[eG];omega
   ·rintro o ⟨ho,hpo⟩;have hps:eG c net (o+1)=eG c net o++(if c.outs.getD o 0/2=net then [(o:Int)*5+4] else []):=rfl;have hq2:(q++eG c net o).length=list.length+(eG c net o).length:=by simp;omega
    by_cases hot:o<c.outs.length
    ·generalize eG c net o=p at *
     have hqa : ∀ l:ZA,q++(p++l)=(q++p)++l:=fun l=>(fA _ _ _).symm
     generalize hqq:q++p=q2 at *
     have hout:=hc.o _ (aO hot:c.outs.getD o 0∈c.outs);have hout0:0<=c.outs.getD o 0:=hout.1;simp only[go_sem,seval]
     repeat' first|simp (disch:=omega) only[ag,aC,eC,bB];try simp only[go_sem,seval]|(with_reducible first|apply aa|intro)|(try rw[ae]);omega
     ·rename_i h9;rw[if_pos h9] at hps;refine⟨o+1,⟨by omega,by rw[hps,b8,nn];omega⟩,by omega,?_⟩;rw[hps,hqa,show(o:Int)*5+5-1=(o:Int)*5+4 by omega];have e3:q2.length+1=list.length+(p ++ [(o:Int)*5+4]).length:=by simp;omega
      repeat' apply And.intro
      all_goals first|rfl|omega|(simp;omega)
     ·rename_i h9;rw[if_neg h9,jq] at hps;refine⟨o+1,⟨by omega,by rw[hps];omega⟩,by omega,?_⟩;rw[hps]
      repeat' apply And.intro
      all_goals first|rfl|omega|exact hqq.symm|(rw[hqq];done)|(simp;omega)
    ·obtain rfl:o=c.outs.length:=by omega
     rw[<-hstd];rw[<-hstd] at hq2;rw[hpn,show pP c net++ld cells place net cells.length=oB c cells place net cells.length from rfl];generalize hst9:fU c cells place net=sk at *
     by_cases hsk0:sk=[]
     ·rw[if_pos hsk0];subst hsk0;simp only[go_sem,seval]
      repeat' first|simp (disch:=omega) only[ag,aC,eC,bB];try simp only[go_sem,seval]|(with_reducible first|apply aa|intro)|(try rw[ae]);omega
     rw[if_neg hsk0];have hskp:0<sk.length:=List.length_pos_iff.2 hsk0;obtain⟨hsn,hsi⟩|⟨hsn,hsi⟩:((1<=net/\net<=c.inputs)/\pP c net=[(net-1)*5])∨(¬ (1<=net/\net<=c.inputs)/\pP c net=[]):=by
      by_cases h:1<=net/\net<=c.inputs
      ·exact .inl ⟨h,if_pos h⟩
      ·exact .inr ⟨h,if_neg h⟩
     all_goals (
      simp only[go_sem,seval]
      repeat' first|simp (disch:=omega) only[ag,aC,eC,bB];try simp only[go_sem,seval]|(with_reducible first|apply aa|intro)|(try rw[ae]);omega
      have hskl:sk.length<=100:=by omega
      refine cD (σ:=Nat) (fun i=>[(0,.d (dC c)),(1,.d (cm cells)),(2,.d (aj place)),(3,.d (dI net)),(4,.ptr 0 0),(9,.sl 1 sk.length 1 0 sk.length),(13,.sl 2 (oB c cells place net i).length 1 0 (oB c cells place net i).length),(14,.d (dI i))]) (fun i=>[.box [.d (dI c.inputs),.d (aj c.next),.d (aY c.gates),.d (aj c.outs)],.row sk.length 1 true (sk.map (D.int .i64)),.row (oB c cells place net i).length 1 true ((oB c cells place net i).map (D.int .i64))])
       (fun i=>i<=cells.length/\(oB c cells place net i).length<=1+i) (fun i=>cells.length-i) [] [] 1000 1000 ?_ ?_
      ·simp only[go_sem,seval];refine⟨0,⟨by omega,by simp[oB,hsi,ld]⟩,?_⟩;simp[oB,hsi,ld]
      ·rintro i ⟨hi,hil⟩;have hss:=Rz (c:=c) (cells:=cells) (place:=place) (net:=net) (i:=i);by_cases hit:i<cells.length
       ·generalize hx9:cells.getD i bP=x at *
        generalize oB c cells place net i=out at *
        simp only[go_sem,seval]
        repeat' first|simp (disch:=omega) only[ag,aC,eC,bB];try simp only[go_sem,seval,hx9]|(with_reducible first|apply aa|intro)|(try rw[ae]);omega
        ·rename_i h9;rw[if_pos h9] at hss;refine⟨i+1,?_⟩;rw[hss];refine⟨⟨by omega,by simp;omega⟩,by omega,?_⟩
         repeat' apply And.intro
         all_goals first|rfl|(simp;done)|(simp;omega)
        ·rename_i h9;rw[if_neg h9,jq] at hss;refine⟨i+1,?_⟩;rw[hss];refine⟨⟨by omega,by omega⟩,by omega,?_⟩
         repeat' apply And.intro
         all_goals rfl
       ·obtain rfl:i=cells.length:=by omega
        generalize oB c cells place net cells.length=src at *
        simp only[go_sem,seval]
        repeat' first|simp (disch:=omega) only[ag,aC,eC,bB];try simp only[go_sem,seval]|(with_reducible first|apply aa|intro)|(try rw[ae]);omega
        refine cD (σ:=Nat) (fun j=>[(9,.sl 1 sk.length 1 0 sk.length),(13,.sl 2 ((sk.take j).foldl bj src).length 1 0 ((sk.take j).foldl bj src).length),(15,.d (dI j))]) (fun j=>[.dead 0,.row sk.length 1 true (sk.map (D.int .i64)),.row ((sk.take j).foldl bj src).length 1 true (((sk.take j).foldl bj src).map (D.int .i64))])
         (fun j=>j<=sk.length/\((sk.take j).foldl bj src).length<=100+j) (fun j=>sk.length-j) [] [] 1000 1000 ?_ ?_
        ·simp only[go_sem,seval];refine⟨0,⟨by omega,by simp;omega⟩,?_⟩;simp
        ·rintro j ⟨hj,hjl⟩;by_cases hjt:j<sk.length
         ·have hfs:=iH (f:=bj) (b:=src) (0:Int) hjt;have hha:=tH ((sk.take j).foldl bj src) (sk.getD j 0);generalize (sk.take j).foldl bj src=o2 at *
          simp only[go_sem,seval]
          repeat' first|simp (disch:=omega) only[ag,aC,eC,bB];try simp only[go_sem,seval]|(with_reducible first|apply aa|intro)|(refine az hha ?_;simp only[go_sem,seval])|(try rw[ae]);omega
          ·rename_i h9;have e:(sk.take (j+1)).foldl bj src=o2 ++ [sk.getD j 0]:=by rw[hfs,bj,if_neg h9]
           refine⟨j+1,?_⟩;rw[e];refine⟨⟨by omega,by simp;omega⟩,by omega,?_⟩
           repeat' apply And.intro
           all_goals first|rfl|(simp;done)
          ·rename_i h9;have e:(sk.take (j+1)).foldl bj src=o2:=by rw[hfs,bj,if_pos h9]
           refine⟨j+1,?_⟩;rw[e];refine⟨⟨by omega,by omega⟩,by omega,?_⟩
           repeat' apply And.intro
           all_goals rfl
         ·have e:sk.take j=sk:=ag (by omega);rw[e];simp only[go_sem,seval]
          repeat' first|simp (disch:=omega) only[ag,aC,eC,bB];try simp only[go_sem,seval]|(with_reducible first|apply aa|intro)|(try rw[ae]);omega)
end Go.Proofs
