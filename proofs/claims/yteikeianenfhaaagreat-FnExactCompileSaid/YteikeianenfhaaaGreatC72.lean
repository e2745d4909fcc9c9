/- Contracts, plain definitions and lemmas. Conditions: none; lemmas. -/
import Derived.Test.YteikeianenfhaaaGreatC71
import Derived.Test.YteikeianenfhaaaGreatC92
set_option maxRecDepth 20000
set_option linter.unusedVariables false
set_option linter.unusedSimpArgs false
set_option maxHeartbeats 2000000
namespace Go.Proofs
set_option linter.defProp false
open Go Go.VL Tryz
variable {m l:List kQ}{i:Nat}
structure gu (l m:List kQ) (i:Nat):Prop where
 len:m.length=l.length
 get : ∀ p,p<l.length->m.getD p jT=if p<i∨l.length<=p+i then l.getD (l.length-1-p) jT else l.getD p jT
def gu.start (l:List kQ):gu l l 0:=⟨rfl,fun p hp=>by rw[if_neg (by omega)]⟩
def J3 {a p:Nat}{x:kQ}(h:a<m.length):(m.set a x).getD p jT=if p=a then x else m.getD p jT:=by
 by_cases e:p=a
 ·subst e;simp[List.getD,h]
 ·simp[List.getD,List.getElem?_set,show ¬ a=p by omega,e]
def gu.step (h:gu l m i) (hi:i+i+1<l.length):gu l ((m.set i (m.getD (l.length-1-i) jT)).set (l.length-1-i) (m.getD i jT)) (i+1):=by
 have hl:=h.len;refine⟨by simp[hl],fun p hp=>?_⟩;rw[J3 (by simp;omega),J3 (by omega)];have g1:=h.get p hp;have g2:=h.get i (by omega);have g3:=h.get (l.length-1-i) (by omega);rw[if_neg (by omega)] at g2 g3;rw[g1,g2,g3];by_cases e1:p=l.length-1-i
 ·subst e1;rw[if_pos rfl,if_pos (by omega),show l.length-1-(l.length-1-i)=i by omega]
 ·rw[if_neg e1];by_cases e2:p=i
  ·subst e2;rw[if_pos rfl,if_pos (by omega)]
  ·rw[if_neg e2];by_cases e3:p<i∨l.length<=p+i
   ·rw[if_pos e3,if_pos (by omega)]
   ·rw[if_neg e3,if_neg (by omega)]
def gu.done (h:gu l m i) (hi:l.length<=i+i+1):m=l.reverse:=by
 refine oK jT (by simp[h.len]) fun p hp=>?_
 have hl:=h.len;have e:l.reverse.getD p jT=l.getD (l.length-1-p) jT:=by simp[List.getD,show p<l.length by omega,show l.length-1-p<l.length by omega]
 rw[e,h.get p (by omega)];split
 ·rfl
 ·rw[show l.length-1-p=p by omega]
def Tryz.nD (g:Nat) (l:List kQ) (hl:l.length<=1000000):aQ prog 175 [.sl 0 g 3 0 l.length] [.row g 3 false (l.map fun x=>uW x)] (fun _ H'=>H'=[.row g 3 false (l.reverse.map fun x=>uW x)]):=by
 refine jp (E:=env 1) tok rfl 1000 func175 rfl rfl ntmps175 (by simp) ?_
 repeat' first|assumption|simp (disch:=first|assumption|omega|simp;try omega) only[go_sem,seval,dt]|(with_reducible first|apply aa|intro)|(try rw[ae]);omega
 refine ce (E:=env 1) tok (σ:=Nat×List kQ) (fun s=>[(3,.d (dI ((l.length:Int)-1-(s.1:Int)))),(2,.d (dI s.1)),(0,.sl 0 g 3 0 l.length)]) (fun s=>[.row g 3 false (s.2.map fun x=>uW x)])
  (fun s=>s.1<=l.length/\gu l s.2 s.1) (fun s=>l.length-s.1) [] 1000 1000 ?_ ?_ ?_
 ·simp only[go_sem,seval]
 ·simp only[go_sem,seval];exact⟨(0,l),⟨kr _,gu.start l⟩,⟨by simp,rfl⟩,rfl⟩
 ·rintro⟨i,m⟩ ⟨hi,hm⟩;simp only at hi hm;have hml:=hm.len;by_cases hlt:i+i+1<l.length
  ·have ej:((l.length:Int)-1-(i:Int)).toNat=l.length-1-i:=by omega
   repeat' first|assumption|simp (disch:=first|assumption|omega|simp;try omega) only[go_sem,seval,ej,dt]|(with_reducible first|apply aa|intro)|(try rw[ae]);omega
   refine cg (n:=1) [13,15] (aw [0,1,2,3,4,5,6,8,9,10,7,11,12] (.one 13 (.fst 14 (.one 15 .done)))) ?_
   repeat' first|assumption|simp (disch:=first|assumption|omega|simp;try omega) only[go_sem,seval,ej,dt]|(with_reducible first|apply aa|intro)|(try rw[ae]);omega
   refine⟨(i+1,_),⟨by simp only;omega,hm.step hlt⟩,by simp only;omega,⟨by simp only;omega,rfl⟩,?_⟩;rw[List.map_set,List.map_set]
  ·repeat' first|assumption|simp (disch:=first|assumption|omega|simp;try omega) only[go_sem,seval,dt]|(with_reducible first|apply aa|intro)|(try rw[ae]);omega
   exact tE (by rw[hm.done (by omega)])
def Tryz.qz (l:List Int) (hl:l.length<=1048576):Pure prog 173 [ai l] (ai l):=by
 refine JN (T:=tyT) tok func173 rfl rfl (by simp[ntmps173]) ?_;rw[ntmps173];refine C0 (E:=env 0) (ks:=[]) (Gw (GY tok rfl rfl trivial (OA (C0 (C0 (Gw (GY tok rfl rfl ?_ (Ng tok rfl rfl ?_ rfl fun b hb=>LC tok 1000 ?_))))))))
 ·simp only[go_sem,seval]
 ·simp only[go_sem,seval]
 ·simp only[go_sem,seval];exact⟨hb,fun h=>by omega⟩
def N2 {c:ac}(hb : ∀ z∈ku c,0<=z):fg (List.replicate c.vars.toNat false) (c.roots.map (· / 2))=lT c:=by
 have hm : ∀ z:Int,z∈c.roots.map (· / 2)↔z∈ku c:=fun z=>by simp[ac.roots,ku,or_and_right,exists_or,or_comm]
 refine oK false (by rw[lT,s6,s6]) fun j hj=>?_
 rw[lT,yP _ _ _ (fun v hv=>hb v ((hm v).1 hv)),yP _ _ _ hb];simp only[hm]
end Go.Proofs

set_option maxRecDepth 20000
set_option linter.unusedVariables false
set_option linter.unusedSimpArgs false
namespace Go.Proofs
set_option linter.defProp false
open Go Go.VL
def Tryz.n8 (c:ac) (hc:c.Valid):bk prog 101 [dC c] (oX (iQ c)):=by
 have hf:=hc.am;have hi0:=hc.i0;have hi1:=hc.i1;have hlo:=hc.lo;have hln:=hc.ln;have hlg:=hc.lg;have hfst:=bq c (by omega);have hvs:=jq c (by omega);have hcv:=a8 c;have hbe:=np c hc;have hro:=kU c (by omega);have hvv:c.vars=c.first+(c.gates.length:Int):=rfl
 have hrv:=CN hc;have hn0:=N2 (c:=c) (fun z hz=>(hrv z hz).1);have hr2 : ∀ z∈c.roots,0<=z/2/\z/2<c.vars:=fun z hz=>hrv _ (by
  simp only[ku,List.mem_map,fV];exact⟨z,by simpa [ac.roots,or_comm] using hz,rfl⟩)
 have hrl:c.roots.length<=2000000:=by unfold ac.roots;simp;omega
 refine pu (E:=env 0) tok rfl 1000 func101 rfl rfl ntmps101 (by simp) fun ok=>?_
 simp only[go_sem,seval] at ok⊢
 repeat' first|assumption|simp (disch:=first|assumption|omega|simp;try omega) only[ag];try simp only[go_sem,seval]|(with_reducible first|apply aa|intro)|(refine aA hfst ?_;simp only[go_sem,seval])|(refine aA hcv ?_;simp only[go_sem,seval])|(refine aA hvs ?_;simp only[go_sem,seval])|(refine aA hro ?_;simp only[go_sem,seval])|(try rw[ae]);omega
 ·rename_i h9;exact absurd hc h9
 refine iu hbe [0] (by simp only[go_sem,seval]) ?_;rintro r0 H1 ⟨rfl,rfl⟩;simp only[go_sem,seval]
 repeat' first|assumption|simp (disch:=first|assumption|omega|simp;try omega) only[ag];try simp only[go_sem,seval]|(with_reducible first|apply aa|intro)|(refine aA hvs ?_;simp only[go_sem,seval])|(refine aA hro ?_;simp only[go_sem,seval])|(try rw[ae]);omega
 have hrd:(c.roots.map (· / 2)).length=c.roots.length:=by simp
 generalize hroots:c.roots=roots at *
 refine bt (E:=env 0) tok (σ:=Nat) (fun i=>[(23,.d (dI i)),(22,.d (dI roots.length)),(21,.d (ai roots)),(5,.sl 1 0 1 0 c.vars.toNat),(3,.d (.lst 1 (ir c (cS c)))),(1,.ptr 0 0)])
  (fun i=>[.box [.d (dI c.inputs),.d (ai c.next),.d (aO c.gates),.d (ai c.outs)],.row 0 1 true ((fg (List.replicate c.vars.toNat false) ((roots.map (· / 2)).take i)).map D.bool)])
  (fun i=>i<=roots.length) (fun i=>roots.length-i) [] [] 1000 1000 ?_ ?_
 ·simp only[go_sem,seval];refine⟨0,by omega,?_⟩;simp[fg]
 ·intro i hi;have hsl:=s6 ((roots.map (· / 2)).take i) (List.replicate c.vars.toNat false);rw[mB] at hsl;by_cases hlt:i<roots.length
  ·have hrg:(roots.map (· / 2)).getD i 0=roots.getD i 0/2:=by simp[List.getD,hlt]
   have hbd:=hr2 _ (aP hlt:roots.getD i 0∈roots);have hst:fg (List.replicate c.vars.toNat false) ((roots.map (· / 2)).take (i+1))=(fg (List.replicate c.vars.toNat false) ((roots.map (· / 2)).take i)).set (roots.getD i 0/2).toNat true:=by
    rw[<-hrg];exact gI (f:=fun(n:List Bool) (v:Int)=>n.set v.toNat true) (b:=List.replicate c.vars.toNat false) (0:Int) (by rw[hrd];exact hlt)
   simp only[go_sem,seval]
   repeat' first|assumption|simp (disch:=first|assumption|omega|simp;try omega) only[ag];try simp only[go_sem,seval]|(with_reducible first|apply aa|intro)|(try rw[ae]);omega
   exact⟨i+1,by omega,by omega,rfl,by rw[hst]⟩
  ·have hst:fg (List.replicate c.vars.toNat false) ((roots.map (· / 2)).take i)=lT c:=by rw[<-hn0,ag (by rw[hrd];omega)]
   rw[hst];simp only[go_sem,seval]
   repeat' first|assumption|simp (disch:=first|assumption|omega|simp;try omega) only[ag];try simp only[go_sem,seval]|(with_reducible first|apply aa|intro)|(refine aA hvs ?_;simp only[go_sem,seval])|(try rw[ae]);omega
   have hne0:=Ep c;have hlu:iQ c=fC c c.gates.length (lT c) []:=rfl;refine bt (E:=env 0) tok (σ:=Nat×List Bool×List kQ) (fun s=>[(9,.d (dI (c.first+(s.1:Int)-1))),(8,.sl 2 s.2.2.length 3 0 s.2.2.length),(5,.sl 1 0 1 0 c.vars.toNat),(3,.d (.lst 1 (ir c (cS c)))),(1,.ptr 0 0)])
    (fun s=>[.box [.d (dI c.inputs),.d (ai c.next),.d (aO c.gates),.d (ai c.outs)],.row 0 1 true (s.2.1.map D.bool),.row s.2.2.length 3 false (s.2.2.reverse.map fun x=>uW x)])
    (fun s=>s.1<=c.gates.length/\s.2.1.length=c.vars.toNat/\s.2.2.length+s.1<=c.gates.length/\fC c s.1 s.2.1 s.2.2=iQ c) (fun s=>s.1) [] [(8,3,false)] 1000 1000 ?_ ?_
   ·simp only[go_sem,seval];refine⟨(c.gates.length,lT c,[]),⟨by simp,hne0,by simp,hlu.symm⟩,?_⟩;simp;omega
   ·rintro⟨j,need,out⟩ ⟨hj,hnl,hol,hinv⟩;simp only at hj hnl hol hinv;cases j with
    | zero=>
     simp only[go_sem,seval]
     repeat' first|assumption|simp (disch:=first|assumption|omega|simp;try omega) only[ag];try simp only[go_sem,seval]|(with_reducible first|apply aa|intro)|(refine aA hfst ?_;simp only[go_sem,seval])|(try rw[ae]);omega
     have hrl9:out.length=out.reverse.length:=by simp
     rw[hrl9];refine iu (nD out.reverse.length out.reverse (by simp;omega)) [2] (by simp only[go_sem,seval]) ?_
     ·rintro r0 H1 rfl;rw[List.reverse_reverse];have hmd:fC c 0 need out=out:=rfl;rw[<-hinv,hmd];simp only[go_sem,seval]
      repeat' first|assumption|simp (disch:=first|assumption|omega|simp;try omega) only[ag];try simp only[go_sem,seval]|(with_reducible first|apply aa|intro)|(try rw[ae]);omega
    | succ m=>
     have hbo:=p6 hc (i:=m) (by omega);have hbl:=IR c;have ev:(c.first+((m+1:Nat):Int)-1)=c.first+(m:Int):=by omega
     have ev2:(c.first+(m:Int)).toNat=c.first.toNat+m:=by omega
     have hbg : ∀ z,(ir c (cS c)).getD (c.first.toNat+m) z=ai ((cS c).getD (c.first.toNat+m) []):=fun z=>Jk (by omega) (by omega)
     have hstep:fC c (m+1) need out=if need.getD (c.first.toNat+m) false=true then
       fC c m (fg need ((cS c).getD (c.first.toNat+m) [])) (⟨c.first+(m:Int),(cS c).getD (c.first.toNat+m) [],s8 c (c.first+(m:Int)) ((cS c).getD (c.first.toNat+m) [])⟩::out)
      else fC c m need out:=rfl
     have htb:=lM c hc (c.first+(m:Int)) (by omega) (by omega) ((cS c).getD (c.first.toNat+m) []) hbo.2.1 hbo.1 (fun z hz=>by have:=hbo.2.2 z hz;omega);have hcl:=qz ((cS c).getD (c.first.toNat+m) []) (by have:=hbo.2.1;omega);have hbD:(ir c (cS c)).length=c.first.toNat+c.gates.length:=by rw[uu (by omega)];exact hbl
     rw[ev];generalize hL:(cS c).getD (c.first.toNat+m) []=L at *
     by_cases hnd:need.getD (c.first.toNat+m) false=true
     ·rw[if_pos hnd] at hstep;simp only[go_sem,seval,ev2,hnd,hbg]
      repeat' first|assumption|simp (disch:=first|assumption|omega|simp;try omega) only[ag];try simp only[go_sem,seval,ev2,hnd,hbg]|(with_reducible first|apply aa|intro)|(refine aA hfst ?_;simp only[go_sem,seval,ev2,hnd,hbg])|(try rw[ae]);omega
      refine bt (E:=env 0) tok (σ:=Nat) (fun k=>[(49,.d (dI k)),(48,.d (dI L.length)),(47,.d (ai L)),(9,.d (dI (c.first+(m:Int)))),(8,.sl 2 out.length 3 0 out.length),(5,.sl 1 0 1 0 c.vars.toNat),(3,.d (.lst 1 (ir c (cS c)))),(1,.ptr 0 0)])
       (fun k=>[.box [.d (dI c.inputs),.d (ai c.next),.d (aO c.gates),.d (ai c.outs)],.row 0 1 true ((fg need (L.take k)).map D.bool),.row out.length 3 false (out.reverse.map fun x=>uW x)])
       (fun k=>k<=L.length) (fun k=>L.length-k) [] [] 1000 1000 ?_ ?_
      ·simp only[go_sem,seval];exact⟨0,by omega,rfl,rfl⟩
      ·intro k hk;have hsl:=s6 (L.take k) need;by_cases hkt:k<L.length
       ·have hst:fg need (L.take (k+1))=(fg need (L.take k)).set (L.getD k 0).toNat true:=gI (f:=fun(n:List Bool) (v:Int)=>n.set v.toNat true) (b:=need) (0:Int) hkt;have hz:=hbo.2.2 _ (aP hkt:L.getD k 0∈L);simp only[go_sem,seval,ev2,hbg]
        repeat' first|assumption|simp (disch:=first|assumption|omega|simp;try omega) only[ag];try simp only[go_sem,seval,ev2,hbg]|(with_reducible first|apply aa|intro)|(try rw[ae]);omega
        exact⟨k+1,by omega,by omega,rfl,hst.symm⟩
       ·have hst:fg need (L.take k)=fg need L:=by rw[ag (by omega)]
        rw[hst];rw[hst] at hsl;simp only[go_sem,seval,ev2,hbg]
        repeat' first|assumption|simp (disch:=first|assumption|omega|simp;try omega) only[ag];try simp only[go_sem,seval,ev2,hbg]|(with_reducible first|apply aa|intro)|(try rw[ae]);omega
        refine cg (n:=0) [15] (aw [0,1,2,3,4,7,8,9,10,5,11] (.one 6 (.one 12 (.fst 13 (.one 14 (.one 15 (.fst 16 .done))))))) ?_;simp only[go_sem,seval,ev2,hbg]
        repeat' first|assumption|simp (disch:=first|assumption|omega|simp;try omega) only[ag];try simp only[go_sem,seval,ev2,hbg]|(with_reducible first|apply aa|intro)|(refine aA htb ?_;simp only[go_sem,seval,ev2,hbg])|(refine aA hcl ?_;simp only[go_sem,seval,ev2,hbg])|(try rw[ae]);omega
        ·simp
        ·exact⟨(m,fg need L,⟨c.first+(m:Int),L,s8 c (c.first+(m:Int)) L⟩::out),⟨by simp only;omega,hsl.trans hnl,by simp only[cU];omega,by rw[<-hinv,hstep]⟩,by simp only;omega,⟨rfl,by simp⟩,rfl,by simp,by simp⟩
     ·rw[if_neg hnd] at hstep;rw[Bool.not_eq_true] at hnd;simp only[go_sem,seval,ev2,hnd,hbg]
      repeat' first|assumption|simp (disch:=first|assumption|omega|simp;try omega) only[ag];try simp only[go_sem,seval,ev2,hnd,hbg]|(with_reducible first|apply aa|intro)|(refine aA hfst ?_;simp only[go_sem,seval,ev2,hnd,hbg])|(try rw[ae]);omega
      exact⟨(m,need,out),⟨by simp only;omega,hnl,by simp only;omega,by rw[<-hinv,hstep]⟩,by simp only;omega,⟨rfl,rfl⟩,rfl,rfl,rfl⟩
end Go.Proofs

set_option linter.unusedVariables false
set_option linter.unusedSimpArgs false
namespace Go.VL
set_option linter.defProp false
variable {i n:Nat}{tiles place:List Int}{c:ac}{cells:List bR}{net tile:Int}
def tQ {β : Type}{f : β->Nat->β}{b : β}:(List.range (i+1)).foldl f b=f ((List.range i).foldl f b) i:=by
 rw[kK,mM];rfl
def bB (s:Int×Int×Int×Int) (t:Int):Int×Int×Int×Int:=(min s.1 (t/5),max s.2.1 (t/5),min s.2.2.1 (t%5),max s.2.2.2 (t%5))
def bP (tiles:List Int):Int×Int×Int×Int:=tiles.foldl bB (5,0,5,0)
def kZ (tiles:List Int):Int:=if tiles=[] then 0 else(bP tiles).2.1-(bP tiles).1+(bP tiles).2.2.2-(bP tiles).2.2.1
def C4 (h : ∀ t∈tiles,0<=t/\t<=24):(0<=(bP tiles).1/\(bP tiles).1<=5)/\(0<=(bP tiles).2.1/\(bP tiles).2.1<=5)/\(0<=(bP tiles).2.2.1/\(bP tiles).2.2.1<=5)/\0<=(bP tiles).2.2.2/\(bP tiles).2.2.2<=5:=by
 have : ∀ (tiles:List Int) (s:Int×Int×Int×Int),(∀ t∈tiles,0<=t/\t<=24)->((0<=s.1/\s.1<=5)/\(0<=s.2.1/\s.2.1<=5)/\(0<=s.2.2.1/\s.2.2.1<=5)/\0<=s.2.2.2/\s.2.2.2<=5)->
   ((0<=(tiles.foldl bB s).1/\(tiles.foldl bB s).1<=5)/\(0<=(tiles.foldl bB s).2.1/\(tiles.foldl bB s).2.1<=5)/\(0<=(tiles.foldl bB s).2.2.1/\(tiles.foldl bB s).2.2.1<=5)/\0<=(tiles.foldl bB s).2.2.2/\(tiles.foldl bB s).2.2.2<=5):=by
  intro tiles;induction tiles with
  | nil=>exact fun s _ h=>h
  | cons t r ih=>
   intro s h hs;have ht:=h t (by simp);exact ih (bB s t) (fun z hz=>h z (by simp[hz])) (by simp only[bB];omega)
 exact this tiles (5,0,5,0) h (by simp)
def CA (h : ∀ t∈tiles,0<=t/\t<=24) : -10<=kZ tiles/\kZ tiles<=10:=by
 have:=C4 h;unfold kZ;split <;> omega
def dS (c:ac) (net:Int):Nat->List Int
 | 0=>[]
 | o+1=>dS c net o++(if c.outs.getD o 0/2=net then [(o:Int)*5+4] else [])
def gK (place:List Int) (i:Int):Int:=place.getD i.toNat 0
def fe (c:ac) (cells:List bR) (place:List Int) (net:Int):List Int:=(mH cells net).map (gK place)++dS c net c.outs.length
def ox (c:ac) (net:Int):List Int:=if 1<=net/\net<=c.inputs then [(net-1)*5] else []
def jM (cells:List bR) (place:List Int) (net:Int):Nat->List Int
 | 0=>[]
 | i+1=>jM cells place net i++(if(cells.getD i bI).net=net then [place.getD i 0] else [])
def aS (out:List Int) (s:Int):List Int:=if s∈out then out else out ++ [s]
def i8 (c:ac) (cells:List bR) (place:List Int) (net:Int):List Int:=
 if fe c cells place net=[] then [] else(fe c cells place net).foldl aS (ox c net++jM cells place net cells.length)
def oO (c:ac) (cells:List bR) (place:List Int):Nat->Int
 | 0=>0
 | k+1=>oO c cells place k+kZ (i8 c cells place ((k:Int)+1))
def iY (c:ac) (cells:List bR) (place:List Int):Int:=oO c cells place (c.vars.toNat-1)
structure ay (n:Nat) (place:List Int):Prop where
 len:place.length=n
 rng : ∀ t∈place,0<=t/\t<=24
 nd:place.Nodup
def ay.get (h:ay n place) (hi:i<n):0<=place.getD i 0/\place.getD i 0<=24:=h.rng _ (aP (by rw[h.len];exact hi))
def Ds {c:ac}{net t:Int} : ∀ {n:Nat},t∈dS c net n↔∃ o:Nat,o<n/\c.outs.getD o 0/2=net/\t=(o:Int)*5+4
 | 0=>by simp[dS]
 | n+1=>by
  rw[dS,fV,Ds];constructor
  ·rintro(⟨o,h1,h2,h3⟩|h)
   ·exact⟨o,by omega,h2,h3⟩
   ·split at h
    ·rename_i h2;exact⟨n,by omega,h2,by simpa using h⟩
    ·simp at h
  ·rintro⟨o,h1,h2,h3⟩;by_cases ho:o<n
   ·exact .inl ⟨o,ho,h2,h3⟩
   ·obtain rfl:o=n:=by omega
    rw[if_pos h2];exact .inr (by simp[h3])
def HT {cells:List bR}{place:List Int}{net t:Int} : ∀ {n:Nat},t∈jM cells place net n↔∃ i:Nat,i<n/\(cells.getD i bI).net=net/\t=place.getD i 0
 | 0=>by simp[jM]
 | n+1=>by
  rw[jM,fV,HT];constructor
  ·rintro(⟨o,h1,h2,h3⟩|h)
   ·exact⟨o,by omega,h2,h3⟩
   ·split at h
    ·rename_i h2;exact⟨n,by omega,h2,by simpa using h⟩
    ·simp at h
  ·rintro⟨o,h1,h2,h3⟩;by_cases ho:o<n
   ·exact .inl ⟨o,ho,h2,h3⟩
   ·obtain rfl:o=n:=by omega
    rw[if_pos h2];exact .inr (by simp[h3])
def yW {t:Int}:t∈fe c cells place net↔(∃ i:Nat,i<cells.length/\net∈(cells.getD i bI).inputs/\t=place.getD i 0)∨∃ o:Nat,o<c.outs.length/\c.outs.getD o 0/2=net/\t=(o:Int)*5+4:=by
 rw[fe,fV,Ds,List.mem_map];constructor
 ·rintro(⟨i,h1,rfl⟩|h)
  ·obtain⟨j,h2,h3,rfl⟩:=z8.1 h1;exact .inl ⟨j,h2,h3,rfl⟩
  ·exact .inr h
 ·rintro(⟨i,h1,h2,rfl⟩|h)
  ·exact .inl ⟨(i:Int),z8.2 ⟨i,h1,h2,rfl⟩,rfl⟩
  ·exact .inr h
def Gl {out:List Int}{s z:Int}:z∈aS out s↔z∈out∨z=s:=by
 unfold aS;split
 ·rename_i h;constructor
  ·exact .inl
  ·rintro(h1|rfl)
   ·exact h1
   ·exact h
 ·simp
def BK {z:Int} : ∀ {l out:List Int},z∈l.foldl aS out↔z∈out∨z∈l
 | [],out=>by simp
 | s::l,out=>by
  rw[eO,BK,Gl,jP,or_assoc]
def xJ : ∀ {l out:List Int},∃ r,l.foldl aS out=out++r
 | [],out=>⟨[],by simp⟩
 | s::l,out=>by
  obtain⟨r,hr⟩:=xJ (l:=l) (out:=aS out s);rw[eO,hr];unfold aS;split
  ·exact⟨r,rfl⟩
  ·exact⟨s::r,by simp⟩
def yI (hc:c.Valid) (hp:ay cells.length place)  : ∀ t∈i8 c cells place net,0<=t/\t<=24:=by
 intro t ht;have hlo:=hc.lo;have hi1:=hc.i1;unfold i8 at ht;split at ht
 ·simp at ht
 ·rw[BK,fV] at ht;rcases ht with(h|h)|h
  ·unfold ox at h;split at h
   ·obtain rfl:t=(net-1)*5:=by simpa using h
    omega
   ·simp at h
  ·obtain⟨i,h1,h2,rfl⟩:=HT.1 h;exact hp.get h1
  ·rcases yW.1 h with⟨i,h1,h2,rfl⟩|⟨o,h1,h2,rfl⟩
   ·exact hp.get h1
   ·omega
def F9 {c:ac}{cells:List bR}{place:List Int}(hc:c.Valid) (hp:ay cells.length place) : ∀ (k:Nat),-10*(k:Int)<=oO c cells place k/\oO c cells place k<=10*k
 | 0=>by simp[oO]
 | k+1=>by
  have:=F9 hc hp k;have:=CA (yI hc hp (net:=(k:Int)+1));rw[oO];omega
def dL (place:List Int) (i:Nat) (tile:Int):List Int:=(place.map fun x=>if x=tile then place.getD i 0 else x).set i tile
def zQ:(dL place i tile).length=place.length:=by simp[dL]
def zk {j:Nat}(hj:j<place.length):(dL place i tile).getD j 0=if j=i then tile else if place.getD j 0=tile then place.getD i 0 else place.getD j 0:=by
 unfold dL;by_cases h:j=i
 ·subst h;simp[List.getD,hj]
 ·simp[List.getD,List.getElem?_set,Ne.symm h,hj,h]
def z9 {l:List Int}:l.Nodup↔∀ i j,i<l.length->j<l.length->l.getD i 0=l.getD j 0->i=j:=by
 rw[List.nodup_iff_pairwise_ne,zf];constructor
 ·intro h i j hi hj e;have e2:l[i]=l[j]:=by simpa [List.getD,hi,hj] using e
  rcases Nat.lt_trichotomy i j with h1|h1|h1
  ·exact absurd e2 (h i j hi hj h1)
  ·exact h1
  ·exact absurd e2.symm (h j i hj hi h1)
 ·intro h i j hi hj hij e;have:=h i j hi hj (by simpa [List.getD,hi,hj] using e);omega
def ay.wa (h:ay n place) (hi:i<n) (ht:0<=tile/\tile<=24):ay n (dL place i tile):=by
 have hl:=h.len;refine⟨by rw[zQ,hl],fun t hm=>?_,?_⟩
 ·obtain⟨j,hj,rfl⟩:=fO 0 hm;rw[zQ,hl] at hj;rw[zk (by omega)];have:=h.get hi;have:=h.get hj;split
  ·exact ht
  ·split <;> omega
 ·have hnd:=z9.1 h.nd;refine z9.2 fun a b ha hb e=>?_
  rw[zQ,hl] at ha hb;rw[zk (by omega),zk (by omega)] at e;by_cases h1:a=i
  ·by_cases h2:b=i
   ·omega
   ·rw[if_pos h1,if_neg h2] at e;split at e
    ·rename_i h3;have:=hnd b i (by omega) (by omega) (by rw[h3,e]);omega
    ·rename_i h3;exact absurd e.symm h3
  ·by_cases h2:b=i
   ·rw[if_neg h1,if_pos h2] at e;split at e
    ·rename_i h3;have:=hnd a i (by omega) (by omega) (by rw[h3,<-e]);omega
    ·rename_i h3;exact absurd e h3
   ·rw[if_neg h1,if_neg h2] at e;split at e
    ·rename_i h3;split at e
     ·rename_i h4;exact hnd a b (by omega) (by omega) (by rw[h3,h4])
     ·have:=hnd i b (by omega) (by omega) e;omega
    ·split at e
     ·have:=hnd a i (by omega) (by omega) e;omega
     ·exact hnd a b (by omega) (by omega) e
def kB (c:ac) (cells:List bR) (i:Nat) (st:List Int×Int) (t:Nat):List Int×Int:=
 if iY c cells (dL st.1 i (t:Int))<st.2 then(dL st.1 i (t:Int),iY c cells (dL st.1 i (t:Int))) else st
def eK (c:ac) (cells:List bR) (st:List Int×Int) (i:Nat):List Int×Int:=(List.range 25).foldl (kB c cells i) st
def lk (c:ac) (cells:List bR) (st:List Int×Int) (s:Nat):List Int×Int:=(List.range cells.length).foldl (eK c cells) st
def gm (n:Nat):List Int:=(List.range n).map fun(i:Nat)=>(i:Int)
def j7 (c:ac) (cells:List bR):List Int:=((List.range 3).foldl (lk c cells) (gm cells.length,iY c cells (gm cells.length))).1
def Nj (hi:i<cells.length) {st:List Int×Int}(h:ay cells.length st.1) {t:Nat}(ht:t<25):ay cells.length (kB c cells i st t).1:=by
 unfold kB;split
 ·exact h.wa hi (by omega)
 ·exact h
def AW {c:ac}{cells:List bR}{i:Nat}(hi:i<cells.length) {st:List Int×Int}(h:ay cells.length st.1) : ∀ t,t<=25->ay cells.length ((List.range t).foldl (kB c cells i) st).1
 | 0,_=>h
 | t+1,ht=>by
  rw[tQ];exact Nj hi (AW hi h t (by omega)) (by omega)
def AE {c:ac}{cells:List bR}{st:List Int×Int}(h:ay cells.length st.1) : ∀ n,n<=cells.length->ay cells.length ((List.range n).foldl (eK c cells) st).1
 | 0,_=>h
 | n+1,hn=>by
  rw[tQ];exact AW (by omega) (AE h n (by omega)) 25 (by omega)
def CU (h:n<=25):ay n (gm n):=by
 refine⟨by simp[gm],fun t ht=>?_,?_⟩
 ·obtain⟨i,hi,rfl⟩:=List.mem_map.1 ht;have:=List.mem_range.1 hi;omega
 ·unfold gm;rw[List.nodup_iff_pairwise_ne,List.pairwise_map];exact List.Pairwise.imp (fun {a b} h e=>h (by omega)) List.nodup_range
def BF {c:ac}{cells:List bR}(hn:cells.length<=25) : ∀ s,ay cells.length ((List.range s).foldl (lk c cells) (gm cells.length,iY c cells (gm cells.length))).1
 | 0=>CU hn
 | s+1=>by
  rw[tQ];exact AE (BF hn s) _ (aC _)
def Eg (hn:cells.length<=25):ay cells.length (j7 c cells):=BF hn 3
end Go.VL

set_option maxRecDepth 20000
set_option linter.unusedVariables false
set_option linter.unusedSimpArgs false
namespace Go.Proofs
set_option linter.defProp false
open Go Go.VL
variable {i:Nat}
abbrev fU (x:bR):D:=.agg [dI x.net,ai x.inputs,dI x.table,dB x.ge]
abbrev cd (l:List bR):D:=.lst 4 (l.map fun x=>fU x)
def aW {l:List bR}{z:D}(h:i<l.length):(l.map fun x=>fU x).getD i z=fU (l.getD i bI):=ck _ _ _ _ _ h
def ee (c:ac) (i:Nat):D:=if(c.next.getD i 0)/2 > 0 then fU (iU c i) else .agg [dI (c.inputs+1+(i:Int)),.nil,dI ((c.next.getD i 0)%2),dB true]
def td (c:ac) (i:Nat):WK (ee c i) (fU (iU c i)):=by
 unfold ee;split
 ·exact .refl _
 ·rename_i h;have e:iU c i=⟨c.inputs+1+i,[],(c.next.getD i 0)%2,true⟩:=if_neg h;rw[e];exact .EC ⟨.refl _,.nil (by omega),.refl _,.refl _,trivial⟩
def Fy (c:ac):WK (.lst 4 ((List.range c.next.length).map (ee c)++(iQ c).map fun l=>fU (gD l))) (cd (ax c)):=by
 have e:(ax c).map (fun x=>fU x)=(List.range c.next.length).map (fun i=>fU (iU c i))++(iQ c).map fun l=>fU (gD l):=by
  rw[ax,iz,List.map_map,List.map_map];rfl
 show WK _ (.lst 4 ((ax c).map fun x=>fU x))
 rw[e];refine .lst (by simp) fun j hj=>?_
 by_cases h:j<c.next.length
 ·rw[cZ (by simpa using h),cZ (by simpa using h)];simp only[List.getD_eq_getElem?_getD,List.getElem?_map,List.getElem?_range h,k6,i9];exact td c j
 ·rw[List.getD_eq_getElem?_getD,List.getD_eq_getElem?_getD,List.getElem?_append_right (by simpa using h),List.getElem?_append_right (by simpa using h)];simp only[ie,rB];exact .refl _
def Tryz.oy (c:ac) (hc:c.Valid):Pure prog 74 [dC c] (cd (ax c)):=by
 have hmp:=sx c hc;have hln:=hc.ln;have hll:=DT hc;have hlg:=hc.lg;have hlk:=ro hc;have hi0:=hc.i0;have hi1:=hc.i1;refine Pure.res ?_ (Fy c);refine bw func74 rfl ntmps74 fun ok=>?_
 simp only[go_sem,seval] at ok⊢
 repeat' first|assumption|simp (disch:=first|assumption|omega|simp;try omega) only[ag,aB,dt,aW];try simp only[go_sem,seval]|(with_reducible first|apply aa|intro)|(try rw[ae]);omega
 refine bt (E:=env 0) tok (σ:=Nat) (fun i=>[(0,.d (dC c)),(1,.ptr 0 0),(3,.sl 1 i 4 0 i),(4,.d (dI i))]) (fun i=>[.box [.d (dI c.inputs),.d (ai c.next),.d (aO c.gates),.d (ai c.outs)],.row i 4 true ((List.range i).map (ee c))]) (fun i=>i<=c.next.length) (fun i=>c.next.length-i) [] [] 1000 1000 ?_ ?_
 ·simp only[go_sem,seval];exact⟨0,by omega,by simp⟩
 ·intro i hi;have hrl:((List.range i).map (ee c)).length=i:=by simp
  have hrs:(List.range (i+1)).map (ee c)=(List.range i).map (ee c) ++ [ee c i]:=by rw[kK,iz];rfl
  by_cases hlt:i<c.next.length
  ·have hno:=hc.n _ (aP hlt:c.next.getD i 0∈c.next);unfold bj at hno;have hld:ee c i=if(c.next.getD i 0)/2 > 0 then fU (iU c i) else .agg [dI (c.inputs+1+(i:Int)),.nil,dI ((c.next.getD i 0)%2),dB true]:=rfl;have hlc:iU c i=if(c.next.getD i 0)/2 > 0 then⟨c.inputs+1+i,[(c.next.getD i 0)/2],2-(c.next.getD i 0)%2,true⟩ else⟨c.inputs+1+i,[],(c.next.getD i 0)%2,true⟩:=rfl;generalize (List.range i).map (ee c)=q at *
   have hr:=aB (y:=2) hno.1;simp only[go_sem,seval]
   repeat' first|assumption|simp (disch:=first|assumption|omega|simp;try omega) only[ag,aB,dt,aW];try simp only[go_sem,seval,hr,hrl]|(with_reducible first|apply aa|intro)|(try rw[ae]);omega
   ·rename_i h9;refine⟨i+1,by omega,by omega,rfl,rfl,?_⟩;rw[hrs,hld,if_pos (by omega),hlc,if_pos (by omega)];rfl
   ·rename_i h9;refine⟨i+1,by omega,by omega,rfl,rfl,?_⟩;rw[hrs,hld,if_neg (by omega)]
  ·obtain rfl:i=c.next.length:=by omega
   simp only[go_sem,seval]
   repeat' first|assumption|simp (disch:=first|assumption|omega|simp;try omega) only[ag,aB,dt,aW];try simp only[go_sem,seval]|(with_reducible first|apply aa|intro)|(refine kA hmp ?_;simp only[go_sem,seval])|(try rw[ae]);omega
   generalize (List.range c.next.length).map (ee c)=q at *
   have hlv : ∀ l∈iQ c,l.leaves.length<=3:=fun l hl=>by
    obtain⟨m,hm,rfl⟩:=hlk.each l hl;exact(p6 hc hm).2.1
   generalize iQ c=luts at *
   refine bt (E:=env 0) tok (σ:=Nat) (fun i=>[(3,.sl 1 (c.next.length+i) 4 0 (c.next.length+i)),(7,.d (oX luts)),(8,.d (dI i))]) (fun i=>[.dead 0,.row (c.next.length+i) 4 true (q++(luts.take i).map fun l=>fU (gD l))]) (fun i=>i<=luts.length) (fun i=>luts.length-i) [] [] 1000 1000 ?_ ?_
   ·simp only[go_sem,seval];exact⟨0,by omega,by simp⟩
   ·intro i hi;by_cases hlt:i<luts.length
    ·have hlv2:=hlv _ (aP hlt:luts.getD i jT∈luts);have hts:(luts.take (i+1)).map (fun l=>fU (gD l))=(luts.take i).map (fun l=>fU (gD l)) ++ [fU (gD (luts.getD i jT))]:=mz jT hlt;have hql:(q++(luts.take i).map fun l=>fU (gD l)).length=c.next.length+i:=by simp[hrl];omega
     have hqa:q++(luts.take (i+1)).map (fun l=>fU (gD l))=(q++(luts.take i).map fun l=>fU (gD l)) ++ [fU (gD (luts.getD i jT))]:=by rw[hts,fS]
     generalize hd9:luts.getD i jT=x at *
     generalize (q++(luts.take i).map fun l=>fU (gD l))=q2 at *
     simp only[go_sem,seval]
     repeat' first|assumption|simp (disch:=first|assumption|omega|simp;try omega) only[ag,aB,dt,aW];try simp only[go_sem,seval,hd9,hql]|(with_reducible first|apply aa|intro)|(try rw[ae]);omega
     refine cg (n:=0) [12,20] (aw [0,1,2,3,4,7,8,9,10,13,14,15,16,11] (.three 5 (.two 6 (.two 12 (.one 17 (.fst 18 (.one 19 (.one 20 (.fst 21 .done))))) 17 (.one 12 (.fst 18 (.one 19 (.one 20 (.fst 21 .done)))))) 17 (.one 6 (.one 12 (.fst 18 (.one 19 (.one 20 (.fst 21 .done))))))) 6 (.three 5 (.two 12 (.one 17 (.fst 18 (.one 19 (.one 20 (.fst 21 .done))))) 17 (.one 12 (.fst 18 (.one 19 (.one 20 (.fst 21 .done)))))) 12 (.two 5 (.one 17 (.fst 18 (.one 19 (.one 20 (.fst 21 .done))))) 17 (.one 5 (.fst 18 (.one 19 (.one 20 (.fst 21 .done)))))) 17 (.two 5 (.one 12 (.fst 18 (.one 19 (.one 20 (.fst 21 .done))))) 12 (.one 5 (.fst 18 (.one 19 (.one 20 (.fst 21 .done))))))) 17 (.two 5 (.one 6 (.one 12 (.fst 18 (.one 19 (.one 20 (.fst 21 .done)))))) 6 (.two 5 (.one 12 (.fst 18 (.one 19 (.one 20 (.fst 21 .done))))) 12 (.one 5 (.fst 18 (.one 19 (.one 20 (.fst 21 .done))))))))) ?_;simp only[go_sem,seval,hd9,hql]
     repeat' first|assumption|simp (disch:=first|assumption|omega|simp;try omega) only[ag,aB,dt,aW];try simp only[go_sem,seval,hd9,hql]|(with_reducible first|apply aa|intro)|(try rw[ae]);omega
     refine⟨i+1,by omega,by omega,⟨by omega,rfl⟩,by omega,?_⟩;rw[hqa,<-hql];exact I0
    ·simp only[go_sem,seval]
     repeat' first|assumption|simp (disch:=first|assumption|omega|simp;try omega) only[ag,aB,dt,aW];try simp only[go_sem,seval]|(with_reducible first|apply aa|intro)|(try rw[ae]);omega
def Tryz.oU (cells:List bR) (net:Int) (hl:cells.length<=100) (hi : ∀ x∈cells,x.inputs.length<=100):Pure prog 193 [cd cells,dI net] (ai (mH cells net)):=by
 refine bw func193 rfl ntmps193 fun ok=>?_
 simp only[go_sem,seval] at ok⊢
 repeat' first|assumption|simp (disch:=first|assumption|omega|simp;try omega) only[ag,aB,dt,aW];try simp only[go_sem,seval]|(with_reducible first|apply aa|intro)|(try rw[ae]);omega
 refine bt (E:=env 0) tok (σ:=Nat) (fun i=>[(0,.d (cd cells)),(1,.d (dI net)),(5,.sl 0 (eA cells net i).length 1 0 (eA cells net i).length),(6,.d (dI i))]) (fun i=>[.row (eA cells net i).length 1 true ((eA cells net i).map (D.int .i64))]) (fun i=>i<=cells.length/\(eA cells net i).length<=100*i) (fun i=>cells.length-i) [] [] 1000 1000 ?_ ?_
 ·simp only[go_sem,seval];exact⟨0,⟨by omega,by simp[eA]⟩,by simp[eA]⟩
 ·rintro i ⟨hii,hsl⟩;by_cases hlt:i<cells.length
  ·have hin:=hi _ (aP hlt:cells.getD i bI∈cells);have hsn:eA cells net (i+1)=eA cells net i++pJ (cells.getD i bI) net i:=rfl;have hus:pJ (cells.getD i bI) net i=((cells.getD i bI).inputs.filter fun z=>decide (z=net)).map fun _=>(i:Int):=rfl
   generalize hd9:cells.getD i bI=x at *
   generalize eA cells net i=q at *
   simp only[go_sem,seval]
   repeat' first|assumption|simp (disch:=first|assumption|omega|simp;try omega) only[ag,aB,dt,aW];try simp only[go_sem,seval]|(with_reducible first|apply aa|intro)|(try rw[ae]);omega
   refine bt (E:=env 0) tok (σ:=Nat×List Int) (fun s=>[(0,.d (cd cells)),(1,.d (dI net)),(5,.sl 0 s.2.length 1 0 s.2.length),(6,.d (dI i)),(7,.d (dI s.1))]) (fun s=>[.row s.2.length 1 true (s.2.map (D.int .i64))])
    (fun s=>s.1<=x.inputs.length/\s.2.length<=100*i+s.1/\s.2=q++((x.inputs.take s.1).filter fun z=>decide (z=net)).map fun _=>(i:Int)) (fun s=>x.inputs.length-s.1) [] [] 1000 1000 ?_ ?_
   ·simp only[go_sem,seval];exact⟨(0,q),⟨by simp,by simp only;omega,by simp⟩,by simp⟩
   ·rintro⟨k,o⟩ ⟨hk,hol,ho⟩;simp only at hk hol ho;by_cases hkt:k<x.inputs.length
    ·have hts:(x.inputs.take (k+1)).filter (fun z=>decide (z=net))=(x.inputs.take k).filter (fun z=>decide (z=net))++(if x.inputs.getD k 0=net then [x.inputs.getD k 0] else []):=by
      rw[m6 hkt,List.filter_append];congr 1;have e:x.inputs.getD k 0=x.inputs[k]:=by simp[List.getD,hkt]
      rw[e];by_cases h:x.inputs[k]=net <;> simp[h]
     simp only[go_sem,seval]
     repeat' first|assumption|simp (disch:=first|assumption|omega|simp;try omega) only[ag,aB,dt,aW];try simp only[go_sem,seval,hd9]|(with_reducible first|apply aa|intro)|(try rw[ae]);omega
     ·rename_i h9;refine⟨(k+1,o ++ [(i:Int)]),⟨by simp only;omega,by simp only[cr,mr];omega,?_⟩,by simp only;omega,by simp,by simp⟩;show o ++ [(i:Int)]=q++((x.inputs.take (k+1)).filter _).map _
      rw[hts,if_pos h9,iz,<-fS,<-ho];rfl
     ·rename_i h9;refine⟨(k+1,o),⟨by simp only;omega,by simp only;omega,?_⟩,by simp only;omega,⟨rfl,rfl⟩,rfl,rfl⟩;show o=q++((x.inputs.take (k+1)).filter _).map _
      rw[hts,if_neg h9,jN];exact ho
    ·have e:o=eA cells net (i+1):=by rw[hsn,hus,ho,ag (by omega)]
     simp only[go_sem,seval]
     repeat' first|assumption|simp (disch:=first|assumption|omega|simp;try omega) only[ag,aB,dt,aW];try simp only[go_sem,seval,hd9]|(with_reducible first|apply aa|intro)|(try rw[ae]);omega
     refine⟨i+1,⟨by omega,by rw[<-e];omega⟩,by omega,?_⟩;rw[<-e];exact⟨⟨rfl,rfl⟩,rfl,rfl⟩
  ·simp only[go_sem,seval]
   repeat' first|assumption|simp (disch:=first|assumption|omega|simp;try omega) only[ag,aB,dt,aW];try simp only[go_sem,seval]|(with_reducible first|apply aa|intro)|(try rw[ae]);omega
   rw[mH,show i=cells.length by omega]
def Tryz.qK (tiles:List Int) (h : ∀ t∈tiles,0<=t/\t<=24):Pure prog 192 [ai tiles] (dI (kZ tiles)):=by
 refine bw func192 rfl ntmps192 fun ok=>?_
 simp only[go_sem,seval] at ok⊢
 repeat' first|assumption|simp (disch:=first|assumption|omega|simp;try omega) only[ag,aB,dt,aW];try simp only[go_sem,seval]|(with_reducible first|apply aa|intro)|(try rw[ae]);omega
 ·rename_i h9;have:tiles=[]:=List.length_eq_zero_iff.1 (by omega);rw[this];rfl
 rename_i h9;have hne:tiles≠[]:=by rintro rfl;exact h9 rfl
 have hdc:kZ tiles=(bP tiles).2.1-(bP tiles).1+(bP tiles).2.2.2-(bP tiles).2.2.1:=if_neg hne;have hbb:=C4 h;rw[hdc];refine ce (E:=env 0) tok (σ:=Nat) (fun i=>[(0,.d (ai tiles)),(2,.d (dI 0)),(3,.d (dI ((tiles.take i).foldl bB (5,0,5,0)).1)),(4,.d (dI ((tiles.take i).foldl bB (5,0,5,0)).2.1)),(5,.d (dI ((tiles.take i).foldl bB (5,0,5,0)).2.2.1)),(6,.d (dI ((tiles.take i).foldl bB (5,0,5,0)).2.2.2)),(7,.d (dI i))]) (fun _=>[]) (fun i=>i<=tiles.length) (fun i=>tiles.length-i) [] 1000 1000 ?_ ?_ ?_
 ·simp only[go_sem,seval]
 ·simp only[go_sem,seval];exact⟨0,by omega,by simp⟩
 ·intro i hi;by_cases hlt:i<tiles.length
  ·have hts:=gI (f:=bB) (b:=(5,0,5,0)) (0:Int) hlt;have ht:=h _ (aP hlt:tiles.getD i 0∈tiles);have hr:=aB (y:=5) ht.1;generalize (tiles.take i).foldl bB (5,0,5,0)=s at *
   obtain⟨s1,s2,s3,s4⟩:=s;simp only[go_sem,seval]
   repeat' first|assumption|simp (disch:=first|assumption|omega|simp;try omega) only[ag,aB,dt,aW];try simp only[go_sem,seval,hr]|(with_reducible first|apply aa|intro)|(try rw[ae]);omega
   refine⟨i+1,by omega,by omega,?_⟩;rw[hts];simp[bB]
  ·have e:tiles.take i=tiles:=ag (by omega);rw[e,<-bP];simp only[go_sem,seval]
   repeat' first|assumption|simp (disch:=first|assumption|omega|simp;try omega) only[ag,aB,dt,aW];try simp only[go_sem,seval]|(with_reducible first|apply aa|intro)|(try rw[ae]);omega
def Tryz.nH (l:List Int) (n:Int):Pure prog 194 [ai l,dI n] (.bool (decide (n∈l))):=by
 refine bw func194 rfl ntmps194 fun ok=>?_
 simp only[go_sem,seval] at ok⊢
 repeat' first|assumption|simp (disch:=first|assumption|omega|simp;try omega) only[ag,aB,dt,aW];try simp only[go_sem,seval]|(with_reducible first|apply aa|intro)|(try rw[ae]);omega
 refine ce (E:=env 0) tok (σ:=Nat) (fun i=>[(0,.d (ai l)),(1,.d (dI n)),(4,.d (dB false)),(5,.d (dI i))]) (fun _=>[]) (fun i=>i<=l.length/\∀ j,j<i->l.getD j 0≠n) (fun i=>l.length-i) [] 1000 1000 ?_ ?_ ?_
 ·simp only[go_sem,seval]
 ·simp only[go_sem,seval];exact⟨0,⟨by omega,by omega⟩,rfl⟩
 ·rintro i ⟨hi,hinv⟩;by_cases hlt:i<l.length
  ·simp only[go_sem,seval]
   repeat' first|assumption|simp (disch:=first|assumption|omega|simp;try omega) only[ag,aB,dt,aW];try simp only[go_sem,seval]|(with_reducible first|apply aa|intro)|(try rw[ae]);omega
   ·rename_i h9;rw[<-h9,decide_eq_true (aP hlt)]
   ·rename_i h9;refine⟨i+1,⟨by omega,fun j hj=>?_⟩,by omega,rfl⟩;by_cases hji:j=i
    ·subst hji;exact h9
    ·exact hinv j (by omega)
  ·simp only[go_sem,seval]
   repeat' first|assumption|simp (disch:=first|assumption|omega|simp;try omega) only[ag,aB,dt,aW];try simp only[go_sem,seval]|(with_reducible first|apply aa|intro)|(try rw[ae]);omega
   simp only[false_eq_decide_iff];intro hm;obtain⟨j,hj,he⟩:=fO 0 hm;exact hinv j (by omega) he
def jH (c:ac) (cells:List bR) (place:List Int) (net:Int) (i:Nat):List Int:=ox c net++jM cells place net i
def Kv {c:ac}{cells:List bR}{place:List Int}{net:Int}:jH c cells place net (i+1)=jH c cells place net i++(if(cells.getD i bI).net=net then [place.getD i 0] else []):=by
 rw[jH,jH,fS];rfl
def Tryz.lP (c:ac) (hc:c.Valid) (cells:List bR) (hcl:cells.length<=25) (hci : ∀ x∈cells,x.inputs.length<=3) (place:List Int) (hp:ay cells.length place) (net:Int) (hn : -100<=net/\net<=100) :
  Pure prog 140 [dC c,cd cells,ai place,dI net] (ai (i8 c cells place net)):=by
 have hlo:=hc.lo;have hi0:=hc.i0;have hi1:=hc.i1;have hsk:=oU cells net (by omega) (fun x hx=>by have:=hci x hx;omega);have hpl:=hp.len;refine bw func140 rfl ntmps140 fun ok=>?_
 simp only[go_sem,seval] at ok⊢
 repeat' first|assumption|simp (disch:=first|assumption|omega|simp;try omega) only[ag,aB,dt,aW];try simp only[go_sem,seval]|(with_reducible first|apply aa|intro)|(refine aA hsk ?_;simp only[go_sem,seval])|(try rw[ae]);omega
 have hbox:[I.d (dI c.inputs),I.d (ai c.next),I.d (aO c.gates),I.d (ai c.outs)]=[I.d (dI c.inputs),I.d (ai c.next),I.d (aO c.gates),I.d (ai c.outs)]:=rfl;have hsm : ∀ z∈mH cells net,0<=z/\z<cells.length:=fun z hz=>by
  obtain⟨m,hm,-,rfl⟩:=z8.1 hz;omega
 have hsl:(mH cells net).length<=3*cells.length:=by
  have key : ∀ n,n<=cells.length->(eA cells net n).length<=3*n:=by
   intro n;induction n with
   | zero=>intro _;simp[eA]
   | succ n ih=>
    intro h;have h1:=ih (by omega);have h2:=hci _ (aP (by omega):cells.getD n bI∈cells);have h3:(pJ (cells.getD n bI) net n).length<=(cells.getD n bI).inputs.length:=by
     simp only[pJ,ie];exact List.length_filter_le _ _
    rw[eA,cr];omega
  exact key _ (aC _)
 have hstd:fe c cells place net=(mH cells net).map (gK place)++dS c net c.outs.length:=rfl;have hpn:i8 c cells place net=if fe c cells place net=[] then [] else(fe c cells place net).foldl aS (ox c net++jM cells place net cells.length):=rfl
 generalize mH cells net=list at *
 refine bt (E:=env 0) tok (σ:=Nat) (fun i=>[(0,.d (dC c)),(1,.d (cd cells)),(2,.d (ai place)),(3,.d (dI net)),(4,.ptr 0 0),(9,.sl 1 i 1 0 i),(10,.d (ai list)),(11,.d (dI i))]) (fun i=>[.box [.d (dI c.inputs),.d (ai c.next),.d (aO c.gates),.d (ai c.outs)],.row i 1 true (((list.take i).map (gK place)).map (D.int .i64))])
  (fun i=>i<=list.length) (fun i=>list.length-i) [] [] 1000 1000 ?_ ?_
 ·simp only[go_sem,seval];exact⟨0,by omega,by simp⟩
 ·intro i hi;have hql:((list.take i).map (gK place)).length=i:=by simp;omega
  by_cases hlt:i<list.length
  ·have hz:=hsm _ (aP hlt:list.getD i 0∈list);have hts:(list.take (i+1)).map (gK place)=(list.take i).map (gK place) ++ [place.getD (list.getD i 0).toNat 0]:=mz 0 hlt;generalize (list.take i).map (gK place)=q at *
   simp only[go_sem,seval]
   repeat' first|assumption|simp (disch:=first|assumption|omega|simp;try omega) only[ag,aB,dt,aW];try simp only[go_sem,seval,hql]|(with_reducible first|apply aa|intro)|(try rw[ae]);omega
   refine⟨i+1,by omega,by omega,?_⟩
   repeat' apply And.intro
   all_goals first|rfl|(rw[hts])
  ·rw[show list.take i=list from ag (by omega)];rw[show list.take i=list from ag (by omega)] at hql;obtain rfl:i=list.length:=by omega
   generalize hq9:list.map (gK place)=q at *
   simp only[go_sem,seval]
   repeat' first|assumption|simp (disch:=first|assumption|omega|simp;try omega) only[ag,aB,dt,aW];try simp only[go_sem,seval,hql]|(with_reducible first|apply aa|intro)|(try rw[ae]);omega
   refine bt (E:=env 0) tok (σ:=Nat) (fun o=>[(0,.d (dC c)),(1,.d (cd cells)),(2,.d (ai place)),(3,.d (dI net)),(4,.ptr 0 0),(9,.sl 1 (q++dS c net o).length 1 0 (q++dS c net o).length),(12,.d (dI o))]) (fun o=>[.box [.d (dI c.inputs),.d (ai c.next),.d (aO c.gates),.d (ai c.outs)],.row (q++dS c net o).length 1 true ((q++dS c net o).map (D.int .i64))])
    (fun o=>o<=c.outs.length/\(dS c net o).length<=o) (fun o=>c.outs.length-o) [] [] 1000 1000 ?_ ?_
   ·simp only[go_sem,seval];refine⟨0,⟨by omega,by simp[dS]⟩,?_⟩;simp[dS];omega
   ·rintro o ⟨ho,hpo⟩;have hps:dS c net (o+1)=dS c net o++(if c.outs.getD o 0/2=net then [(o:Int)*5+4] else []):=rfl;have hq2:(q++dS c net o).length=list.length+(dS c net o).length:=by simp;omega
    by_cases hot:o<c.outs.length
    ·generalize dS c net o=p at *
     have hqa : ∀ l:List Int,q++(p++l)=(q++p)++l:=fun l=>(fS _ _ _).symm
     generalize hqq:q++p=q2 at *
     have hout:=hc.o _ (aP hot:c.outs.getD o 0∈c.outs);have hout0:0<=c.outs.getD o 0:=hout.1;simp only[go_sem,seval]
     repeat' first|assumption|simp (disch:=first|assumption|omega|simp;try omega) only[ag,aB,dt,aW];try simp only[go_sem,seval]|(with_reducible first|apply aa|intro)|(try rw[ae]);omega
     ·rename_i h9;rw[if_pos h9] at hps;refine⟨o+1,⟨by omega,by rw[hps,cr,mr];omega⟩,by omega,?_⟩;rw[hps,hqa,show(o:Int)*5+5-1=(o:Int)*5+4 by omega];have e3:q2.length+1=list.length+(p ++ [(o:Int)*5+4]).length:=by simp;omega
      repeat' apply And.intro
      all_goals first|rfl|omega|(simp;omega)
     ·rename_i h9;rw[if_neg h9,jN] at hps;refine⟨o+1,⟨by omega,by rw[hps];omega⟩,by omega,?_⟩;rw[hps]
      repeat' apply And.intro
      all_goals first|rfl|omega|exact hqq.symm|(rw[hqq];done)|(simp;omega)
    ·obtain rfl:o=c.outs.length:=by omega
     rw[<-hstd];rw[<-hstd] at hq2;rw[hpn,show ox c net++jM cells place net cells.length=jH c cells place net cells.length from rfl];generalize hst9:fe c cells place net=sk at *
     by_cases hsk0:sk=[]
     ·rw[if_pos hsk0];subst hsk0;simp only[go_sem,seval]
      repeat' first|assumption|simp (disch:=first|assumption|omega|simp;try omega) only[ag,aB,dt,aW];try simp only[go_sem,seval]|(with_reducible first|apply aa|intro)|(try rw[ae]);omega
     rw[if_neg hsk0];have hskp:0<sk.length:=List.length_pos_iff.2 hsk0;by_cases hsn:1<=net/\net<=c.inputs
     ·have hsi:ox c net=[(net-1)*5]:=if_pos hsn;simp only[go_sem,seval]
      repeat' first|assumption|simp (disch:=first|assumption|omega|simp;try omega) only[ag,aB,dt,aW];try simp only[go_sem,seval]|(with_reducible first|apply aa|intro)|(try rw[ae]);omega
      have hskl:sk.length<=100:=by omega
      refine bt (E:=env 0) tok (σ:=Nat) (fun i=>[(0,.d (dC c)),(1,.d (cd cells)),(2,.d (ai place)),(3,.d (dI net)),(4,.ptr 0 0),(9,.sl 1 sk.length 1 0 sk.length),(13,.sl 2 (jH c cells place net i).length 1 0 (jH c cells place net i).length),(14,.d (dI i))]) (fun i=>[.box [.d (dI c.inputs),.d (ai c.next),.d (aO c.gates),.d (ai c.outs)],.row sk.length 1 true (sk.map (D.int .i64)),.row (jH c cells place net i).length 1 true ((jH c cells place net i).map (D.int .i64))])
       (fun i=>i<=cells.length/\(jH c cells place net i).length<=1+i) (fun i=>cells.length-i) [] [] 1000 1000 ?_ ?_
      ·simp only[go_sem,seval];refine⟨0,⟨by omega,by simp[jH,hsi,jM]⟩,?_⟩;simp[jH,hsi,jM]
      ·rintro i ⟨hi,hil⟩;have hss:=Kv (c:=c) (cells:=cells) (place:=place) (net:=net) (i:=i);by_cases hit:i<cells.length
       ·generalize hx9:cells.getD i bI=x at *
        generalize jH c cells place net i=out at *
        simp only[go_sem,seval]
        repeat' first|assumption|simp (disch:=first|assumption|omega|simp;try omega) only[ag,aB,dt,aW];try simp only[go_sem,seval,hx9]|(with_reducible first|apply aa|intro)|(try rw[ae]);omega
        ·rename_i h9;rw[if_pos h9] at hss;refine⟨i+1,?_⟩;rw[hss];refine⟨⟨by omega,by simp;omega⟩,by omega,?_⟩
         repeat' apply And.intro
         all_goals first|rfl|(simp;done)|(simp;omega)
        ·rename_i h9;rw[if_neg h9,jN] at hss;refine⟨i+1,?_⟩;rw[hss];refine⟨⟨by omega,by omega⟩,by omega,?_⟩
         repeat' apply And.intro
         all_goals rfl
       ·obtain rfl:i=cells.length:=by omega
        generalize jH c cells place net cells.length=src at *
        simp only[go_sem,seval]
        repeat' first|assumption|simp (disch:=first|assumption|omega|simp;try omega) only[ag,aB,dt,aW];try simp only[go_sem,seval]|(with_reducible first|apply aa|intro)|(try rw[ae]);omega
        refine bt (E:=env 0) tok (σ:=Nat) (fun j=>[(9,.sl 1 sk.length 1 0 sk.length),(13,.sl 2 ((sk.take j).foldl aS src).length 1 0 ((sk.take j).foldl aS src).length),(15,.d (dI j))]) (fun j=>[.dead 0,.row sk.length 1 true (sk.map (D.int .i64)),.row ((sk.take j).foldl aS src).length 1 true (((sk.take j).foldl aS src).map (D.int .i64))])
         (fun j=>j<=sk.length/\((sk.take j).foldl aS src).length<=100+j) (fun j=>sk.length-j) [] [] 1000 1000 ?_ ?_
        ·simp only[go_sem,seval];refine⟨0,⟨by omega,by simp;omega⟩,?_⟩;simp
        ·rintro j ⟨hj,hjl⟩;by_cases hjt:j<sk.length
         ·have hfs:=gI (f:=aS) (b:=src) (0:Int) hjt;have hha:=nH ((sk.take j).foldl aS src) (sk.getD j 0);generalize (sk.take j).foldl aS src=o2 at *
          simp only[go_sem,seval]
          repeat' first|assumption|simp (disch:=first|assumption|omega|simp;try omega) only[ag,aB,dt,aW];try simp only[go_sem,seval]|(with_reducible first|apply aa|intro)|(refine aA hha ?_;simp only[go_sem,seval])|(try rw[ae]);omega
          ·rename_i h9;have e:(sk.take (j+1)).foldl aS src=o2 ++ [sk.getD j 0]:=by rw[hfs,aS,if_neg h9]
           refine⟨j+1,?_⟩;rw[e];refine⟨⟨by omega,by simp;omega⟩,by omega,?_⟩
           repeat' apply And.intro
           all_goals first|rfl|(simp;done)
          ·rename_i h9;have e:(sk.take (j+1)).foldl aS src=o2:=by rw[hfs,aS,if_pos h9]
           refine⟨j+1,?_⟩;rw[e];refine⟨⟨by omega,by omega⟩,by omega,?_⟩
           repeat' apply And.intro
           all_goals rfl
         ·have e:sk.take j=sk:=ag (by omega);rw[e];simp only[go_sem,seval]
          repeat' first|assumption|simp (disch:=first|assumption|omega|simp;try omega) only[ag,aB,dt,aW];try simp only[go_sem,seval]|(with_reducible first|apply aa|intro)|(try rw[ae]);omega
     ·have hsi:ox c net=[]:=if_neg hsn;simp only[go_sem,seval]
      repeat' first|assumption|simp (disch:=first|assumption|omega|simp;try omega) only[ag,aB,dt,aW];try simp only[go_sem,seval]|(with_reducible first|apply aa|intro)|(try rw[ae]);omega
      have hskl:sk.length<=100:=by omega
      refine bt (E:=env 0) tok (σ:=Nat) (fun i=>[(0,.d (dC c)),(1,.d (cd cells)),(2,.d (ai place)),(3,.d (dI net)),(4,.ptr 0 0),(9,.sl 1 sk.length 1 0 sk.length),(13,.sl 2 (jH c cells place net i).length 1 0 (jH c cells place net i).length),(14,.d (dI i))]) (fun i=>[.box [.d (dI c.inputs),.d (ai c.next),.d (aO c.gates),.d (ai c.outs)],.row sk.length 1 true (sk.map (D.int .i64)),.row (jH c cells place net i).length 1 true ((jH c cells place net i).map (D.int .i64))])
       (fun i=>i<=cells.length/\(jH c cells place net i).length<=1+i) (fun i=>cells.length-i) [] [] 1000 1000 ?_ ?_
      ·simp only[go_sem,seval];refine⟨0,⟨by omega,by simp[jH,hsi,jM]⟩,?_⟩;simp[jH,hsi,jM]
      ·rintro i ⟨hi,hil⟩;have hss:=Kv (c:=c) (cells:=cells) (place:=place) (net:=net) (i:=i);by_cases hit:i<cells.length
       ·generalize hx9:cells.getD i bI=x at *
        generalize jH c cells place net i=out at *
        simp only[go_sem,seval]
        repeat' first|assumption|simp (disch:=first|assumption|omega|simp;try omega) only[ag,aB,dt,aW];try simp only[go_sem,seval,hx9]|(with_reducible first|apply aa|intro)|(try rw[ae]);omega
        ·rename_i h9;rw[if_pos h9] at hss;refine⟨i+1,?_⟩;rw[hss];refine⟨⟨by omega,by simp;omega⟩,by omega,?_⟩
         repeat' apply And.intro
         all_goals first|rfl|(simp;done)|(simp;omega)
        ·rename_i h9;rw[if_neg h9,jN] at hss;refine⟨i+1,?_⟩;rw[hss];refine⟨⟨by omega,by omega⟩,by omega,?_⟩
         repeat' apply And.intro
         all_goals rfl
       ·obtain rfl:i=cells.length:=by omega
        generalize jH c cells place net cells.length=src at *
        simp only[go_sem,seval]
        repeat' first|assumption|simp (disch:=first|assumption|omega|simp;try omega) only[ag,aB,dt,aW];try simp only[go_sem,seval]|(with_reducible first|apply aa|intro)|(try rw[ae]);omega
        refine bt (E:=env 0) tok (σ:=Nat) (fun j=>[(9,.sl 1 sk.length 1 0 sk.length),(13,.sl 2 ((sk.take j).foldl aS src).length 1 0 ((sk.take j).foldl aS src).length),(15,.d (dI j))]) (fun j=>[.dead 0,.row sk.length 1 true (sk.map (D.int .i64)),.row ((sk.take j).foldl aS src).length 1 true (((sk.take j).foldl aS src).map (D.int .i64))])
         (fun j=>j<=sk.length/\((sk.take j).foldl aS src).length<=100+j) (fun j=>sk.length-j) [] [] 1000 1000 ?_ ?_
        ·simp only[go_sem,seval];refine⟨0,⟨by omega,by simp;omega⟩,?_⟩;simp
        ·rintro j ⟨hj,hjl⟩;by_cases hjt:j<sk.length
         ·have hfs:=gI (f:=aS) (b:=src) (0:Int) hjt;have hha:=nH ((sk.take j).foldl aS src) (sk.getD j 0);generalize (sk.take j).foldl aS src=o2 at *
          simp only[go_sem,seval]
          repeat' first|assumption|simp (disch:=first|assumption|omega|simp;try omega) only[ag,aB,dt,aW];try simp only[go_sem,seval]|(with_reducible first|apply aa|intro)|(refine aA hha ?_;simp only[go_sem,seval])|(try rw[ae]);omega
          ·rename_i h9;have e:(sk.take (j+1)).foldl aS src=o2 ++ [sk.getD j 0]:=by rw[hfs,aS,if_neg h9]
           refine⟨j+1,?_⟩;rw[e];refine⟨⟨by omega,by simp;omega⟩,by omega,?_⟩
           repeat' apply And.intro
           all_goals first|rfl|(simp;done)
          ·rename_i h9;have e:(sk.take (j+1)).foldl aS src=o2:=by rw[hfs,aS,if_pos h9]
           refine⟨j+1,?_⟩;rw[e];refine⟨⟨by omega,by omega⟩,by omega,?_⟩
           repeat' apply And.intro
           all_goals rfl
         ·have e:sk.take j=sk:=ag (by omega);rw[e];simp only[go_sem,seval]
          repeat' first|assumption|simp (disch:=first|assumption|omega|simp;try omega) only[ag,aB,dt,aW];try simp only[go_sem,seval]|(with_reducible first|apply aa|intro)|(try rw[ae]);omega
end Go.Proofs
