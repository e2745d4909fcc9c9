/- Contracts, plain definitions and lemmas. Conditions: none; lemmas. -/
import Derived.Test.YteikeianenfhaaaGreatE1
import Derived.Test.YteikeianenfhaaaGreatC73
import Derived.Test.YteikeianenfhaaaGreatC93
set_option maxRecDepth 20000
set_option linter.unusedSimpArgs false
set_option linter.unusedVariables false
set_option maxHeartbeats 2000000
set_option linter.defProp false
namespace Go.Proofs
open Go Go.VL Tryz
variable {i:Nat}{c:ac}{cells:List bW}{place:ZA}{busy:List ZB}
def Kq {α β : Type}{f : β->α->Option β} : ∀ (l:List α),l.foldl (fun o t=>o.bind fun h=>f h t) (none:Option β)=none
 | []=>rfl
 | x::l=>Kq l
def Tryz.rK (g:Nat) (pins:ZA) (busy:ZB) (hb:busy.length=25) (hp : ∀ t∈pins,0<=t/\t<=24) (hne:pins≠[]) (hpl:pins.length<=1000) :
  aA prog 195 [.d (aj pins),.sl 0 g 1 0 25] [.row g 1 true (busy.map D.bool)] (fun r H'=>r=.d (.tup [aY ((ly busy pins).getD []),dB (ly busy pins).isSome])/\H'=[.row g 1 true (busy.map D.bool)]):=by
 obtain⟨p0,rest,rfl⟩ : ∃ p0 rest,pins=p0::rest:=by
  cases pins with
  | nil=>exact absurd rfl hne
  | cons a l=>exact⟨a,l,rfl⟩
 have hp0:=hp p0 (by simp);have htd:ly busy (p0::rest)=if busy.getD p0.toNat false=true then none else rest.foldl (fun o t=>o.bind fun ab=>eI busy ab t) (some [(p0,-1)]):=rfl
 have hg0:(p0::rest).getD 0 0=p0:=rfl;by_cases hbz:busy.getD p0.toNat false=true
 ·rw[if_pos hbz] at htd;rw[htd];refine i9 rfl 1000 func195 rfl rfl ntmps195 (by simp) ?_
  repeat' first|simp (disch:=omega) only[go_sem,seval,hg0,hbz,bT,ag,bT]|(with_reducible first|apply aa|intro)|(try rw[ae]);omega
  refine sF (by simp) (by simp only[go_sem,seval]) ?_;simp only[go_sem,seval];rfl
 ·rw[if_neg hbz] at htd;rw[Bool.not_eq_true] at hbz;have base:bO busy [(p0,-1)]:=by
   refine⟨fun x hx=>?_,by simp[a9],fun x hx=>?_,by simp,fun j hj=>?_⟩
   ·obtain rfl:x=(p0,-1):=by simpa using hx
    exact hp0
   ·obtain rfl:x=(p0,-1):=by simpa using hx
    exact hbz
   ·obtain rfl:j=0:=by simpa using hj
    exact .inl ⟨rfl,rfl⟩
  refine i9 rfl 1000 func195 rfl rfl ntmps195 (by simp) ?_
  repeat' first|simp (disch:=omega) only[go_sem,seval,hg0,hbz,bT,ag,bT]|(with_reducible first|apply aa|intro)|(try rw[ae]);omega
  rw[htd];generalize hP9:p0::rest=P at *
  have hPl:P.length=rest.length+1:=by rw[<-hP9];rfl
  have hPg : ∀ m,P.getD (m+1) 0=rest.getD m 0:=fun m=>by rw[<-hP9];rfl
  refine nl (σ:=Nat×List (Int×Int)) (fun s=>[(0,.d (aj P)),(1,.sl 0 g 1 0 25),(6,.d (aY s.2)),(7,.d (dI ((s.1+1:Nat):Int)))]) (fun s=>[.row g 1 true (busy.map D.bool)])
   (fun s=>s.1<=rest.length/\bO busy s.2/\(rest.take s.1).foldl (fun o t=>o.bind fun ab=>eI busy ab t) (some [(p0,-1)])=some s.2) (fun s=>rest.length-s.1) [] [] 1000 1000 ?_ ?_
  ·simp only[go_sem,seval];exact⟨(0,[(p0,-1)]),⟨by simp,base,rfl⟩,by simp⟩
  ·rintro⟨m,ab⟩ ⟨hm,hT,hfo⟩;simp only at hm hT hfo;by_cases hmt:m<rest.length
   ·have hrm:rest.getD m 0∈rest:=aO hmt;have hrr:=hp _ (by rw[<-hP9];exact fX _ hrm);have hpa:=rx g ab (rest.getD m 0) busy hb hT hrr;have hfs:=iH (f:=fun(o:Option (List (Int×Int))) (t:Int)=>o.bind fun ab=>eI busy ab t) (b:=some [(p0,-1)]) (0:Int) hmt;rw[hfo] at hfs;simp only[sZ] at hfs;have hex:=@Dx busy ab hT (rest.getD m 0) hrr;have hsplit:rest.foldl (fun o t=>o.bind fun ab=>eI busy ab t) (some [(p0,-1)])=(rest.drop (m+1)).foldl (fun o t=>o.bind fun ab=>eI busy ab t) ((rest.take (m+1)).foldl (fun o t=>o.bind fun ab=>eI busy ab t) (some [(p0,-1)])):=by
     rw[<-ng,xS]
    have hPm:=hPg m;generalize rest.getD m 0=x at *
    cases he:eI busy ab x with
    | none=>
     rw[he] at hpa hfs;rw[hsplit,hfs,Kq]
     repeat' first|simp (disch:=omega) only[go_sem,seval,hPm,hPl,bT,ag,bT]|(with_reducible first|apply aa|intro)|(try rw[ae]);omega
     refine c7 hpa [0] (by simp only[go_sem,seval]) ?_;rintro r0 H1 ⟨rfl,rfl⟩
     repeat' first|simp (disch:=omega) only[go_sem,seval,hPm,hPl,bT,ag,bT]|(with_reducible first|apply aa|intro)|(try rw[ae]);omega
     refine sF (by simp) (by simp only[go_sem,seval]) ?_;simp only[go_sem,seval];rfl
    | some h2=>
     rw[he] at hpa hfs;obtain⟨q1,-,-⟩:=hex he
     repeat' first|simp (disch:=omega) only[go_sem,seval,hPm,hPl,bT,ag,bT]|(with_reducible first|apply aa|intro)|(try rw[ae]);omega
     refine c7 hpa [0] (by simp only[go_sem,seval]) ?_;rintro r0 H1 ⟨rfl,rfl⟩
     repeat' first|simp (disch:=omega) only[go_sem,seval,hPm,hPl,bT,ag,bT]|(with_reducible first|apply aa|intro)|(try rw[ae]);omega
     exact⟨(m+1,h2),⟨by simp only;omega,q1,hfs⟩,by simp only;omega,rfl,rfl⟩
   ·rw[show rest.take m=rest from ag (by omega)] at hfo;rw[hfo]
    repeat' first|simp (disch:=omega) only[go_sem,seval,hPl,bT,ag,bT]|(with_reducible first|apply aa|intro)|(try rw[ae]);omega
    refine sF (by simp) (by simp only[go_sem,seval]) ?_;simp only[go_sem,seval]
def ul (net:Int):Option (Nat×List (Int×Int))->D
 | some (t,h)=>yP ⟨net,(t:Int),h⟩
 | none=>.agg [dI 0,dI 0,.nil]
def hZ {α : Type}{l:List α}{z : α}(h:i<l.length):l.set i (l.getD i z)=l:=by
 refine List.ext_getElem (by simp) fun j h1 h2=>?_
 rw[List.getElem_set];split
 ·rename_i e;subst e;simp[List.getD,h]
 ·rfl
def Tryz.uu (g:Nat) (net:Int) (pins:ZA) (busy:List ZB) (hb:dz busy) (hp : ∀ t∈pins,0<=t/\t<=24) (hne:pins≠[]) (hpl:pins.length<=1000) :
  aA prog 141 [.d (dI net),.d (aj pins),.sl 0 g 1 0 8] [.row g 1 true (busy.map fun x=>cf x)] (fun r H'=>r=.d (.tup [ul net (cJ pins busy 8 0),dB (cJ pins busy 8 0).isSome])/\H'=[.row g 1 true (busy.map fun x=>cf x)]):=by
 have hl:=hb.len;refine i9 rfl 1000 func141 rfl rfl ntmps141 (by simp) ?_
 repeat' first|simp (disch:=omega) only[go_sem,seval,bT,ag,bT]|(with_reducible first|apply aa|intro)|(try rw[ae]);omega
 refine nl (σ:=Nat) (fun t=>[(0,.d (dI net)),(1,.d (aj pins)),(2,.sl 0 g 1 0 8),(6,.ptr 1 0),(7,.d (dB false)),(8,.d (dI t))]) (fun s=>[.row g 1 true (busy.map fun x=>cf x),.box [.d (dI 0),.d (dI 0),.d .nil]]) (fun t=>t<=8/\cJ pins busy (8-t) t=cJ pins busy 8 0) (fun t=>8-t) [] [] 1000 1000 ?_ ?_
 ·simp only[go_sem,seval];exact⟨0,⟨by omega,rfl⟩,rfl⟩
 ·rintro t ⟨ht,hn⟩;by_cases htt:t<8
  ·have hrl:=hb.row t htt;have htr:=rK 1 pins (busy.getD t []) (hb.row t htt) hp hne hpl;have hst:cJ pins busy (8-t) t=match ly (busy.getD t []) pins with|some h=>some (t,h)|none=>cJ pins busy (8-(t+1)) (t+1):=by
    rw[show 8-t=(8-(t+1))+1 by omega];rfl
   rw[hn] at hst;cases he:ly (busy.getD t []) pins with
   | none=>
    rw[he] at hst htr;simp only at hst;simp only[go_sem,seval]
    repeat' first|simp (disch:=omega) only[go_sem,seval,hrl,bT,ag,bT]|(with_reducible first|apply aa|intro)|(try rw[ae]);omega
    refine c7 htr [2] (by simp only[go_sem,seval]) ?_;rintro r0 H1 ⟨rfl,rfl⟩
    repeat' first|simp (disch:=omega) only[go_sem,seval,hrl,bT,ag,bT]|(with_reducible first|apply aa|intro)|(try rw[ae]);omega
    refine⟨t+1,⟨by omega,hst.symm⟩,by omega,rfl,?_⟩;exact(GG (f:=fun x=>cf x)).trans (by rw[hZ (by omega)])
   | some h=>
    rw[he] at hst htr;simp only at hst;rw[hst];simp only[go_sem,seval]
    repeat' first|simp (disch:=omega) only[go_sem,seval,hrl,bT,ag,bT]|(with_reducible first|apply aa|intro)|(try rw[ae]);omega
    refine c7 htr [2] (by simp only[go_sem,seval]) ?_;rintro r0 H1 ⟨rfl,rfl⟩
    repeat' first|simp (disch:=omega) only[go_sem,seval,hrl,bT,ag,bT]|(with_reducible first|apply aa|intro)|(try rw[ae]);omega
    have hpc:dg 1 (busy.map fun x=>cf x) t 0 (D.lst 1 ((busy.getD t []).map D.bool))=busy.map fun x=>cf x:=(GG (f:=fun x=>cf x)).trans (by rw[hZ (by omega)])
    have htk:List.take 25 ((busy.getD t []).map D.bool)=(busy.getD t []).map D.bool:=ag (by rw[gQ];omega);refine O8 ?_;simp only[go_sem,seval,hpc,htk];refine⟨by omega,?_⟩;refine sF (by simp) (by simp only[go_sem,seval]) ?_;simp only[go_sem,seval];rfl
  ·obtain rfl:t=8:=by omega
   have e:cJ pins busy 8 0=none:=hn.symm;rw[e]
   repeat' first|simp (disch:=omega) only[go_sem,seval,bT,ag,bT]|(with_reducible first|apply aa|intro)|(try rw[ae]);omega
   refine sF (by simp) (by simp only[go_sem,seval]) ?_;simp only[go_sem,seval];rfl

def M1 {c:ac}{cells:List bW}{place:ZA}{busy0:List ZB} : ∀ {k n:Nat},k<=n->lY c cells place busy0 k=none->lY c cells place busy0 n=none
 | k,0,h,e=>by
           obtain rfl:k=0:=by omega
           exact e
 | k,n+1,h,e=>by
  by_cases hk:k<=n
  ·rw[lY,M1 hk e]
  ·obtain rfl:k=n+1:=by omega
   exact e
def N5 {busy0:List ZB}{out:List Rt}{k:Nat}(h:lY c cells place busy0 k=some (busy,out)) :
  lY c cells place busy0 (k+1)=if jG c cells place ((k:Int)+1)=[] then some (busy,out) else match cJ (jG c cells place ((k:Int)+1)) busy 8 0 with
   | none=>none
   | some (t,hs)=>some (bG busy t hs,out ++ [⟨(k:Int)+1,(t:Int),hs⟩]):=by
 rw[lY,h];rfl
def O6 (hci : ∀ x∈cells,x.inputs.length<=3) (net:Int) : ∀ n,n<=cells.length->(e7 cells net n).length<=3*n:=by
 intro n;induction n with
 | zero=>intro _;simp[e7]
 | succ n ih=>
  intro h;have h1:=ih (by omega);have h2:=hci _ (aO (by omega):cells.getD n bP∈cells);have h3:(rA (cells.getD n bP) net n).length<=(cells.getD n bP).inputs.length:=by
   simp only[rA,gQ];exact List.length_filter_le _ _
  rw[e7,b8];omega
def MR : ∀ (l out:ZA),(l.foldl bj out).length<=out.length+l.length
 | [],out=>by simp
 | x::l,out=>by
  have h1:=MR l (bj out x);have h2:(bj out x).length<=out.length+1:=by unfold bj;split <;> simp
  rw[e6,eD];omega
def GD {c:ac}{net:Int} : ∀ o,(eG c net o).length<=o
 | 0=>by simp[eG]
 | o+1=>by
  have:=GD (c:=c) (net:=net) o;rw[eG,b8];split <;> simp <;> omega
def IM {cells:List bW}{place:ZA}{net:Int} : ∀ i,(ld cells place net i).length<=i
 | 0=>by simp[ld]
 | i+1=>by
  have:=IM (cells:=cells) (place:=place) (net:=net) i;rw[ld,b8];split <;> simp <;> omega
def Ox (hc:c.Valid) (hcl:cells.length<=25) (hci : ∀ x∈cells,x.inputs.length<=3) {net:Int}:(jG c cells place net).length<=1000:=by
 have hlo:=hc.lo;unfold jG;split
 ·simp
 ·have h1:=MR (fU c cells place net) (pP c net++ld cells place net cells.length);have h2:=O6 hci net cells.length (aD _);have h3:=GD (c:=c) (net:=net) c.outs.length;have h4:=IM (cells:=cells) (place:=place) (net:=net) cells.length;have h5:(pP c net).length<=1:=by unfold pP;split <;> simp
  have h6:(fU c cells place net).length=(e7 cells net cells.length).length+(eG c net c.outs.length).length:=by simp[fU,m6]
  rw[b8] at h1;omega
def Kd {t:Nat}(ht:t<busy.length) {hs:List (Int×Int)}(hi:i<hs.length) :
  bG busy t (hs.take (i+1))=(bG busy t (hs.take i)).set t (((bG busy t (hs.take i)).getD t []).set (hs.getD i (0,0)).1.toNat true):=by
 have e:oY (busy.getD t []) (hs.take (i+1))=(oY (busy.getD t []) (hs.take i)).set (hs.getD i (0,0)).1.toNat true:=iH (f:=fun(b:ZB) (h:Int×Int)=>b.set h.1.toNat true) (b:=busy.getD t []) ((0,0):Int×Int) hi;unfold bG;rw[e,List.set_set];congr 1;simp[List.getD,ht]
def Tryz.p9 (c:ac) (hc:c.Valid) (cells:List bW) (hcl:cells.length<=25) (hci : ∀ x∈cells,x.inputs.length<=3) (place:ZA) (hp:ay cells.length place) :
  bk prog 109 [dC c,cm cells,aj place] (.tup [iK ((lp c cells place j5).getD []),dB (lp c cells place j5).isSome]):=by
 have hf:=hc.al;have hv:=hc.aN;have hi0:=hc.i0;have hi1:=hc.i1;have hvv:c.vars=c.first+(c.gates.length:Int):=rfl
 have hfst:=br c (by omega);have k3:eW (dI c.first):=by show cp .i64 _;rw[ae];omega
 have hpb:=fun net=>Ak hc hp (net:=net)
 refine BE (E:=kJ 0) tok rfl 1000 func109 rfl rfl ntmps109 (by simp) fun ok=>?_
 simp only[go_sem,seval,-List.reduceReplicate] at ok
 repeat' first|simp (disch:=first|assumption|omega|simp;try omega) only[go_sem,seval,-List.reduceReplicate,bT,ag,bT]|(with_reducible first|apply aa|intro)|exact ah|(try rw[ae]);omega
 refine om (E:=kJ 0) tok (σ:=Nat) (fun t=>[(0,.d (dC c)),(1,.d (cm cells)),(2,.d (aj place)),(3,.ptr 0 0),(6,.d .nil),(7,.d (dB false)),(8,.sl 1 t 1 0 t),(9,.d (dI t))]) (fun t=>[.box [.d (dI c.inputs),.d (aj c.next),.d (aY c.gates),.d (aj c.outs)],.row t 1 true ((List.replicate t (List.replicate 25 false)).map fun x=>cf x)]) (fun t=>t<=8) (fun t=>8-t) [] [] 1000 1000 ?_ ?_
 ·simp only[go_sem,seval,-List.reduceReplicate];exact⟨0,by omega,by simp⟩
 ·intro t ht;by_cases htt:t<8
  ·have hrl:(List.replicate t (List.replicate 25 false)).length=t:=by simp
   have hrs:List.replicate (t+1) (List.replicate 25 false)=List.replicate t (List.replicate 25 false) ++ [List.replicate 25 false]:=yx;generalize List.replicate t (List.replicate 25 false)=q at *
   simp only[go_sem,seval,-List.reduceReplicate]
   repeat' first|simp (disch:=first|assumption|omega|simp;try omega) only[go_sem,seval,-List.reduceReplicate,hrl,bT,ag,bT]|(with_reducible first|apply aa|intro)|exact ah|(try rw[ae]);omega
   refine⟨t+1,by omega,by omega,rfl,rfl,?_⟩;rw[hrs]
  ·obtain rfl:t=8:=by omega
   rw[show List.replicate 8 (List.replicate 25 false)=j5 from rfl]
   repeat' first|simp (disch:=first|assumption|omega|simp;try omega) only[go_sem,seval,-List.reduceReplicate,bT,ag,bT]|(with_reducible first|apply aa|intro)|exact ah|(try rw[ae]);omega
   have hrc:lp c cells place j5=(lY c cells place j5 (c.vars.toNat-1)).map (·.2):=rfl;refine om (E:=kJ 0) tok (σ:=Nat×List ZB×List Rt) (fun s=>[(0,.d (dC c)),(1,.d (cm cells)),(2,.d (aj place)),(3,.ptr 0 0),(6,.d .nil),(7,.d (dB false)),(8,.sl 1 8 1 0 8),(10,.sl 2 s.2.2.length 3 0 s.2.2.length),(11,.d (dI ((s.1+1:Nat):Int)))]) (fun s=>[.box [.d (dI c.inputs),.d (aj c.next),.d (aY c.gates),.d (aj c.outs)],.row 8 1 true (s.2.1.map fun x=>cf x),.row s.2.2.length 3 false (s.2.2.map fun x=>yP x)])
    (fun s=>(s.1:Int)<=c.vars-1/\lY c cells place j5 s.1=some (s.2.1,s.2.2)/\s.2.2.length<=s.1) (fun s=>c.vars.toNat-s.1) [] [] 1000 1000 ?_ ?_
   ·simp only[go_sem,seval,-List.reduceReplicate];exact⟨(0,j5,[]),⟨by simp only;omega,rfl,by simp⟩,by simp⟩
   ·rintro⟨k,busy,out⟩ ⟨hk,hro,hol⟩;simp only at hk hro hol;have hR:=DA hc hp jZ k hro;have hbl:=hR.bok.len;have ek:(k:Int)+1=((k+1:Nat):Int):=by omega
    by_cases hlt:(k:Int)<c.vars-1
    ·have hst:=N5 hro;rw[ek] at hst;have h1:=mW c hc cells hcl hci place hp ((k+1:Nat):Int) (by omega);have hpbk:=hpb ((k+1:Nat):Int);have hpl:=Ox hc hcl hci (place:=place) (net:=((k+1:Nat):Int));generalize jG c cells place ((k+1:Nat):Int)=pins at *
     by_cases hpe:pins=[]
     ·rw[if_pos hpe] at hst;subst hpe
      repeat' first|simp (disch:=first|assumption|omega|simp;try omega) only[go_sem,seval,-List.reduceReplicate,bT,ag,bT]|(with_reducible first|apply aa|intro)|(refine qD (fun _=>⟨hfst,k3⟩) ?_)|(refine az h1 ?_)|exact ah|(try rw[ae]);omega
      exact⟨(k+1,busy,out),⟨by simp only;omega,hst,by simp only;omega⟩,by simp only;omega,⟨rfl,rfl⟩,rfl,rfl,rfl⟩
     ·rw[if_neg hpe] at hst;have hpp:0<pins.length:=List.length_pos_iff.2 hpe;have hnt:=uu 8 ((k+1:Nat):Int) pins busy hR.bok hpbk hpe hpl;cases hne:cJ pins busy 8 0 with
      | none=>
       rw[hne] at hst hnt;simp only at hst;have hrn:lp c cells place j5=none:=by rw[hrc,M1 (by omega) hst];rfl
       rw[hrn]
       repeat' first|simp (disch:=first|assumption|omega|simp;try omega) only[go_sem,seval,-List.reduceReplicate,bT,ag,bT]|(with_reducible first|apply aa|intro)|(refine qD (fun _=>⟨hfst,k3⟩) ?_)|(refine az h1 ?_)|exact ah|(try rw[ae]);omega
       refine c7 hnt [1] (by simp only[go_sem,seval,-List.reduceReplicate]) ?_;rintro r0 H1 ⟨rfl,rfl⟩
       repeat' first|simp (disch:=first|assumption|omega|simp;try omega) only[go_sem,seval,-List.reduceReplicate,ul,bT,ag,bT]|(with_reducible first|apply aa|intro)|exact ah|(try rw[ae]);omega
      | some q=>
       obtain⟨t,hs⟩:=q;rw[hne] at hst hnt;simp only at hst;obtain⟨-,ht8,htr,-⟩:=Df 8 0 hne;obtain⟨b1,b2,b3⟩:=Cu hpbk hpe htr
       repeat' first|simp (disch:=first|assumption|omega|simp;try omega) only[go_sem,seval,-List.reduceReplicate,bT,ag,bT]|(with_reducible first|apply aa|intro)|(refine qD (fun _=>⟨hfst,k3⟩) ?_)|(refine az h1 ?_)|exact ah|(try rw[ae]);omega
       refine c7 hnt [1] (by simp only[go_sem,seval,-List.reduceReplicate]) ?_;rintro r0 H1 ⟨rfl,rfl⟩
       repeat' first|simp (disch:=first|assumption|omega|simp;try omega) only[go_sem,seval,-List.reduceReplicate,ul,bT,ag,bT]|(with_reducible first|apply aa|intro)|exact ah|(try rw[ae]);omega
       have hhl:=sG b1;refine om (E:=kJ 0) tok (σ:=Nat) (fun i=>[(0,.d (dC c)),(1,.d (cm cells)),(2,.d (aj place)),(3,.ptr 0 0),(6,.d .nil),(7,.d (dB false)),(8,.sl 1 8 1 0 8),(10,.sl 2 out.length 3 0 out.length),(11,.d (dI ((k+1:Nat):Int))),(13,.ptr 3 0),(15,.d (dI i))]) (fun i=>[.box [.d (dI c.inputs),.d (aj c.next),.d (aY c.gates),.d (aj c.outs)],.row 8 1 true ((bG busy t (hs.take i)).map fun x=>cf x),.row out.length 3 false (out.map fun x=>yP x),.box [.d (dI ((k+1:Nat):Int)),.d (dI t),.d (aY hs)]])
        (fun i=>i<=hs.length) (fun i=>hs.length-i) [] [] 1000 1000 ?_ ?_
       ·simp only[go_sem,seval,-List.reduceReplicate];exact⟨0,by omega,rfl,by rw[show bG busy t (hs.take 0)=busy from hZ (by omega)]⟩
       ·intro i hi;have hTl:(bG busy t (hs.take i)).length=8:=by simp[bG];omega
        have hTr:((bG busy t (hs.take i)).getD t []).length=25:=(CE hR.bok (by omega)).row t (by omega);by_cases hit:i<hs.length
        ·have hstp:=Kd (busy:=busy) (t:=t) (by omega) hit;have hr:=b1.rng _ (aO hit:hs.getD i (0,0)∈hs);generalize bG busy t (hs.take i)=T at *
         generalize hh9:hs.getD i (0,0)=hh at *
         simp only[go_sem,seval,-List.reduceReplicate,hh9]
         repeat' first|simp (disch:=first|assumption|omega|simp;try omega) only[go_sem,seval,-List.reduceReplicate,hh9,hTl,hTr,bT,ag,bT]|(with_reducible first|apply aa|intro)|exact ah|(try rw[ae]);omega
         refine z2 (E:=kJ 0) tok Tryz.follows 1000 1000 [12] (ax [0,1,5,7,2,3,4,6,8,9,10,11] (.one 12 .done)) (by kernel_rfl) ?_
         repeat' first|simp (disch:=first|assumption|omega|simp;try omega) only[go_sem,seval,-List.reduceReplicate,hh9,hTl,hTr,bT,ag,bT]|(with_reducible first|apply aa|intro)|exact ah|(try rw[ae]);omega
         refine⟨i+1,by omega,by omega,rfl,?_⟩;rw[hstp,ag (by rw[gh];omega)];exact GG (f:=fun x=>cf x)
        ·rw[show hs.take i=hs from ag (by omega)];rw[show hs.take i=hs from ag (by omega)] at hTl
         repeat' first|simp (disch:=first|assumption|omega|simp;try omega) only[go_sem,seval,-List.reduceReplicate,ul,bT,ag,bT]|(with_reducible first|apply aa|intro)|exact ah|(try rw[ae]);omega
         refine⟨(k+1,bG busy t hs,out ++ [⟨((k+1:Nat):Int),(t:Int),hs⟩]),⟨by simp only;omega,hst,by simp only[b8,nn];omega⟩,by simp only;omega,⟨by simp,rfl⟩,rfl,by simp,by simp⟩
    ·have hkk:k=c.vars.toNat-1:=by omega
     have hrn:lp c cells place j5=some out:=by rw[hrc,<-hkk,hro];rfl
     rw[hrn]
     repeat' first|simp (disch:=first|assumption|omega|simp;try omega) only[go_sem,seval,-List.reduceReplicate,bT,ag,bT]|(with_reducible first|apply aa|intro)|(refine qD (fun _=>⟨hfst,k3⟩) ?_)|exact ah|(try rw[ae]);omega

def RR (busy:List ZB) (n:mI) (o:Option (Nat×List (Int×Int))) (r:I) (H':ZF):Prop:=
 match o with
 | none=>r=.tup [.d (.agg [dI 0,dI 0,.nil]),.d (dB false)]/\H'=[.box (bx (fq busy))]
 | some (t,h)=>∃ g,r=.tup [.agg [.d (dI n.net),.d (dI t),.sl 3 g 2 0 h.length],.d (dB true)]/\H'=[.box (bx (fq (bG busy t h))),.box [.d (dI n.net),.d (dI n.cell),.d (dI n.tile),.d (aj n.sinks),.d (aj n.pads)],.box [.d (dI n.net),.d (dI t),.sl 3 g 2 0 h.length],.row g 2 true (h.map fun x=>dP x)]
def Tryz.vj (busy:List ZB) (hb:dz busy) (n:mI) (place:ZA) (hs : ∀ i∈n.sinks,0<=i/\i<place.length) (hk:n.cell<place.length) (hl:n.sinks.length<=400) (hl2:n.pads.length<=400) (hp:place.length<=1000) (ht : ∀ t∈g8 n place,0<=t/\t<=24) :
  aA prog 132 [.ptr 0 0,.d (tp n),.d (aj place)] [.box (bx (fq busy))] (RR busy n (cJ (g8 n place) busy 8 0)):=by
 have hti:=oC n place hs hk (by omega) (by omega) hp;have htl:(g8 n place).length<=1000:=by simp[g8];omega
 have htn:g8 n place≠[]:=by simp[g8]
 have htr:=fun u hu=>xL busy (g8 n place) u hu htn ht htl
 have hokb:=fun k h=>Cu (busy:=busy.getD k []) ht htn (ab:=h)
 generalize g8 n place=tiles at *
 refine i9 rfl 1000 func132 rfl rfl ntmps132 (by simp) ?_
 repeat' first|simp (disch:=omega) only[go_sem,seval,ag]|(with_reducible first|apply aa|intro)|(refine az hti ?_)|(try rw[ae]);omega
 refine nl (σ:=Nat) (fun k=>[(0,.ptr 0 0),(4,.ptr 1 0),(6,.ptr 2 0),(8,.d (aj tiles)),(17,.d (dI k))])
  (fun k=>[.box (bx (fq busy)),.box [.d (dI n.net),.d (dI n.cell),.d (dI n.tile),.d (aj n.sinks),.d (aj n.pads)],.box [.d (dI 0),.d (dI 0),.d .nil]]) (fun k=>k<=8/\cJ tiles busy (8-k) k=cJ tiles busy 8 0) (fun k=>8-k) [] [] 1000 1000 ?_ ?_
 ·simp only[go_sem,seval];exact⟨0,⟨by omega,rfl⟩,rfl⟩
 ·rintro k ⟨hk8,hnb⟩;by_cases hlt:k<8
  ·have htk:=htr k hlt;have hokk:=fun h=>hokb k h
   have hstep:cJ tiles busy (8-k) k=match ly (busy.getD k []) tiles with
     | some h=>some (k,h)
     | none=>cJ tiles busy (8-(k+1)) (k+1):=by
    rw[show 8-k=(8-(k+1))+1 by omega];rfl
   rw[hnb] at hstep
   repeat' first|simp (disch:=omega) only[go_sem,seval,ag]|(with_reducible first|apply aa|intro)|(try rw[ae]);omega
   refine c7 htk [0] (by simp only[go_sem,seval]) ?_;cases htre:ly (busy.getD k []) tiles with
   | none=>
    rw[htre] at hstep;simp only at hstep;rintro r0 H1 ⟨rfl,rfl⟩
    repeat' first|simp (disch:=omega) only[go_sem,seval,ag]|(with_reducible first|apply aa|intro)|(try rw[ae]);omega
    exact⟨k+1,⟨by omega,hstep.symm⟩,by omega,rfl⟩
   | some h=>
    rw[htre] at hstep;simp only at hstep;obtain⟨hT,-,-⟩:=hokk h htre;have hhl:=sG hT;rw[hstep];rintro r0 H1 ⟨g,rfl,rfl⟩
    repeat' first|simp (disch:=omega) only[go_sem,seval,ag]|(with_reducible first|apply aa|intro)|(try rw[ae]);omega
    refine nl (σ:=Nat) (fun i=>[(0,.ptr 0 0),(4,.ptr 1 0),(6,.ptr 2 0),(9,.d (dI k)),(10,.sl 3 g 2 0 h.length),(29,.sl 3 g 2 0 h.length),(30,.d (dI h.length)),(31,.d (dI i))])
     (fun i=>[.box (bx (fq (bG busy k (h.take i)))),.box [.d (dI n.net),.d (dI n.cell),.d (dI n.tile),.d (aj n.sinks),.d (aj n.pads)],.box [.d (dI 0),.d (dI 0),.d .nil],.row g 2 true (h.map fun x=>dP x)]) (fun i=>i<=h.length) (fun i=>h.length-i) [] [] 1000 1000 ?_ ?_
    ·simp only[go_sem,seval];refine⟨0,by omega,?_⟩;rw[show bG busy k (h.take 0)=busy from hZ (by rw[hb.len];omega)];simp only[go_sem,seval]
    ·intro i hi;have hTl:(bG busy k (h.take i)).length=8:=by simp[bG,hb.len]
     have hTr:((bG busy k (h.take i)).getD k []).length=25:=(CE hb hlt).row k hlt;by_cases hit:i<h.length
     ·have hstp:=Kd (busy:=busy) (t:=k) (by rw[hb.len];exact hlt) hit;have hr:=hT.rng _ (aO hit:h.getD i (0,0)∈h);generalize bG busy k (h.take i)=T at *
      generalize hh9:h.getD i (0,0)=hh at *
      have hset:=KL (l:=fq T) (k:=hh.1.toNat*8+k) (b:=true);rw[Ma (by omega) hlt (by omega) (by omega),<-hstp] at hset
      repeat' first|simp (disch:=omega) only[go_sem,seval,hh9,jL,ol,hset,ag]|(with_reducible first|apply aa|intro)|(try rw[ae]);omega
      refine co (n:=1) [8] (ax [0,1,3,4,5,2,6,7] (.one 8 .done)) ?_
      repeat' first|simp (disch:=omega) only[go_sem,seval,hh9,jL,ol,hset,ag]|(with_reducible first|apply aa|intro)|(try rw[ae]);omega
      refine⟨i+1,by omega,by omega,rfl,?_⟩;simp only[go_sem,seval]
     ·rw[show h.take i=h from ag (by omega)]
      repeat' first|simp (disch:=omega) only[go_sem,seval,ag]|(with_reducible first|apply aa|intro)|(try rw[ae]);omega
      exact n5 ⟨_,rfl,rfl⟩
  ·obtain rfl:k=8:=by omega
   have hnn:cJ tiles busy (8-8) 8=none:=rfl;rw[<-hnb,hnn]
   repeat' first|simp (disch:=omega) only[go_sem,seval,ag]|(with_reducible first|apply aa|intro)|(try rw[ae]);omega
   refine fI (r0:=.tup [.d (.agg [dI 0,dI 0,.nil]),.d (dB false)]) (H1:=[.box (bx (fq busy))]) ?_ ⟨rfl,rfl⟩;simp only[go_sem,seval]

def Do (c:ac) (cells:List bW) : ∀ k,(jR c cells k).length<=k
 | 0=>by simp[jR]
 | k+1=>by
  have:=Do c cells k;rw[jR,b8];split <;> simp <;> omega
def Tryz.mP (c:ac) (hc:c.Valid):aA prog 127 [.ptr 0 0] [.box [.d (dI c.inputs),.d (aj c.next),.d (aY c.gates),.d (aj c.outs)]] (fun r H'=>r=.d (mX (qc c (aw c)))/\H'=[.box [.d (dI c.inputs),.d (aj c.next),.d (aY c.gates),.d (aj c.outs)]]):=by
 have hf:=hc.al;have hv:=hc.aN;have hi0:=hc.i0;have hi1:=hc.i1;have hce:=hM c hc;have hvs:=iP c (by omega);have hsk:=fun v=>nN c hc v
 have hcl:=qX hc;have hlo:=hc.lo;rw[qc];refine i9 rfl 1000 func127 rfl rfl ntmps127 (by simp) ?_
 repeat' first|simp (disch:=omega) only[go_sem,seval,bB]|(with_reducible first|apply aa|intro)|(refine kN hce ?_)|(try rw[ae]);omega
 generalize hcs:aw c=cells at *
 refine nl (σ:=Nat) (fun k=>[(0,.ptr 0 0),(3,.d (cm cells)),(4,.sl 1 (jR c cells k).length 5 0 (jR c cells k).length),(5,.d (dI ((k+1:Nat):Int)))])
  (fun k=>[.box [.d (dI c.inputs),.d (aj c.next),.d (aY c.gates),.d (aj c.outs)],.row (jR c cells k).length 5 true ((jR c cells k).map fun x=>tp x)]) (fun k=>(k:Int)<=c.vars-1) (fun k=>c.vars.toNat-k) [] [(4,5,true)] 1000 1000 ?_ ?_
 ·simp only[go_sem,seval];exact⟨0,by omega,by simp[jR]⟩
 ·intro k hk;have hnl:=Do c cells k;have hns:jR c cells (k+1)=jR c cells k++(if 0<(eU c cells ((k:Int)+1)).sinks.length+(eU c cells ((k:Int)+1)).pads.length then [eU c cells ((k:Int)+1)] else []):=rfl;have ek:((k+1:Nat):Int)=(k:Int)+1:=by omega
  by_cases hlt:(k:Int)<c.vars-1
  ·generalize hq9:jR c cells k=q at *
   have hskv:=hsk ((k+1:Nat):Int)
   repeat' first|simp (disch:=omega) only[go_sem,seval,hq9,bB]|(with_reducible first|apply aa|intro)|(refine az hvs ?_)|(refine me hskv ?_)|(try rw[ae]);omega
   have hnin:eU c cells ((k:Int)+1)=⟨(k:Int)+1,jh cells ((k+1:Nat):Int) cells.length,((k:Int)+1-1)*5,m6 cells ((k+1:Nat):Int),eG c ((k+1:Nat):Int) c.outs.length⟩:=by rw[ek];rfl
   rw[hnin] at hns;simp only at hns;rw[<-ek] at hns;have hsl:(m6 cells ((k+1:Nat):Int)).length<=1000:=by
    have:=C8 (cells:=cells) (fun x hx=>(wv hc x (by rw[hcs];exact hx)).2.1) ((k+1:Nat):Int) cells.length (aD _);show(e7 cells ((k+1:Nat):Int) cells.length).length<=1000
    omega
   generalize m6 cells ((k+1:Nat):Int)=S at *
   generalize hv9:((k+1:Nat):Int)=v at *
   refine nl (σ:=Nat) (fun i=>[(0,.ptr 0 0),(3,.d (cm cells)),(4,.sl 1 q.length 5 0 q.length),(5,.d (dI v)),(6,.ptr 3 0),(31,.d (cm cells)),(32,.d (dI cells.length)),(33,.d (dI i))])
    (fun i=>[.box [.d (dI c.inputs),.d (aj c.next),.d (aY c.gates),.d (aj c.outs)],.row q.length 5 true (q.map fun x=>tp x),.row 0 1 true (S.map (D.int .i64)),.box [.d (dI v),.d (dI (jh cells v i)),.d (dI ((v-1)*5)),.sl 2 0 1 0 S.length,.d .nil]]) (fun i=>i<=cells.length) (fun i=>cells.length-i) [] [] 1000 1000 ?_ ?_
   ·simp only[go_sem,seval];exact⟨0,by omega,by simp[jh]⟩
   ·intro i hi;by_cases hit:i<cells.length
    ·have hcn:jh cells v (i+1)=if(cells.getD i bP).net=v then(i:Int) else jh cells v i:=rfl;generalize hx9:cells.getD i bP=x at *
     generalize jh cells v i=u at *
     repeat' first|simp (disch:=omega) only[go_sem,seval,hx9,bB]|(with_reducible first|apply aa|intro)|(try rw[ae]);omega
     ·rename_i h1;rw[if_pos h1] at hcn;refine⟨i+1,by omega,by omega,rfl,?_⟩;rw[hcn]
     ·rename_i h1;rw[if_neg h1] at hcn;refine⟨i+1,by omega,by omega,rfl,?_⟩;rw[hcn]
    ·obtain rfl:i=cells.length:=by omega
     repeat' first|simp (disch:=omega) only[go_sem,seval,bB]|(with_reducible first|apply aa|intro)|(try rw[ae]);omega
     generalize jh cells v cells.length=u at *
     have hpl : ∀ i,(eG c v i).length<=i:=by
      intro i;induction i with
      | zero=>simp[eG]
      | succ i ih=>rw[eG,b8];split <;> simp <;> omega
     refine nl (σ:=Nat) (fun i=>[(0,.ptr 0 0),(3,.d (cm cells)),(4,.sl 1 q.length 5 0 q.length),(5,.d (dI v)),(6,.ptr 3 0),(48,.d (aj c.outs)),(49,.d (dI c.outs.length)),(50,.d (dI i))])
      (fun i=>[.box [.d (dI c.inputs),.d (aj c.next),.d (aY c.gates),.d (aj c.outs)],.row q.length 5 true (q.map fun x=>tp x),.row 0 1 true (S.map (D.int .i64)),.box [.d (dI v),.d (dI u),.d (dI ((v-1)*5)),.sl 2 0 1 0 S.length,.sl 4 (eG c v i).length 1 0 (eG c v i).length],.row (eG c v i).length 1 true ((eG c v i).map (D.int .i64))]) (fun i=>i<=c.outs.length) (fun i=>c.outs.length-i) [(3,4,1,true)] [] 1000 1000 ?_ ?_
     ·simp only[go_sem,seval];exact⟨0,by omega,by simp[eG]⟩
     ·intro i hi;have hpli:=hpl i;by_cases hit:i<c.outs.length
      ·have hps:eG c v (i+1)=eG c v i++(if c.outs.getD i 0/2=v then [(i:Int)*5+4] else []):=rfl;have hpt:=lm (i:Int) (by omega);have ho:=hc.o _ (aO hit:c.outs.getD i 0∈c.outs);unfold bm at ho;generalize hx9:c.outs.getD i 0=x at *
       generalize eG c v i=P at *
       have hr:=aC (y:=2) ho.1;simp only[go_sem,seval,hx9]
       repeat' first|simp (disch:=omega) only[go_sem,seval,hx9,hr,bB]|(with_reducible first|apply aa|intro)|(refine az hpt ?_)|(try rw[ae]);omega
       ·rename_i h1;rw[if_pos h1] at hps;refine co (n:=1) [5,7] (ax [0,2,1] (.one 3 (.one 4 (.one 5 (.fst 6 (.one 7 .done)))))) ?_;simp only[go_sem,seval,hx9]
        repeat' first|simp (disch:=omega) only[go_sem,seval,hx9,hr,bB]|(with_reducible first|apply aa|intro)|(refine az hpt ?_)|(try rw[ae]);omega
        refine⟨i+1,by omega,by omega,rfl,?_⟩;rw[hps];simp
       ·rename_i h1;rw[if_neg h1,jq] at hps;refine⟨i+1,by omega,by omega,rfl,?_⟩;rw[hps];exact⟨rfl,rfl,rfl⟩
      ·obtain rfl:i=c.outs.length:=by omega
       generalize eG c v c.outs.length=P at *
       repeat' first|simp (disch:=omega) only[go_sem,seval,bB]|(with_reducible first|apply aa|intro)|(try rw[ae]);omega
       ·rename_i h1;rw[if_pos (by omega)] at hns;refine⟨k+1,by omega,by omega,?_⟩;rw[hns];exact⟨⟨by simp,by omega⟩,by simp,by simp⟩
       ·rename_i h1;rw[if_neg (by omega),jq] at hns;refine⟨k+1,by omega,by omega,?_⟩;rw[hns];exact⟨⟨rfl,by omega⟩,rfl,rfl⟩
  ·repeat' first|simp (disch:=omega) only[go_sem,seval,bB]|(with_reducible first|apply aa|intro)|(refine az hvs ?_)|(try rw[ae]);omega
   obtain rfl:k=c.vars.toNat-1:=by omega
   generalize jR c cells (c.vars.toNat-1)=q at *
   refine sF (by simp) (by simp only[go_sem,seval]) ?_;simp only[go_sem,seval]
   repeat' first|simp (disch:=omega) only[go_sem,seval,bB]|(with_reducible first|apply aa|intro)|(try rw[ae]);omega

noncomputable instance (n:Nat) (l:ZA):Decidable (ay n l):=Classical.propDecidable _
def Tryz.iG (c:ac) (place:ZA):Pure prog 131 [dC c,aj place] (.bool (decide (c.Valid/\ay (aw c).length place))):=by
 have hcv:=aR c;by_cases hc:c.Valid
 ·have hce:=hM c hc;have hcl:=qX hc;rw[decide_eq_true hc] at hcv;refine bz func131 rfl ntmps131 fun ok=>?_
  simp only[go_sem,seval] at ok
  repeat' first|simp (disch:=omega) only[go_sem,seval,ag]|(with_reducible first|apply aa|intro)|(refine az hcv ?_)|(refine kN hce ?_)|(refine fh ?_;simp only[go_sem,seval])|(try rw[ae]);omega
  ·rename_i h9;rw[eq_comm,decide_eq_false];exact fun h=>h9 h.2.len
  rename_i h9;refine cQ (σ:=Nat×Kn) (fun s=>[(5,.map 1),(20,.d (aj place)),(21,.d (dI place.length)),(22,.d (dI s.1))]) (fun s=>[.box [.d (dI c.inputs),.d (aj c.next),.d (aY c.gates),.d (aj c.outs)],.map (kS s.2)]) (fun s=>s.1<=place.length/\(∀ t∈place.take s.1,0<=t/\t<=24)/\(place.take s.1).Nodup/\∀ t,kn s.2 t=if t∈place.take s.1 then some true else none) (fun s=>place.length-s.1) [] 1000 1000 ?_ ?_ ?_
  ·simp only[go_sem,seval]
  ·simp only[go_sem,seval];exact⟨(0,[]),⟨by simp,by simp,by simp,fun t=>by simp[kn]⟩,rfl,rfl⟩
  ·rintro⟨i,m⟩ ⟨hi,hr,hn,hm⟩;simp only at hi hr hn hm;by_cases hlt:i<place.length
   ·have hts:place.take (i+1)=place.take i ++ [place.getD i 0]:=by simpa using nm (f:=fun x:Int=>x) 0 hlt
    have hmem:=aO hlt (z:=(0:Int));have hup : ∀ t,kn (iB m t true) t=some true:=fun t=>by rw[yp,if_pos rfl]
    have hbad:place.getD i 0∈place.take i->¬ ay (aw c).length place:=fun h1 h2=>by
     have hnd:=h2.nd;rw[<-xS (i+1) place,hts,fA,vF] at hnd;exact hnd.2.2 _ h1 _ (by simp) rfl
    generalize hx9:place.getD i 0=x at *
    have ek:=Es x m;have eu:=C9 x true m;have hks:=Cl;have hmx:=hm x;by_cases hin:x∈place.take i
    ·rw[if_pos hin] at hmx;have hb:=hbad hin
     repeat' first|simp (disch:=omega) only[go_sem,seval,hx9,ek,eu,hmx,dE,dh,cP,fH,ag]|(with_reducible first|apply aa|intro)|(refine fh ?_;simp only[go_sem,seval,hx9,ek,eu,hmx,dE,dh,cP,fH])|(try rw[ae]);omega
     all_goals first|exact hks m|(rw[eq_comm,decide_eq_false];exact fun h=>hb h.2)|(exfalso;simp_all;done)
    ·rw[if_neg hin] at hmx
     repeat' first|simp (disch:=omega) only[go_sem,seval,hx9,ek,eu,hmx,dE,dh,cP,fH,ag]|(with_reducible first|apply aa|intro)|(refine fh ?_;simp only[go_sem,seval,hx9,ek,eu,hmx,dE,dh,cP,fH])|(try rw[ae]);omega
     ·exact hks m
     ·rename_i h1;rw[eq_comm,decide_eq_false];intro h2;have:=h2.2.rng x hmem;omega
     ·exact hks m
     ·rename_i h1;refine⟨(i+1,iB m x true),⟨by simp only;omega,fun t ht=>?_,?_,fun t=>?_⟩,by simp only;omega,rfl,rfl⟩
      ·rw[hts] at ht;rcases List.mem_append.1 ht with h2|h2
       ·exact hr t h2
       ·obtain rfl:t=x:=by simpa using h2
        omega
      ·rw[hts,vF];exact⟨hn,by simp,fun a ha b hb e=>by
        obtain rfl:b=x:=by simpa using hb
        subst e;exact hin ha⟩
      ·rw[yp,hm t,hts];by_cases e:t=x
       ·subst e;simp
       ·simp[e]
   ·obtain rfl:i=place.length:=by omega
    rw[ig] at hr hn
    repeat' first|simp (disch:=omega) only[go_sem,seval,ag]|(with_reducible first|apply aa|intro)|(refine fh ?_;simp only[go_sem,seval])|(try rw[ae]);omega
    rw[eq_comm,decide_eq_true_eq];exact⟨hc,by omega,hr,hn⟩
 ·rw[decide_eq_false hc] at hcv;rw[decide_eq_false (fun h=>hc h.1)];refine bz func131 rfl ntmps131 fun ok=>?_
  simp only[go_sem,seval] at ok
  repeat' first|simp (disch:=omega) only[go_sem,seval,ag]|(with_reducible first|apply aa|intro)|(refine az hcv ?_)|(refine fh ?_;simp only[go_sem,seval])|(try rw[ae]);omega
end Go.Proofs
