/- Contracts, plain definitions and lemmas. Conditions: none; lemmas. -/
import Derived.Test.YteikeianenfhaaaGreatC74
import Derived.Test.YteikeianenfhaaaGreatC91
import Derived.Test.YteikeianenfhaaaGreatE2
import Derived.Test.YteikeianenfhaaaGreatD3
import Derived.Test.YteikeianenfhaaaGreatO5
import Derived.Test.YteikeianenfhaaaGreatC32
import Derived.Test.YteikeianenfhaaaGreatVM8
set_option maxRecDepth 20000
set_option linter.unusedVariables false
set_option linter.unusedSimpArgs false
set_option maxHeartbeats 2000000
namespace Go.Proofs
set_option linter.defProp false
open Go Go.VL Tryz
def Ai (c:ac) (cells:List bR) : ∀ k,(js c cells k).length<=k
 | 0=>by simp[js]
 | k+1=>by
  have:=Ai c cells k;rw[js,cr];split <;> simp <;> omega
def Tryz.lY (c:ac) (hc:c.Valid):aQ prog 127 [.ptr 0 0] [.box [.d (dI c.inputs),.d (ai c.next),.d (aO c.gates),.d (ai c.outs)]] (fun r H'=>r=.d (lG (o0 c (ax c)))/\H'=[.box [.d (dI c.inputs),.d (ai c.next),.d (aO c.gates),.d (ai c.outs)]]):=by
 have hf:=hc.am;have hv:=hc.aM;have hi0:=hc.i0;have hi1:=hc.i1;have hce:=gB c hc;have hvs:=jq c (by omega);have hsk:=fun v=>mU c hc v
 have hcl:=qf hc;have hlo:=hc.lo;rw[o0];refine jp (E:=env 1) tok rfl 1000 func127 rfl rfl ntmps127 (by simp) ?_
 repeat' first|assumption|simp (disch:=first|assumption|omega|simp;try omega) only[go_sem,seval,aW]|(with_reducible first|apply aa|intro)|(refine kA hce ?_)|(try rw[ae]);omega
 generalize hcs:ax c=cells at *
 refine bt (E:=env 1) tok (σ:=Nat) (fun k=>[(0,.ptr 0 0),(3,.d (cd cells)),(4,.sl 1 (js c cells k).length 5 0 (js c cells k).length),(5,.d (dI ((k+1:Nat):Int)))])
  (fun k=>[.box [.d (dI c.inputs),.d (ai c.next),.d (aO c.gates),.d (ai c.outs)],.row (js c cells k).length 5 true ((js c cells k).map fun x=>rV x)]) (fun k=>(k:Int)<=c.vars-1) (fun k=>c.vars.toNat-k) [] [(4,5,true)] 1000 1000 ?_ ?_
 ·simp only[go_sem,seval];exact⟨0,by omega,by simp[js]⟩
 ·intro k hk;have hnl:=Ai c cells k;have hns:js c cells (k+1)=js c cells k++(if 0<(dZ c cells ((k:Int)+1)).sinks.length+(dZ c cells ((k:Int)+1)).pads.length then [dZ c cells ((k:Int)+1)] else []):=rfl;have ek:((k+1:Nat):Int)=(k:Int)+1:=by omega
  by_cases hlt:(k:Int)<c.vars-1
  ·generalize hq9:js c cells k=q at *
   have hskv:=hsk ((k+1:Nat):Int)
   repeat' first|assumption|simp (disch:=first|assumption|omega|simp;try omega) only[go_sem,seval,hq9,aW]|(with_reducible first|apply aa|intro)|(refine aA hvs ?_)|(refine lu hskv ?_)|(try rw[ae]);omega
   have hnin:dZ c cells ((k:Int)+1)=⟨(k:Int)+1,iN cells ((k+1:Nat):Int) cells.length,((k:Int)+1-1)*5,mH cells ((k+1:Nat):Int),dS c ((k+1:Nat):Int) c.outs.length⟩:=by rw[ek];rfl
   rw[hnin] at hns;simp only at hns;rw[<-ek] at hns;have hsl:(mH cells ((k+1:Nat):Int)).length<=1000:=by
    have:=BD (cells:=cells) (fun x hx=>(ut hc x (by rw[hcs];exact hx)).2.1) ((k+1:Nat):Int) cells.length (aC _);show(eA cells ((k+1:Nat):Int) cells.length).length<=1000
    omega
   generalize mH cells ((k+1:Nat):Int)=S at *
   generalize hv9:((k+1:Nat):Int)=v at *
   refine bt (E:=env 1) tok (σ:=Nat) (fun i=>[(0,.ptr 0 0),(3,.d (cd cells)),(4,.sl 1 q.length 5 0 q.length),(5,.d (dI v)),(6,.ptr 3 0),(31,.d (cd cells)),(32,.d (dI cells.length)),(33,.d (dI i))])
    (fun i=>[.box [.d (dI c.inputs),.d (ai c.next),.d (aO c.gates),.d (ai c.outs)],.row q.length 5 true (q.map fun x=>rV x),.row 0 1 true (S.map (D.int .i64)),.box [.d (dI v),.d (dI (iN cells v i)),.d (dI ((v-1)*5)),.sl 2 0 1 0 S.length,.d .nil]]) (fun i=>i<=cells.length) (fun i=>cells.length-i) [] [] 1000 1000 ?_ ?_
   ·simp only[go_sem,seval];exact⟨0,by omega,by simp[iN]⟩
   ·intro i hi;by_cases hit:i<cells.length
    ·have hcn:iN cells v (i+1)=if(cells.getD i bI).net=v then(i:Int) else iN cells v i:=rfl;generalize hx9:cells.getD i bI=x at *
     generalize iN cells v i=u at *
     repeat' first|assumption|simp (disch:=first|assumption|omega|simp;try omega) only[go_sem,seval,hx9,aW]|(with_reducible first|apply aa|intro)|(try rw[ae]);omega
     ·rename_i h1;rw[if_pos h1] at hcn;refine⟨i+1,by omega,by omega,rfl,?_⟩;rw[hcn]
     ·rename_i h1;rw[if_neg h1] at hcn;refine⟨i+1,by omega,by omega,rfl,?_⟩;rw[hcn]
    ·obtain rfl:i=cells.length:=by omega
     repeat' first|assumption|simp (disch:=first|assumption|omega|simp;try omega) only[go_sem,seval,aW]|(with_reducible first|apply aa|intro)|(try rw[ae]);omega
     generalize iN cells v cells.length=u at *
     have hpl : ∀ i,(dS c v i).length<=i:=by
      intro i;induction i with
      | zero=>simp[dS]
      | succ i ih=>rw[dS,cr];split <;> simp <;> omega
     refine bt (E:=env 1) tok (σ:=Nat) (fun i=>[(0,.ptr 0 0),(3,.d (cd cells)),(4,.sl 1 q.length 5 0 q.length),(5,.d (dI v)),(6,.ptr 3 0),(48,.d (ai c.outs)),(49,.d (dI c.outs.length)),(50,.d (dI i))])
      (fun i=>[.box [.d (dI c.inputs),.d (ai c.next),.d (aO c.gates),.d (ai c.outs)],.row q.length 5 true (q.map fun x=>rV x),.row 0 1 true (S.map (D.int .i64)),.box [.d (dI v),.d (dI u),.d (dI ((v-1)*5)),.sl 2 0 1 0 S.length,.sl 4 (dS c v i).length 1 0 (dS c v i).length],.row (dS c v i).length 1 true ((dS c v i).map (D.int .i64))]) (fun i=>i<=c.outs.length) (fun i=>c.outs.length-i) [(3,4,1,true)] [] 1000 1000 ?_ ?_
     ·simp only[go_sem,seval];exact⟨0,by omega,by simp[dS]⟩
     ·intro i hi;have hpli:=hpl i;by_cases hit:i<c.outs.length
      ·have hps:dS c v (i+1)=dS c v i++(if c.outs.getD i 0/2=v then [(i:Int)*5+4] else []):=rfl;have hpt:=oq (i:Int) (by omega);have ho:=hc.o _ (aP hit:c.outs.getD i 0∈c.outs);unfold bj at ho;generalize hx9:c.outs.getD i 0=x at *
       generalize dS c v i=P at *
       have hr:=aB (y:=2) ho.1;simp only[go_sem,seval,hx9]
       repeat' first|assumption|simp (disch:=first|assumption|omega|simp;try omega) only[go_sem,seval,hx9,hr,aW]|(with_reducible first|apply aa|intro)|(refine aA hpt ?_)|(try rw[ae]);omega
       ·rename_i h1;rw[if_pos h1] at hps;refine cg (n:=1) [5,7] (aw [0,2,1] (.one 3 (.one 4 (.one 5 (.fst 6 (.one 7 .done)))))) ?_;simp only[go_sem,seval,hx9]
        repeat' first|assumption|simp (disch:=first|assumption|omega|simp;try omega) only[go_sem,seval,hx9,hr,aW]|(with_reducible first|apply aa|intro)|(refine aA hpt ?_)|(try rw[ae]);omega
        refine⟨i+1,by omega,by omega,rfl,?_⟩;rw[hps];simp
       ·rename_i h1;rw[if_neg h1,jN] at hps;refine⟨i+1,by omega,by omega,rfl,?_⟩;rw[hps];exact⟨rfl,rfl,rfl⟩
      ·obtain rfl:i=c.outs.length:=by omega
       generalize dS c v c.outs.length=P at *
       repeat' first|assumption|simp (disch:=first|assumption|omega|simp;try omega) only[go_sem,seval,aW]|(with_reducible first|apply aa|intro)|(try rw[ae]);omega
       ·rename_i h1;rw[if_pos (by omega)] at hns;refine⟨k+1,by omega,by omega,?_⟩;rw[hns];exact⟨⟨by simp,by omega⟩,by simp,by simp⟩
       ·rename_i h1;rw[if_neg (by omega),jN] at hns;refine⟨k+1,by omega,by omega,?_⟩;rw[hns];exact⟨⟨rfl,by omega⟩,rfl,rfl⟩
  ·repeat' first|assumption|simp (disch:=first|assumption|omega|simp;try omega) only[go_sem,seval,aW]|(with_reducible first|apply aa|intro)|(refine aA hvs ?_)|(try rw[ae]);omega
   obtain rfl:k=c.vars.toNat-1:=by omega
   generalize js c cells (c.vars.toNat-1)=q at *
   refine rh (by simp) (by simp only[go_sem,seval]) ?_;simp only[go_sem,seval]
   repeat' first|assumption|simp (disch:=first|assumption|omega|simp;try omega) only[go_sem,seval,aW]|(with_reducible first|apply aa|intro)|(try rw[ae]);omega
end Go.Proofs

set_option maxRecDepth 20000
set_option linter.unusedVariables false
set_option linter.unusedSimpArgs false
namespace Go.Proofs
set_option linter.defProp false
open Go Go.VL
noncomputable instance (n:Nat) (l:List Int):Decidable (ay n l):=Classical.propDecidable _
def Tryz.gT (c:ac) (place:List Int):Pure prog 131 [dC c,ai place] (.bool (decide (c.Valid/\ay (ax c).length place))):=by
 have hcv:=a8 c;by_cases hc:c.Valid
 ·have hce:=gB c hc;have hcl:=qf hc;rw[decide_eq_true hc] at hcv;refine bw func131 rfl ntmps131 fun ok=>?_
  simp only[go_sem,seval] at ok
  repeat' first|assumption|simp (disch:=first|assumption|omega|simp;try omega) only[go_sem,seval,ag]|(with_reducible first|apply aa|intro)|(refine aA hcv ?_)|(refine kA hce ?_)|(refine yn ?_;simp only[go_sem,seval])|(try rw[ae]);omega
  ·rename_i h9;rw[eq_comm,decide_eq_false];exact fun h=>h9 h.2.len
  rename_i h9;refine ce (E:=env 0) tok (σ:=Nat×Kn) (fun s=>[(5,.map 1),(20,.d (ai place)),(21,.d (dI place.length)),(22,.d (dI s.1))]) (fun s=>[.box [.d (dI c.inputs),.d (ai c.next),.d (aO c.gates),.d (ai c.outs)],.map (ka s.2)]) (fun s=>s.1<=place.length/\(∀ t∈place.take s.1,0<=t/\t<=24)/\(place.take s.1).Nodup/\∀ t,kn s.2 t=if t∈place.take s.1 then some true else none) (fun s=>place.length-s.1) [] 1000 1000 ?_ ?_ ?_
  ·simp only[go_sem,seval]
  ·simp only[go_sem,seval];exact⟨(0,[]),⟨by simp,by simp,by simp,fun t=>by simp[kn]⟩,rfl,rfl⟩
  ·rintro⟨i,m⟩ ⟨hi,hr,hn,hm⟩;simp only at hi hr hn hm;by_cases hlt:i<place.length
   ·have hts:place.take (i+1)=place.take i ++ [place.getD i 0]:=by simpa using mz (f:=fun x:Int=>x) 0 hlt
    have hmem:=aP hlt (z:=(0:Int));have hup : ∀ t,kn (gY m t true) t=some true:=fun t=>by rw[wS,if_pos rfl]
    have hbad:place.getD i 0∈place.take i->¬ ay (ax c).length place:=fun h1 h2=>by
     have hnd:=h2.nd;rw[<-x9 (i+1) place,hts,fS,uf] at hnd;exact hnd.2.2 _ h1 _ (by simp) rfl
    generalize hx9:place.getD i 0=x at *
    have ek:=Du x m;have eu:=Al x true m;have hks:=Ad;have hmx:=hm x;by_cases hin:x∈place.take i
    ·rw[if_pos hin] at hmx;have hb:=hbad hin
     repeat' first|assumption|simp (disch:=first|assumption|omega|simp;try omega) only[go_sem,seval,hx9,ek,eu,hmx,k6,j6,i9,Option.getD_none,ag]|(with_reducible first|apply aa|intro)|(refine yn ?_;simp only[go_sem,seval,hx9,ek,eu,hmx,k6,j6,i9,Option.getD_none])|(try rw[ae]);omega
     all_goals first|exact hks m|(rw[eq_comm,decide_eq_false];exact fun h=>hb h.2)|(exfalso;simp_all;done)
    ·rw[if_neg hin] at hmx
     repeat' first|assumption|simp (disch:=first|assumption|omega|simp;try omega) only[go_sem,seval,hx9,ek,eu,hmx,k6,j6,i9,Option.getD_none,ag]|(with_reducible first|apply aa|intro)|(refine yn ?_;simp only[go_sem,seval,hx9,ek,eu,hmx,k6,j6,i9,Option.getD_none])|(try rw[ae]);omega
     ·exact hks m
     ·rename_i h1;rw[eq_comm,decide_eq_false];intro h2;have:=h2.2.rng x hmem;omega
     ·exact hks m
     ·rename_i h1;refine⟨(i+1,gY m x true),⟨by simp only;omega,fun t ht=>?_,?_,fun t=>?_⟩,by simp only;omega,rfl,rfl⟩
      ·rw[hts] at ht;rcases List.mem_append.1 ht with h2|h2
       ·exact hr t h2
       ·obtain rfl:t=x:=by simpa using h2
        omega
      ·rw[hts,uf];exact⟨hn,by simp,fun a ha b hb e=>by
        obtain rfl:b=x:=by simpa using hb
        subst e;exact hin ha⟩
      ·rw[wS,hm t,hts];by_cases e:t=x
       ·subst e;simp
       ·simp[e]
   ·obtain rfl:i=place.length:=by omega
    rw[iA] at hr hn
    repeat' first|assumption|simp (disch:=first|assumption|omega|simp;try omega) only[go_sem,seval,ag]|(with_reducible first|apply aa|intro)|(refine yn ?_;simp only[go_sem,seval])|(try rw[ae]);omega
    rw[eq_comm,decide_eq_true_eq];exact⟨hc,by omega,hr,hn⟩
 ·rw[decide_eq_false hc] at hcv;rw[decide_eq_false (fun h=>hc h.1)];refine bw func131 rfl ntmps131 fun ok=>?_
  simp only[go_sem,seval] at ok
  repeat' first|assumption|simp (disch:=first|assumption|omega|simp;try omega) only[go_sem,seval,ag]|(with_reducible first|apply aa|intro)|(refine aA hcv ?_)|(refine yn ?_;simp only[go_sem,seval])|(try rw[ae]);omega
end Go.Proofs

set_option maxRecDepth 20000
set_option linter.unusedVariables false
set_option linter.unusedSimpArgs false
namespace Go.Proofs
set_option linter.defProp false
open Go Go.VL
def uP (list:List (Int×Int)):Prop:=list.length<=12/\∀ d∈list,(0<=d.1/\d.1<=24)/\0<=d.2/\d.2<=7
def jt (list:List (Int×Int)):List (List Bool):=list.foldl (fun b d=>b.set d.2.toNat ((b.getD d.2.toNat []).set d.1.toNat true)) jv
def vN (o:Option (List Rt)):D:=match o with
 | none=>.tup [.nil,dB false]
 | some rs=>.tup [gW rs,dB true]
noncomputable def tb (c:ac) (place:List Int) (list:List (Int×Int)):Option (List Rt):=by
 classical exact if(c.Valid/\ay (ax c).length place)/\uP list then kh c (ax c) place (jt list) else none
def Tryz.iS (list:List (Int×Int)):bp list=true↔uP list:=by
 simp only[bp,cI,uP,gN,decide_eq_true_eq,lj]
def HF (list:List (Int×Int)):(jt list).length=8:=by
 have key : ∀ (l:List (Int×Int)) (b:List (List Bool)),(l.foldl (fun b d=>b.set d.2.toNat ((b.getD d.2.toNat []).set d.1.toNat true)) b).length=b.length:=by
  intro l;induction l with
  | nil=>exact fun b=>rfl
  | cons d l ih=>intro b;rw[eO,ih,fB]
 rw[jt,key];rfl
def GZ (list:List (Int×Int)) : ∀ u,u<8->((jt list).getD u []).length=25:=by
 have key : ∀ (l:List (Int×Int)) (b:List (List Bool)),b.length=8->(∀ u,u<8->(b.getD u []).length=25)->∀ u,u<8->((l.foldl (fun b d=>b.set d.2.toNat ((b.getD d.2.toNat []).set d.1.toNat true)) b).getD u []).length=25:=by
  intro l;induction l with
  | nil=>exact fun b _ h=>h
  | cons d l ih=>
   intro b hb h;refine ih _ (by rw[fB];exact hb) fun u hu=>?_
   by_cases e:d.2.toNat=u
   ·subst e;have:(b.set d.2.toNat ((b.getD d.2.toNat []).set d.1.toNat true)).getD d.2.toNat []=(b.getD d.2.toNat []).set d.1.toNat true:=by simp[List.getD,show d.2.toNat<b.length by omega]
    rw[this,fB];exact h _ hu
   ·have:(b.set d.2.toNat ((b.getD d.2.toNat []).set d.1.toNat true)).getD u []=b.getD u []:=by simp[List.getD,List.getElem?_set,e]
    rw[this];exact h u hu
 exact key list jv rfl jA.row
def Em (list:List (Int×Int)):da (jt list):=⟨HF list,GZ list⟩
def NH {list:List (Int×Int)}{i:Nat}(hi:i<list.length):jt (list.take (i+1))=(jt (list.take i)).set (list.getD i (0,0)).2.toNat (((jt (list.take i)).getD (list.getD i (0,0)).2.toNat []).set (list.getD i (0,0)).1.toNat true):=
 gI (f:=fun(b:List (List Bool)) (d:Int×Int)=>b.set d.2.toNat ((b.getD d.2.toNat []).set d.1.toNat true)) (b:=jv) ((0,0):Int×Int) hi
def OY:eF jv=List.replicate 200 false:=by decide +kernel
def r7:bx (eF jv)=List.replicate 200 (I.d (.bool false)):=by rw[bx,OY,List.map_replicate]
def Ki {c:ac}{place:List Int} : ∀ k:Nat,(k:Int)<c.vars->∀ n∈js c (ax c) k,∃ v:Int,1<=v/\v<c.vars/\n=dZ c (ax c) v/\fe c (ax c) place v≠[]
 | 0,_,n,h=>by simp[js] at h
 | k+1,hk,n,h=>by
  rw[js] at h;rcases List.mem_append.1 h with h1|h1
  ·exact Ki k (by omega) n h1
  ·split at h1
   ·rename_i h2;refine⟨(k:Int)+1,by omega,by omega,by simpa using h1,fun h3=>z6.1 h3 h2⟩
   ·simp at h1
def EO {cells:List bR}{v:Int} : ∀ n:Nat,iN cells v n<n/\-1<=iN cells v n
 | 0=>by simp[iN]
 | n+1=>by
  have:=EO (cells:=cells) (v:=v) n;rw[iN];split <;> omega
def J8 {c:ac}(hc:c.Valid) {place:List Int}(hp:ay (ax c).length place) : ∀ n∈o0 c (ax c),(∀ i∈n.sinks,0<=i/\i<place.length)/\n.cell<place.length/\n.sinks.length<=400/\n.pads.length<=400/\∀ t∈gE n place,0<=t/\t<=24:=by
 intro n hn;have hf:=hc.am;have hv:=hc.aM;have hcl:=qf hc;have hlo:=hc.lo;have hpl:=hp.len;obtain⟨v,h1,h2,rfl,h3⟩:=Ki (place:=place) (c.vars.toNat-1) (by omega) n hn;refine⟨fun i hi=>?_,?_,?_,?_,FC hc hp h1 h2 h3⟩
 ·obtain⟨j,hj,-,rfl⟩:=z8.1 (show i∈eA (ax c) v (ax c).length from hi);omega
 ·have:=(EO (cells:=ax c) (v:=v) (ax c).length).1;show iN (ax c) v (ax c).length<_
  omega
 ·have:=BD (fun x hx=>(ut hc x hx).2.1) v (ax c).length (aC _);show(eA (ax c) v (ax c).length).length<=400
  omega
 ·have:=BW (c:=c) (net:=v) c.outs.length;show(dS c v c.outs.length).length<=400
  omega
def Tryz.jU (c:ac) (place:List Int) (list:List (Int×Int)):Pure prog 70 [dC c,ai place,aO list] (vN (tb c place list)):=by
 have hpv:=gT c place;have hdv:=e7 list;by_cases hv:c.Valid/\ay (ax c).length place
 ·rw[decide_eq_true hv] at hpv;by_cases hd:uP list
  ·rw[(iS list).2 hd] at hdv;have hra:tb c place list=kh c (ax c) place (jt list):=by
    classical
    rw[tb,if_pos ⟨hv,hd⟩]
   have hnn:=MH hv.1 hv.2 (jt list);rw[hra,hnn];have hno:=lY c hv.1;refine bw func70 rfl ntmps70 fun ok=>?_
   simp only[go_sem,seval,-List.reduceReplicate] at ok
   repeat' first|assumption|simp (disch:=first|assumption|omega|simp;try omega) only[go_sem,seval,-List.reduceReplicate,ag,fw]|(with_reducible first|apply aa|intro)|(refine aA hpv ?_)|(refine io (fun _=>hdv) ?_)|(try rw[ae]);omega
   refine bt (E:=env 0) tok (σ:=Nat) (fun i=>[(1,.d (ai place)),(3,.ptr 0 0),(8,.ptr 1 0),(27,.d (aO list)),(28,.d (dI list.length)),(29,.d (dI i))])
    (fun i=>[.box [.d (dI c.inputs),.d (ai c.next),.d (aO c.gates),.d (ai c.outs)],.box (bx (eF (jt (list.take i))))]) (fun i=>i<=list.length) (fun i=>list.length-i) [] [] 1000 1000 ?_ ?_
   ·simp only[go_sem,seval,-List.reduceReplicate];refine⟨0,by omega,?_⟩;rw[show jt (list.take 0)=jv from rfl,r7];simp only[go_sem,seval]
   ·intro i hi;have hbl:=HF (list.take i);have hbr:=GZ (list.take i);by_cases hit:i<list.length
    ·have hstp:=NH hit;have hr:=hd.2 _ (aP hit:list.getD i (0,0)∈list);generalize jt (list.take i)=T at *
     generalize hh9:list.getD i (0,0)=hh at *
     have hbr2:=hbr hh.2.toNat (by omega);have hset:=HK (l:=eF T) (k:=hh.1.toNat*8+hh.2.toNat) (b:=true);rw[KL (by omega) (by omega) (by omega) (by omega),<-hstp] at hset
     repeat' first|assumption|simp (disch:=first|assumption|omega|simp;try omega) only[go_sem,seval,-List.reduceReplicate,hh9,jn,m4,hset,ag,fw]|(with_reducible first|apply aa|intro)|(try rw[ae]);omega
     refine cg (n:=0) [9] (aw [0,1,3,5,6,2,7,4,8] (.one 9 .done)) ?_
     repeat' first|assumption|simp (disch:=first|assumption|omega|simp;try omega) only[go_sem,seval,-List.reduceReplicate,hh9,jn,m4,hset,ag,fw]|(with_reducible first|apply aa|intro)|(try rw[ae]);omega
     refine⟨i+1,by omega,by omega,rfl,?_⟩;simp only[go_sem,seval,-List.reduceReplicate]
    ·rw[show list.take i=list from ag (by omega)]
     repeat' first|assumption|simp (disch:=first|assumption|omega|simp;try omega) only[go_sem,seval,-List.reduceReplicate,ag,fw]|(with_reducible first|apply aa|intro)|(try rw[ae]);omega
     refine iu hno [0] (by simp only[go_sem,seval,-List.reduceReplicate]) ?_;rintro r0 H1 ⟨rfl,rfl⟩
     repeat' first|assumption|simp (disch:=first|assumption|omega|simp;try omega) only[go_sem,seval,-List.reduceReplicate,ag,fw]|(with_reducible first|apply aa|intro)|(try rw[ae]);omega
     have hnf:=J8 hv.1 hv.2;have hNl:(o0 c (ax c)).length<=1000:=by
      have:=Ai c (ax c) (c.vars.toNat-1);have:=hv.1.aM;show(js c (ax c) (c.vars.toNat-1)).length<=1000
      omega
     have hpl:place.length<=1000:=by rw[hv.2.len];have:=qf hv.1;omega
     clear hno hnn hra;generalize o0 c (ax c)=N at *
     refine bt (E:=env 0) tok (σ:=Nat×List (List Bool)×List Rt) (fun s=>[(1,.d (ai place)),(8,.ptr 1 0),(11,.sl 2 s.2.2.length 3 0 s.2.2.length),(43,.d (lG N)),(44,.d (dI N.length)),(45,.d (dI s.1))])
      (fun s=>[.dead 0,.box (bx (eF s.2.1)),.row s.2.2.length 3 true (s.2.2.map fun x=>wN x)]) (fun s=>s.1<=N.length/\(N.take s.1).foldl (qV place) (some (jt list,[]))=some (s.2.1,s.2.2)/\da s.2.1/\s.2.2.length<=s.1/\∀ x∈s.2.2,x.ab.length<=25) (fun s=>N.length-s.1) [] [(11,3,true)] 1000 1000 ?_ ?_
     ·simp only[go_sem,seval,-List.reduceReplicate];refine⟨(0,jt list,[]),⟨by simp,by simp,Em list,by simp,by simp⟩,?_⟩;simp only[go_sem,seval,-List.reduceReplicate]
     ·rintro⟨k,busy,out⟩ ⟨hk,hfo,hbo,hol,hoh⟩;simp only at hk hfo hbo hol hoh;by_cases hlt:k<N.length
      ·have hfs:=gI (f:=qV place) (b:=some (jt list,[])) lQ hlt;obtain⟨q1,q2,q3,q4,q5⟩:=hnf _ (aP hlt:N.getD k lQ∈N);have hdrop:N.foldl (qV place) (some (jt list,[]))=(N.drop (k+1)).foldl (qV place) ((N.take (k+1)).foldl (qV place) (some (jt list,[]))):=by
        conv=>lhs;rw[<-x9 (k+1) N]
        rw[mM]
       rw[hfo] at hfs;generalize hx9:N.getD k lQ=n at *
       have hrt:=tf busy hbo n place q1 q2 q3 q4 hpl q5
       repeat' first|assumption|simp (disch:=first|assumption|omega|simp;try omega) only[go_sem,seval,-List.reduceReplicate,hx9,ag,fw]|(with_reducible first|apply aa|intro)|(try rw[ae]);omega
       refine iu hrt [1] (by simp only[go_sem,seval,-List.reduceReplicate]) ?_;rw[qV,tw] at hfs;simp only at hfs;cases hne:cC (gE n place) busy 8 0 with
       | none=>
        rw[hne] at hfs;simp only at hfs;rw[hfs,IG] at hdrop;rw[hdrop];rintro r0 H1 ⟨rfl,rfl⟩
        repeat' first|assumption|simp (disch:=first|assumption|omega|simp;try omega) only[go_sem,seval,-List.reduceReplicate,ag,fw]|(with_reducible first|apply aa|intro)|(try rw[ae]);omega
        simp only[vN,j6,go_sem]
       | some q=>
        obtain⟨t,h⟩:=q;rw[hne] at hfs;simp only at hfs;obtain⟨-,ht8,htr,-⟩:=Af 8 0 hne;obtain⟨hT,-,-⟩:=Bb q5 (by simp[gE]) htr;have hhl:=ru hT;rintro r0 H1 ⟨g,rfl,rfl⟩
        repeat' first|assumption|simp (disch:=first|assumption|omega|simp;try omega) only[go_sem,seval,-List.reduceReplicate,ag,fw]|(with_reducible first|apply aa|intro)|(try rw[ae]);omega
        refine⟨(k+1,bC busy t h,out ++ [⟨n.net,(t:Int),h⟩]),⟨by simp only;omega,hfs,Bt hbo (by omega),by simp;omega,fun x hx=>?_⟩,by simp only;omega,?_⟩
        ·rcases List.mem_append.1 hx with h1|h1
         ·exact hoh x h1
         ·obtain rfl:x=⟨n.net,(t:Int),h⟩:=by simpa using h1
          exact hhl
        ·simp only[go_sem,seval,-List.reduceReplicate];simp
      ·obtain rfl:k=N.length:=by omega
       rw[iA] at hfo;rw[hfo]
       repeat' first|assumption|simp (disch:=first|assumption|omega|simp;try omega) only[go_sem,seval,-List.reduceReplicate,ag,fw]|(with_reducible first|apply aa|intro)|(try rw[ae]);omega
       simp only[vN,k6,go_sem]
  ·have hra:tb c place list=none:=by
    classical
    rw[tb,if_neg (fun h=>hd h.2)]
   rw[hra];rw[show bp list=false from Bool.eq_false_iff.2 (fun h=>hd ((iS list).1 h))] at hdv;refine bw func70 rfl ntmps70 fun ok=>?_
   simp only[go_sem,seval,-List.reduceReplicate] at ok
   repeat' first|assumption|simp (disch:=first|assumption|omega|simp;try omega) only[go_sem,seval,-List.reduceReplicate,ag,fw]|(with_reducible first|apply aa|intro)|(refine aA hpv ?_)|(refine io (fun _=>hdv) ?_)|(try rw[ae]);omega
   simp only[vN,go_sem]
 ·have hra:tb c place list=none:=by
   classical
   rw[tb,if_neg (fun h=>hv h.1)]
  rw[decide_eq_false hv] at hpv;rw[hra];refine bw func70 rfl ntmps70 fun ok=>?_
  simp only[go_sem,seval,-List.reduceReplicate] at ok
  repeat' first|assumption|simp (disch:=first|assumption|omega|simp;try omega) only[go_sem,seval,-List.reduceReplicate,ag,fw]|(with_reducible first|apply aa|intro)|(refine aA hpv ?_)|(refine io (fun _=>hdv) ?_)|(try rw[ae]);omega
  simp only[vN,go_sem]
end Go.Proofs

set_option linter.unusedVariables false
set_option linter.unusedSimpArgs false
namespace Go.VL
set_option linter.defProp false
def I9 : ∀ (l:List Int) (s:Int×Int×Int×Int),((l.foldl bB s).1<=s.1/\s.2.1<=(l.foldl bB s).2.1/\(l.foldl bB s).2.2.1<=s.2.2.1/\s.2.2.2<=(l.foldl bB s).2.2.2)/\
  ∀ t∈l,((l.foldl bB s).1<=t/5/\t/5<=(l.foldl bB s).2.1/\(l.foldl bB s).2.2.1<=t%5/\t%5<=(l.foldl bB s).2.2.2)
 | [],s=>⟨⟨Int.le_refl _,Int.le_refl _,Int.le_refl _,Int.le_refl _⟩,fun t h=>by simp at h⟩
 | x::l,s=>by
  obtain⟨h1,h2⟩:=I9 l (bB s x);rw[eO];have e1:(bB s x).1=min s.1 (x/5):=rfl;have e2:(bB s x).2.1=max s.2.1 (x/5):=rfl;have e3:(bB s x).2.2.1=min s.2.2.1 (x%5):=rfl;have e4:(bB s x).2.2.2=max s.2.2.2 (x%5):=rfl;refine⟨by omega,fun t ht=>?_⟩;rcases List.mem_cons.1 ht with rfl|h
  ·omega
  ·exact h2 t h
def B6 : ∀ (l out:List Int),l.foldl bB (bP out)=bP (l.foldl aS out)
 | [],out=>rfl
 | t::l,out=>by
  rw[eO,eO];by_cases hm:t∈out
  ·have e:bB (bP out) t=bP out:=by
    have h:=(I9 out (5,0,5,0)).2 t hm;have hb:bP out=out.foldl bB (5,0,5,0):=rfl;rw[<-hb] at h;unfold bB;refine Prod.ext ?_ (Prod.ext ?_ (Prod.ext ?_ ?_)) <;> simp only <;> omega
   rw[e,show aS out t=out by unfold aS;rw[if_pos hm]];exact B6 l out
  ·have e:bB (bP out) t=bP (aS out t):=by
    rw[show aS out t=out ++ [t] by unfold aS;rw[if_neg hm]];show bB (out.foldl bB (5,0,5,0)) t=(out ++ [t]).foldl bB (5,0,5,0)
    rw[mM];rfl
   rw[e];exact B6 l (aS out t)
def MA (s:Int) (l:List Int):kZ (s::l)=kZ (l.foldl aS [s]):=by
 obtain⟨r,hr⟩:=xJ (l:=l) (out:=[s]);have hb:bP (s::l)=bP (l.foldl aS [s]):=by
  rw[<-B6 l [s]];rfl
 unfold kZ;rw[if_neg (by simp),if_neg (by rw[hr];simp),hb]
def go (place:List Int) (l:List mo):Int:=l.foldl (fun s n=>s+kZ (gE n place)) 0
def M0 (place:List Int) (l m:List mo):go place (l++m)=m.foldl (fun s n=>s+kZ (gE n place)) (go place l):=by
 rw[go,mM];rfl
def J0 {c:ac}(hc:c.Valid) (place:List Int) : ∀ k:Nat,(k:Int)<c.vars->go place (js c (ax c) k)=oO c (ax c) place k
 | 0,_=>rfl
 | k+1,hk=>by
  have ih:=J0 hc place k (by omega);rw[js,M0,ih,oO];by_cases hu:fe c (ax c) place ((k:Int)+1)=[]
  ·rw[if_neg (z6.1 hu),(yN hc place (v:=(k:Int)+1) (by omega) (by omega)).2 hu];show oO c (ax c) place k=oO c (ax c) place k+kZ []
   rw[show kZ []=0 from rfl];omega
  ·rw[if_pos (Decidable.byContradiction fun h=>hu (z6.2 h)),yX hc place (v:=(k:Int)+1) (by omega) (by omega) hu,<-MA];rfl
def OB {c:ac}(hc:c.Valid) (place:List Int):go place (o0 c (ax c))=iY c (ax c) place:=by
 have:=hc.am;have:=hc.aM;rw[o0,J0 hc place _ (by omega)];rfl
end Go.VL

set_option maxRecDepth 20000
set_option linter.unusedVariables false
set_option linter.unusedSimpArgs false
namespace Go.Proofs
set_option linter.defProp false
open Go Go.VL
@[go_sem] def Uh {K:List R}{g:Nat}{cs:List I}{y:I}:cQ K (.fn g cs) y=eU K (.fn g cs) y:=vV nofun
def Tryz.qW (n:mo) (place:List Int) (hs : ∀ i∈n.sinks,0<=i/\i<place.length) (hk:n.cell<place.length) (hl:n.sinks.length<=400) (hl2:n.pads.length<=400) (hp:place.length<=1000) (hb : ∀ t∈gE n place,0<=t/\t<=24):Pure prog 129 [rV n,ai place] (dI (kZ (gE n place))):=by
 have ht:=nO n place hs hk (by omega) (by omega) hp;have hne:gE n place≠[]:=by simp[gE]
 have hTl:(gE n place).length<=1000:=by simp[gE];omega
 refine bw func129 rfl ntmps129 fun ok=>?_
 simp only[go_sem,seval,-List.reduceReplicate] at ok
 repeat' first|assumption|simp (disch:=first|assumption|omega|simp;try omega) only[go_sem,seval,-List.reduceReplicate,ag,aB,fw]|(with_reducible first|apply aa|intro)|(refine aA ht ?_)|(try rw[ae]);omega
 generalize gE n place=T at *
 refine bt (E:=env 0) tok (σ:=Nat) (fun i=>[(5,.ptr 1 0),(6,.ptr 2 0),(15,.d (ai T)),(16,.d (dI T.length)),(17,.d (dI i))])
  (fun i=>[.box [.d (dI n.net),.d (dI n.cell),.d (dI n.tile),.d (ai n.sinks),.d (ai n.pads)],.box [.d (dI (bP (T.take i)).1),.d (dI (bP (T.take i)).2.2.1)],.box [.d (dI (bP (T.take i)).2.1),.d (dI (bP (T.take i)).2.2.2)]]) (fun i=>i<=T.length) (fun i=>T.length-i) [] [] 1000 1000 ?_ ?_
 ·simp only[go_sem,seval,-List.reduceReplicate];exact⟨0,by omega,by simp[bP]⟩
 ·intro i hi;have hbb:=C4 (tiles:=T.take i) (fun t h=>hb t (jX h));by_cases hlt:i<T.length
  ·have hst:bP (T.take (i+1))=bB (bP (T.take i)) (T.getD i 0):=gI (f:=bB) (b:=(5,0,5,0)) (0:Int) hlt;have htb:=hb _ (aP hlt:T.getD i 0∈T);generalize bP (T.take i)=S at *
   obtain⟨s1,s2,s3,s4⟩:=S;simp only at hbb;generalize hx9:T.getD i 0=t at *
   repeat' first|assumption|simp (disch:=first|assumption|omega|simp;try omega) only[go_sem,seval,-List.reduceReplicate,hx9,ag,aB,fw]|(with_reducible first|apply aa|intro)|(try rw[ae]);omega
   refine A5 (E:=env 0) tok 4 1000 1000 ?_;refine kS ?_
   repeat' first|assumption|simp (disch:=first|assumption|omega|simp;try omega) only[go_sem,seval,-List.reduceReplicate,hx9,ag,aB,fw]|(with_reducible first|apply aa|intro)|(try rw[ae]);omega
   refine kS ?_
   repeat' first|assumption|simp (disch:=first|assumption|omega|simp;try omega) only[go_sem,seval,-List.reduceReplicate,hx9,ag,aB,fw]|(with_reducible first|apply aa|intro)|(try rw[ae]);omega
   refine kS ?_
   repeat' first|assumption|simp (disch:=first|assumption|omega|simp;try omega) only[go_sem,seval,-List.reduceReplicate,hx9,ag,aB,fw]|(with_reducible first|apply aa|intro)|(try rw[ae]);omega
   refine⟨i+1,by omega,by omega,?_⟩;rw[hst]
   repeat' apply And.intro
   all_goals rfl
  ·obtain rfl:i=T.length:=by omega
   rw[iA] at hbb ⊢;have hd:kZ T=(bP T).2.1-(bP T).1+(bP T).2.2.2-(bP T).2.2.1:=if_neg hne;rw[hd]
   repeat' first|assumption|simp (disch:=first|assumption|omega|simp;try omega) only[go_sem,seval,-List.reduceReplicate,ag,aB,fw]|(with_reducible first|apply aa|intro)|(try rw[ae]);omega
def Tryz.q6 (c:ac) (hc:c.Valid) (place:List Int) (hp:ay (ax c).length place):Pure prog 128 [ai place,.ptr [lG (o0 c (ax c))]] (dI (iY c (ax c) place)):=by
 have hnf:=J8 hc hp;have hNl:(o0 c (ax c)).length<=1000:=by
  have:=Ai c (ax c) (c.vars.toNat-1);have:=hc.aM;show(js c (ax c) (c.vars.toNat-1)).length<=1000
  omega
 have hpl:place.length<=1000:=by rw[hp.len];have:=qf hc;omega
 rw[<-OB hc place];generalize o0 c (ax c)=N at *
 refine bw func128 rfl ntmps128 fun ok=>?_
 simp only[go_sem,seval,-List.reduceReplicate] at ok
 repeat' first|assumption|simp (disch:=first|assumption|omega|simp;try omega) only[go_sem,seval,-List.reduceReplicate,ag,aB,fw]|(with_reducible first|apply aa|intro)|(try rw[ae]);omega
 refine bt (E:=env 0) tok (σ:=Nat) (fun i=>[(0,.d (ai place)),(4,.d (dI (go place (N.take i)))),(7,.d (lG N)),(8,.d (dI N.length)),(9,.d (dI i))]) (fun _=>[]) (fun i=>i<=N.length/\-(10*(i:Int))<=go place (N.take i)/\go place (N.take i)<=10*(i:Int)) (fun i=>N.length-i) [] [] 1000 1000 ?_ ?_
 ·simp only[go_sem,seval,-List.reduceReplicate];exact⟨0,⟨by omega,by simp[go],by simp[go]⟩,by simp[go]⟩
 ·rintro i ⟨hi,hb1,hb2⟩;by_cases hlt:i<N.length
  ·have hst:go place (N.take (i+1))=go place (N.take i)+kZ (gE (N.getD i lQ) place):=gI (f:=fun s n=>s+kZ (gE n place)) (b:=0) lQ hlt;obtain⟨q1,q2,q3,q4,q5⟩:=hnf _ (aP hlt:N.getD i lQ∈N);have hln:=qW _ place q1 q2 q3 q4 hpl q5;have hdb:=CA q5;generalize hx9:N.getD i lQ=n at *
   generalize go place (N.take i)=s at *
   generalize kZ (gE n place)=d at *
   repeat' first|assumption|simp (disch:=first|assumption|omega|simp;try omega) only[go_sem,seval,-List.reduceReplicate,hx9,ag,aB,fw]|(with_reducible first|apply aa|intro)|(refine aA hln ?_)|(try rw[ae]);omega
   refine⟨i+1,⟨by omega,by omega,by omega⟩,by omega,?_⟩;rw[hst];exact⟨rfl,rfl⟩
  ·obtain rfl:i=N.length:=by omega
   rw[iA]
   repeat' first|assumption|simp (disch:=first|assumption|omega|simp;try omega) only[go_sem,seval,-List.reduceReplicate,ag,aB,fw]|(with_reducible first|apply aa|intro)|(try rw[ae]);omega
def Tryz.l5 (place:List Int) (i:Nat) (tile:Int) (hi:i<place.length) (hl:place.length<=25):Pure prog 130 [ai place,dI i,dI tile] (ai (dL place i tile)):=by
 refine bw func130 rfl ntmps130 fun ok=>?_
 simp only[go_sem,seval,-List.reduceReplicate] at ok
 repeat' first|assumption|simp (disch:=first|assumption|omega|simp;try omega) only[go_sem,seval,-List.reduceReplicate,ag,aB,fw]|(with_reducible first|apply aa|intro)|(try rw[ae]);omega
 refine bt (E:=env 0) tok (σ:=Nat×List Int) (fun s=>[(0,.d (ai place)),(1,.d (dI i)),(2,.d (dI tile)),(7,.sl 0 0 1 0 place.length),(12,.d (dI place.length)),(13,.d (dI s.1))]) (fun s=>[.row 0 1 true (s.2.map (D.int .i64))])
  (fun s=>s.1<=place.length/\s.2.length=place.length/\∀ j,j<place.length->s.2.getD j 0=if j<s.1/\place.getD j 0=tile then place.getD i 0 else place.getD j 0) (fun s=>place.length-s.1) [] [] 1000 1000 ?_ ?_
 ·simp only[go_sem,seval,-List.reduceReplicate];exact⟨(0,place),⟨by simp,rfl,fun j hj=>by simp⟩,rfl,rfl⟩
 ·rintro⟨k,q⟩ ⟨hk,hql,hq⟩;simp only at hk hql hq;by_cases hkt:k<place.length
  ·have hqk:=hq k hkt;rw[if_neg (by omega)] at hqk
   repeat' first|assumption|simp (disch:=first|assumption|omega|simp;try omega) only[go_sem,seval,-List.reduceReplicate,ag,aB,fw]|(with_reducible first|apply aa|intro)|(try rw[ae]);omega
   ·rename_i h9;rw[hqk] at h9;refine⟨(k+1,q.set k (place.getD i 0)),⟨by simp only;omega,by simp only[fB];exact hql,fun j hj=>?_⟩,by simp only;omega,rfl,rfl⟩;simp only;rw[rg (by omega),hq j hj];by_cases hjk:k=j
    ·subst hjk;rw[if_pos rfl,if_pos ⟨by omega,h9⟩]
    ·rw[if_neg hjk];by_cases h2:j<k/\place.getD j 0=tile
     ·rw[if_pos h2,if_pos ⟨by omega,h2.2⟩]
     ·rw[if_neg h2,if_neg (fun h=>h2 ⟨by omega,h.2⟩)]
   ·rename_i h9;rw[hqk] at h9;refine⟨(k+1,q),⟨by simp only;omega,hql,fun j hj=>?_⟩,by simp only;omega,rfl,rfl⟩;simp only;rw[hq j hj];by_cases h2:j<k/\place.getD j 0=tile
    ·rw[if_pos h2,if_pos ⟨by omega,h2.2⟩]
    ·rw[if_neg h2,if_neg (fun h=>by
      by_cases hjk:j=k
      ·subst hjk;exact h9 h.2
      ·exact h2 ⟨by omega,h.2⟩)]
  ·have e:q.set i tile=dL place i tile:=by
    refine oK 0 (by rw[fB,zQ,hql]) fun j hj=>?_
    rw[fB,hql] at hj;rw[zk hj,rg (by omega),hq j hj];by_cases hji:j=i
    ·rw[if_pos hji.symm,if_pos hji]
    ·rw[if_neg (Ne.symm hji),if_neg hji];by_cases h2:place.getD j 0=tile
     ·rw[if_pos ⟨by omega,h2⟩,if_pos h2]
     ·rw[if_neg (fun h=>h2 h.2),if_neg h2]
   repeat' first|assumption|simp (disch:=first|assumption|omega|simp;try omega) only[go_sem,seval,-List.reduceReplicate,ag,aB,fw]|(with_reducible first|apply aa|intro)|(try rw[ae]);omega
def Tryz.se (c:ac) (hc:c.Valid):bk prog 69 [dC c] (ai (j7 c (ax c))):=by
 have hcv:=a8 c;rw[decide_eq_true hc] at hcv;have hno:=lY c hc;have hce:=gB c hc;have hcost:=fun p (h:ay (ax c).length p)=>q6 c hc p h
 have hcl:=qf hc;refine pu (E:=env 0) tok rfl 1000 func69 rfl rfl ntmps69 (by simp) fun ok=>?_
 simp only[go_sem,seval,-List.reduceReplicate] at ok
 repeat' first|assumption|simp (disch:=first|assumption|omega|simp;try omega) only[go_sem,seval,-List.reduceReplicate,ag,aB,fw]|(with_reducible first|apply aa|intro)|(refine aA hcv ?_)|(try rw[ae]);omega
 refine iu hno [0] (by simp only[go_sem,seval,-List.reduceReplicate]) ?_;rintro r0 H1 ⟨rfl,rfl⟩
 repeat' first|assumption|simp (disch:=first|assumption|omega|simp;try omega) only[go_sem,seval,-List.reduceReplicate,ag,aB,fw]|(with_reducible first|apply aa|intro)|(refine kA hce ?_)|(try rw[ae]);omega
 have hpd:j7 c (ax c)=((List.range 3).foldl (lk c (ax c)) (gm (ax c).length,iY c (ax c) (gm (ax c).length))).1:=rfl;have hsw:=BF (c:=c) (cells:=ax c) (by omega);generalize o0 c (ax c)=N at *
 generalize ax c=cells at *
 refine bt (E:=env 0) tok (σ:=Nat) (fun i=>[(4,.fn 128 [.ptr 1 0]),(5,.sl 2 i 1 0 i),(19,.d (dI cells.length)),(20,.d (dI i))]) (fun i=>[.dead 0,.box [.d (lG N)],.row i 1 true ((gm i).map (D.int .i64))]) (fun i=>i<=cells.length) (fun i=>cells.length-i) [] [(5,1,true)] 1000 1000 ?_ ?_
 ·simp only[go_sem,seval,-List.reduceReplicate];exact⟨0,by omega,by simp[gm]⟩
 ·intro i hi;have hil:(gm i).length=i:=by simp[gm]
  have his:gm (i+1)=gm i ++ [(i:Int)]:=by rw[gm,kK,iz];rfl
  by_cases hlt:i<cells.length
  ·generalize gm i=q at *
   simp only[go_sem,seval,-List.reduceReplicate]
   repeat' first|assumption|simp (disch:=first|assumption|omega|simp;try omega) only[go_sem,seval,-List.reduceReplicate,hil,ag,aB,fw]|(with_reducible first|apply aa|intro)|(try rw[ae]);omega
   refine⟨i+1,by omega,by omega,?_⟩;rw[his]
   repeat' apply And.intro
   all_goals rfl
  ·obtain rfl:i=cells.length:=by omega
   have hpo:=CU (n:=cells.length) (by omega);generalize gm cells.length=P0 at *
   simp only[go_sem,seval,-List.reduceReplicate]
   repeat' first|assumption|simp (disch:=first|assumption|omega|simp;try omega) only[go_sem,seval,-List.reduceReplicate,hil,ag,aB,fw]|(with_reducible first|apply aa|intro)|(refine aA (hcost _ hpo) ?_)|(try rw[ae]);omega
   refine bt (E:=env 0) tok (σ:=Nat) (fun s=>[(4,.fn 128 [.ptr 1 0]),(5,.d (ai ((List.range s).foldl (lk c cells) (P0,iY c cells P0)).1)),(7,.d (dI ((List.range s).foldl (lk c cells) (P0,iY c cells P0)).2)),(31,.d (dI s))]) (fun s=>[.dead 0,.box [.d (lG N)]]) (fun s=>s<=3) (fun s=>3-s) [] [] 1000 1000 ?_ ?_
   ·simp only[go_sem,seval,-List.reduceReplicate];refine⟨0,by omega,?_⟩;simp[hil];exact ag (by omega)
   ·intro s hs;have hS:=hsw s;have hS1:(List.range (s+1)).foldl (lk c cells) (P0,iY c cells P0)=lk c cells ((List.range s).foldl (lk c cells) (P0,iY c cells P0)) s:=tQ;generalize hS9:(List.range s).foldl (lk c cells) (P0,iY c cells P0)=S at *
    have hmid:=AE (c:=c) hS;have hSd:lk c cells S s=(List.range cells.length).foldl (eK c cells) S:=rfl;have hSl:=hS.len;by_cases hst:s<3
    ·repeat' first|assumption|simp (disch:=first|assumption|omega|simp;try omega) only[go_sem,seval,-List.reduceReplicate,ag,aB,fw]|(with_reducible first|apply aa|intro)|(try rw[ae]);omega
     refine bt (E:=env 0) tok (σ:=Nat) (fun i=>[(4,.fn 128 [.ptr 1 0]),(5,.d (ai ((List.range i).foldl (eK c cells) S).1)),(7,.d (dI ((List.range i).foldl (eK c cells) S).2)),(31,.d (dI s)),(34,.d (dI S.1.length)),(35,.d (dI i))]) (fun _=>[.dead 0,.box [.d (lG N)]]) (fun i=>i<=cells.length) (fun i=>cells.length-i) [] [] 1000 1000 ?_ ?_
     ·simp only[go_sem,seval,-List.reduceReplicate];exact⟨0,by omega,by simp⟩
     ·intro i hi;have hI:=hmid i hi;have hI1:(List.range (i+1)).foldl (eK c cells) S=eK c cells ((List.range i).foldl (eK c cells) S) i:=tQ;by_cases hit:i<cells.length
      ·generalize (List.range i).foldl (eK c cells) S=M at *
       have hin:=AW (c:=c) hit hI;have hId:eK c cells M i=(List.range 25).foldl (kB c cells i) M:=rfl
       repeat' first|assumption|simp (disch:=first|assumption|omega|simp;try omega) only[go_sem,seval,-List.reduceReplicate,ag,aB,fw]|(with_reducible first|apply aa|intro)|(try rw[ae]);omega
       refine bt (E:=env 0) tok (σ:=Nat) (fun t=>[(4,.fn 128 [.ptr 1 0]),(5,.d (ai ((List.range t).foldl (kB c cells i) M).1)),(7,.d (dI ((List.range t).foldl (kB c cells i) M).2)),(8,.d (dI i)),(31,.d (dI s)),(34,.d (dI S.1.length)),(35,.d (dI i)),(38,.d (dI t))]) (fun _=>[.dead 0,.box [.d (lG N)]]) (fun t=>t<=25) (fun t=>25-t) [] [] 1000 1000 ?_ ?_
       ·simp only[go_sem,seval,-List.reduceReplicate];exact⟨0,by omega,by simp⟩
       ·intro t ht;have hT:=hin t ht;have hT1:(List.range (t+1)).foldl (kB c cells i) M=kB c cells i ((List.range t).foldl (kB c cells i) M) t:=tQ;by_cases htt:t<25
        ·generalize (List.range t).foldl (kB c cells i) M=Z at *
         obtain⟨p,k⟩:=Z;simp only at hT;have hpl:=hT.len;have htr:=l5 p i (t:Int) (by omega) (by omega);have hok:=hT.wa hit (tile:=(t:Int)) (by omega);have hco:=hcost _ hok;have hsd:kB c cells i (p,k) t=if iY c cells (dL p i (t:Int))<k then(dL p i (t:Int),iY c cells (dL p i (t:Int))) else(p,k):=rfl
         generalize dL p i (t:Int)=nx at *
         repeat' first|assumption|simp (disch:=first|assumption|omega|simp;try omega) only[go_sem,seval,-List.reduceReplicate,ag,aB,fw]|(with_reducible first|apply aa|intro)|(refine aA htr ?_)|(refine aA hco ?_)|(try rw[ae]);omega
         ·rename_i h9;refine⟨t+1,by omega,by omega,?_⟩;rw[hT1,hsd,if_pos h9];exact⟨rfl,rfl,rfl⟩
         ·rename_i h9;refine⟨t+1,by omega,by omega,?_⟩;rw[hT1,hsd,if_neg h9];exact⟨rfl,rfl,rfl⟩
        ·obtain rfl:t=25:=by omega
         rw[<-hId,<-hI1]
         repeat' first|assumption|simp (disch:=first|assumption|omega|simp;try omega) only[go_sem,seval,-List.reduceReplicate,ag,aB,fw]|(with_reducible first|apply aa|intro)|(try rw[ae]);omega
         refine⟨i+1,by omega,by omega,?_⟩;rw[kK];exact⟨rfl,rfl,rfl⟩
      ·obtain rfl:i=cells.length:=by omega
       rw[<-hSd,<-hS1]
       repeat' first|assumption|simp (disch:=first|assumption|omega|simp;try omega) only[go_sem,seval,-List.reduceReplicate,ag,aB,fw]|(with_reducible first|apply aa|intro)|(try rw[ae]);omega
       refine⟨s+1,by omega,by omega,?_⟩;rw[kK];exact⟨rfl,rfl,rfl⟩
    ·obtain rfl:s=3:=by omega
     repeat' first|assumption|simp (disch:=first|assumption|omega|simp;try omega) only[go_sem,seval,-List.reduceReplicate,ag,aB,fw]|(with_reducible first|apply aa|intro)|(try rw[ae]);omega
     all_goals rw[hpd,<-hS9]
end Go.Proofs

set_option maxRecDepth 20000
set_option linter.unusedVariables false
set_option linter.unusedSimpArgs false
namespace Go.Proofs
set_option linter.defProp false
open Go Go.VL
def xV (l:List (Int×Bool)):Prop:=l.length=3/\∀ j,j<l.length->jR (l.getD j (0,false)).1=true
def bu.ok (c:bu):Prop:=c.tiles.length=25/\xV c.pads/\∀ j,j<c.tiles.length->(c.tiles.getD j bE).ok (j:Int)=true
noncomputable instance (l:List (Int×Bool)):Decidable (xV l):=Classical.propDecidable _
noncomputable instance (c:bu):Decidable c.ok:=Classical.propDecidable _
def Tryz.lO (l:List (Int×Bool)):Pure prog 123 [mE l] (.bool (decide (xV l))):=by
 refine bw func123 rfl ntmps123 fun ok=>?_
 simp only[go_sem,seval] at ok⊢;refine ce (E:=env 0) tok (σ:=Nat) (fun i=>[(5,.d (mE l)),(6,.d (dI l.length)),(7,.d (dI i)),(0,.d (mE l))]) (fun _=>[]) (fun i=>i<=l.length/\∀ j,j<i->jR (l.getD j (0,false)).1=true) (fun i=>l.length-i) [] 1000 1000 ?_ ?_ ?_
 ·simp only[go_sem,seval]
 ·simp only[go_sem,seval];exact⟨0,⟨by omega,fun j hj=>absurd hj (by omega)⟩,rfl⟩
 ·rintro i ⟨hi,hinv⟩;by_cases hlt:i<l.length
  ·repeat' first|assumption|simp (disch:=first|assumption|omega|simp;try omega) only[go_sem,seval,bV,bU]|(with_reducible first|apply aa|intro)|(refine aA (km _) ?_)|exact ah|(try rw[ae]);omega
   ·rename_i h1;simp only[false_eq_decide_iff];intro h2;have:=h2.2 i hlt;rw[h1] at this;exact absurd this (by simp)
   ·rename_i h1;refine⟨i+1,⟨by omega,fun j hj=>?_⟩,by omega,rfl⟩;by_cases hji:j=i
    ·subst hji;exact h1
    ·exact hinv j (by omega)
  ·repeat' first|assumption|simp (disch:=first|assumption|omega|simp;try omega) only[go_sem,seval,bV,bU]|(with_reducible first|apply aa|intro)|exact ah|(try rw[ae]);omega
   have:xV l↔(l.length:Int)=3:=⟨fun h=>by have:=h.1;omega,fun h=>⟨by omega,fun j hj=>hinv j (by omega)⟩⟩;by_cases h3:(l.length:Int)=3
   ·simp[h3,this.2 h3]
   ·simp[h3,show ¬ xV l from fun h=>h3 (this.1 h)]
def Tryz.jV (c:bu):Pure prog 64 [dK c] (.bool (decide c.ok)):=by
 have hp:=lO c.pads;refine bw func64 rfl ntmps64 fun ok=>?_
 simp only[go_sem,seval] at ok
 repeat' first|assumption|simp (disch:=first|assumption|omega|simp;try omega) only[go_sem,seval,bV,bU]|(with_reducible first|apply aa|intro)|(refine io (fun _=>hp) ?_)|exact ah|(try rw[ae]);omega
 ·rename_i h;simp only[false_eq_decide_iff];intro h2;rcases h with h|h
  ·exact h (by have:=h2.1;omega)
  ·exact h h2.2.1
 rename_i h;refine ce (E:=env 0) tok (σ:=Nat) (fun i=>[(1,.ptr 0 0),(16,.d (fq c.tiles)),(17,.d (dI c.tiles.length)),(18,.d (dI i))]) (fun _=>[.box [.d (fq c.tiles),.d (mE c.pads)]]) (fun i=>i<=c.tiles.length/\∀ j,j<i->(c.tiles.getD j bE).ok (j:Int)=true) (fun i=>c.tiles.length-i) [] 1000 1000 ?_ ?_ ?_
 ·simp only[go_sem,seval]
 ·simp only[go_sem,seval];exact⟨0,⟨by omega,fun j hj=>absurd hj (by omega)⟩,rfl⟩
 ·rintro i ⟨hi,hinv⟩;by_cases hlt:i<c.tiles.length
  ·repeat' first|assumption|simp (disch:=first|assumption|omega|simp;try omega) only[go_sem,seval,bV,bU]|(with_reducible first|apply aa|intro)|(refine aA (mp _ (i:Int) (by omega)) ?_)|exact ah|(try rw[ae]);omega
   ·rename_i h1;simp only[false_eq_decide_iff];intro h2;have:=h2.2.2 i hlt;rw[h1] at this;exact absurd this (by simp)
   ·rename_i h1;refine⟨i+1,⟨by omega,fun j hj=>?_⟩,by omega,rfl⟩;by_cases hji:j=i
    ·subst hji;exact h1
    ·exact hinv j (by omega)
  ·repeat' first|assumption|simp (disch:=first|assumption|omega|simp;try omega) only[go_sem,seval,bV,bU]|(with_reducible first|apply aa|intro)|exact ah|(try rw[ae]);omega
   simp only[true_eq_decide_iff];exact⟨by omega,h.2,fun j hj=>hinv j (by omega)⟩
def bu.eS {c:bu}(h:c.ok) {i:Nat}(hi:i<25):(c.tiles.getD i bE).select.length=3/\(c.tiles.getD i bE).drive.length=8:=by
 have:=az.cA.1 (h.2.2 i (by have:=h.1;omega));exact⟨this.2.1,this.2.2.1⟩
def Tryz.jB (c:bu):Pure prog 118 [dK c] (.bool (decide c.ok)):=by
 refine bw func118 rfl ntmps118 fun ok=>?_
 simp only[go_sem,seval] at ok
 repeat' first|assumption|simp (disch:=first|assumption|omega|simp;try omega) only[go_sem,seval,bV,bU]|(with_reducible first|apply aa|intro)|exact ah|(try rw[ae]);omega
 ·rename_i h;simp only[false_eq_decide_iff];intro h2;rcases h with h|h
  ·exact h (by have:=h2.1;omega)
  ·exact h (by have:=h2.2.1.1;omega)
 rename_i h;refine ce (E:=env 0) tok (σ:=Nat) (fun i=>[(1,.ptr 0 0),(3,.d (dI i))]) (fun _=>[.box [.d (fq c.tiles),.d (mE c.pads)]]) (fun i=>i<=c.tiles.length/\∀ j,j<i->(c.tiles.getD j bE).ok (j:Int)=true) (fun i=>c.tiles.length-i) [] 1000 1000 ?_ ?_ ?_
 ·simp only[go_sem,seval]
 ·simp only[go_sem,seval];exact⟨0,⟨by omega,fun j hj=>absurd hj (by omega)⟩,rfl⟩
 ·rintro i ⟨hi,hinv⟩;by_cases hlt:i<c.tiles.length
  ·repeat' first|assumption|simp (disch:=first|assumption|omega|simp;try omega) only[go_sem,seval,bV,bU]|(with_reducible first|apply aa|intro)|(refine aA (qp _ (i:Int) (by omega)) ?_)|exact ah|(try rw[ae]);omega
   ·rename_i h1;simp only[false_eq_decide_iff];intro h2;have:=h2.2.2 i hlt;rw[h1] at this;exact absurd this (by simp)
   ·rename_i h1;refine⟨i+1,⟨by omega,fun j hj=>?_⟩,by omega,rfl⟩;by_cases hji:j=i
    ·subst hji;exact h1
    ·exact hinv j (by omega)
  ·repeat' first|assumption|simp (disch:=first|assumption|omega|simp;try omega) only[go_sem,seval,bV,bU]|(with_reducible first|apply aa|intro)|exact ah|(try rw[ae]);omega
   have ht : ∀ j,j<c.tiles.length->(c.tiles.getD j bE).ok (j:Int)=true:=fun j hj=>hinv j (by omega)
   clear hinv hi hlt;refine ce (E:=env 0) tok (σ:=Nat) (fun i=>[(1,.ptr 0 0),(4,.d (dI i))]) (fun _=>[.box [.d (fq c.tiles),.d (mE c.pads)]]) (fun i=>i<=c.pads.length/\∀ j,j<i->jR (c.pads.getD j (0,false)).1=true) (fun i=>c.pads.length-i) [] 1000 1000 ?_ ?_ ?_
   ·simp only[go_sem,seval]
   ·simp only[go_sem,seval];exact⟨0,⟨by omega,fun j hj=>absurd hj (by omega)⟩,rfl⟩
   ·rintro i ⟨hi,hinv⟩;by_cases hlt:i<c.pads.length
    ·repeat' first|assumption|simp (disch:=first|assumption|omega|simp;try omega) only[go_sem,seval,bV,bU]|(with_reducible first|apply aa|intro)|(refine aA (kq _) ?_)|exact ah|(try rw[ae]);omega
     ·rename_i h1;simp only[false_eq_decide_iff];intro h2;have:=h2.2.1.2 i hlt;rw[h1] at this;exact absurd this (by simp)
     ·rename_i h1;refine⟨i+1,⟨by omega,fun j hj=>?_⟩,by omega,rfl⟩;by_cases hji:j=i
      ·subst hji;exact h1
      ·exact hinv j (by omega)
    ·repeat' first|assumption|simp (disch:=first|assumption|omega|simp;try omega) only[go_sem,seval,bV,bU]|(with_reducible first|apply aa|intro)|exact ah|(try rw[ae]);omega
     simp only[true_eq_decide_iff];exact⟨by omega,⟨by omega,fun j hj=>hinv j (by omega)⟩,ht⟩
end Go.Proofs

set_option maxRecDepth 20000
set_option linter.unusedVariables false
set_option linter.unusedSimpArgs false
namespace Go.Proofs
set_option linter.defProp false
open Go Go.VL
variable {f:Nat}
def Tryz.shp_KDefect (y:D) (h:gZ tyT (f+2) 171 y) : ∃ a:Int×Int,y=dP a:=by
 obtain⟨ys,rfl,k0⟩:=shp_struct uR h;obtain⟨y1,r1,rfl,h1,k1⟩:=uB k0;obtain⟨y2,r2,rfl,h2,k2⟩:=uB k1;obtain rfl:=Ea k2;obtain⟨n,rfl⟩:=shp_int wb h1;obtain⟨m,rfl⟩:=shp_int wb h2;exact⟨(n,m),rfl⟩
def Tryz.shp_KDefects (y:D) (h:gZ tyT (f+3) 92 y) : ∃ l:List (Int×Int),y=aO l:=
 shp_slice C7 uR shp_KDefect h
end Go.Proofs

set_option maxRecDepth 20000
set_option linter.unusedVariables false
set_option linter.unusedSimpArgs false
namespace Go.Proofs
set_option linter.defProp false
open Go Go.VL
def bu.small (c:bu):Prop:=c.tiles.length<=1048576/\c.pads.length<=1048576/\∀ j,j<c.tiles.length->(c.tiles.getD j bE).select.length<=1048576/\(c.tiles.getD j bE).drive.length<=1048576
end Go.Proofs

set_option maxRecDepth 20000
set_option linter.unusedVariables false
set_option linter.unusedSimpArgs false
namespace Go.Proofs
set_option linter.defProp false
open Go Go.VL
def CE (p:Int×az):Bool:=(decide (0<=p.1)&&decide (p.1<=24))&&p.2.ok p.1
def uH (l:List (Int×az)):Prop:=∀ j,j<l.length->CE (l.getD j (0,bE))=true
noncomputable instance (l:List (Int×az)):Decidable (uH l):=Classical.propDecidable _
def Jv (l:List az) (fs:List (Int×az)):List az:=fs.foldl (fun l f=>l.set f.1.toNat f.2) l
def rN (c:bu) (fs:List (Int×az)) (ps:List (Int×Bool)):Prop:=c.ok/\xV ps/\uH fs
noncomputable instance (c:bu) (fs:List (Int×az)) (ps:List (Int×Bool)):Decidable (rN c fs ps):=Classical.propDecidable _
end Go.Proofs

set_option maxRecDepth 20000
set_option linter.unusedVariables false
set_option linter.unusedSimpArgs false
namespace Go.Proofs
set_option linter.defProp false
open Go Go.VL
def A3 {α : Type}{f : α->D}{k n:Nat}{l:List α}{x c:D}{off:Nat}(h:l.length=n):cY k (l.map f ++ [x]) n off c=l.map f ++ [lU (decide (k=1)) k x off c]:=by subst h;exact K5
def k0:bu:=⟨[],[]⟩
def dH:az:=⟨0,[15,15,15],false,[0,0,0,0,0,0,0,0]⟩
def er (fs:List (Int×az)):List (Int×az):=fs.map fun f=>(f.1,dH)
def GE (t:List az) (p:List (Int×Bool)) (fs:List (Int×az)) (n:Nat):List bu:=(List.range n).map fun j=>⟨Jv t (fs.take (j+1)),p⟩
def steps (a:bu) (fs:List (Int×az)):List bu:=GE a.tiles a.pads (er fs) fs.length++GE (Jv a.tiles (er fs)) a.pads fs fs.length
def Tryz.mg:Pure prog 120 [] (iC dH):=by
 refine bw func120 rfl ntmps120 fun ok=>?_
 simp only[go_sem,seval] at ok
 repeat' first|assumption|simp (disch:=first|assumption|omega|simp;try omega) only[go_sem,seval,ag]|(with_reducible first|apply aa|intro)|(try rw[ae]);omega
 all_goals rfl
def Tryz.ju:Pure prog 142 [] (dK ⟨List.replicate 25 dH,List.replicate 3 (15,false)⟩):=by
 refine bw func142 rfl ntmps142 fun ok=>?_
 simp only[go_sem,seval] at ok
 repeat' first|assumption|simp (disch:=first|assumption|omega|simp;try omega) only[go_sem,seval,ag]|(with_reducible first|apply aa|intro)|(try rw[ae]);omega
 refine bt (E:=env 0) tok (σ:=Nat) (fun i=>[(0,.ptr 0 0),(1,.ptr 1 0),(2,.d (dI i))])
  (fun i=>[.box [.d .nil,.d .nil],.box [.sl 2 i 4 0 i,.d .nil],.row i 4 true ((List.replicate i dH).map fun x=>iC x)]) (fun i=>i<=25) (fun i=>25-i) [(1,0,4,true)] [] 1000 1000 ?_ ?_
 ·simp only[go_sem,seval];exact⟨0,by omega,by simp⟩
 ·intro i hi;by_cases hlt:i<25
  ·repeat' first|assumption|simp (disch:=first|assumption|omega|simp;try omega) only[go_sem,seval,ag]|(with_reducible first|apply aa|intro)|(try rw[ae]);omega
   refine bt (E:=env 0) tok (σ:=Nat) (fun n=>[(0,.ptr 0 0),(1,.ptr 1 0),(2,.d (dI i)),(3,.ptr 4 0),(4,.d (dI n))])
    (fun n=>[.box [.d .nil,.d .nil],.box [.sl 2 i 4 0 i,.d .nil],.row i 4 true ((List.replicate i dH).map fun x=>iC x),.row 0 1 true ((List.replicate 8 (0:Int)).map (D.int .i64)),.box [.d (dI 0),.sl 5 n 1 0 n,.d (dB false),.sl 3 0 1 0 8],.row n 1 true ((List.replicate n (15:Int)).map (D.int .i64))]) (fun n=>n<=3) (fun n=>3-n) [(4,1,1,true)] [] 1000 1000 ?_ ?_
   ·simp only[go_sem,seval];exact⟨0,by omega,by simp⟩
   ·intro n hn;by_cases hnt:n<3
    ·repeat' first|assumption|simp (disch:=first|assumption|omega|simp;try omega) only[go_sem,seval,ag]|(with_reducible first|apply aa|intro)|(try rw[ae]);omega
     exact⟨n+1,by omega,by omega,rfl,rfl,rfl,by rw[wU]⟩
    ·obtain rfl:n=3:=by omega
     repeat' first|assumption|simp (disch:=first|assumption|omega|simp;try omega) only[go_sem,seval,ag]|(with_reducible first|apply aa|intro)|(try rw[ae]);omega
     ·simp[H6]
     ·refine⟨i+1,by omega,by omega,rfl,rfl,rfl,?_⟩;rw[A3 (by simp),A3 (by simp),show List.replicate (i+1) dH=List.replicate i dH ++ [dH] from wU,iz];rfl
  ·obtain rfl:i=25:=by omega
   repeat' first|assumption|simp (disch:=first|assumption|omega|simp;try omega) only[go_sem,seval,ag]|(with_reducible first|apply aa|intro)|(try rw[ae]);omega
   refine bt (E:=env 0) tok (σ:=Nat) (fun n=>[(0,.ptr 0 0),(1,.ptr 1 0),(5,.d (dI n))])
    (fun n=>[.box [.d .nil,.d .nil],.box [.sl 2 25 4 0 25,.sl 3 n 2 0 n],.row 25 4 true ((List.replicate 25 dH).map fun x=>iC x),.row n 2 true ((List.replicate n ((15:Int),false)).map fun x=>dQ x)]) (fun n=>n<=3) (fun n=>3-n) [(1,1,2,true)] [] 1000 1000 ?_ ?_
   ·simp only[go_sem,seval];exact⟨0,by omega,by simp⟩
   ·intro n hn;by_cases hnt:n<3
    ·repeat' first|assumption|simp (disch:=first|assumption|omega|simp;try omega) only[go_sem,seval,ag]|(with_reducible first|apply aa|intro)|(try rw[ae]);omega
     refine⟨n+1,by omega,by omega,rfl,rfl,rfl,?_⟩;rw[wU,iz];rfl
    ·obtain rfl:n=3:=by omega
     repeat' first|assumption|simp (disch:=first|assumption|omega|simp;try omega) only[go_sem,seval,ag]|(with_reducible first|apply aa|intro)|(try rw[ae]);omega
end Go.Proofs
