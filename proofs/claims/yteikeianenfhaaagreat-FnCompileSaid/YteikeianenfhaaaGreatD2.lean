/- Contracts, plain definitions and lemmas. Conditions: none; lemmas. -/
import Derived.Test.YteikeianenfhaaaGreatC72
set_option maxRecDepth 20000
set_option linter.unusedVariables false
set_option linter.unusedSimpArgs false
set_option maxHeartbeats 2000000
set_option linter.defProp false
namespace Go.Proofs
open Go Go.VL Tryz
def Tryz.hM (c:ac) (hc:c.Valid):bk prog 40 [dC c] (cm (aw c)):=by
 have hmp:=pB c hc;have hcv:=aR c;have hln:=hc.ln;have hll:=DH hc;have hlg:=hc.lg;have hlk:=sB hc;have hi0:=hc.i0;have hi1:=hc.i1;refine bk.res ?_ (LU c);refine wD rfl 1000 func40 rfl rfl ntmps40 (by simp) fun ok=>?_
 simp only[go_sem,seval] at ok
 repeat' first|simp (disch:=first|assumption|omega|simp;try omega) only[go_sem,seval,ag,eC]|(with_reducible first|apply aa|intro)|(refine az hcv ?_)|(try rw[ae]);omega
 ·rename_i h9;exact absurd hc h9
 refine cD (σ:=Nat) (fun i=>[(0,.d (dC c)),(1,.ptr 0 0),(3,.sl 1 i 4 0 i),(13,.d (aj c.next)),(14,.d (dI c.next.length)),(15,.d (dI i))]) (fun i=>[.box [.d (dI c.inputs),.d (aj c.next),.d (aY c.gates),.d (aj c.outs)],.row i 4 true ((List.range i).map (eQ c))]) (fun i=>i<=c.next.length) (fun i=>c.next.length-i) [] [(3,4,true)] 1000 1000 ?_ ?_
 ·simp only[go_sem,seval];exact⟨0,by omega,by simp⟩
 ·intro i hi;have hrl:((List.range i).map (eQ c)).length=i:=by simp
  have hrs:(List.range (i+1)).map (eQ c)=(List.range i).map (eQ c) ++ [eQ c i]:=by rw[kO,gw];rfl
  by_cases hlt:i<c.next.length
  ·have hno:=hc.n _ (aO hlt:c.next.getD i 0∈c.next);unfold bm at hno;have hld:eQ c i=if(c.next.getD i 0)/2 > 0 then gN (jB c i) else .agg [dI (c.inputs+1+(i:Int)),.nil,dI ((c.next.getD i 0)%2),dB true]:=rfl;have hlc:jB c i=if(c.next.getD i 0)/2 > 0 then⟨c.inputs+1+i,[(c.next.getD i 0)/2],2-(c.next.getD i 0)%2,true⟩ else⟨c.inputs+1+i,[],(c.next.getD i 0)%2,true⟩:=rfl;generalize (List.range i).map (eQ c)=q at *
   generalize hl9:c.next.getD i 0=l at *
   have hr:=aC (y:=2) hno.1;have e2:((l.toNat &&& 1:Nat):Int)=l%2:=by rw[Nat.and_one_is_mod];omega
   have e3:1+c.inputs+(i:Int)=c.inputs+1+(i:Int):=by omega
   simp only[go_sem,seval,hl9,e2]
   repeat' first|simp (disch:=first|assumption|omega|simp;try omega) only[go_sem,seval,hr,hrl,hl9,e2,ag,eC]|(with_reducible first|apply aa|intro)|(try rw[ae]);omega
   ·rename_i h9;refine⟨i+1,by omega,by omega,rfl,rfl,?_⟩;rw[hrs,hld,if_pos (by omega),hlc,if_pos (by omega),e3];rfl
   ·rename_i h9;refine⟨i+1,by omega,by omega,rfl,rfl,?_⟩;rw[hrs,hld,if_neg (by omega),e3]
  ·obtain rfl:i=c.next.length:=by omega
   repeat' first|simp (disch:=first|assumption|omega|simp;try omega) only[go_sem,seval,ag,eC]|(with_reducible first|apply aa|intro)|(refine kN hmp ?_)|(try rw[ae]);omega
   generalize (List.range c.next.length).map (eQ c)=q at *
   have hlv : ∀ l∈jE c,l.leaves.length<=3:=fun l hl=>by
    obtain⟨m,hm,rfl⟩:=hlk.each l hl;exact(ri hc hm).2.1
   generalize jE c=luts at *
   refine RS 1 rfl rfl ?_;simp only[go_sem,seval];refine cD (σ:=Nat) (fun i=>[(3,.sl 1 (c.next.length+i) 4 0 (c.next.length+i)),(44,.d (qf luts)),(45,.d (dI luts.length)),(46,.d (dI i))]) (fun i=>[.dead 0,.row (c.next.length+i) 4 false (q++(luts.take i).map fun l=>gN (g9 l))]) (fun i=>i<=luts.length) (fun i=>luts.length-i) [] [] 1000 1000 ?_ ?_
   ·simp only[go_sem,seval];exact⟨0,by omega,by simp⟩
   ·intro i hi;by_cases hlt:i<luts.length
    ·have hlv2:=hlv _ (aO hlt:luts.getD i kI∈luts);have hts:(luts.take (i+1)).map (fun l=>gN (g9 l))=(luts.take i).map (fun l=>gN (g9 l)) ++ [gN (g9 (luts.getD i kI))]:=nm kI hlt;have hql:(q++(luts.take i).map fun l=>gN (g9 l)).length=c.next.length+i:=by simp[hrl];omega
     have hqa:q++(luts.take (i+1)).map (fun l=>gN (g9 l))=(q++(luts.take i).map fun l=>gN (g9 l)) ++ [gN (g9 (luts.getD i kI))]:=by rw[hts,fA]
     generalize hd9:luts.getD i kI=x at *
     generalize (q++(luts.take i).map fun l=>gN (g9 l))=q2 at *
     repeat' first|simp (disch:=first|assumption|omega|simp;try omega) only[go_sem,seval,hd9,hql,ag,eC]|(with_reducible first|apply aa|intro)|(try rw[ae]);omega
     refine⟨i+1,by omega,by omega,⟨by omega,rfl⟩,by omega,?_⟩;rw[hqa];rfl
    ·repeat' first|simp (disch:=first|assumption|omega|simp;try omega) only[go_sem,seval,ag,eC]|(with_reducible first|apply aa|intro)|(try rw[ae]);omega
def Tryz.qR (l:ZA) (x:Int) (hl:l.length<=1000):ep prog 223 [aj l,dI x] (fun y=>∃ n:Int,y=dI n/\(0<=n↔x∈l)):=by
 refine CX (E:=env 0) tok rfl 1000 func223 rfl rfl ntmps223 (by simp) fun ok=>?_
 simp only[go_sem,seval] at ok
 repeat' first|simp (disch:=first|assumption|omega|simp;try omega) only[go_sem,seval,ag,eC]|(with_reducible first|apply aa|intro)|(try rw[ae]);omega
 refine cQ (σ:=Nat) (fun i=>[(8,.d (dI i)),(7,.d (dI l.length)),(6,.d (aj l)),(0,.d (aj l)),(1,.d (dI x))]) (fun _=>[])
  (fun i=>i<=l.length/\x∉l.take i) (fun i=>l.length-i) [] 1000 1000 ?_ ?_ ?_
 ·simp only[go_sem,seval]
 ·simp only[go_sem,seval];exact⟨0,⟨by omega,by simp⟩,rfl⟩
 ·rintro i ⟨hi,hinv⟩;by_cases hlt:i<l.length
  ·have hts:l.take (i+1)=l.take i ++ [l.getD i 0]:=by simpa using nm (f:=fun x:Int=>x) 0 hlt
   have hmm:=aO hlt (z:=(0:Int));generalize hz9:l.getD i 0=z at *
   repeat' first|simp (disch:=first|assumption|omega|simp;try omega) only[go_sem,seval,hz9,ag,eC]|(with_reducible first|apply aa|intro)|(try rw[ae]);omega
   ·rename_i h1;exact⟨_,rfl,_,rfl,by rw[h1];exact⟨fun _=>hmm,fun _=>by omega⟩⟩
   ·rename_i h1;refine⟨i+1,⟨by omega,?_⟩,by omega,rfl⟩;rw[hts,gM,m5];rintro(h2|h2)
    ·exact hinv h2
    ·exact h1 h2
  ·obtain rfl:i=l.length:=by omega
   rw[ig] at hinv
   repeat' first|simp (disch:=first|assumption|omega|simp;try omega) only[go_sem,seval,ag,eC]|(with_reducible first|apply aa|intro)|(try rw[ae]);omega
   exact⟨_,rfl,_,rfl,⟨fun h=>absurd h (by decide),fun h=>absurd h hinv⟩⟩
def Tryz.ms (l:ZA) (x:Int) (hl:l.length<=1000):Pure prog 210 [aj l,dI x] (.bool (decide (x∈l))):=by
 refine bz func210 rfl ntmps210 fun ok=>?_
 simp only[go_sem,seval] at ok⊢;refine Ca (qR l x hl) ?_;rintro y ⟨n,rfl,hn⟩
 repeat' first|simp (disch:=first|assumption|omega|simp;try omega) only[go_sem,seval,ag,eC]|(with_reducible first|apply aa|intro)|(try rw[ae]);omega
 exact decide_eq_decide.2 hn
end Go.Proofs

namespace Go.VL
variable {t n x q:Int}{i j:Nat}{l T:ZA}{busy:ZB}{ab:List (Int×Int)}
def dO (t:Int):ZA:=(if 5<=t then [t-5] else [])++(if 0<t%5 then [t-1] else [])++(if t%5<4 then [t+1] else [])++(if t<20 then [t+5] else [])
def yW (h:0<=t/\t<=24) : ∀ n∈dO t,(0<=n/\n<=24)/\n≠t:=by
 intro n hn;unfold dO at hn;simp only[gM] at hn;rcases hn with((h1|h1)|h1)|h1 <;> split at h1 <;> simp at h1 <;> omega
abbrev BS:=ZA×ZA
variable {s:BS}
def iz (busy:ZB) (q:Int) (s:BS) (n:Int):BS:=if s.1.getD n.toNat 0 = -2/\busy.getD n.toNat false=false then(s.1.set n.toNat q,s.2 ++ [n]) else s
def dq (busy:ZB) (s:BS) (q:Int):BS:=(dO q).foldl (iz busy q) s
def j9 (busy:ZB) (sink:Int):Nat->Nat->BS->BS
 | 0,_,s=>s
 | f+1,k,s=>if k<s.2.length/\s.1.getD sink.toNat 0 = -2 then j9 busy sink f (k+1) (dq busy s (s.2.getD k 0)) else s
def nL (ab:List (Int×Int)):ZA:=ab.foldl (fun f h=>f.set h.1.toNat (-1)) (List.replicate 25 (-2))
def a9 (ab:List (Int×Int)):ZA:=ab.map (·.1)
def jx (ab:List (Int×Int)) (sink:Int) (busy:ZB):BS:=j9 busy sink 26 0 (nL ab,a9 ab)
def i8 (fr:ZA):Nat->Int->List (Int×Int)->List (Int×Int)
 | 0,_,acc=>acc
 | f+1,t,acc=>if 0<=fr.getD t.toNat 0 then i8 fr f (fr.getD t.toNat 0) ((t,fr.getD t.toNat 0)::acc) else acc
def eI (busy:ZB) (ab:List (Int×Int)) (sink:Int):Option (List (Int×Int)):=
 if sink∈a9 ab then some ab
 else if(jx ab sink busy).1.getD sink.toNat 0 = -2 then none else some (ab++i8 (jx ab sink busy).1 25 sink [])
def ly (busy:ZB) (pins:ZA):Option (List (Int×Int)):=
 if busy.getD (pins.getD 0 0).toNat false=true then none else(pins.drop 1).foldl (fun o t=>o.bind fun ab=>eI busy ab t) (some [(pins.getD 0 0,-1)])
def cJ (pins:ZA) (busy:List ZB):Nat->Nat->Option (Nat×List (Int×Int))
 | 0,_=>none
 | f+1,t=>match ly (busy.getD t []) pins with
  | some h=>some (t,h)
  | none=>cJ pins busy f (t+1)
structure Rt where
 net:Int
 track:Int
 ab:List (Int×Int)
def fC:Rt:=⟨0,0,[]⟩
def oY (b:ZB) (ab:List (Int×Int)):ZB:=ab.foldl (fun b h=>b.set h.1.toNat true) b
def bG (busy:List ZB) (t:Nat) (ab:List (Int×Int)):List ZB:=busy.set t (oY (busy.getD t []) ab)
def lY (c:ac) (cells:List bW) (place:ZA) (busy0:List ZB):Nat->Option (List ZB×List Rt)
 | 0=>some (busy0,[])
 | k+1=>
  match lY c cells place busy0 k with
  | none=>none
  | some (busy,out)=>
   if jG c cells place ((k:Int)+1)=[] then some (busy,out)
   else match cJ (jG c cells place ((k:Int)+1)) busy 8 0 with
    | none=>none
    | some (t,h)=>some (bG busy t h,out ++ [⟨(k:Int)+1,(t:Int),h⟩])
def j5:List ZB:=List.replicate 8 (List.replicate 25 false)
def lp (c:ac) (cells:List bW) (place:ZA) (busy0:List ZB):Option (List Rt):=(lY c cells place busy0 (c.vars.toNat-1)).map (·.2)
structure ci (busy:ZB) (T:ZA) (s:BS):Prop where
 len:s.1.length=25
 rng : ∀ t∈s.2,0<=t/\t<=24
 nd:s.2.Nodup
 seen : ∀ t:Int,0<=t->t<=24->(s.1.getD t.toNat 0≠-2↔t∈s.2)
 pre : ∃ r,s.2=T++r
 root : ∀ j,j<s.2.length->(s.1.getD (s.2.getD j 0).toNat 0 = -1/\s.2.getD j 0∈T)∨
  (0<=s.1.getD (s.2.getD j 0).toNat 0/\s.2.getD j 0∉T/\busy.getD (s.2.getD j 0).toNat false=false/\∃ m,m<j/\s.2.getD m 0=s.1.getD (s.2.getD j 0).toNat 0/\s.2.getD j 0∈dO (s.1.getD (s.2.getD j 0).toNat 0))
def LN {α : Type}{n:Nat}{x z : α}(h:i<n):(List.replicate n x).getD i z=x:=by
 rw[List.getD_eq_getElem?_getD,List.getElem?_replicate,if_pos h];rfl
def EC (h:j<(l ++ [x]).length):(l ++ [x]).getD j 0=if j<l.length then l.getD j 0 else x:=by
 split
 ·exact cW (by assumption)
 ·rename_i h1;have:j=l.length:=by simp at h;omega
  subst this;simp[List.getD]
def sL (h:i<l.length):(l.set i x).getD j 0=if i=j then x else l.getD j 0:=by
 split
 ·rename_i e;subst e;simp[List.getD,h]
 ·rename_i e;simp[List.getD,List.getElem?_set,e]
def ci.step (h:ci busy T s) (hq:q∈s.2) (hn:n∈dO q):ci busy T (iz busy q s n):=by
 have hq2:=h.rng q hq;have hn2:=yW hq2 n hn;unfold iz;split
 ·rename_i hc;have hl:=h.len;have hnq:n∉s.2:=fun h1=>(h.seen n (by omega) (by omega)).2 h1 hc.1
  obtain⟨r,hr⟩:=h.pre;have hnT:n∉T:=fun h1=>hnq (by rw[hr];exact np _ h1)
  have hget : ∀ t:Int,0<=t->t<=24->(s.1.set n.toNat q).getD t.toNat 0=if t=n then q else s.1.getD t.toNat 0:=by
   intro t h1 h2;rw[sL (by omega)];by_cases e:t=n
   ·subst e;simp
   ·rw[if_neg (by omega),if_neg e]
  refine⟨by simp[hl],fun t ht=>?_,?_,fun t h1 h2=>?_,⟨r ++ [n],by simp[hr]⟩,fun j hj=>?_⟩
  ·rcases List.mem_append.1 ht with h1|h1
   ·exact h.rng t h1
   ·obtain rfl:t=n:=by simpa using h1
    exact hn2.1
  ·show(s.2 ++ [n]).Nodup
   rw[vF];exact⟨h.nd,by simp,fun a ha b hb=>by
    obtain rfl:b=n:=by simpa using hb
    rintro rfl;exact hnq ha⟩
  ·show(s.1.set n.toNat q).getD t.toNat 0≠-2↔t∈s.2 ++ [n]
   rw[hget t h1 h2];by_cases e:t=n
   ·subst e;simp only[if_true,gM,m5,or_true,iff_true];omega
   ·rw[if_neg e,h.seen t h1 h2];simp[e]
  ·simp only at hj ⊢;rw[EC hj];by_cases hjl:j<s.2.length
   ·rw[if_pos hjl];have hm:=h.rng _ (aO hjl:s.2.getD j 0∈s.2);rw[hget _ hm.1 hm.2];have hne:s.2.getD j 0≠n:=fun e=>hnq (by rw[<-e];exact aO hjl)
    rw[if_neg hne];rcases h.root j hjl with h1|⟨h1,h2,h3,m,h4,h5,h6⟩
    ·exact .inl h1
    ·exact .inr ⟨h1,h2,h3,m,h4,by rw[EC (by simp;omega),if_pos (by omega)];exact h5,h6⟩
   ·rw[if_neg hjl];have hj2:j=s.2.length:=by simp at hj;omega
    obtain⟨m,hm,he⟩:=gm 0 hq;rw[hget n hn2.1.1 hn2.1.2,if_pos rfl];exact .inr ⟨hq2.1,hnT,hc.2,m,by omega,by rw[EC (by simp;omega),if_pos hm];exact he,hn⟩
 ·exact h
def E9  : ∃ r,(iz busy q s n).2=s.2++r:=by
 unfold iz;split
 ·exact⟨[n],rfl⟩
 ·exact⟨[],by simp⟩
def ci.steps {busy:ZB}{T:ZA}{q:Int} : ∀ (l:ZA) {s:BS},ci busy T s->q∈s.2->(∀ n∈l,n∈dO q)->ci busy T (l.foldl (iz busy q) s)
 | [],s,h,_,_=>h
 | n::l,s,h,hq,hl=>by
  obtain⟨r,hr⟩:=E9 (busy:=busy) (q:=q) (n:=n) (s:=s);exact ci.steps l (h.step hq (hl n (by simp))) (by rw[hr];exact np _ hq) fun m hm=>hl m (by simp[hm])
def ci.visit (h:ci busy T s) (hq:q∈s.2):ci busy T (dq busy s q):=h.steps _ hq fun _ hn=>hn
def ci.LZ {busy:ZB}{T:ZA}{sink:Int} : ∀ (f k:Nat) {s:BS},ci busy T s->ci busy T (j9 busy sink f k s)
 | 0,k,s,h=>h
 | f+1,k,s,h=>by
  rw[j9];split
  ·rename_i hc;exact ci.LZ f (k+1) (h.visit (aO hc.1))
  ·exact h
def ci.nC (h:ci busy T s):s.2.length<=25:=by
 have h1:(s.2.map Int.toNat).Nodup:=by
  rw[List.nodup_iff_pairwise_ne,List.pairwise_map];refine(List.pairwise_iff_getElem.2 fun i j hi hj hij=>?_);have a:=h.rng _ (List.getElem_mem hi);have b:=h.rng _ (List.getElem_mem hj);have hne:s.2[i]≠s.2[j]:=List.pairwise_iff_getElem.1 (List.nodup_iff_pairwise_ne.1 h.nd) i j hi hj hij;omega
 have h2:s.2.map Int.toNat ⊆ List.range 25:=by
  intro x hx;obtain⟨t,ht,rfl⟩:=List.mem_map.1 hx;have:=h.rng t ht;exact List.mem_range.2 (by omega)
 have:=h1.length_le_of_subset h2;simpa using this
structure bO (busy:ZB) (ab:List (Int×Int)):Prop where
 rng : ∀ h∈ab,0<=h.1/\h.1<=24
 nd:(a9 ab).Nodup
 free : ∀ h∈ab,busy.getD h.1.toNat false=false
 pos:0<ab.length
 root : ∀ j,j<ab.length->(j=0/\(ab.getD j (0,0)).2 = -1)∨(0<j/\∃ m,m<j/\(ab.getD m (0,0)).1=(ab.getD j (0,0)).2/\(ab.getD j (0,0)).1∈dO (ab.getD j (0,0)).2)
def Cz (hr : ∀ h∈ab,0<=h.1/\h.1<=24) (h0:0<=t) (h1:t<=24):(nL ab).getD t.toNat 0=if t∈a9 ab then -1 else -2:=by
 have key : ∀ (l:List (Int×Int)) (f:ZA),(∀ h∈l,0<=h.1/\h.1<=24)->f.length=25->(l.foldl (fun f h=>f.set h.1.toNat (-1)) f).getD t.toNat 0=if t∈a9 l then -1 else f.getD t.toNat 0:=by
  intro l;induction l with
  | nil=>intro f _ _;simp[a9]
  | cons x l ih=>
   intro f hl hf;have hx:=hl x (by simp);rw[e6,ih _ (fun h hh=>hl h (by simp[hh])) (by simp[hf]),sL (by omega)];have hm:t∈a9 (x::l)↔t=x.1∨t∈a9 l:=by simp[a9]
   by_cases e:t∈a9 l
   ·rw[if_pos e,if_pos (hm.2 (.inr e))]
   ·rw[if_neg e];by_cases e2:t=x.1
    ·rw[if_pos (by omega),if_pos (hm.2 (.inl e2))]
    ·rw[if_neg (by omega),if_neg (fun h=>by rcases hm.1 h with h|h <;> contradiction)]
 rw[nL,key ab _ hr (by simp)];rw[LN (by omega)]
def MA:(nL ab).length=25:=by
 have key : ∀ (l:List (Int×Int)) (f:ZA),(l.foldl (fun f h=>f.set h.1.toNat (-1)) f).length=f.length:=by
  intro l;induction l with
  | nil=>exact fun f=>rfl
  | cons x l ih=>intro f;rw[e6,ih,gh]
 rw[nL,key];simp
def zE (hr : ∀ h∈ab,0<=h.1/\h.1<=24) (hn:(a9 ab).Nodup):ci busy (a9 ab) (nL ab,a9 ab):=by
 have hrt : ∀ t∈a9 ab,0<=t/\t<=24:=fun t ht=>by
  obtain⟨h,hh,rfl⟩:=List.mem_map.1 ht;exact hr h hh
 refine⟨MA,hrt,hn,fun t h0 h1=>?_,⟨[],by simp⟩,fun j hj=>?_⟩
 ·rw[Cz hr h0 h1];split <;> simp_all
 ·have hm:(a9 ab).getD j 0∈a9 ab:=aO hj;have:=hrt _ hm;exact .inl ⟨by rw[Cz hr this.1 this.2,if_pos hm],hm⟩
def H9 (h:bO busy ab) (sink:Int):ci busy (a9 ab) (jx ab sink busy):=(zE h.rng h.nd).LZ 26 0
def E6 {fr:ZA} : ∀ (f:Nat) (t:Int) (acc:List (Int×Int)),i8 fr f t acc=i8 fr f t []++acc
 | 0,t,acc=>by simp[i8]
 | f+1,t,acc=>by
  simp only[i8];split
  ·rw[E6 f _ ((t,_)::acc),E6 f _ [(t,_)]];simp
  ·simp
structure uw (busy:ZB) (T:ZA) (s:BS) (t:Int) (p:Nat) (L:List (Int×Int)):Prop where
 each : ∀ h∈L,(0<=h.1/\h.1<=24)/\busy.getD h.1.toNat false=false/\h.1∉T/\h.1∈dO h.2/\∃ m,m<=p/\s.2.getD m 0=h.1
 nd:(a9 L).Nodup
 link : ∀ j,j<L.length->(j=0/\(L.getD j (0,0)).2∈T)∨(0<j/\(L.getD j (0,0)).2=(L.getD (j-1) (0,0)).1)
 last:(t∈T/\L=[])∨(t∉T/\∃ r x,L=r ++ [(t,x)])
def JF {busy:ZB}{T:ZA}{s:BS}(h:ci busy T s) : ∀ (f p:Nat),p<f->p<s.2.length->uw busy T s (s.2.getD p 0) p (i8 s.1 f (s.2.getD p 0) [])
 | 0,p,hp,_=>by omega
 | f+1,p,hp,hl=>by
  have hpm:s.2.getD p 0∈s.2:=aO hl;have hpr:=h.rng _ hpm;simp only[i8];rcases h.root p hl with⟨h1,h2⟩|⟨h1,h2,h3,m,h4,h5,h6⟩
  ·rw[if_neg (by omega)];exact⟨by simp,by simp[a9],by simp,.inl ⟨h2,rfl⟩⟩
  ·rw[if_pos h1,E6,<-h5];have ih:=JF h f m (by omega) (by omega);generalize i8 s.1 f (s.2.getD m 0) []=L at *
   have hndq:=z8.1 h.nd;refine⟨fun x hx=>?_,?_,fun j hj=>?_,.inr ⟨h2,L,_,rfl⟩⟩
   ·rcases List.mem_append.1 hx with hx|hx
    ·obtain⟨a1,a2,a3,a4,k,a5,a6⟩:=ih.each x hx;exact⟨a1,a2,a3,a4,k,by omega,a6⟩
    ·obtain rfl:x=(s.2.getD p 0,s.2.getD m 0):=by simpa using hx
     exact⟨hpr,h3,h2,by simp only;rw[h5];exact h6,p,by omega,rfl⟩
   ·have e:a9 (L ++ [(s.2.getD p 0,s.2.getD m 0)])=a9 L ++ [s.2.getD p 0]:=by simp[a9]
    rw[e,vF];refine⟨ih.nd,by simp,fun a ha b hb=>?_⟩;obtain rfl:b=s.2.getD p 0:=by simpa using hb
    rintro rfl;obtain⟨x,hx,hxe⟩:=List.mem_map.1 ha;obtain⟨-,-,-,-,k,a5,a6⟩:=ih.each x hx;have:=hndq k p (by omega) hl (by rw[a6,hxe]);omega
   ·have hjl:j<=L.length:=by simp at hj;omega
    by_cases hjL:j<L.length
    ·have e1:(L ++ [(s.2.getD p 0,s.2.getD m 0)]).getD j (0,0)=L.getD j (0,0):=cW hjL;have e2:(L ++ [(s.2.getD p 0,s.2.getD m 0)]).getD (j-1) (0,0)=L.getD (j-1) (0,0):=cW (by omega);rw[e1,e2];exact ih.link j hjL
    ·obtain rfl:j=L.length:=by omega
     have e1:(L ++ [(s.2.getD p 0,s.2.getD m 0)]).getD L.length (0,0)=(s.2.getD p 0,s.2.getD m 0):=by simp[List.getD]
     rw[e1];rcases ih.last with⟨b1,b2⟩|⟨b1,r,x,b2⟩
     ·exact .inl ⟨by rw[b2];rfl,b1⟩
     ·right;have hpos:0<L.length:=by rw[b2];simp
      have e2:(L ++ [(s.2.getD p 0,s.2.getD m 0)]).getD (L.length-1) (0,0)=(s.2.getD m 0,x):=by
       rw[cW (by omega),b2];simp[List.getD]
      rw[e2];exact⟨hpos,rfl⟩
def sG (h:bO busy ab):ab.length<=25:=by
 have:=(zE (busy:=busy) h.rng h.nd).nC;simpa [a9] using this
def Dx {busy:ZB}{ab:List (Int×Int)}(h:bO busy ab) {sink:Int}(hs:0<=sink/\sink<=24) {hops':List (Int×Int)}(he:eI busy ab sink=some hops') :
  bO busy hops'/\sink∈a9 hops'/\∃ r,hops'=ab++r:=by
 unfold eI at he;split at he
 ·rename_i h1;cases he;exact⟨h,h1,[],by simp⟩
 ·rename_i h1;split at he
  ·cases he
  ·rename_i h2;cases he;have hb:=H9 h sink;generalize jx ab sink busy=s at *
   have hm:=(hb.seen sink hs.1 hs.2).1 h2;obtain⟨p,hp,hpe⟩:=gm 0 hm;have hql:=hb.nC;have hc:=JF hb 25 p (by omega) hp;rw[hpe] at hc;generalize i8 s.1 25 sink []=L at *
   have hlast : ∃ r x,L=r ++ [(sink,x)]:=by
    rcases hc.last with⟨b1,b2⟩|⟨b1,b2⟩
    ·exact absurd b1 h1
    ·exact b2
   have hin:sink∈a9 (ab++L):=by
    obtain⟨r,x,e⟩:=hlast;rw[e];simp[a9]
   refine⟨⟨fun x hx=>?_,?_,fun x hx=>?_,by have:=h.pos;simp;omega,fun j hj=>?_⟩,hin,L,rfl⟩
   ·rcases List.mem_append.1 hx with h3|h3
    ·exact h.rng x h3
    ·exact(hc.each x h3).1
   ·have e:a9 (ab++L)=a9 ab++a9 L:=by simp[a9]
    rw[e,vF];refine⟨h.nd,hc.nd,fun a ha b hb2=>?_⟩;rintro rfl;obtain⟨x,hx,rfl⟩:=List.mem_map.1 hb2;exact(hc.each x hx).2.2.1 ha
   ·rcases List.mem_append.1 hx with h3|h3
    ·exact h.free x h3
    ·exact(hc.each x h3).2.1
   ·by_cases hjl:j<ab.length
    ·rw[cW hjl];rcases h.root j hjl with h3|⟨h3,m,h4,h5,h6⟩
     ·exact .inl h3
     ·exact .inr ⟨h3,m,h4,by rw[cW (by omega)];exact h5,h6⟩
    ·right;have hj2:j-ab.length<L.length:=by simp at hj;omega
     have e1:(ab++L).getD j (0,0)=L.getD (j-ab.length) (0,0):=by
      simp[List.getD,List.getElem?_append_right (by omega:ab.length<=j)]
     have hmem:L.getD (j-ab.length) (0,0)∈L:=aO hj2;have hnb:=(hc.each _ hmem).2.2.2.1;refine⟨by have:=h.pos;omega,?_⟩;rw[e1];rcases hc.link _ hj2 with⟨b1,b2⟩|⟨b1,b2⟩
     ·obtain⟨x,hx,hxe⟩:=List.mem_map.1 b2;obtain⟨m,hm2,hme⟩:=gm (0,0) hx;exact⟨m,by omega,by rw[cW hm2,hme];exact hxe,hnb⟩
     ·refine⟨j-1,by omega,?_,hnb⟩;have e2:(ab++L).getD (j-1) (0,0)=L.getD (j-ab.length-1) (0,0):=by
       simp[List.getD,List.getElem?_append_right (by omega:ab.length<=j-1),show j-1-ab.length=j-ab.length-1 by omega]
      rw[e2,b2]
def Cu {pins:ZA}(hp : ∀ t∈pins,0<=t/\t<=24) (hne:pins≠[]) (h:ly busy pins=some ab) :
  bO busy ab/\(∀ t∈pins,t∈a9 ab)/\∃ r,ab=(pins.getD 0 0,-1)::r:=by
 unfold ly at h;split at h
 ·cases h
 ·rename_i hb;have h0m:pins.getD 0 0∈pins:=aO (List.length_pos_iff.2 hne);have h0:=hp _ h0m;have base:bO busy [(pins.getD 0 0,-1)]:=by
   refine⟨fun x hx=>?_,by simp[a9],fun x hx=>?_,by simp,fun j hj=>?_⟩
   ·obtain rfl:x=(pins.getD 0 0,-1):=by simpa using hx
    exact h0
   ·obtain rfl:x=(pins.getD 0 0,-1):=by simpa using hx
    simpa using hb
   ·obtain rfl:j=0:=by simpa using hj
    exact .inl ⟨rfl,rfl⟩
  have key : ∀ (l:ZA) (hs:List (Int×Int)),(∀ t∈l,0<=t/\t<=24)->bO busy hs->l.foldl (fun o t=>o.bind fun ab=>eI busy ab t) (some hs)=some ab->bO busy ab/\(∀ t∈l,t∈a9 ab)/\∃ r,ab=hs++r:=by
   intro l;induction l with
   | nil=>
    intro hs _ ht he;obtain rfl:hs=ab:=by simpa using he
    exact⟨ht,by simp,[],by simp⟩
   | cons t l ih=>
    intro hs hl ht he;rw[e6] at he;simp only[sZ] at he;cases hx:eI busy hs t with
    | none=>
     rw[hx] at he;have hnone : ∀ (l:ZA),l.foldl (fun o t=>o.bind fun ab=>eI busy ab t) (none:Option (List (Int×Int)))=none:=by
      intro l;induction l with
      | nil=>rfl
      | cons a l ih2=>exact ih2
     rw[hnone] at he;cases he
    | some h2=>
     rw[hx] at he;obtain⟨a1,a2,r1,a3⟩:=Dx ht (hl t (by simp)) hx;obtain⟨b1,b2,r2,b3⟩:=ih h2 (fun z hz=>hl z (by simp[hz])) a1 he;refine⟨b1,fun z hz=>?_,r1++r2,by rw[b3,a3,fA]⟩;rcases List.mem_cons.1 hz with rfl|h3
     ·rw[b3];simp only[a9,gw,gM];exact .inl a2
     ·exact b2 z h3
  obtain⟨a1,a2,r,a3⟩:=key _ _ (fun t ht=>hp t (o6 ht)) base h;refine⟨a1,fun t ht=>?_,r,a3⟩;obtain⟨j,hj,rfl⟩:=gm 0 ht;cases j with
  | zero=>rw[a3];simp[a9]
  | succ j=>
   refine a2 _ ?_;have e:(pins.drop 1).getD j 0=pins.getD (j+1) 0:=by simp[List.getD,Nat.add_comm]
   rw[<-e];exact aO (by simp;omega)
def Df {pins:ZA}{busy:List ZB} : ∀ (f t:Nat) {u:Nat}{h:List (Int×Int)},cJ pins busy f t=some (u,h)->t<=u/\u<t+f/\ly (busy.getD u []) pins=some h/\∀ v,t<=v->v<u->ly (busy.getD v []) pins=none
 | 0,t,u,h,e=>by simp[cJ] at e
 | f+1,t,u,h,e=>by
  simp only[cJ] at e;split at e
  ·rename_i h2 he;simp only[aE,aK] at e;obtain⟨rfl,rfl⟩:=e;exact⟨by omega,by omega,he,by omega⟩
  ·rename_i he;obtain⟨a,b,c,d⟩:=Df f (t+1) e;refine⟨by omega,by omega,c,fun v h1 h2=>?_⟩;by_cases hv:v=t
   ·subst hv;exact he
   ·exact d v (by omega) h2
end Go.VL

namespace Go.VL
variable {busy:List ZB}{t k:Nat}{ab:List (Int×Int)}{c:ac}{cells:List bW}{place:ZA}
structure dz (busy:List ZB):Prop where
 len:busy.length=8
 row : ∀ t,t<8->(busy.getD t []).length=25
def jZ:dz j5:=⟨by simp[j5],fun t ht=>by rw[j5,LN ht];simp⟩
def Io : ∀ (ab:List (Int×Int)) (b:ZB),(oY b ab).length=b.length
 | [],b=>rfl
 | h::hs,b=>by
  show(oY (b.set h.1.toNat true) hs).length=_
  rw[Io hs,gh]
def HD : ∀ (ab:List (Int×Int)) (b:ZB),b.length=25->(∀ h∈ab,0<=h.1/\h.1<=24)->∀ x:Int,0<=x->x<=24->(oY b ab).getD x.toNat false=(b.getD x.toNat false || decide (x∈a9 ab))
 | [],b,_,_,x,_,_=>by simp[oY,a9]
 | h::hs,b,hb,hr,x,h0,h1=>by
  have hh:=hr h (by simp);show(oY (b.set h.1.toNat true) hs).getD x.toNat false=_
  rw[HD hs _ (by simp[hb]) (fun z hz=>hr z (by simp[hz])) x h0 h1];have hm:x∈a9 (h::hs)↔x=h.1∨x∈a9 hs:=by simp[a9]
  by_cases e:x=h.1
  ·subst e;have e1:(b.set h.1.toNat true).getD h.1.toNat false=true:=by simp[List.getD,show h.1.toNat<b.length by omega]
   rw[e1,decide_eq_true (hm.2 (.inl rfl))];simp
  ·have e1:(b.set h.1.toNat true).getD x.toNat false=b.getD x.toNat false:=by
    simp[List.getD,List.getElem?_set,show ¬ h.1.toNat=x.toNat by omega]
   rw[e1];congr 1;exact decide_eq_decide.2 (by rw[hm];simp[e])
def Rj (hb:dz busy) (ht:t<8) (hr : ∀ h∈ab,0<=h.1/\h.1<=24) {u:Nat}(hu:u<8) {x:Int}(h0:0<=x) (h1:x<=24) :
  ((bG busy t ab).getD u []).getD x.toNat false=((busy.getD u []).getD x.toNat false || decide (u=t/\x∈a9 ab)):=by
 have hl:=hb.len;unfold bG;by_cases e:t=u
 ·subst e;have e1:(busy.set t (oY (busy.getD t []) ab)).getD t []=oY (busy.getD t []) ab:=by simp[List.getD,show t<busy.length by omega]
  rw[e1,HD ab _ (hb.row t ht) hr x h0 h1];simp
 ·have e1:(busy.set t (oY (busy.getD t []) ab)).getD u []=busy.getD u []:=by simp[List.getD,List.getElem?_set,e]
  rw[e1];simp[Ne.symm e]
def CE (hb:dz busy) (ht:t<8):dz (bG busy t ab):=by
 have hl:=hb.len;refine⟨by simp[bG,hl],fun u hu=>?_⟩;unfold bG;by_cases e:t=u
 ·subst e;have e1:(busy.set t (oY (busy.getD t []) ab)).getD t []=oY (busy.getD t []) ab:=by simp[List.getD,show t<busy.length by omega]
  rw[e1,Io];exact hb.row t ht
 ·have e1:(busy.set t (oY (busy.getD t []) ab)).getD u []=busy.getD u []:=by simp[List.getD,List.getElem?_set,e]
  rw[e1];exact hb.row u hu
structure rZ (c:ac) (cells:List bW) (place:ZA) (busy0:List ZB) (k:Nat) (r:Rt):Prop where
 net:1<=r.net/\r.net<=k
 track:0<=r.track/\r.track<8
 tree:bO (busy0.getD r.track.toNat []) r.ab
 pins : ∀ t∈jG c cells place r.net,t∈a9 r.ab
 src : ∃ q,r.ab=((jG c cells place r.net).getD 0 0,-1)::q
def EN (out:List Rt) (t:Nat) (x:Int):Prop:=∃ r∈out,r.track=(t:Int)/\x∈a9 r.ab
def Fw (a b:Rt):Prop:=a.track=b.track->∀ x∈a9 a.ab,x∉a9 b.ab
def pe (c:ac) (cells:List bW) (place:ZA) (k:Nat):ZA:=((List.range k).map fun(j:Nat)=>(j:Int)+1).filter fun n=>decide (jG c cells place n≠[])
def Ef:pe c cells place (k+1)=pe c cells place k++(if jG c cells place ((k:Int)+1)=[] then [] else [(k:Int)+1]):=by
 rw[pe,kO,gw,List.filter_append];congr 1;by_cases h:jG c cells place ((k:Int)+1)=[]
 ·simp[h]
 ·simp[h]
structure kb (c:ac) (cells:List bW) (place:ZA) (busy0:List ZB) (k:Nat) (busy:List ZB) (out:List Rt):Prop where
 bok:dz busy
 used : ∀ t,t<8->∀ x:Int,0<=x->x<=24->((busy.getD t []).getD x.toNat false=true↔(busy0.getD t []).getD x.toNat false=true∨EN out t x)
 each : ∀ r∈out,rZ c cells place busy0 k r
 apart:out.Pairwise Fw
 nets:out.map (·.net)=pe c cells place k
def DA {c:ac}{cells:List bW}{place:ZA}{busy0:List ZB}(hc:c.Valid) (hp:ay cells.length place) (hb0:dz busy0) : ∀ (k:Nat) {busy:List ZB}{out:List Rt},lY c cells place busy0 k=some (busy,out)->kb c cells place busy0 k busy out
 | 0,busy,out,h=>by
  simp only[lY,aE,aK] at h;obtain⟨rfl,rfl⟩:=h;exact⟨hb0,fun t ht x h0 h1=>by simp[EN],by simp,by simp,by simp[pe]⟩
 | k+1,busy,out,h=>by
  simp only[lY] at h;split at h
  ·cases h
  ·rename_i busy1 out1 h1;have ih:=DA hc hp hb0 k h1;have mL : ∀ {r:Rt},rZ c cells place busy0 k r->rZ c cells place busy0 (k+1) r:=fun {r} q=>⟨by have:=q.net;omega,q.track,q.tree,q.pins,q.src⟩
   split at h
   ·rename_i hpn;simp only[aE,aK] at h;obtain⟨rfl,rfl⟩:=h;exact⟨ih.bok,ih.used,fun r hr=>mL (ih.each r hr),ih.apart,by rw[Ef,if_pos hpn,jq];exact ih.nets⟩
   ·rename_i hpn;split at h
    ·cases h
    ·rename_i t hs h2;simp only[aE,aK] at h;obtain⟨rfl,rfl⟩:=h;obtain⟨-,ht8,ht,-⟩:=Df 8 0 h2;have ht8:t<8:=by omega
     obtain⟨b1,b2,b3⟩:=Cu (Ak hc hp) hpn ht;have hfree : ∀ h∈hs,(busy0.getD t []).getD h.1.toNat false=false/\¬ EN out1 t h.1:=fun h hh=>by
      have hr:=b1.rng h hh;have:=(not_congr (ih.used t ht8 h.1 hr.1 hr.2)).1 (by rw[b1.free h hh];simp);exact⟨by simpa using fun e=>this (.inl e),fun e=>this (.inr e)⟩
     refine⟨CE ih.bok ht8,fun u hu x h0 h1=>?_,fun r hr=>?_,?_,?_⟩
     ·rw[Rj ih.bok ht8 b1.rng hu h0 h1,nM,ih.used u hu x h0 h1,decide_eq_true_eq,or_assoc];refine or_congr_right ?_;constructor
      ·rintro(⟨r,hr,e1,e2⟩|⟨rfl,e2⟩)
       ·exact⟨r,np _ hr,e1,e2⟩
       ·exact⟨⟨(k:Int)+1,(u:Int),hs⟩,List.mem_append_right _ (by simp),rfl,e2⟩
      ·rintro⟨r,hr,e1,e2⟩;rcases List.mem_append.1 hr with h3|h3
       ·exact .inl ⟨r,h3,e1,e2⟩
       ·obtain rfl:r=⟨(k:Int)+1,(t:Int),hs⟩:=by simpa using h3
        exact .inr ⟨by simp only at e1;omega,e2⟩
     ·rcases List.mem_append.1 hr with h3|h3
      ·exact mL (ih.each r h3)
      ·obtain rfl:r=⟨(k:Int)+1,(t:Int),hs⟩:=by simpa using h3
       refine⟨by simp only;omega,by simp only;omega,?_,b2,b3⟩;have e:((t:Int)).toNat=t:=by omega
       simp only[e];exact⟨b1.rng,b1.nd,fun h hh=>(hfree h hh).1,b1.pos,b1.root⟩
     ·rw[List.pairwise_append];refine⟨ih.apart,by simp,fun a ha b hb e x hx hx2=>?_⟩;obtain rfl:b=⟨(k:Int)+1,(t:Int),hs⟩:=by simpa using hb
      obtain⟨h,hh,rfl⟩:=List.mem_map.1 hx2;exact(hfree h hh).2 ⟨a,ha,e,hx⟩
     ·rw[Ef,if_neg hpn,gw,ih.nets];rfl
def rZ.len {busy0:List ZB}{r:Rt}(h:rZ c cells place busy0 k r):r.ab.length<=25:=sG h.tree
end Go.VL

namespace Go.VL
variable {busy:ZB}{T:ZA}{s:BS}{q sink:Int}{ab:List (Int×Int)}{k:Nat}
def bn (busy:ZB) (s0:BS):Nat->BS
 | 0=>s0
 | k+1=>dq busy (bn busy s0 k) ((bn busy s0 k).2.getD k 0)
def da (s s':BS):Prop:=(∃ r,s'.2=s.2++r)/\∀ t:Int,0<=t->t<=24->s.1.getD t.toNat 0≠-2->s'.1.getD t.toNat 0=s.1.getD t.toNat 0
def da.rfl (s:BS):da s s:=⟨⟨[],by simp⟩,fun _ _ _ _=>Eq.refl _⟩
def da.trans {a b c:BS}(h:da a b) (g:da b c):da a c:=by
 obtain⟨⟨r,hr⟩,h2⟩:=h;obtain⟨⟨u,hu⟩,g2⟩:=g;refine⟨⟨r++u,by rw[hu,hr,fA]⟩,fun t h0 h1 ht=>?_⟩;have e:=h2 t h0 h1 ht;rw[g2 t h0 h1 (by rw[e];exact ht),e]
def Jf (h:ci busy T s) {n:Int}(hn:0<=n/\n<=24):da s (iz busy q s n):=by
 refine⟨E9,fun t h0 h1 ht=>?_⟩;unfold iz;split
 ·rename_i hc;have hl:=h.len;rw[sL (by omega),if_neg];intro e;have:t=n:=by omega
  subst this;exact ht hc.1
 ·rfl
def KP {busy:ZB}{T:ZA}{q:Int} : ∀ (l:ZA) {s:BS},ci busy T s->q∈s.2->(∀ n∈l,n∈dO q)->da s (l.foldl (iz busy q) s)
 | [],s,h,_,_=>da.rfl s
 | n::l,s,h,hq,hl=>by
  have hn:=yW (h.rng q hq) n (hl n (by simp));have m1:=Jf h (q:=q) hn.1;obtain⟨r,hr⟩:=m1.1;exact m1.trans (KP l (h.step hq (hl n (by simp))) (by rw[hr];exact np _ hq) fun m hm=>hl m (by simp[hm]))
def OS (h:ci busy T s) (hq:q∈s.2):da s (dq busy s q):=KP _ h hq fun _ hn=>hn
def xg {busy:ZB}{T:ZA}{s0:BS}(h:ci busy T s0) : ∀ k,(∀ j,j<k->j<(bn busy s0 j).2.length)->ci busy T (bn busy s0 k)
 | 0,_=>h
 | k+1,hj=>(xg h k fun j hjk=>hj j (by omega)).visit (aO (hj k (by omega)))
def z4 {busy:ZB}{T:ZA}{s0:BS}(h:ci busy T s0) {j:Nat} : ∀ k,j<=k->(∀ i,i<k->i<(bn busy s0 i).2.length)->da (bn busy s0 j) (bn busy s0 k)
 | 0,hk,_=>by
          obtain rfl:j=0:=by omega
          exact da.rfl _
 | k+1,hk,hi=>by
  by_cases e:j=k+1
  ·subst e;exact da.rfl _
  ·exact(z4 h k (by omega) fun i hik=>hi i (by omega)).trans (OS (xg h k fun i hik=>hi i (by omega)) (aO (hi k (by omega))))
def M5 {busy:ZB}{T:ZA}{s s':BS}(h:ci busy T s) (hm:da s s') : ∀ (f p:Nat) (acc:List (Int×Int)),p<s.2.length->i8 s'.1 f (s.2.getD p 0) acc=i8 s.1 f (s.2.getD p 0) acc
 | 0,p,acc,_=>rfl
 | f+1,p,acc,hp=>by
  have hpm:s.2.getD p 0∈s.2:=aO hp;have hr:=h.rng _ hpm;have e:=hm.2 _ hr.1 hr.2 ((h.seen _ hr.1 hr.2).2 hpm);simp only[i8,e];rcases h.root p hp with⟨h1,-⟩|⟨h1,-,-,m,h4,h5,-⟩
  ·rw[if_neg (by omega),if_neg (by omega)]
  ·rw[if_pos h1,if_pos h1,<-h5];exact M5 h hm f m _ (by omega)
def EU {busy:ZB}{T:ZA}{s0:BS}(h:ci busy T s0) {sink:Int} : ∀ (f k:Nat),f+k=26->(∀ j,j<k->j<(bn busy s0 j).2.length/\(bn busy s0 j).1.getD sink.toNat 0 = -2)->
  ∃ K,j9 busy sink f k (bn busy s0 k)=bn busy s0 K/\(∀ j,j<K->j<(bn busy s0 j).2.length/\(bn busy s0 j).1.getD sink.toNat 0 = -2)/\¬ (K<(bn busy s0 K).2.length/\(bn busy s0 K).1.getD sink.toNat 0 = -2)
 | 0,k,hk,hj=>by
  have h1:=(xg h k fun j hjk=>(hj j hjk).1).nC;exact⟨k,rfl,hj,fun hc=>by omega⟩
 | f+1,k,hk,hj=>by
  rw[j9];split
  ·rename_i hc;exact EU h f (k+1) (by omega) fun j hjk=>by
    by_cases e:j=k
    ·subst e;exact hc
    ·exact hj j (by omega)
  ·rename_i hc;exact⟨k,rfl,hj,hc⟩
def cv (ab:List (Int×Int)):BS:=(nL ab,a9 ab)
def ON (h:bO busy ab) (hs:0<=sink/\sink<=24) (hj : ∀ j,j<k->j<(bn busy (cv ab) j).2.length) (hk:k=(bn busy (cv ab) k).2.length) (hn:sink∉(bn busy (cv ab) k).2):eI busy ab sink=none:=by
 have hb:=zE (busy:=busy) h.rng h.nd;obtain⟨K,e,hK,hK2⟩:=EU hb (sink:=sink) 26 0 rfl (fun j hj=>by omega);have e2:jx ab sink busy=bn busy (cv ab) K:=e;have hnt:sink∉a9 ab:=fun hm=>by
  obtain⟨r,hr⟩:=(z4 hb (j:=0) k (by omega) hj).1;exact hn (show sink∈(bn busy (nL ab,a9 ab) k).2 by rw[hr];exact np _ hm)
 rw[eI,if_neg hnt,e2,if_pos];refine Decidable.byContradiction fun hf=>?_
 have hKi:=xg hb K fun j hjK=>(hK j hjK).1
 have hm:=(hKi.seen sink hs.1 hs.2).1 hf;by_cases hle:K<=k
 ·obtain⟨r,hr⟩:=(z4 hb (j:=K) k hle hj).1;exact hn (show sink∈(bn busy (nL ab,a9 ab) k).2 by rw[hr];exact np _ hm)
 ·have:=(hK k (by omega)).1;simp only[cv] at hk;omega
def N8 (h:bO busy ab) (hs:0<=sink/\sink<=24) (hj : ∀ j,j<k->j<(bn busy (cv ab) j).2.length) (hk:k<(bn busy (cv ab) k).2.length) (hn:(bn busy (cv ab) k).2.getD k 0=sink) :
  eI busy ab sink=some (ab++i8 (bn busy (cv ab) k).1 25 sink []):=by
 have hb:=zE (busy:=busy) h.rng h.nd;have hki:=xg hb k hj;by_cases ht:sink∈a9 ab
 ·rw[eI,if_pos ht];have hm:=z4 hb (j:=0) k (by omega) hj;have h0:(nL ab).getD sink.toNat 0 = -1:=by rw[Cz h.rng hs.1 hs.2,if_pos ht]
  have e:=hm.2 sink hs.1 hs.2 (by show(nL ab).getD sink.toNat 0≠-2;rw[h0];decide);have e1:(bn busy (cv ab) k).1.getD sink.toNat 0 = -1:=e.trans h0;have e2:i8 (bn busy (cv ab) k).1 25 sink []=[]:=by
   rw[show(25:Nat)=24+1 from rfl];simp only[i8];rw[if_neg (by omega)]
  rw[e2,jq]
 ·obtain⟨K,e,hK,hK2⟩:=EU hb (sink:=sink) 26 0 rfl (fun j hj=>by omega);have e2:jx ab sink busy=bn busy (cv ab) K:=e;rw[eI,if_neg ht,e2];have hsk:(bn busy (cv ab) k).1.getD sink.toNat 0≠-2:=(hki.seen sink hs.1 hs.2).2 (by rw[<-hn];exact aO hk);have hle:K<=k:=Decidable.byContradiction fun hgt=>hsk (hK k (by omega)).2
  have hKi:=xg hb K fun j hjK=>(hK j hjK).1
  have hm:=z4 hb (j:=K) k hle hj;have hf:(bn busy (cv ab) K).1.getD sink.toNat 0≠-2:=fun hf=>by
   have h1 : ¬ K<(bn busy (cv ab) K).2.length:=fun h1=>hK2 ⟨h1,hf⟩
   by_cases e3:K=k
   ·subst e3;exact h1 hk
   ·exact h1 (hj K (by omega))
  rw[if_neg hf];obtain⟨p,hp,hpe⟩:=gm 0 ((hKi.seen sink hs.1 hs.2).1 hf);have:=M5 hKi hm 25 p [] hp;rw[hpe] at this;exact congrArg (fun x=>some (ab++x)) this.symm
end Go.VL
