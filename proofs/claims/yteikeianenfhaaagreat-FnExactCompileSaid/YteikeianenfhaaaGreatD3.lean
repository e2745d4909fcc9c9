/- Contracts, plain definitions and lemmas. Conditions: none; lemmas. -/
import Derived.Test.YteikeianenfhaaaGreatC72
import Derived.Test.YteikeianenfhaaaGreatC71
set_option maxRecDepth 20000
set_option linter.unusedVariables false
set_option linter.unusedSimpArgs false
set_option maxHeartbeats 2000000
namespace Go.Proofs
set_option linter.defProp false
open Go Go.VL Tryz
def Tryz.gB (c:ac) (hc:c.Valid):bk prog 40 [dC c] (cd (ax c)):=by
 have hmp:=n8 c hc;have hcv:=a8 c;have hln:=hc.ln;have hll:=DT hc;have hlg:=hc.lg;have hlk:=ro hc;have hi0:=hc.i0;have hi1:=hc.i1;refine bk.res ?_ (Fy c);refine pu (E:=env 0) tok rfl 1000 func40 rfl rfl ntmps40 (by simp) fun ok=>?_
 simp only[go_sem,seval] at ok
 repeat' first|assumption|simp (disch:=first|assumption|omega|simp;try omega) only[go_sem,seval,ag,dt]|(with_reducible first|apply aa|intro)|(refine aA hcv ?_)|(try rw[ae]);omega
 ·rename_i h9;exact absurd hc h9
 refine bt (E:=env 0) tok (σ:=Nat) (fun i=>[(0,.d (dC c)),(1,.ptr 0 0),(3,.sl 1 i 4 0 i),(13,.d (ai c.next)),(14,.d (dI c.next.length)),(15,.d (dI i))]) (fun i=>[.box [.d (dI c.inputs),.d (ai c.next),.d (aO c.gates),.d (ai c.outs)],.row i 4 true ((List.range i).map (ee c))]) (fun i=>i<=c.next.length) (fun i=>c.next.length-i) [] [(3,4,true)] 1000 1000 ?_ ?_
 ·simp only[go_sem,seval];exact⟨0,by omega,by simp⟩
 ·intro i hi;have hrl:((List.range i).map (ee c)).length=i:=by simp
  have hrs:(List.range (i+1)).map (ee c)=(List.range i).map (ee c) ++ [ee c i]:=by rw[kK,iz];rfl
  by_cases hlt:i<c.next.length
  ·have hno:=hc.n _ (aP hlt:c.next.getD i 0∈c.next);unfold bj at hno;have hld:ee c i=if(c.next.getD i 0)/2 > 0 then fU (iU c i) else .agg [dI (c.inputs+1+(i:Int)),.nil,dI ((c.next.getD i 0)%2),dB true]:=rfl;have hlc:iU c i=if(c.next.getD i 0)/2 > 0 then⟨c.inputs+1+i,[(c.next.getD i 0)/2],2-(c.next.getD i 0)%2,true⟩ else⟨c.inputs+1+i,[],(c.next.getD i 0)%2,true⟩:=rfl;generalize (List.range i).map (ee c)=q at *
   generalize hl9:c.next.getD i 0=l at *
   have hr:=aB (y:=2) hno.1;have e2:((l.toNat &&& 1:Nat):Int)=l%2:=by rw[Nat.and_one_is_mod];omega
   have e3:1+c.inputs+(i:Int)=c.inputs+1+(i:Int):=by omega
   simp only[go_sem,seval,hl9,e2]
   repeat' first|assumption|simp (disch:=first|assumption|omega|simp;try omega) only[go_sem,seval,hr,hrl,hl9,e2,ag,dt]|(with_reducible first|apply aa|intro)|(try rw[ae]);omega
   ·rename_i h9;refine⟨i+1,by omega,by omega,rfl,rfl,?_⟩;rw[hrs,hld,if_pos (by omega),hlc,if_pos (by omega),e3];rfl
   ·rename_i h9;refine⟨i+1,by omega,by omega,rfl,rfl,?_⟩;rw[hrs,hld,if_neg (by omega),e3]
  ·obtain rfl:i=c.next.length:=by omega
   repeat' first|assumption|simp (disch:=first|assumption|omega|simp;try omega) only[go_sem,seval,ag,dt]|(with_reducible first|apply aa|intro)|(refine kA hmp ?_)|(try rw[ae]);omega
   generalize (List.range c.next.length).map (ee c)=q at *
   have hlv : ∀ l∈iQ c,l.leaves.length<=3:=fun l hl=>by
    obtain⟨m,hm,rfl⟩:=hlk.each l hl;exact(p6 hc hm).2.1
   generalize iQ c=luts at *
   refine NV 1 rfl rfl ?_;simp only[go_sem,seval];refine bt (E:=env 0) tok (σ:=Nat) (fun i=>[(3,.sl 1 (c.next.length+i) 4 0 (c.next.length+i)),(44,.d (oX luts)),(45,.d (dI luts.length)),(46,.d (dI i))]) (fun i=>[.dead 0,.row (c.next.length+i) 4 false (q++(luts.take i).map fun l=>fU (gD l))]) (fun i=>i<=luts.length) (fun i=>luts.length-i) [] [] 1000 1000 ?_ ?_
   ·simp only[go_sem,seval];exact⟨0,by omega,by simp⟩
   ·intro i hi;by_cases hlt:i<luts.length
    ·have hlv2:=hlv _ (aP hlt:luts.getD i jT∈luts);have hts:(luts.take (i+1)).map (fun l=>fU (gD l))=(luts.take i).map (fun l=>fU (gD l)) ++ [fU (gD (luts.getD i jT))]:=mz jT hlt;have hql:(q++(luts.take i).map fun l=>fU (gD l)).length=c.next.length+i:=by simp[hrl];omega
     have hqa:q++(luts.take (i+1)).map (fun l=>fU (gD l))=(q++(luts.take i).map fun l=>fU (gD l)) ++ [fU (gD (luts.getD i jT))]:=by rw[hts,fS]
     generalize hd9:luts.getD i jT=x at *
     generalize (q++(luts.take i).map fun l=>fU (gD l))=q2 at *
     repeat' first|assumption|simp (disch:=first|assumption|omega|simp;try omega) only[go_sem,seval,hd9,hql,ag,dt]|(with_reducible first|apply aa|intro)|(try rw[ae]);omega
     refine⟨i+1,by omega,by omega,⟨by omega,rfl⟩,by omega,?_⟩;rw[hqa];rfl
    ·repeat' first|assumption|simp (disch:=first|assumption|omega|simp;try omega) only[go_sem,seval,ag,dt]|(with_reducible first|apply aa|intro)|(try rw[ae]);omega
def Tryz.q8 (l:List Int) (x:Int) (hl:l.length<=1000):dM prog 223 [ai l,dI x] (fun y=>∃ n:Int,y=dI n/\(0<=n↔x∈l)):=by
 refine BB (E:=env 0) tok rfl 1000 func223 rfl rfl ntmps223 (by simp) fun ok=>?_
 simp only[go_sem,seval] at ok
 repeat' first|assumption|simp (disch:=first|assumption|omega|simp;try omega) only[go_sem,seval,ag,dt]|(with_reducible first|apply aa|intro)|(try rw[ae]);omega
 refine ce (E:=env 0) tok (σ:=Nat) (fun i=>[(8,.d (dI i)),(7,.d (dI l.length)),(6,.d (ai l)),(0,.d (ai l)),(1,.d (dI x))]) (fun _=>[])
  (fun i=>i<=l.length/\x∉l.take i) (fun i=>l.length-i) [] 1000 1000 ?_ ?_ ?_
 ·simp only[go_sem,seval]
 ·simp only[go_sem,seval];exact⟨0,⟨by omega,by simp⟩,rfl⟩
 ·rintro i ⟨hi,hinv⟩;by_cases hlt:i<l.length
  ·have hts:l.take (i+1)=l.take i ++ [l.getD i 0]:=by simpa using mz (f:=fun x:Int=>x) 0 hlt
   have hmm:=aP hlt (z:=(0:Int));generalize hz9:l.getD i 0=z at *
   repeat' first|assumption|simp (disch:=first|assumption|omega|simp;try omega) only[go_sem,seval,hz9,ag,dt]|(with_reducible first|apply aa|intro)|(try rw[ae]);omega
   ·rename_i h1;exact⟨_,rfl,_,rfl,by rw[h1];exact⟨fun _=>hmm,fun _=>by omega⟩⟩
   ·rename_i h1;refine⟨i+1,⟨by omega,?_⟩,by omega,rfl⟩;rw[hts,fV,mv];rintro(h2|h2)
    ·exact hinv h2
    ·exact h1 h2
  ·obtain rfl:i=l.length:=by omega
   rw[iA] at hinv
   repeat' first|assumption|simp (disch:=first|assumption|omega|simp;try omega) only[go_sem,seval,ag,dt]|(with_reducible first|apply aa|intro)|(try rw[ae]);omega
   exact⟨_,rfl,_,rfl,⟨fun h=>absurd h (by decide),fun h=>absurd h hinv⟩⟩
def Tryz.lA (l:List Int) (x:Int) (hl:l.length<=1000):Pure prog 210 [ai l,dI x] (.bool (decide (x∈l))):=by
 refine bw func210 rfl ntmps210 fun ok=>?_
 simp only[go_sem,seval] at ok⊢;refine Bj (q8 l x hl) ?_;rintro y ⟨n,rfl,hn⟩
 repeat' first|assumption|simp (disch:=first|assumption|omega|simp;try omega) only[go_sem,seval,ag,dt]|(with_reducible first|apply aa|intro)|(try rw[ae]);omega
 exact decide_eq_decide.2 hn
end Go.Proofs

set_option linter.unusedVariables false
set_option linter.unusedSimpArgs false
namespace Go.VL
set_option linter.defProp false
variable {t n x q:Int}{i j:Nat}{l T:List Int}{busy:List Bool}{ab:List (Int×Int)}
def dz (t:Int):List Int:=(if 5<=t then [t-5] else [])++(if 0<t%5 then [t-1] else [])++(if t%5<4 then [t+1] else [])++(if t<20 then [t+5] else [])
def xz (h:0<=t/\t<=24) : ∀ n∈dz t,(0<=n/\n<=24)/\n≠t:=by
 intro n hn;unfold dz at hn;simp only[fV] at hn;rcases hn with((h1|h1)|h1)|h1 <;> split at h1 <;> simp at h1 <;> omega
abbrev BS:=List Int×List Int
variable {s:BS}
def gL (busy:List Bool) (q:Int) (s:BS) (n:Int):BS:=if s.1.getD n.toNat 0 = -2/\busy.getD n.toNat false=false then(s.1.set n.toNat q,s.2 ++ [n]) else s
def dh (busy:List Bool) (s:BS) (q:Int):BS:=(dz q).foldl (gL busy q) s
def jr (busy:List Bool) (sink:Int):Nat->Nat->BS->BS
 | 0,_,s=>s
 | f+1,k,s=>if k<s.2.length/\s.1.getD sink.toNat 0 = -2 then jr busy sink f (k+1) (dh busy s (s.2.getD k 0)) else s
def m7 (ab:List (Int×Int)):List Int:=ab.foldl (fun f h=>f.set h.1.toNat (-1)) (List.replicate 25 (-2))
def a9 (ab:List (Int×Int)):List Int:=ab.map (·.1)
def iJ (ab:List (Int×Int)) (sink:Int) (busy:List Bool):BS:=jr busy sink 26 0 (m7 ab,a9 ab)
def ii (fr:List Int):Nat->Int->List (Int×Int)->List (Int×Int)
 | 0,_,acc=>acc
 | f+1,t,acc=>if 0<=fr.getD t.toNat 0 then ii fr f (fr.getD t.toNat 0) ((t,fr.getD t.toNat 0)::acc) else acc
def eo (busy:List Bool) (ab:List (Int×Int)) (sink:Int):Option (List (Int×Int)):=
 if sink∈a9 ab then some ab
 else if(iJ ab sink busy).1.getD sink.toNat 0 = -2 then none else some (ab++ii (iJ ab sink busy).1 25 sink [])
def kT (busy:List Bool) (pins:List Int):Option (List (Int×Int)):=
 if busy.getD (pins.getD 0 0).toNat false=true then none else(pins.drop 1).foldl (fun o t=>o.bind fun ab=>eo busy ab t) (some [(pins.getD 0 0,-1)])
def cC (pins:List Int) (busy:List (List Bool)):Nat->Nat->Option (Nat×List (Int×Int))
 | 0,_=>none
 | f+1,t=>match kT (busy.getD t []) pins with
  | some h=>some (t,h)
  | none=>cC pins busy f (t+1)
structure Rt where
 net:Int
 track:Int
 ab:List (Int×Int)
def eQ:Rt:=⟨0,0,[]⟩
def nY (b:List Bool) (ab:List (Int×Int)):List Bool:=ab.foldl (fun b h=>b.set h.1.toNat true) b
def bC (busy:List (List Bool)) (t:Nat) (ab:List (Int×Int)):List (List Bool):=busy.set t (nY (busy.getD t []) ab)
def kG (c:ac) (cells:List bR) (place:List Int) (busy0:List (List Bool)):Nat->Option (List (List Bool)×List Rt)
 | 0=>some (busy0,[])
 | k+1=>
  match kG c cells place busy0 k with
  | none=>none
  | some (busy,out)=>
   if i8 c cells place ((k:Int)+1)=[] then some (busy,out)
   else match cC (i8 c cells place ((k:Int)+1)) busy 8 0 with
    | none=>none
    | some (t,h)=>some (bC busy t h,out ++ [⟨(k:Int)+1,(t:Int),h⟩])
def jv:List (List Bool):=List.replicate 8 (List.replicate 25 false)
def kh (c:ac) (cells:List bR) (place:List Int) (busy0:List (List Bool)):Option (List Rt):=(kG c cells place busy0 (c.vars.toNat-1)).map (·.2)
structure cc (busy:List Bool) (T:List Int) (s:BS):Prop where
 len:s.1.length=25
 rng : ∀ t∈s.2,0<=t/\t<=24
 nd:s.2.Nodup
 seen : ∀ t:Int,0<=t->t<=24->(s.1.getD t.toNat 0≠-2↔t∈s.2)
 pre : ∃ r,s.2=T++r
 root : ∀ j,j<s.2.length->(s.1.getD (s.2.getD j 0).toNat 0 = -1/\s.2.getD j 0∈T)∨
  (0<=s.1.getD (s.2.getD j 0).toNat 0/\s.2.getD j 0∉T/\busy.getD (s.2.getD j 0).toNat false=false/\∃ m,m<j/\s.2.getD m 0=s.1.getD (s.2.getD j 0).toNat 0/\s.2.getD j 0∈dz (s.1.getD (s.2.getD j 0).toNat 0))
def KR {α : Type}{n:Nat}{x z : α}(h:i<n):(List.replicate n x).getD i z=x:=by
 rw[List.getD_eq_getElem?_getD,List.getElem?_replicate,if_pos h];rfl
def D9 (h:j<(l ++ [x]).length):(l ++ [x]).getD j 0=if j<l.length then l.getD j 0 else x:=by
 split
 ·exact cZ (by assumption)
 ·rename_i h1;have:j=l.length:=by simp at h;omega
  subst this;simp[List.getD]
def rg (h:i<l.length):(l.set i x).getD j 0=if i=j then x else l.getD j 0:=by
 split
 ·rename_i e;subst e;simp[List.getD,h]
 ·rename_i e;simp[List.getD,List.getElem?_set,e]
def cc.step (h:cc busy T s) (hq:q∈s.2) (hn:n∈dz q):cc busy T (gL busy q s n):=by
 have hq2:=h.rng q hq;have hn2:=xz hq2 n hn;unfold gL;split
 ·rename_i hc;have hl:=h.len;have hnq:n∉s.2:=fun h1=>(h.seen n (by omega) (by omega)).2 h1 hc.1
  obtain⟨r,hr⟩:=h.pre;have hnT:n∉T:=fun h1=>hnq (by rw[hr];exact nz _ h1)
  have hget : ∀ t:Int,0<=t->t<=24->(s.1.set n.toNat q).getD t.toNat 0=if t=n then q else s.1.getD t.toNat 0:=by
   intro t h1 h2;rw[rg (by omega)];by_cases e:t=n
   ·subst e;simp
   ·rw[if_neg (by omega),if_neg e]
  refine⟨by simp[hl],fun t ht=>?_,?_,fun t h1 h2=>?_,⟨r ++ [n],by simp[hr]⟩,fun j hj=>?_⟩
  ·rcases List.mem_append.1 ht with h1|h1
   ·exact h.rng t h1
   ·obtain rfl:t=n:=by simpa using h1
    exact hn2.1
  ·show(s.2 ++ [n]).Nodup
   rw[uf];exact⟨h.nd,by simp,fun a ha b hb=>by
    obtain rfl:b=n:=by simpa using hb
    rintro rfl;exact hnq ha⟩
  ·show(s.1.set n.toNat q).getD t.toNat 0≠-2↔t∈s.2 ++ [n]
   rw[hget t h1 h2];by_cases e:t=n
   ·subst e;simp only[if_true,fV,mv,or_true,iff_true];omega
   ·rw[if_neg e,h.seen t h1 h2];simp[e]
  ·simp only at hj ⊢;rw[D9 hj];by_cases hjl:j<s.2.length
   ·rw[if_pos hjl];have hm:=h.rng _ (aP hjl:s.2.getD j 0∈s.2);rw[hget _ hm.1 hm.2];have hne:s.2.getD j 0≠n:=fun e=>hnq (by rw[<-e];exact aP hjl)
    rw[if_neg hne];rcases h.root j hjl with h1|⟨h1,h2,h3,m,h4,h5,h6⟩
    ·exact .inl h1
    ·exact .inr ⟨h1,h2,h3,m,h4,by rw[D9 (by simp;omega),if_pos (by omega)];exact h5,h6⟩
   ·rw[if_neg hjl];have hj2:j=s.2.length:=by simp at hj;omega
    obtain⟨m,hm,he⟩:=fO 0 hq;rw[hget n hn2.1.1 hn2.1.2,if_pos rfl];exact .inr ⟨hq2.1,hnT,hc.2,m,by omega,by rw[D9 (by simp;omega),if_pos hm];exact he,hn⟩
 ·exact h
def DS  : ∃ r,(gL busy q s n).2=s.2++r:=by
 unfold gL;split
 ·exact⟨[n],rfl⟩
 ·exact⟨[],by simp⟩
def cc.steps {busy:List Bool}{T:List Int}{q:Int} : ∀ (l:List Int) {s:BS},cc busy T s->q∈s.2->(∀ n∈l,n∈dz q)->cc busy T (l.foldl (gL busy q) s)
 | [],s,h,_,_=>h
 | n::l,s,h,hq,hl=>by
  obtain⟨r,hr⟩:=DS (busy:=busy) (q:=q) (n:=n) (s:=s);exact cc.steps l (h.step hq (hl n (by simp))) (by rw[hr];exact nz _ hq) fun m hm=>hl m (by simp[hm])
def cc.visit (h:cc busy T s) (hq:q∈s.2):cc busy T (dh busy s q):=h.steps _ hq fun _ hn=>hn
def cc.EW {busy:List Bool}{T:List Int}{sink:Int} : ∀ (f k:Nat) {s:BS},cc busy T s->cc busy T (jr busy sink f k s)
 | 0,k,s,h=>h
 | f+1,k,s,h=>by
  rw[jr];split
  ·rename_i hc;exact cc.EW f (k+1) (h.visit (aP hc.1))
  ·exact h
def cc.mV (h:cc busy T s):s.2.length<=25:=by
 have h1:(s.2.map Int.toNat).Nodup:=by
  rw[List.nodup_iff_pairwise_ne,List.pairwise_map];refine(List.pairwise_iff_getElem.2 fun i j hi hj hij=>?_);have a:=h.rng _ (List.getElem_mem hi);have b:=h.rng _ (List.getElem_mem hj);have hne:s.2[i]≠s.2[j]:=List.pairwise_iff_getElem.1 (List.nodup_iff_pairwise_ne.1 h.nd) i j hi hj hij;omega
 have h2:s.2.map Int.toNat ⊆ List.range 25:=by
  intro x hx;obtain⟨t,ht,rfl⟩:=List.mem_map.1 hx;have:=h.rng t ht;exact List.mem_range.2 (by omega)
 have:=h1.length_le_of_subset h2;simpa using this
structure bL (busy:List Bool) (ab:List (Int×Int)):Prop where
 rng : ∀ h∈ab,0<=h.1/\h.1<=24
 nd:(a9 ab).Nodup
 free : ∀ h∈ab,busy.getD h.1.toNat false=false
 pos:0<ab.length
 root : ∀ j,j<ab.length->(j=0/\(ab.getD j (0,0)).2 = -1)∨(0<j/\∃ m,m<j/\(ab.getD m (0,0)).1=(ab.getD j (0,0)).2/\(ab.getD j (0,0)).1∈dz (ab.getD j (0,0)).2)
def Bo (hr : ∀ h∈ab,0<=h.1/\h.1<=24) (h0:0<=t) (h1:t<=24):(m7 ab).getD t.toNat 0=if t∈a9 ab then -1 else -2:=by
 have key : ∀ (l:List (Int×Int)) (f:List Int),(∀ h∈l,0<=h.1/\h.1<=24)->f.length=25->(l.foldl (fun f h=>f.set h.1.toNat (-1)) f).getD t.toNat 0=if t∈a9 l then -1 else f.getD t.toNat 0:=by
  intro l;induction l with
  | nil=>intro f _ _;simp[a9]
  | cons x l ih=>
   intro f hl hf;have hx:=hl x (by simp);rw[eO,ih _ (fun h hh=>hl h (by simp[hh])) (by simp[hf]),rg (by omega)];have hm:t∈a9 (x::l)↔t=x.1∨t∈a9 l:=by simp[a9]
   by_cases e:t∈a9 l
   ·rw[if_pos e,if_pos (hm.2 (.inr e))]
   ·rw[if_neg e];by_cases e2:t=x.1
    ·rw[if_pos (by omega),if_pos (hm.2 (.inl e2))]
    ·rw[if_neg (by omega),if_neg (fun h=>by rcases hm.1 h with h|h <;> contradiction)]
 rw[m7,key ab _ hr (by simp)];rw[KR (by omega)]
def Fl:(m7 ab).length=25:=by
 have key : ∀ (l:List (Int×Int)) (f:List Int),(l.foldl (fun f h=>f.set h.1.toNat (-1)) f).length=f.length:=by
  intro l;induction l with
  | nil=>exact fun f=>rfl
  | cons x l ih=>intro f;rw[eO,ih,fB]
 rw[m7,key];simp
def xT (hr : ∀ h∈ab,0<=h.1/\h.1<=24) (hn:(a9 ab).Nodup):cc busy (a9 ab) (m7 ab,a9 ab):=by
 have hrt : ∀ t∈a9 ab,0<=t/\t<=24:=fun t ht=>by
  obtain⟨h,hh,rfl⟩:=List.mem_map.1 ht;exact hr h hh
 refine⟨Fl,hrt,hn,fun t h0 h1=>?_,⟨[],by simp⟩,fun j hj=>?_⟩
 ·rw[Bo hr h0 h1];split <;> simp_all
 ·have hm:(a9 ab).getD j 0∈a9 ab:=aP hj;have:=hrt _ hm;exact .inl ⟨by rw[Bo hr this.1 this.2,if_pos hm],hm⟩
def HR (h:bL busy ab) (sink:Int):cc busy (a9 ab) (iJ ab sink busy):=(xT h.rng h.nd).EW 26 0
def Dc {fr:List Int} : ∀ (f:Nat) (t:Int) (acc:List (Int×Int)),ii fr f t acc=ii fr f t []++acc
 | 0,t,acc=>by simp[ii]
 | f+1,t,acc=>by
  simp only[ii];split
  ·rw[Dc f _ ((t,_)::acc),Dc f _ [(t,_)]];simp
  ·simp
structure sW (busy:List Bool) (T:List Int) (s:BS) (t:Int) (p:Nat) (L:List (Int×Int)):Prop where
 each : ∀ h∈L,(0<=h.1/\h.1<=24)/\busy.getD h.1.toNat false=false/\h.1∉T/\h.1∈dz h.2/\∃ m,m<=p/\s.2.getD m 0=h.1
 nd:(a9 L).Nodup
 link : ∀ j,j<L.length->(j=0/\(L.getD j (0,0)).2∈T)∨(0<j/\(L.getD j (0,0)).2=(L.getD (j-1) (0,0)).1)
 last:(t∈T/\L=[])∨(t∉T/\∃ r x,L=r ++ [(t,x)])
def Il {busy:List Bool}{T:List Int}{s:BS}(h:cc busy T s) : ∀ (f p:Nat),p<f->p<s.2.length->sW busy T s (s.2.getD p 0) p (ii s.1 f (s.2.getD p 0) [])
 | 0,p,hp,_=>by omega
 | f+1,p,hp,hl=>by
  have hpm:s.2.getD p 0∈s.2:=aP hl;have hpr:=h.rng _ hpm;simp only[ii];rcases h.root p hl with⟨h1,h2⟩|⟨h1,h2,h3,m,h4,h5,h6⟩
  ·rw[if_neg (by omega)];exact⟨by simp,by simp[a9],by simp,.inl ⟨h2,rfl⟩⟩
  ·rw[if_pos h1,Dc,<-h5];have ih:=Il h f m (by omega) (by omega);generalize ii s.1 f (s.2.getD m 0) []=L at *
   have hndq:=z9.1 h.nd;refine⟨fun x hx=>?_,?_,fun j hj=>?_,.inr ⟨h2,L,_,rfl⟩⟩
   ·rcases List.mem_append.1 hx with hx|hx
    ·obtain⟨a1,a2,a3,a4,k,a5,a6⟩:=ih.each x hx;exact⟨a1,a2,a3,a4,k,by omega,a6⟩
    ·obtain rfl:x=(s.2.getD p 0,s.2.getD m 0):=by simpa using hx
     exact⟨hpr,h3,h2,by simp only;rw[h5];exact h6,p,by omega,rfl⟩
   ·have e:a9 (L ++ [(s.2.getD p 0,s.2.getD m 0)])=a9 L ++ [s.2.getD p 0]:=by simp[a9]
    rw[e,uf];refine⟨ih.nd,by simp,fun a ha b hb=>?_⟩;obtain rfl:b=s.2.getD p 0:=by simpa using hb
    rintro rfl;obtain⟨x,hx,hxe⟩:=List.mem_map.1 ha;obtain⟨-,-,-,-,k,a5,a6⟩:=ih.each x hx;have:=hndq k p (by omega) hl (by rw[a6,hxe]);omega
   ·have hjl:j<=L.length:=by simp at hj;omega
    by_cases hjL:j<L.length
    ·have e1:(L ++ [(s.2.getD p 0,s.2.getD m 0)]).getD j (0,0)=L.getD j (0,0):=cZ hjL;have e2:(L ++ [(s.2.getD p 0,s.2.getD m 0)]).getD (j-1) (0,0)=L.getD (j-1) (0,0):=cZ (by omega);rw[e1,e2];exact ih.link j hjL
    ·obtain rfl:j=L.length:=by omega
     have e1:(L ++ [(s.2.getD p 0,s.2.getD m 0)]).getD L.length (0,0)=(s.2.getD p 0,s.2.getD m 0):=by simp[List.getD]
     rw[e1];rcases ih.last with⟨b1,b2⟩|⟨b1,r,x,b2⟩
     ·exact .inl ⟨by rw[b2];rfl,b1⟩
     ·right;have hpos:0<L.length:=by rw[b2];simp
      have e2:(L ++ [(s.2.getD p 0,s.2.getD m 0)]).getD (L.length-1) (0,0)=(s.2.getD m 0,x):=by
       rw[cZ (by omega),b2];simp[List.getD]
      rw[e2];exact⟨hpos,rfl⟩
def ru (h:bL busy ab):ab.length<=25:=by
 have:=(xT (busy:=busy) h.rng h.nd).mV;simpa [a9] using this
def Bs {busy:List Bool}{ab:List (Int×Int)}(h:bL busy ab) {sink:Int}(hs:0<=sink/\sink<=24) {hops':List (Int×Int)}(he:eo busy ab sink=some hops') :
  bL busy hops'/\sink∈a9 hops'/\∃ r,hops'=ab++r:=by
 unfold eo at he;split at he
 ·rename_i h1;cases he;exact⟨h,h1,[],by simp⟩
 ·rename_i h1;split at he
  ·cases he
  ·rename_i h2;cases he;have hb:=HR h sink;generalize iJ ab sink busy=s at *
   have hm:=(hb.seen sink hs.1 hs.2).1 h2;obtain⟨p,hp,hpe⟩:=fO 0 hm;have hql:=hb.mV;have hc:=Il hb 25 p (by omega) hp;rw[hpe] at hc;generalize ii s.1 25 sink []=L at *
   have hlast : ∃ r x,L=r ++ [(sink,x)]:=by
    rcases hc.last with⟨b1,b2⟩|⟨b1,b2⟩
    ·exact absurd b1 h1
    ·exact b2
   have hin:sink∈a9 (ab++L):=by
    obtain⟨r,x,e⟩:=hlast;rw[e];simp[a9]
   refine⟨⟨fun x hx=>?_,?_,fun x hx=>?_,by have:=h.pos;simp;omega,fun j hj=>?_⟩,hin,L,rfl⟩
   ·rcases List.mem_append.1 hx with h3|h3
    ·exact h.rng x h3
    ·exact(hc.each x h3).1
   ·have e:a9 (ab++L)=a9 ab++a9 L:=by simp[a9]
    rw[e,uf];refine⟨h.nd,hc.nd,fun a ha b hb2=>?_⟩;rintro rfl;obtain⟨x,hx,rfl⟩:=List.mem_map.1 hb2;exact(hc.each x hx).2.2.1 ha
   ·rcases List.mem_append.1 hx with h3|h3
    ·exact h.free x h3
    ·exact(hc.each x h3).2.1
   ·by_cases hjl:j<ab.length
    ·rw[cZ hjl];rcases h.root j hjl with h3|⟨h3,m,h4,h5,h6⟩
     ·exact .inl h3
     ·exact .inr ⟨h3,m,h4,by rw[cZ (by omega)];exact h5,h6⟩
    ·right;have hj2:j-ab.length<L.length:=by simp at hj;omega
     have e1:(ab++L).getD j (0,0)=L.getD (j-ab.length) (0,0):=by
      simp[List.getD,List.getElem?_append_right (by omega:ab.length<=j)]
     have hmem:L.getD (j-ab.length) (0,0)∈L:=aP hj2;have hnb:=(hc.each _ hmem).2.2.2.1;refine⟨by have:=h.pos;omega,?_⟩;rw[e1];rcases hc.link _ hj2 with⟨b1,b2⟩|⟨b1,b2⟩
     ·obtain⟨x,hx,hxe⟩:=List.mem_map.1 b2;obtain⟨m,hm2,hme⟩:=fO (0,0) hx;exact⟨m,by omega,by rw[cZ hm2,hme];exact hxe,hnb⟩
     ·refine⟨j-1,by omega,?_,hnb⟩;have e2:(ab++L).getD (j-1) (0,0)=L.getD (j-ab.length-1) (0,0):=by
       simp[List.getD,List.getElem?_append_right (by omega:ab.length<=j-1),show j-1-ab.length=j-ab.length-1 by omega]
      rw[e2,b2]
def Bb {pins:List Int}(hp : ∀ t∈pins,0<=t/\t<=24) (hne:pins≠[]) (h:kT busy pins=some ab) :
  bL busy ab/\(∀ t∈pins,t∈a9 ab)/\∃ r,ab=(pins.getD 0 0,-1)::r:=by
 unfold kT at h;split at h
 ·cases h
 ·rename_i hb;have h0m:pins.getD 0 0∈pins:=aP (List.length_pos_iff.2 hne);have h0:=hp _ h0m;have base:bL busy [(pins.getD 0 0,-1)]:=by
   refine⟨fun x hx=>?_,by simp[a9],fun x hx=>?_,by simp,fun j hj=>?_⟩
   ·obtain rfl:x=(pins.getD 0 0,-1):=by simpa using hx
    exact h0
   ·obtain rfl:x=(pins.getD 0 0,-1):=by simpa using hx
    simpa using hb
   ·obtain rfl:j=0:=by simpa using hj
    exact .inl ⟨rfl,rfl⟩
  have key : ∀ (l:List Int) (hs:List (Int×Int)),(∀ t∈l,0<=t/\t<=24)->bL busy hs->l.foldl (fun o t=>o.bind fun ab=>eo busy ab t) (some hs)=some ab->bL busy ab/\(∀ t∈l,t∈a9 ab)/\∃ r,ab=hs++r:=by
   intro l;induction l with
   | nil=>
    intro hs _ ht he;obtain rfl:hs=ab:=by simpa using he
    exact⟨ht,by simp,[],by simp⟩
   | cons t l ih=>
    intro hs hl ht he;rw[eO] at he;simp only[tw] at he;cases hx:eo busy hs t with
    | none=>
     rw[hx] at he;have hnone : ∀ (l:List Int),l.foldl (fun o t=>o.bind fun ab=>eo busy ab t) (none:Option (List (Int×Int)))=none:=by
      intro l;induction l with
      | nil=>rfl
      | cons a l ih2=>exact ih2
     rw[hnone] at he;cases he
    | some h2=>
     rw[hx] at he;obtain⟨a1,a2,r1,a3⟩:=Bs ht (hl t (by simp)) hx;obtain⟨b1,b2,r2,b3⟩:=ih h2 (fun z hz=>hl z (by simp[hz])) a1 he;refine⟨b1,fun z hz=>?_,r1++r2,by rw[b3,a3,fS]⟩;rcases List.mem_cons.1 hz with rfl|h3
     ·rw[b3];simp only[a9,iz,fV];exact .inl a2
     ·exact b2 z h3
  obtain⟨a1,a2,r,a3⟩:=key _ _ (fun t ht=>hp t (pt ht)) base h;refine⟨a1,fun t ht=>?_,r,a3⟩;obtain⟨j,hj,rfl⟩:=fO 0 ht;cases j with
  | zero=>rw[a3];simp[a9]
  | succ j=>
   refine a2 _ ?_;have e:(pins.drop 1).getD j 0=pins.getD (j+1) 0:=by simp[List.getD,Nat.add_comm]
   rw[<-e];exact aP (by simp;omega)
def Af {pins:List Int}{busy:List (List Bool)} : ∀ (f t:Nat) {u:Nat}{h:List (Int×Int)},cC pins busy f t=some (u,h)->t<=u/\u<t+f/\kT (busy.getD u []) pins=some h/\∀ v,t<=v->v<u->kT (busy.getD v []) pins=none
 | 0,t,u,h,e=>by simp[cC] at e
 | f+1,t,u,h,e=>by
  simp only[cC] at e;split at e
  ·rename_i h2 he;simp only[aD,aH] at e;obtain⟨rfl,rfl⟩:=e;exact⟨by omega,by omega,he,by omega⟩
  ·rename_i he;obtain⟨a,b,c,d⟩:=Af f (t+1) e;refine⟨by omega,by omega,c,fun v h1 h2=>?_⟩;by_cases hv:v=t
   ·subst hv;exact he
   ·exact d v (by omega) h2
end Go.VL

set_option linter.unusedVariables false
set_option linter.unusedSimpArgs false
namespace Go.VL
set_option linter.defProp false
variable {busy:List (List Bool)}{t k:Nat}{ab:List (Int×Int)}{c:ac}{cells:List bR}{place:List Int}
structure da (busy:List (List Bool)):Prop where
 len:busy.length=8
 row : ∀ t,t<8->(busy.getD t []).length=25
def jA:da jv:=⟨by simp[jv],fun t ht=>by rw[jv,KR ht];simp⟩
def Jt : ∀ (ab:List (Int×Int)) (b:List Bool),(nY b ab).length=b.length
 | [],b=>rfl
 | h::hs,b=>by
  show(nY (b.set h.1.toNat true) hs).length=_
  rw[Jt hs,fB]
def HN : ∀ (ab:List (Int×Int)) (b:List Bool),b.length=25->(∀ h∈ab,0<=h.1/\h.1<=24)->∀ x:Int,0<=x->x<=24->(nY b ab).getD x.toNat false=(b.getD x.toNat false || decide (x∈a9 ab))
 | [],b,_,_,x,_,_=>by simp[nY,a9]
 | h::hs,b,hb,hr,x,h0,h1=>by
  have hh:=hr h (by simp);show(nY (b.set h.1.toNat true) hs).getD x.toNat false=_
  rw[HN hs _ (by simp[hb]) (fun z hz=>hr z (by simp[hz])) x h0 h1];have hm:x∈a9 (h::hs)↔x=h.1∨x∈a9 hs:=by simp[a9]
  by_cases e:x=h.1
  ·subst e;have e1:(b.set h.1.toNat true).getD h.1.toNat false=true:=by simp[List.getD,show h.1.toNat<b.length by omega]
   rw[e1,decide_eq_true (hm.2 (.inl rfl))];simp
  ·have e1:(b.set h.1.toNat true).getD x.toNat false=b.getD x.toNat false:=by
    simp[List.getD,List.getElem?_set,show ¬ h.1.toNat=x.toNat by omega]
   rw[e1];congr 1;exact decide_eq_decide.2 (by rw[hm];simp[e])
def Lj (hb:da busy) (ht:t<8) (hr : ∀ h∈ab,0<=h.1/\h.1<=24) {u:Nat}(hu:u<8) {x:Int}(h0:0<=x) (h1:x<=24) :
  ((bC busy t ab).getD u []).getD x.toNat false=((busy.getD u []).getD x.toNat false || decide (u=t/\x∈a9 ab)):=by
 have hl:=hb.len;unfold bC;by_cases e:t=u
 ·subst e;have e1:(busy.set t (nY (busy.getD t []) ab)).getD t []=nY (busy.getD t []) ab:=by simp[List.getD,show t<busy.length by omega]
  rw[e1,HN ab _ (hb.row t ht) hr x h0 h1];simp
 ·have e1:(busy.set t (nY (busy.getD t []) ab)).getD u []=busy.getD u []:=by simp[List.getD,List.getElem?_set,e]
  rw[e1];simp[Ne.symm e]
def Bt (hb:da busy) (ht:t<8):da (bC busy t ab):=by
 have hl:=hb.len;refine⟨by simp[bC,hl],fun u hu=>?_⟩;unfold bC;by_cases e:t=u
 ·subst e;have e1:(busy.set t (nY (busy.getD t []) ab)).getD t []=nY (busy.getD t []) ab:=by simp[List.getD,show t<busy.length by omega]
  rw[e1,Jt];exact hb.row t ht
 ·have e1:(busy.set t (nY (busy.getD t []) ab)).getD u []=busy.getD u []:=by simp[List.getD,List.getElem?_set,e]
  rw[e1];exact hb.row u hu
structure qy (c:ac) (cells:List bR) (place:List Int) (busy0:List (List Bool)) (k:Nat) (r:Rt):Prop where
 net:1<=r.net/\r.net<=k
 track:0<=r.track/\r.track<8
 tree:bL (busy0.getD r.track.toNat []) r.ab
 pins : ∀ t∈i8 c cells place r.net,t∈a9 r.ab
 src : ∃ q,r.ab=((i8 c cells place r.net).getD 0 0,-1)::q
def Dh (out:List Rt) (t:Nat) (x:Int):Prop:=∃ r∈out,r.track=(t:Int)/\x∈a9 r.ab
def Ek (a b:Rt):Prop:=a.track=b.track->∀ x∈a9 a.ab,x∉a9 b.ab
def o9 (c:ac) (cells:List bR) (place:List Int) (k:Nat):List Int:=((List.range k).map fun(j:Nat)=>(j:Int)+1).filter fun n=>decide (i8 c cells place n≠[])
def Ez:o9 c cells place (k+1)=o9 c cells place k++(if i8 c cells place ((k:Int)+1)=[] then [] else [(k:Int)+1]):=by
 rw[o9,kK,iz,List.filter_append];congr 1;by_cases h:i8 c cells place ((k:Int)+1)=[]
 ·simp[h]
 ·simp[h]
structure jf (c:ac) (cells:List bR) (place:List Int) (busy0:List (List Bool)) (k:Nat) (busy:List (List Bool)) (out:List Rt):Prop where
 bok:da busy
 used : ∀ t,t<8->∀ x:Int,0<=x->x<=24->((busy.getD t []).getD x.toNat false=true↔(busy0.getD t []).getD x.toNat false=true∨Dh out t x)
 each : ∀ r∈out,qy c cells place busy0 k r
 apart:out.Pairwise Ek
 nets:out.map (·.net)=o9 c cells place k
def AO {c:ac}{cells:List bR}{place:List Int}{busy0:List (List Bool)}(hc:c.Valid) (hp:ay cells.length place) (hb0:da busy0) : ∀ (k:Nat) {busy:List (List Bool)}{out:List Rt},kG c cells place busy0 k=some (busy,out)->jf c cells place busy0 k busy out
 | 0,busy,out,h=>by
  simp only[kG,aD,aH] at h;obtain⟨rfl,rfl⟩:=h;exact⟨hb0,fun t ht x h0 h1=>by simp[Dh],by simp,by simp,by simp[o9]⟩
 | k+1,busy,out,h=>by
  simp only[kG] at h;split at h
  ·cases h
  ·rename_i busy1 out1 h1;have ih:=AO hc hp hb0 k h1;have lz : ∀ {r:Rt},qy c cells place busy0 k r->qy c cells place busy0 (k+1) r:=fun {r} q=>⟨by have:=q.net;omega,q.track,q.tree,q.pins,q.src⟩
   split at h
   ·rename_i hpn;simp only[aD,aH] at h;obtain⟨rfl,rfl⟩:=h;exact⟨ih.bok,ih.used,fun r hr=>lz (ih.each r hr),ih.apart,by rw[Ez,if_pos hpn,jN];exact ih.nets⟩
   ·rename_i hpn;split at h
    ·cases h
    ·rename_i t hs h2;simp only[aD,aH] at h;obtain⟨rfl,rfl⟩:=h;obtain⟨-,ht8,ht,-⟩:=Af 8 0 h2;have ht8:t<8:=by omega
     obtain⟨b1,b2,b3⟩:=Bb (yI hc hp) hpn ht;have hfree : ∀ h∈hs,(busy0.getD t []).getD h.1.toNat false=false/\¬ Dh out1 t h.1:=fun h hh=>by
      have hr:=b1.rng h hh;have:=(not_congr (ih.used t ht8 h.1 hr.1 hr.2)).1 (by rw[b1.free h hh];simp);exact⟨by simpa using fun e=>this (.inl e),fun e=>this (.inr e)⟩
     refine⟨Bt ih.bok ht8,fun u hu x h0 h1=>?_,fun r hr=>?_,?_,?_⟩
     ·rw[Lj ih.bok ht8 b1.rng hu h0 h1,oD,ih.used u hu x h0 h1,decide_eq_true_eq,or_assoc];refine or_congr_right ?_;constructor
      ·rintro(⟨r,hr,e1,e2⟩|⟨rfl,e2⟩)
       ·exact⟨r,nz _ hr,e1,e2⟩
       ·exact⟨⟨(k:Int)+1,(u:Int),hs⟩,List.mem_append_right _ (by simp),rfl,e2⟩
      ·rintro⟨r,hr,e1,e2⟩;rcases List.mem_append.1 hr with h3|h3
       ·exact .inl ⟨r,h3,e1,e2⟩
       ·obtain rfl:r=⟨(k:Int)+1,(t:Int),hs⟩:=by simpa using h3
        exact .inr ⟨by simp only at e1;omega,e2⟩
     ·rcases List.mem_append.1 hr with h3|h3
      ·exact lz (ih.each r h3)
      ·obtain rfl:r=⟨(k:Int)+1,(t:Int),hs⟩:=by simpa using h3
       refine⟨by simp only;omega,by simp only;omega,?_,b2,b3⟩;have e:((t:Int)).toNat=t:=by omega
       simp only[e];exact⟨b1.rng,b1.nd,fun h hh=>(hfree h hh).1,b1.pos,b1.root⟩
     ·rw[List.pairwise_append];refine⟨ih.apart,by simp,fun a ha b hb e x hx hx2=>?_⟩;obtain rfl:b=⟨(k:Int)+1,(t:Int),hs⟩:=by simpa using hb
      obtain⟨h,hh,rfl⟩:=List.mem_map.1 hx2;exact(hfree h hh).2 ⟨a,ha,e,hx⟩
     ·rw[Ez,if_neg hpn,iz,ih.nets];rfl
def qy.len {busy0:List (List Bool)}{r:Rt}(h:qy c cells place busy0 k r):r.ab.length<=25:=ru h.tree
end Go.VL

set_option linter.unusedVariables false
set_option linter.unusedSimpArgs false
namespace Go.VL
set_option linter.defProp false
variable {busy:List Bool}{T:List Int}{s:BS}{q sink:Int}{ab:List (Int×Int)}{k:Nat}
def bm (busy:List Bool) (s0:BS):Nat->BS
 | 0=>s0
 | k+1=>dh busy (bm busy s0 k) ((bm busy s0 k).2.getD k 0)
def cW (s s':BS):Prop:=(∃ r,s'.2=s.2++r)/\∀ t:Int,0<=t->t<=24->s.1.getD t.toNat 0≠-2->s'.1.getD t.toNat 0=s.1.getD t.toNat 0
def cW.rfl (s:BS):cW s s:=⟨⟨[],by simp⟩,fun _ _ _ _=>Eq.refl _⟩
def cW.trans {a b c:BS}(h:cW a b) (g:cW b c):cW a c:=by
 obtain⟨⟨r,hr⟩,h2⟩:=h;obtain⟨⟨u,hu⟩,g2⟩:=g;refine⟨⟨r++u,by rw[hu,hr,fS]⟩,fun t h0 h1 ht=>?_⟩;have e:=h2 t h0 h1 ht;rw[g2 t h0 h1 (by rw[e];exact ht),e]
def IT (h:cc busy T s) {n:Int}(hn:0<=n/\n<=24):cW s (gL busy q s n):=by
 refine⟨DS,fun t h0 h1 ht=>?_⟩;unfold gL;split
 ·rename_i hc;have hl:=h.len;rw[rg (by omega),if_neg];intro e;have:t=n:=by omega
  subst this;exact ht hc.1
 ·rfl
def Kl {busy:List Bool}{T:List Int}{q:Int} : ∀ (l:List Int) {s:BS},cc busy T s->q∈s.2->(∀ n∈l,n∈dz q)->cW s (l.foldl (gL busy q) s)
 | [],s,h,_,_=>cW.rfl s
 | n::l,s,h,hq,hl=>by
  have hn:=xz (h.rng q hq) n (hl n (by simp));have m1:=IT h (q:=q) hn.1;obtain⟨r,hr⟩:=m1.1;exact m1.trans (Kl l (h.step hq (hl n (by simp))) (by rw[hr];exact nz _ hq) fun m hm=>hl m (by simp[hm]))
def NR (h:cc busy T s) (hq:q∈s.2):cW s (dh busy s q):=Kl _ h hq fun _ hn=>hn
def wh {busy:List Bool}{T:List Int}{s0:BS}(h:cc busy T s0) : ∀ k,(∀ j,j<k->j<(bm busy s0 j).2.length)->cc busy T (bm busy s0 k)
 | 0,_=>h
 | k+1,hj=>(wh h k fun j hjk=>hj j (by omega)).visit (aP (hj k (by omega)))
def y8 {busy:List Bool}{T:List Int}{s0:BS}(h:cc busy T s0) {j:Nat} : ∀ k,j<=k->(∀ i,i<k->i<(bm busy s0 i).2.length)->cW (bm busy s0 j) (bm busy s0 k)
 | 0,hk,_=>by
          obtain rfl:j=0:=by omega
          exact cW.rfl _
 | k+1,hk,hi=>by
  by_cases e:j=k+1
  ·subst e;exact cW.rfl _
  ·exact(y8 h k (by omega) fun i hik=>hi i (by omega)).trans (NR (wh h k fun i hik=>hi i (by omega)) (aP (hi k (by omega))))
def KT {busy:List Bool}{T:List Int}{s s':BS}(h:cc busy T s) (hm:cW s s') : ∀ (f p:Nat) (acc:List (Int×Int)),p<s.2.length->ii s'.1 f (s.2.getD p 0) acc=ii s.1 f (s.2.getD p 0) acc
 | 0,p,acc,_=>rfl
 | f+1,p,acc,hp=>by
  have hpm:s.2.getD p 0∈s.2:=aP hp;have hr:=h.rng _ hpm;have e:=hm.2 _ hr.1 hr.2 ((h.seen _ hr.1 hr.2).2 hpm);simp only[ii,e];rcases h.root p hp with⟨h1,-⟩|⟨h1,-,-,m,h4,h5,-⟩
  ·rw[if_neg (by omega),if_neg (by omega)]
  ·rw[if_pos h1,if_pos h1,<-h5];exact KT h hm f m _ (by omega)
def DE {busy:List Bool}{T:List Int}{s0:BS}(h:cc busy T s0) {sink:Int} : ∀ (f k:Nat),f+k=26->(∀ j,j<k->j<(bm busy s0 j).2.length/\(bm busy s0 j).1.getD sink.toNat 0 = -2)->
  ∃ K,jr busy sink f k (bm busy s0 k)=bm busy s0 K/\(∀ j,j<K->j<(bm busy s0 j).2.length/\(bm busy s0 j).1.getD sink.toNat 0 = -2)/\¬ (K<(bm busy s0 K).2.length/\(bm busy s0 K).1.getD sink.toNat 0 = -2)
 | 0,k,hk,hj=>by
  have h1:=(wh h k fun j hjk=>(hj j hjk).1).mV;exact⟨k,rfl,hj,fun hc=>by omega⟩
 | f+1,k,hk,hj=>by
  rw[jr];split
  ·rename_i hc;exact DE h f (k+1) (by omega) fun j hjk=>by
    by_cases e:j=k
    ·subst e;exact hc
    ·exact hj j (by omega)
  ·rename_i hc;exact⟨k,rfl,hj,hc⟩
def co (ab:List (Int×Int)):BS:=(m7 ab,a9 ab)
def LK (h:bL busy ab) (hs:0<=sink/\sink<=24) (hj : ∀ j,j<k->j<(bm busy (co ab) j).2.length) (hk:k=(bm busy (co ab) k).2.length) (hn:sink∉(bm busy (co ab) k).2):eo busy ab sink=none:=by
 have hb:=xT (busy:=busy) h.rng h.nd;obtain⟨K,e,hK,hK2⟩:=DE hb (sink:=sink) 26 0 rfl (fun j hj=>by omega);have e2:iJ ab sink busy=bm busy (co ab) K:=e;have hnt:sink∉a9 ab:=fun hm=>by
  obtain⟨r,hr⟩:=(y8 hb (j:=0) k (by omega) hj).1;exact hn (show sink∈(bm busy (m7 ab,a9 ab) k).2 by rw[hr];exact nz _ hm)
 rw[eo,if_neg hnt,e2,if_pos];refine Decidable.byContradiction fun hf=>?_
 have hKi:=wh hb K fun j hjK=>(hK j hjK).1
 have hm:=(hKi.seen sink hs.1 hs.2).1 hf;by_cases hle:K<=k
 ·obtain⟨r,hr⟩:=(y8 hb (j:=K) k hle hj).1;exact hn (show sink∈(bm busy (m7 ab,a9 ab) k).2 by rw[hr];exact nz _ hm)
 ·have:=(hK k (by omega)).1;simp only[co] at hk;omega
def Nw (h:bL busy ab) (hs:0<=sink/\sink<=24) (hj : ∀ j,j<k->j<(bm busy (co ab) j).2.length) (hk:k<(bm busy (co ab) k).2.length) (hn:(bm busy (co ab) k).2.getD k 0=sink) :
  eo busy ab sink=some (ab++ii (bm busy (co ab) k).1 25 sink []):=by
 have hb:=xT (busy:=busy) h.rng h.nd;have hki:=wh hb k hj;by_cases ht:sink∈a9 ab
 ·rw[eo,if_pos ht];have hm:=y8 hb (j:=0) k (by omega) hj;have h0:(m7 ab).getD sink.toNat 0 = -1:=by rw[Bo h.rng hs.1 hs.2,if_pos ht]
  have e:=hm.2 sink hs.1 hs.2 (by show(m7 ab).getD sink.toNat 0≠-2;rw[h0];decide);have e1:(bm busy (co ab) k).1.getD sink.toNat 0 = -1:=e.trans h0;have e2:ii (bm busy (co ab) k).1 25 sink []=[]:=by
   rw[show(25:Nat)=24+1 from rfl];simp only[ii];rw[if_neg (by omega)]
  rw[e2,jN]
 ·obtain⟨K,e,hK,hK2⟩:=DE hb (sink:=sink) 26 0 rfl (fun j hj=>by omega);have e2:iJ ab sink busy=bm busy (co ab) K:=e;rw[eo,if_neg ht,e2];have hsk:(bm busy (co ab) k).1.getD sink.toNat 0≠-2:=(hki.seen sink hs.1 hs.2).2 (by rw[<-hn];exact aP hk);have hle:K<=k:=Decidable.byContradiction fun hgt=>hsk (hK k (by omega)).2
  have hKi:=wh hb K fun j hjK=>(hK j hjK).1
  have hm:=y8 hb (j:=K) k hle hj;have hf:(bm busy (co ab) K).1.getD sink.toNat 0≠-2:=fun hf=>by
   have h1 : ¬ K<(bm busy (co ab) K).2.length:=fun h1=>hK2 ⟨h1,hf⟩
   by_cases e3:K=k
   ·subst e3;exact h1 hk
   ·exact h1 (hj K (by omega))
  rw[if_neg hf];obtain⟨p,hp,hpe⟩:=fO 0 ((hKi.seen sink hs.1 hs.2).1 hf);have:=KT hKi hm 25 p [] hp;rw[hpe] at this;exact congrArg (fun x=>some (ab++x)) this.symm
end Go.VL

set_option linter.unusedVariables false
set_option linter.unusedSimpArgs false
namespace Go.VL
set_option linter.defProp false
variable {c:ac}{v:Int}{busy:List (List Bool)}{place:List Int}{t u:Nat}
def iN (cells:List bR) (v:Int):Nat->Int
 | 0=>-1
 | i+1=>if(cells.getD i bI).net=v then(i:Int) else iN cells v i
structure mo where
 net:Int
 cell:Int
 tile:Int
 sinks:List Int
 pads:List Int
def lQ:mo:=⟨0,0,0,[],[]⟩
def dZ (c:ac) (cells:List bR) (v:Int):mo:=⟨v,iN cells v cells.length,(v-1)*5,mH cells v,dS c v c.outs.length⟩
def js (c:ac) (cells:List bR):Nat->List mo
 | 0=>[]
 | k+1=>js c cells k++(if 0<(dZ c cells ((k:Int)+1)).sinks.length+(dZ c cells ((k:Int)+1)).pads.length then [dZ c cells ((k:Int)+1)] else [])
def o0 (c:ac) (cells:List bR):List mo:=js c cells (c.vars.toNat-1)
def kg (n:mo) (place:List Int):Int:=if 0<=n.cell then place.getD n.cell.toNat 0 else n.tile
def gE (n:mo) (place:List Int):List Int:=kg n place::(n.sinks.map (gK place)++n.pads)
def Ar {cells:List bR}(ha:cells.Pairwise fun a b=>a.net<b.net) (place:List Int) (v:Int) : ∀ n,n<=cells.length->
  (∃ j:Nat,j<n/\(cells.getD j bI).net=v/\jM cells place v n=[place.getD j 0]/\iN cells v n=(j:Int))∨((∀ j,j<n->(cells.getD j bI).net≠v)/\jM cells place v n=[]/\iN cells v n = -1)
 | 0,_=>.inr ⟨by omega,rfl,rfl⟩
 | n+1,hn=>by
  have hlt : ∀ j,j<n->(cells.getD j bI).net<(cells.getD n bI).net:=fun j hj=>by
   have:=List.pairwise_iff_getElem.1 ha j n (by omega) (by omega) hj;simpa [List.getD,show j<cells.length by omega,show n<cells.length by omega] using this
  rcases Ar ha place v n (by omega) with⟨j,h1,h2,h3,h4⟩|⟨h1,h2,h3⟩
  ·have:=hlt j h1;left;refine⟨j,by omega,h2,?_,?_⟩
   ·rw[jM,h3,if_neg (by omega)];simp
   ·rw[iN,if_neg (by omega),h4]
  ·by_cases e:(cells.getD n bI).net=v
   ·left;refine⟨n,by omega,e,?_,?_⟩
    ·rw[jM,h2,if_pos e];simp
    ·rw[iN,if_pos e]
   ·right;refine⟨fun j hj=>?_,?_,?_⟩
    ·by_cases e2:j=n
     ·rw[e2];exact e
     ·exact h1 j (by omega)
    ·rw[jM,h2,if_neg e];simp
    ·rw[iN,if_neg e,h3]
def xI (c:ac) (i:Nat):(iU c i).net=c.inputs+1+(i:Int):=by unfold iU;split <;> rfl
def DA (hc:c.Valid):(ax c).Pairwise fun a b=>a.net<b.net:=by
 have hok:=ro hc;have hfd:c.first=1+c.inputs+(c.next.length:Int):=rfl
 rw[ax,List.pairwise_append];refine⟨?_,?_,fun a ha b hb=>?_⟩
 ·rw[List.pairwise_map];refine(List.pairwise_lt_range).imp fun {i j} h=>?_
  rw[xI,xI];omega
 ·rw[List.pairwise_map];exact hok.gJ
 ·obtain⟨i,hi,rfl⟩:=List.mem_map.1 ha;obtain⟨l,hl,rfl⟩:=List.mem_map.1 hb;obtain⟨j,-,rfl⟩:=hok.each l hl;have:=List.mem_range.1 hi;rw[xI];show _<c.first+(j:Int)
  omega
def G4 (hc:c.Valid) : ∀ x∈ax c,c.inputs<x.net/\x.net<c.vars:=by
 have hok:=ro hc;have hfd:c.first=1+c.inputs+(c.next.length:Int):=rfl
 have hvv:c.vars=c.first+(c.gates.length:Int):=rfl
 intro x hx;rcases List.mem_append.1 hx with h|h
 ·obtain⟨i,hi,rfl⟩:=List.mem_map.1 h;have:=List.mem_range.1 hi;rw[xI];omega
 ·obtain⟨l,hl,rfl⟩:=List.mem_map.1 h;obtain⟨j,hj,rfl⟩:=hok.each l hl;show _<c.first+(j:Int)/\c.first+(j:Int)<_
  omega
def ut (hc:c.Valid) : ∀ x∈ax c,x.inputs.length<=3/\x.inputs.Nodup/\∀ z∈x.inputs,1<=z/\z<c.vars:=by
 have hok:=ro hc;have hvv:c.vars=c.first+(c.gates.length:Int):=rfl
 intro x hx;rcases List.mem_append.1 hx with h|h
 ·obtain⟨i,hi,rfl⟩:=List.mem_map.1 h;have bW:=List.mem_range.1 hi;have hno:=hc.n _ (aP bW:c.next.getD i 0∈c.next);unfold bj at hno;unfold iU;split
  ·refine⟨by simp,by simp,fun z hz=>?_⟩;obtain rfl:z=c.next.getD i 0/2:=by simpa using hz
   omega
  ·exact⟨by simp,by simp,by simp⟩
 ·obtain⟨l,hl,rfl⟩:=List.mem_map.1 h;obtain⟨j,hj,rfl⟩:=hok.each l hl;obtain⟨b1,b2,b3⟩:=p6 hc hj;refine⟨b2,?_,fun z hz=>?_⟩
  ·exact List.nodup_iff_pairwise_ne.2 (List.Pairwise.imp (fun {a b} h=>by omega) b1)
  ·have:=b3 z hz;omega
def cell_of (hc:c.Valid) (h0:c.inputs<v) (h1:v<c.vars) (hu:v∈ku c∨∃ x∈ax c,v∈x.inputs) : ∃ x∈ax c,x.net=v:=by
 have hfd:c.first=1+c.inputs+(c.next.length:Int):=rfl
 have hvv:c.vars=c.first+(c.gates.length:Int):=rfl
 by_cases hl:v<c.first
 ·obtain⟨i,rfl⟩ : ∃ i:Nat,v=c.inputs+1+(i:Int):=⟨(v-c.inputs-1).toNat,by omega⟩;exact⟨iU c i,nz _ (List.mem_map.2 ⟨i,List.mem_range.2 (by omega),rfl⟩),xI c i⟩
 ·obtain⟨i,rfl⟩ : ∃ i:Nat,v=c.first+(i:Int):=⟨(v-c.first).toNat,by omega⟩
  have hin:mc c i∈iQ c:=by
   rw[NA hc (by omega)];rcases hu with h|⟨x,hx,hxi⟩
   ·exact .inl h
   ·rcases List.mem_append.1 hx with h|h
    ·obtain⟨k,hk,rfl⟩:=List.mem_map.1 h;have hk2:=List.mem_range.1 hk;left;unfold iU at hxi;split at hxi
     ·obtain h3:c.first+(i:Int)=c.next.getD k 0/2:=by simpa using hxi
      rw[h3];exact List.mem_map.2 ⟨_,List.mem_append_right _ (aP hk2),rfl⟩
     ·simp at hxi
    ·obtain⟨l,hl2,rfl⟩:=List.mem_map.1 h;exact .inr ⟨l,hl2,hxi⟩
  exact⟨gD (mc c i),List.mem_append_right _ (List.mem_map.2 ⟨_,hin,rfl⟩),rfl⟩
def Jn (hc:c.Valid) (place:List Int) (h0:1<=v) (h1:v<c.vars) (hu:fe c (ax c) place v≠[]) :
  ox c v++jM (ax c) place v (ax c).length=[kg (dZ c (ax c) v) place]:=by
 have ha:=DA hc;have hn:=G4 hc;unfold ox;have hT:kg (dZ c (ax c) v) place=if 0<=iN (ax c) v (ax c).length then place.getD (iN (ax c) v (ax c).length).toNat 0 else(v-1)*5:=rfl
 rw[hT];rcases Ar ha place v (ax c).length (aC _) with⟨j,h2,h3,h4,h5⟩|⟨h2,h3,h4⟩
 ·have:=hn _ (aP h2:(ax c).getD j bI∈ax c);rw[h4,h5,if_neg (by omega),if_pos (by omega)];simp
 ·rw[h3,h4,if_neg (show ¬ (0:Int)<=-1 by decide)];by_cases hi:v<=c.inputs
  ·rw[if_pos ⟨h0,hi⟩];simp
  ·exfalso;have:v∈ku c∨∃ x∈ax c,v∈x.inputs:=by
    cases hs:fe c (ax c) place v with
    | nil=>exact absurd hs hu
    | cons t r=>
     have ht:t∈fe c (ax c) place v:=by rw[hs];simp
     rcases yW.1 ht with⟨i,g1,g2,-⟩|⟨o,g1,g2,-⟩
     ·exact .inr ⟨_,aP g1,g2⟩
     ·left;rw[<-g2];exact List.mem_map.2 ⟨_,nz _ (aP g1),rfl⟩
   obtain⟨x,hx,hxv⟩:=cell_of hc (by omega) h1 this;obtain⟨j,hj,rfl⟩:=fO bI hx;exact h2 j hj hxv
def AT {busy:List Bool} : ∀ (l:List Int),l.foldl (fun o t=>o.bind fun ab=>eo busy ab t) (none:Option (List (Int×Int)))=none
 | []=>rfl
 | _::l=>AT l
def Df {busy:List Bool} : ∀ (l out:List Int) (hs:List (Int×Int)),(∀ t∈l,0<=t/\t<=24)->bL busy hs->(∀ t∈out,t∈a9 hs)->
  l.foldl (fun o t=>o.bind fun ab=>eo busy ab t) (some hs)=((l.foldl aS out).drop out.length).foldl (fun o t=>o.bind fun ab=>eo busy ab t) (some hs)
 | [],out,hs,_,_,_=>by simp
 | t::l,out,hs,hl,ht,ho=>by
  rw[eO,eO,tw];by_cases hm:t∈out
  ·rw[show aS out t=out by unfold aS;rw[if_pos hm],show eo busy hs t=some hs by rw[eo,if_pos (ho t hm)]];exact Df l out hs (fun z hz=>hl z (by simp[hz])) ht ho
  ·obtain⟨r,hr⟩:=xJ (l:=l) (out:=out ++ [t]);have e0:aS out t=out ++ [t]:=by unfold aS;rw[if_neg hm]
   have e1:((l.foldl aS (aS out t)).drop out.length)=t::((l.foldl aS (aS out t)).drop (aS out t).length):=by
    rw[e0,hr,fS];simp
   rw[e1,eO,tw];cases he:eo busy hs t with
   | none=>rw[AT,AT]
   | some h2=>
    obtain⟨a1,a2,r1,a3⟩:=Bs ht (hl t (by simp)) he;refine Df l (aS out t) h2 (fun z hz=>hl z (by simp[hz])) a1 fun z hz=>?_
    rcases Gl.1 hz with h|rfl
    ·rw[a3];simp only[a9,iz,fV];exact .inl (ho z h)
    ·exact a2
def LF {busy:List Bool}{s:Int}{l:List Int}(hs:0<=s/\s<=24) (hl : ∀ t∈l,0<=t/\t<=24):kT busy (s::l)=kT busy (l.foldl aS [s]):=by
 obtain⟨r,hr⟩:=xJ (l:=l) (out:=[s]);have e0:(l.foldl aS [s]).getD 0 0=s:=by rw[hr];rfl
 unfold kT;rw[e0,show(s::l).getD 0 0=s from rfl];by_cases hb:busy.getD s.toNat false=true
 ·rw[if_pos hb,if_pos hb]
 ·rw[if_neg hb,if_neg hb];refine Df l [s] [(s,-1)] hl ⟨fun x hx=>?_,by simp[a9],fun x hx=>?_,by simp,fun j hj=>?_⟩ (by simp[a9])
  ·obtain rfl:x=(s,-1):=by simpa using hx
   exact hs
  ·obtain rfl:x=(s,-1):=by simpa using hx
   simpa using hb
  ·obtain rfl:j=0:=by simpa using hj
   exact .inl ⟨rfl,rfl⟩
def Gz {p q:List Int}(h : ∀ busy,kT busy p=kT busy q) {busy:List (List Bool)} : ∀ f t,cC p busy f t=cC q busy f t
 | 0,t=>rfl
 | f+1,t=>by
  simp only[cC,h];split
  ·rfl
  ·exact Gz h f (t+1)
def EE (c:ac) (cells:List bR) (place:List Int) (v:Int):gE (dZ c cells v) place=kg (dZ c cells v) place::fe c cells place v:=rfl
def z6 {cells:List bR}:fe c cells place v=[]↔¬ 0<(dZ c cells v).sinks.length+(dZ c cells v).pads.length:=by
 rw[fe,List.append_eq_nil_iff,List.map_eq_nil_iff];show mH cells v=[]/\dS c v c.outs.length=[]↔¬ 0<(mH cells v).length+(dS c v c.outs.length).length
 rw[<-List.length_eq_zero_iff,<-List.length_eq_zero_iff];omega
def yX (hc:c.Valid) (place:List Int) (h0:1<=v) (h1:v<c.vars) (hu:fe c (ax c) place v≠[]) :
  i8 c (ax c) place v=(fe c (ax c) place v).foldl aS [kg (dZ c (ax c) v) place]:=by
 rw[i8,if_neg hu,Jn hc place h0 h1 hu]
def yN (hc:c.Valid) (place:List Int) (h0:1<=v) (h1:v<c.vars):i8 c (ax c) place v=[]↔fe c (ax c) place v=[]:=by
 constructor
 ·intro h;refine Decidable.byContradiction fun hu=>?_
  rw[yX hc place h0 h1 hu] at h;obtain⟨r,hr⟩:=xJ (l:=fe c (ax c) place v) (out:=[kg (dZ c (ax c) v) place]);rw[hr] at h;simp at h
 ·intro h;rw[i8,if_pos h]
def FC (hc:c.Valid) (hp:ay (ax c).length place) (h0:1<=v) (h1:v<c.vars) (hu:fe c (ax c) place v≠[]) : ∀ t∈gE (dZ c (ax c) v) place,0<=t/\t<=24:=by
 intro t ht;refine yI hc hp (net:=v) t ?_;rw[yX hc place h0 h1 hu,BK];rw[EE] at ht;rcases List.mem_cons.1 ht with h|h
 ·exact .inl (by simp[h])
 ·exact .inr h
def Pq (hc:c.Valid) (hp:ay (ax c).length place) (h0:1<=v) (h1:v<c.vars) (hu:fe c (ax c) place v≠[]) (busy:List (List Bool)) (f t:Nat) :
  cC (gE (dZ c (ax c) v) place) busy f t=cC (i8 c (ax c) place v) busy f t:=by
 have hb:=FC hc hp h0 h1 hu;rw[EE] at hb;rw[EE,yX hc place h0 h1 hu];exact Gz (fun b=>LF (hb _ (by simp)) fun t ht=>hb t (by simp[ht])) f t
def qV (place:List Int) (o:Option (List (List Bool)×List Rt)) (n:mo):Option (List (List Bool)×List Rt):=
 o.bind fun s=>match cC (gE n place) s.1 8 0 with
  | none=>none
  | some (t,h)=>some (bC s.1 t h,s.2 ++ [⟨n.net,(t:Int),h⟩])
def IG {place:List Int} : ∀ (l:List mo),l.foldl (qV place) none=none
 | []=>rfl
 | _::l=>IG l
def Jl {c:ac}(hc:c.Valid) {place:List Int}(hp:ay (ax c).length place) (busy0:List (List Bool)) : ∀ k:Nat,(k:Int)<c.vars->(js c (ax c) k).foldl (qV place) (some (busy0,[]))=kG c (ax c) place busy0 k
 | 0,_=>rfl
 | k+1,hk=>by
  have ih:=Jl hc hp busy0 k (by omega);have hp1:=yN hc place (v:=(k:Int)+1) (by omega) (by omega);rw[js,mM,ih,kG];by_cases hu:fe c (ax c) place ((k:Int)+1)=[]
  ·rw[if_neg (z6.1 hu)];cases kG c (ax c) place busy0 k with
   | none=>rfl
   | some s=>simp only[hp1.2 hu,if_true];rfl
  ·rw[if_pos (Decidable.byContradiction fun h=>hu (z6.2 h))];cases kG c (ax c) place busy0 k with
   | none=>rfl
   | some s=>
    simp only[if_neg (fun h=>hu (hp1.1 h))];show qV place (some s) _=_
    rw[qV,tw,Pq hc hp (v:=(k:Int)+1) (by omega) (by omega) hu];rfl
def MH (hc:c.Valid) (hp:ay (ax c).length place) (busy0:List (List Bool)):kh c (ax c) place busy0=((o0 c (ax c)).foldl (qV place) (some (busy0,[]))).map (·.2):=by
 have:=hc.am;have:=hc.aM;rw[kh,o0,Jl hc hp busy0 _ (by omega)]
def eF (busy:List (List Bool)):List Bool:=(List.range 200).map fun k=>(busy.getD (k%8) []).getD (k/8) false
def m4 (busy:List (List Bool)):(eF busy).length=200:=by simp[eF]
def FK (ht:t<25) (hu:u<8):(eF busy).getD (t*8+u) false=(busy.getD u []).getD t false:=by
 rw[List.getD_eq_getElem?_getD,List.getElem?_eq_getElem (by rw[m4];omega)];simp only[eF,List.getElem_map,List.getElem_range,i9];rw[show(t*8+u)%8=u by omega,show(t*8+u)/8=t by omega]
def KL (ht:t<25) (hu:u<8) (hb:u<busy.length) (hl:t<(busy.getD u []).length):(eF busy).set (t*8+u) true=eF (busy.set u ((busy.getD u []).set t true)):=by
 refine sq (by simp[eF]) fun k h1 h2=>?_
 rw[List.getElem_set];simp only[eF,List.getElem_map,List.getElem_range];by_cases e:t*8+u=k
 ·subst e;rw[if_pos rfl,show(t*8+u)%8=u by omega,show(t*8+u)/8=t by omega];simp only[List.getD,List.getElem?_set,hb,if_true,i9] at hl ⊢;simp[hl]
 ·rw[if_neg e];by_cases e2:u=k%8
  ·have e3:t≠k/8:=by omega
   subst e2;simp[List.getD,List.getElem?_set,hb,e3]
  ·simp[List.getD,List.getElem?_set,e2]
end Go.VL
