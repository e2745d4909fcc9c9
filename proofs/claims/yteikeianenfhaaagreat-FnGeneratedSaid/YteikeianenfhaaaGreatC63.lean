/- Contracts, plain definitions and lemmas. Conditions: none; lemmas. -/
import Derived.Test.YteikeianenfhaaaGreatC72
set_option maxRecDepth 20000
set_option linter.unusedVariables false
set_option linter.unusedSimpArgs false
set_option maxHeartbeats 2000000
namespace Go.Proofs
open Go Go.VL Tryz
theorem Tryz.c_Cells (c:Circ) (hc:c.Valid):PureF prog 40 [dC c] (dCes (qad c)):=by
 have hmp:=c_MapLuts c hc;have hcv:=c_CircuitValid c;have hln:=hc.ln;have hll:=qlO hc;have hlg:=hc.lg;have hlk:=qew hc;have hi0:=hc.i0;have hi1:=hc.i1;refine PureF.res ?_ (qti c);refine qe0 (E:=env 0) tok rfl 1000 func40 rfl rfl ntmps40 (by simp) fun ok=>?_
 simp only[go_sem,seval] at ok
 repeat' first|assumption|(simp (disch:=first|assumption|omega|(simp;done)|(simp;omega)) only[go_sem,seval,yaa,qcM])|(with_reducible first|apply And.intro|intro _)|(refine qab hcv ?_)|((try rw[qaa]);omega)
 ·rename_i h9;exact absurd hc h9
 refine qao (E:=env 0) tok (σ:=Nat) (fun i=>[(0,.d (dC c)),(1,.ptr 0 0),(3,.sl 1 i 4 0 i),(13,.d (dIs c.next)),(14,.d (dI c.next.length)),(15,.d (dI i))]) (fun i=>[.box [.d (dI c.inputs),.d (dIs c.next),.d (dPs c.gates),.d (dIs c.outs)],.row i 4 true ((List.range i).map (dLat c))]) (fun i=>i<=c.next.length) (fun i=>c.next.length-i) [] [(3,4,true)] 1000 1000 ?_ ?_
 ·simp only[go_sem,seval];exact⟨0,by omega,by simp⟩
 ·intro i hi;have hrl:((List.range i).map (dLat c)).length=i:=by simp
  have hrs:(List.range (i+1)).map (dLat c)=(List.range i).map (dLat c) ++ [dLat c i]:=by rw[yaO,yaE];rfl
  by_cases hlt:i<c.next.length
  ·have hno:=hc.n _ (qac hlt:c.next.getD i 0∈c.next);unfold qaK at hno;have hld:dLat c i=if(c.next.getD i 0)/2 > 0 then dCe (qaO c i) else .agg [dI (c.inputs+1+(i:Int)),.nil,dI ((c.next.getD i 0)%2),dB true]:=rfl;have hlc:qaO c i=if(c.next.getD i 0)/2 > 0 then⟨c.inputs+1+i,[(c.next.getD i 0)/2],2-(c.next.getD i 0)%2,true⟩ else⟨c.inputs+1+i,[],(c.next.getD i 0)%2,true⟩:=rfl;generalize (List.range i).map (dLat c)=q at *
   generalize hl9:c.next.getD i 0=l at *
   have hr:=qaj (y:=2) hno.1;have e2:((l.toNat &&& 1:Nat):Int)=l%2:=by rw[Nat.and_one_is_mod];omega
   have e3:1+c.inputs+(i:Int)=c.inputs+1+(i:Int):=by omega
   simp only[go_sem,seval,hl9,e2]
   repeat' first|assumption|(simp (disch:=first|assumption|omega|(simp;done)|(simp;omega)) only[go_sem,seval,hr,hrl,hl9,e2,yaa,qcM])|(with_reducible first|apply And.intro|intro _)|((try rw[qaa]);omega)
   ·rename_i h9;refine⟨i+1,by omega,by omega,rfl,rfl,?_⟩;rw[hrs,hld,if_pos (by omega),hlc,if_pos (by omega),e3];rfl
   ·rename_i h9;refine⟨i+1,by omega,by omega,rfl,rfl,?_⟩;rw[hrs,hld,if_neg (by omega),e3]
  ·obtain rfl:i=c.next.length:=by omega
   repeat' first|assumption|(simp (disch:=first|assumption|omega|(simp;done)|(simp;omega)) only[go_sem,seval,yaa,qcM])|(with_reducible first|apply And.intro|intro _)|(refine qcN hmp ?_)|((try rw[qaa]);omega)
   generalize (List.range c.next.length).map (dLat c)=q at *
   have hlv : ∀ l∈qeu c,l.leaves.length<=3:=fun l hl=>by
    obtain⟨m,hm,rfl⟩:=hlk.each l hl;exact(qet hc hm).2.1
   generalize qeu c=luts at *
   refine qs0 1 rfl rfl ?_;simp only[go_sem,seval];refine qao (E:=env 0) tok (σ:=Nat) (fun i=>[(3,.sl 1 (c.next.length+i) 4 0 (c.next.length+i)),(44,.d (dLus luts)),(45,.d (dI luts.length)),(46,.d (dI i))]) (fun i=>[.dead 0,.row (c.next.length+i) 4 false (q++(luts.take i).map fun l=>dCe (qbE l))]) (fun i=>i<=luts.length) (fun i=>luts.length-i) [] [] 1000 1000 ?_ ?_
   ·simp only[go_sem,seval];exact⟨0,by omega,by simp⟩
   ·intro i hi;by_cases hlt:i<luts.length
    ·have hlv2:=hlv _ (qac hlt:luts.getD i lu0∈luts);have hts:(luts.take (i+1)).map (fun l=>dCe (qbE l))=(luts.take i).map (fun l=>dCe (qbE l)) ++ [dCe (qbE (luts.getD i lu0))]:=qa9 lu0 hlt;have hql:(q++(luts.take i).map fun l=>dCe (qbE l)).length=c.next.length+i:=by simp[hrl];omega
     have hqa:q++(luts.take (i+1)).map (fun l=>dCe (qbE l))=(q++(luts.take i).map fun l=>dCe (qbE l)) ++ [dCe (qbE (luts.getD i lu0))]:=by rw[hts,yaq]
     generalize hd9:luts.getD i lu0=x at *
     generalize (q++(luts.take i).map fun l=>dCe (qbE l))=q2 at *
     repeat' first|assumption|(simp (disch:=first|assumption|omega|(simp;done)|(simp;omega)) only[go_sem,seval,hd9,hql,yaa,qcM])|(with_reducible first|apply And.intro|intro _)|((try rw[qaa]);omega)
     refine⟨i+1,by omega,by omega,⟨by omega,rfl⟩,by omega,?_⟩;rw[hqa];rfl
    ·repeat' first|assumption|(simp (disch:=first|assumption|omega|(simp;done)|(simp;omega)) only[go_sem,seval,yaa,qcM])|(with_reducible first|apply And.intro|intro _)|((try rw[qaa]);omega)
theorem Tryz.c_IndexJ (l:List Int) (x:Int) (hl:l.length<=1000):PureE prog 223 [dIs l,dI x] (fun y=>∃ n:Int,y=dI n/\(0<=n↔x∈l)):=by
 refine qgf (E:=env 0) tok rfl 1000 func223 rfl rfl ntmps223 (by simp) fun ok=>?_
 simp only[go_sem,seval] at ok
 repeat' first|assumption|(simp (disch:=first|assumption|omega|(simp;done)|(simp;omega)) only[go_sem,seval,yaa,qcM])|(with_reducible first|apply And.intro|intro _)|((try rw[qaa]);omega)
 refine qay (E:=env 0) tok (σ:=Nat) (fun i=>[(8,.d (dI i)),(7,.d (dI l.length)),(6,.d (dIs l)),(0,.d (dIs l)),(1,.d (dI x))]) (fun _=>[])
  (fun i=>i<=l.length/\x∉l.take i) (fun i=>l.length-i) [] 1000 1000 ?_ ?_ ?_
 ·simp only[go_sem,seval]
 ·simp only[go_sem,seval];exact⟨0,⟨by omega,by simp⟩,rfl⟩
 ·rintro i ⟨hi,hinv⟩;by_cases hlt:i<l.length
  ·have hts:l.take (i+1)=l.take i ++ [l.getD i 0]:=by simpa using qa9 (f:=fun x:Int=>x) 0 hlt
   have hmm:=qac hlt (z:=(0:Int));generalize hz9:l.getD i 0=z at *
   repeat' first|assumption|(simp (disch:=first|assumption|omega|(simp;done)|(simp;omega)) only[go_sem,seval,hz9,yaa,qcM])|(with_reducible first|apply And.intro|intro _)|((try rw[qaa]);omega)
   ·rename_i h1;exact⟨_,rfl,_,rfl,by rw[h1];exact⟨fun _=>hmm,fun _=>by omega⟩⟩
   ·rename_i h1;refine⟨i+1,⟨by omega,?_⟩,by omega,rfl⟩;rw[hts,yas,yaz];rintro(h2|h2)
    ·exact hinv h2
    ·exact h1 h2
  ·obtain rfl:i=l.length:=by omega
   rw[yav] at hinv
   repeat' first|assumption|(simp (disch:=first|assumption|omega|(simp;done)|(simp;omega)) only[go_sem,seval,yaa,qcM])|(with_reducible first|apply And.intro|intro _)|((try rw[qaa]);omega)
   exact⟨_,rfl,_,rfl,⟨fun h=>absurd h (by decide),fun h=>absurd h hinv⟩⟩
theorem Tryz.c_ContainsJ (l:List Int) (x:Int) (hl:l.length<=1000):Pure prog 210 [dIs l,dI x] (.bool (decide (x∈l))):=by
 refine qav func210 rfl ntmps210 fun ok=>?_
 simp only[go_sem,seval] at ok⊢;refine qgc (c_IndexJ l x hl) ?_;rintro y ⟨n,rfl,hn⟩
 repeat' first|assumption|(simp (disch:=first|assumption|omega|(simp;done)|(simp;omega)) only[go_sem,seval,yaa,qcM])|(with_reducible first|apply And.intro|intro _)|((try rw[qaa]);omega)
 exact decide_eq_decide.2 hn
end Go.Proofs

set_option linter.unusedVariables false
set_option linter.unusedSimpArgs false
namespace Go.VL
def nbC (t:Int):List Int:=(if 5<=t then [t-5] else [])++(if 0<t%5 then [t-1] else [])++(if t%5<4 then [t+1] else [])++(if t<20 then [t+5] else [])
theorem qlR {t:Int}(h:0<=t/\t<=24) : ∀ n∈nbC t,(0<=n/\n<=24)/\n≠t:=by
 intro n hn;unfold nbC at hn;simp only[yas] at hn;rcases hn with((h1|h1)|h1)|h1 <;> split at h1 <;> simp at h1 <;> omega
abbrev BS:=List Int×List Int
def qiU (busy:List Bool) (q:Int) (s:BS) (n:Int):BS:=if s.1.getD n.toNat 0 = -2/\busy.getD n.toNat false=false then(s.1.set n.toNat q,s.2 ++ [n]) else s
def visitB (busy:List Bool) (s:BS) (q:Int):BS:=(nbC q).foldl (qiU busy q) s
def bfsN (busy:List Bool) (sink:Int):Nat->Nat->BS->BS
 | 0,_,s=>s
 | f+1,k,s=>if k<s.2.length/\s.1.getD sink.toNat 0 = -2 then bfsN busy sink f (k+1) (visitB busy s (s.2.getD k 0)) else s
def qhE (hops:List (Int×Int)):List Int:=hops.foldl (fun f h=>f.set h.1.toNat (-1)) (List.replicate 25 (-2))
def qak (hops:List (Int×Int)):List Int:=hops.map (·.1)
def bfsC (hops:List (Int×Int)) (sink:Int) (busy:List Bool):BS:=bfsN busy sink 26 0 (qhE hops,qak hops)
def qct (fr:List Int):Nat->Int->List (Int×Int)->List (Int×Int)
 | 0,_,acc=>acc
 | f+1,t,acc=>if 0<=fr.getD t.toNat 0 then qct fr f (fr.getD t.toNat 0) ((t,fr.getD t.toNat 0)::acc) else acc
def qa5 (busy:List Bool) (hops:List (Int×Int)) (sink:Int):Option (List (Int×Int)):=
 if sink∈qak hops then some hops
 else if(bfsC hops sink busy).1.getD sink.toNat 0 = -2 then none else some (hops++qct (bfsC hops sink busy).1 25 sink [])
def qgp (busy:List Bool) (pins:List Int):Option (List (Int×Int)):=
 if busy.getD (pins.getD 0 0).toNat false=true then none else(pins.drop 1).foldl (fun o t=>o.bind fun hops=>qa5 busy hops t) (some [(pins.getD 0 0,-1)])
def netB (pins:List Int) (busy:List (List Bool)):Nat->Nat->Option (Nat×List (Int×Int))
 | 0,_=>none
 | f+1,t=>match qgp (busy.getD t []) pins with
  | some h=>some (t,h)
  | none=>netB pins busy f (t+1)
structure Rt where
 net:Int
 track:Int
 hops:List (Int×Int)
def rt0:Rt:=⟨0,0,[]⟩
def qgq (b:List Bool) (hops:List (Int×Int)):List Bool:=hops.foldl (fun b h=>b.set h.1.toNat true) b
def takeB (busy:List (List Bool)) (t:Nat) (hops:List (Int×Int)):List (List Bool):=busy.set t (qgq (busy.getD t []) hops)
def qfG (c:Circ) (cells:List Cel) (place:List Int) (busy0:List (List Bool)):Nat->Option (List (List Bool)×List Rt)
 | 0=>some (busy0,[])
 | k+1=>
  match qfG c cells place busy0 k with
  | none=>none
  | some (busy,out)=>
   if qfz c cells place ((k:Int)+1)=[] then some (busy,out)
   else match netB (qfz c cells place ((k:Int)+1)) busy 8 0 with
    | none=>none
    | some (t,h)=>some (takeB busy t h,out ++ [⟨(k:Int)+1,(t:Int),h⟩])
def qkK:List (List Bool):=List.replicate 8 (List.replicate 25 false)
def qe5 (c:Circ) (cells:List Cel) (place:List Int) (busy0:List (List Bool)):Option (List Rt):=(qfG c cells place busy0 (c.vars.toNat-1)).map (·.2)
structure BInv (busy:List Bool) (T:List Int) (s:BS):Prop where
 len:s.1.length=25
 rng : ∀ t∈s.2,0<=t/\t<=24
 nd:s.2.Nodup
 seen : ∀ t:Int,0<=t->t<=24->(s.1.getD t.toNat 0≠-2↔t∈s.2)
 pre : ∃ r,s.2=T++r
 root : ∀ j,j<s.2.length->(s.1.getD (s.2.getD j 0).toNat 0 = -1/\s.2.getD j 0∈T)∨
  (0<=s.1.getD (s.2.getD j 0).toNat 0/\s.2.getD j 0∉T/\busy.getD (s.2.getD j 0).toNat false=false/\∃ m,m<j/\s.2.getD m 0=s.1.getD (s.2.getD j 0).toNat 0/\s.2.getD j 0∈nbC (s.1.getD (s.2.getD j 0).toNat 0))
theorem qqU {α : Type}{n i:Nat}{x z : α}(h:i<n):(List.replicate n x).getD i z=x:=by
 rw[List.getD_eq_getElem?_getD,List.getElem?_replicate,if_pos h];rfl
theorem qiV {l:List Int}{x:Int}{j:Nat}(h:j<(l ++ [x]).length):(l ++ [x]).getD j 0=if j<l.length then l.getD j 0 else x:=by
 split
 ·exact qae (by assumption)
 ·rename_i h1;have:j=l.length:=by simp at h;omega
  subst this;simp[List.getD]
theorem qcY {l:List Int}{i j:Nat}{x:Int}(h:i<l.length):(l.set i x).getD j 0=if i=j then x else l.getD j 0:=by
 split
 ·rename_i e;subst e;simp[List.getD,h]
 ·rename_i e;simp[List.getD,List.getElem?_set,e]
theorem BInv.step {busy:List Bool}{T:List Int}{s:BS}(h:BInv busy T s) {q n:Int}(hq:q∈s.2) (hn:n∈nbC q):BInv busy T (qiU busy q s n):=by
 have hq2:=h.rng q hq;have hn2:=qlR hq2 n hn;unfold qiU;split
 ·rename_i hc;have hl:=h.len;have hnq:n∉s.2:=fun h1=>(h.seen n (by omega) (by omega)).2 h1 hc.1
  obtain⟨r,hr⟩:=h.pre;have hnT:n∉T:=fun h1=>hnq (by rw[hr];exact yaC _ h1)
  have hget : ∀ t:Int,0<=t->t<=24->(s.1.set n.toNat q).getD t.toNat 0=if t=n then q else s.1.getD t.toNat 0:=by
   intro t h1 h2;rw[qcY (by omega)];by_cases e:t=n
   ·subst e;simp
   ·rw[if_neg (by omega),if_neg e]
  refine⟨by simp[hl],fun t ht=>?_,?_,fun t h1 h2=>?_,⟨r ++ [n],by simp[hr]⟩,fun j hj=>?_⟩
  ·rcases List.mem_append.1 ht with h1|h1
   ·exact h.rng t h1
   ·obtain rfl:t=n:=by simpa using h1
    exact hn2.1
  ·show(s.2 ++ [n]).Nodup
   rw[ybg];exact⟨h.nd,by simp,fun a ha b hb=>by
    obtain rfl:b=n:=by simpa using hb
    rintro rfl;exact hnq ha⟩
  ·show(s.1.set n.toNat q).getD t.toNat 0≠-2↔t∈s.2 ++ [n]
   rw[hget t h1 h2];by_cases e:t=n
   ·subst e;simp only[if_true,yas,yaz,or_true,iff_true];omega
   ·rw[if_neg e,h.seen t h1 h2];simp[e]
  ·simp only at hj ⊢;rw[qiV hj];by_cases hjl:j<s.2.length
   ·rw[if_pos hjl];have hm:=h.rng _ (qac hjl:s.2.getD j 0∈s.2);rw[hget _ hm.1 hm.2];have hne:s.2.getD j 0≠n:=fun e=>hnq (by rw[<-e];exact qac hjl)
    rw[if_neg hne];rcases h.root j hjl with h1|⟨h1,h2,h3,m,h4,h5,h6⟩
    ·exact .inl h1
    ·exact .inr ⟨h1,h2,h3,m,h4,by rw[qiV (by simp;omega),if_pos (by omega)];exact h5,h6⟩
   ·rw[if_neg hjl];have hj2:j=s.2.length:=by simp at hj;omega
    obtain⟨m,hm,he⟩:=qaE 0 hq;rw[hget n hn2.1.1 hn2.1.2,if_pos rfl];exact .inr ⟨hq2.1,hnT,hc.2,m,by omega,by rw[qiV (by simp;omega),if_pos hm];exact he,hn⟩
 ·exact h
theorem qlS {busy:List Bool}{q n:Int}{s:BS} : ∃ r,(qiU busy q s n).2=s.2++r:=by
 unfold qiU;split
 ·exact⟨[n],rfl⟩
 ·exact⟨[],by simp⟩
theorem BInv.steps {busy:List Bool}{T:List Int}{q:Int} : ∀ (l:List Int) {s:BS},BInv busy T s->q∈s.2->(∀ n∈l,n∈nbC q)->BInv busy T (l.foldl (qiU busy q) s)
 | [],s,h,_,_=>h
 | n::l,s,h,hq,hl=>by
  obtain⟨r,hr⟩:=qlS (busy:=busy) (q:=q) (n:=n) (s:=s);exact BInv.steps l (h.step hq (hl n (by simp))) (by rw[hr];exact yaC _ hq) fun m hm=>hl m (by simp[hm])
theorem BInv.visit {busy:List Bool}{T:List Int}{s:BS}(h:BInv busy T s) {q:Int}(hq:q∈s.2):BInv busy T (visitB busy s q):=h.steps _ hq fun _ hn=>hn
theorem BInv.bfs {busy:List Bool}{T:List Int}{sink:Int} : ∀ (f k:Nat) {s:BS},BInv busy T s->BInv busy T (bfsN busy sink f k s)
 | 0,k,s,h=>h
 | f+1,k,s,h=>by
  rw[bfsN];split
  ·rename_i hc;exact BInv.bfs f (k+1) (h.visit (qac hc.1))
  ·exact h
theorem BInv.qlen {busy:List Bool}{T:List Int}{s:BS}(h:BInv busy T s):s.2.length<=25:=by
 have h1:(s.2.map Int.toNat).Nodup:=by
  rw[List.nodup_iff_pairwise_ne,List.pairwise_map];refine(List.pairwise_iff_getElem.2 fun i j hi hj hij=>?_);have a:=h.rng _ (List.getElem_mem hi);have b:=h.rng _ (List.getElem_mem hj);have hne:s.2[i]≠s.2[j]:=List.pairwise_iff_getElem.1 (List.nodup_iff_pairwise_ne.1 h.nd) i j hi hj hij;omega
 have h2:s.2.map Int.toNat ⊆ List.range 25:=by
  intro x hx;obtain⟨t,ht,rfl⟩:=List.mem_map.1 hx;have:=h.rng t ht;exact List.mem_range.2 (by omega)
 have:=h1.length_le_of_subset h2;simpa using this
structure TreeOk (busy:List Bool) (hops:List (Int×Int)):Prop where
 rng : ∀ h∈hops,0<=h.1/\h.1<=24
 nd:(qak hops).Nodup
 free : ∀ h∈hops,busy.getD h.1.toNat false=false
 pos:0<hops.length
 root : ∀ j,j<hops.length->(j=0/\(hops.getD j (0,0)).2 = -1)∨(0<j/\∃ m,m<j/\(hops.getD m (0,0)).1=(hops.getD j (0,0)).2/\(hops.getD j (0,0)).1∈nbC (hops.getD j (0,0)).2)
theorem qgr {hops:List (Int×Int)}(hr : ∀ h∈hops,0<=h.1/\h.1<=24) {t:Int}(h0:0<=t) (h1:t<=24):(qhE hops).getD t.toNat 0=if t∈qak hops then -1 else -2:=by
 have key : ∀ (l:List (Int×Int)) (f:List Int),(∀ h∈l,0<=h.1/\h.1<=24)->f.length=25->(l.foldl (fun f h=>f.set h.1.toNat (-1)) f).getD t.toNat 0=if t∈qak l then -1 else f.getD t.toNat 0:=by
  intro l;induction l with
  | nil=>intro f _ _;simp[qak]
  | cons x l ih=>
   intro f hl hf;have hx:=hl x (by simp);rw[yap,ih _ (fun h hh=>hl h (by simp[hh])) (by simp[hf]),qcY (by omega)];have hm:t∈qak (x::l)↔t=x.1∨t∈qak l:=by simp[qak]
   by_cases e:t∈qak l
   ·rw[if_pos e,if_pos (hm.2 (.inr e))]
   ·rw[if_neg e];by_cases e2:t=x.1
    ·rw[if_pos (by omega),if_pos (hm.2 (.inl e2))]
    ·rw[if_neg (by omega),if_neg (fun h=>by rcases hm.1 h with h|h <;> contradiction)]
 rw[qhE,key hops _ hr (by simp)];rw[qqU (by omega)]
theorem qqV {hops:List (Int×Int)}:(qhE hops).length=25:=by
 have key : ∀ (l:List (Int×Int)) (f:List Int),(l.foldl (fun f h=>f.set h.1.toNat (-1)) f).length=f.length:=by
  intro l;induction l with
  | nil=>exact fun f=>rfl
  | cons x l ih=>intro f;rw[yap,ih,yax]
 rw[qhE,key];simp
theorem qqW {busy:List Bool}{hops:List (Int×Int)}(hr : ∀ h∈hops,0<=h.1/\h.1<=24) (hn:(qak hops).Nodup):BInv busy (qak hops) (qhE hops,qak hops):=by
 have hrt : ∀ t∈qak hops,0<=t/\t<=24:=fun t ht=>by
  obtain⟨h,hh,rfl⟩:=List.mem_map.1 ht;exact hr h hh
 refine⟨qqV,hrt,hn,fun t h0 h1=>?_,⟨[],by simp⟩,fun j hj=>?_⟩
 ·rw[qgr hr h0 h1];split <;> simp_all
 ·have hm:(qak hops).getD j 0∈qak hops:=qac hj;have:=hrt _ hm;exact .inl ⟨by rw[qgr hr this.1 this.2,if_pos hm],hm⟩
theorem qtj {busy:List Bool}{hops:List (Int×Int)}(h:TreeOk busy hops) (sink:Int):BInv busy (qak hops) (bfsC hops sink busy):=(qqW h.rng h.nd).bfs 26 0
theorem qg4 {fr:List Int} : ∀ (f:Nat) (t:Int) (acc:List (Int×Int)),qct fr f t acc=qct fr f t []++acc
 | 0,t,acc=>by simp[qct]
 | f+1,t,acc=>by
  simp only[qct];split
  ·rw[qg4 f _ ((t,_)::acc),qg4 f _ [(t,_)]];simp
  ·simp
structure ChainOk (busy:List Bool) (T:List Int) (s:BS) (t:Int) (p:Nat) (L:List (Int×Int)):Prop where
 each : ∀ h∈L,(0<=h.1/\h.1<=24)/\busy.getD h.1.toNat false=false/\h.1∉T/\h.1∈nbC h.2/\∃ m,m<=p/\s.2.getD m 0=h.1
 nd:(qak L).Nodup
 link : ∀ j,j<L.length->(j=0/\(L.getD j (0,0)).2∈T)∨(0<j/\(L.getD j (0,0)).2=(L.getD (j-1) (0,0)).1)
 last:(t∈T/\L=[])∨(t∉T/\∃ r x,L=r ++ [(t,x)])
theorem qn0 {busy:List Bool}{T:List Int}{s:BS}(h:BInv busy T s) : ∀ (f p:Nat),p<f->p<s.2.length->ChainOk busy T s (s.2.getD p 0) p (qct s.1 f (s.2.getD p 0) [])
 | 0,p,hp,_=>by omega
 | f+1,p,hp,hl=>by
  have hpm:s.2.getD p 0∈s.2:=qac hl;have hpr:=h.rng _ hpm;simp only[qct];rcases h.root p hl with⟨h1,h2⟩|⟨h1,h2,h3,m,h4,h5,h6⟩
  ·rw[if_neg (by omega)];exact⟨by simp,by simp[qak],by simp,.inl ⟨h2,rfl⟩⟩
  ·rw[if_pos h1,qg4,<-h5];have ih:=qn0 h f m (by omega) (by omega);generalize qct s.1 f (s.2.getD m 0) []=L at *
   have hndq:=qd7.1 h.nd;refine⟨fun x hx=>?_,?_,fun j hj=>?_,.inr ⟨h2,L,_,rfl⟩⟩
   ·rcases List.mem_append.1 hx with hx|hx
    ·obtain⟨a1,a2,a3,a4,k,a5,a6⟩:=ih.each x hx;exact⟨a1,a2,a3,a4,k,by omega,a6⟩
    ·obtain rfl:x=(s.2.getD p 0,s.2.getD m 0):=by simpa using hx
     exact⟨hpr,h3,h2,by simp only;rw[h5];exact h6,p,by omega,rfl⟩
   ·have e:qak (L ++ [(s.2.getD p 0,s.2.getD m 0)])=qak L ++ [s.2.getD p 0]:=by simp[qak]
    rw[e,ybg];refine⟨ih.nd,by simp,fun a ha b hb=>?_⟩;obtain rfl:b=s.2.getD p 0:=by simpa using hb
    rintro rfl;obtain⟨x,hx,hxe⟩:=List.mem_map.1 ha;obtain⟨-,-,-,-,k,a5,a6⟩:=ih.each x hx;have:=hndq k p (by omega) hl (by rw[a6,hxe]);omega
   ·have hjl:j<=L.length:=by simp at hj;omega
    by_cases hjL:j<L.length
    ·have e1:(L ++ [(s.2.getD p 0,s.2.getD m 0)]).getD j (0,0)=L.getD j (0,0):=qae hjL;have e2:(L ++ [(s.2.getD p 0,s.2.getD m 0)]).getD (j-1) (0,0)=L.getD (j-1) (0,0):=qae (by omega);rw[e1,e2];exact ih.link j hjL
    ·obtain rfl:j=L.length:=by omega
     have e1:(L ++ [(s.2.getD p 0,s.2.getD m 0)]).getD L.length (0,0)=(s.2.getD p 0,s.2.getD m 0):=by simp[List.getD]
     rw[e1];rcases ih.last with⟨b1,b2⟩|⟨b1,r,x,b2⟩
     ·exact .inl ⟨by rw[b2];rfl,b1⟩
     ·right;have hpos:0<L.length:=by rw[b2];simp
      have e2:(L ++ [(s.2.getD p 0,s.2.getD m 0)]).getD (L.length-1) (0,0)=(s.2.getD m 0,x):=by
       rw[qae (by omega),b2];simp[List.getD]
      rw[e2];exact⟨hpos,rfl⟩
theorem qex {busy:List Bool}{hops:List (Int×Int)}(h:TreeOk busy hops):hops.length<=25:=by
 have:=(qqW (busy:=busy) h.rng h.nd).qlen;simpa [qak] using this
theorem qiW {busy:List Bool}{hops:List (Int×Int)}(h:TreeOk busy hops) {sink:Int}(hs:0<=sink/\sink<=24) {hops':List (Int×Int)}(he:qa5 busy hops sink=some hops') :
  TreeOk busy hops'/\sink∈qak hops'/\∃ r,hops'=hops++r:=by
 unfold qa5 at he;split at he
 ·rename_i h1;cases he;exact⟨h,h1,[],by simp⟩
 ·rename_i h1;split at he
  ·cases he
  ·rename_i h2;cases he;have hb:=qtj h sink;generalize bfsC hops sink busy=s at *
   have hm:=(hb.seen sink hs.1 hs.2).1 h2;obtain⟨p,hp,hpe⟩:=qaE 0 hm;have hql:=hb.qlen;have hc:=qn0 hb 25 p (by omega) hp;rw[hpe] at hc;generalize qct s.1 25 sink []=L at *
   have hlast : ∃ r x,L=r ++ [(sink,x)]:=by
    rcases hc.last with⟨b1,b2⟩|⟨b1,b2⟩
    ·exact absurd b1 h1
    ·exact b2
   have hin:sink∈qak (hops++L):=by
    obtain⟨r,x,e⟩:=hlast;rw[e];simp[qak]
   refine⟨⟨fun x hx=>?_,?_,fun x hx=>?_,by have:=h.pos;simp;omega,fun j hj=>?_⟩,hin,L,rfl⟩
   ·rcases List.mem_append.1 hx with h3|h3
    ·exact h.rng x h3
    ·exact(hc.each x h3).1
   ·have e:qak (hops++L)=qak hops++qak L:=by simp[qak]
    rw[e,ybg];refine⟨h.nd,hc.nd,fun a ha b hb2=>?_⟩;rintro rfl;obtain⟨x,hx,rfl⟩:=List.mem_map.1 hb2;exact(hc.each x hx).2.2.1 ha
   ·rcases List.mem_append.1 hx with h3|h3
    ·exact h.free x h3
    ·exact(hc.each x h3).2.1
   ·by_cases hjl:j<hops.length
    ·rw[qae hjl];rcases h.root j hjl with h3|⟨h3,m,h4,h5,h6⟩
     ·exact .inl h3
     ·exact .inr ⟨h3,m,h4,by rw[qae (by omega)];exact h5,h6⟩
    ·right;have hj2:j-hops.length<L.length:=by simp at hj;omega
     have e1:(hops++L).getD j (0,0)=L.getD (j-hops.length) (0,0):=by
      simp[List.getD,List.getElem?_append_right (by omega:hops.length<=j)]
     have hmem:L.getD (j-hops.length) (0,0)∈L:=qac hj2;have hnb:=(hc.each _ hmem).2.2.2.1;refine⟨by have:=h.pos;omega,?_⟩;rw[e1];rcases hc.link _ hj2 with⟨b1,b2⟩|⟨b1,b2⟩
     ·obtain⟨x,hx,hxe⟩:=List.mem_map.1 b2;obtain⟨m,hm2,hme⟩:=qaE (0,0) hx;exact⟨m,by omega,by rw[qae hm2,hme];exact hxe,hnb⟩
     ·refine⟨j-1,by omega,?_,hnb⟩;have e2:(hops++L).getD (j-1) (0,0)=L.getD (j-hops.length-1) (0,0):=by
       simp[List.getD,List.getElem?_append_right (by omega:hops.length<=j-1),show j-1-hops.length=j-hops.length-1 by omega]
      rw[e2,b2]
theorem qkL {busy:List Bool}{pins:List Int}(hp : ∀ t∈pins,0<=t/\t<=24) (hne:pins≠[]) {hops:List (Int×Int)}(h:qgp busy pins=some hops) :
  TreeOk busy hops/\(∀ t∈pins,t∈qak hops)/\∃ r,hops=(pins.getD 0 0,-1)::r:=by
 unfold qgp at h;split at h
 ·cases h
 ·rename_i hb;have h0m:pins.getD 0 0∈pins:=qac (List.length_pos_iff.2 hne);have h0:=hp _ h0m;have base:TreeOk busy [(pins.getD 0 0,-1)]:=by
   refine⟨fun x hx=>?_,by simp[qak],fun x hx=>?_,by simp,fun j hj=>?_⟩
   ·obtain rfl:x=(pins.getD 0 0,-1):=by simpa using hx
    exact h0
   ·obtain rfl:x=(pins.getD 0 0,-1):=by simpa using hx
    simpa using hb
   ·obtain rfl:j=0:=by simpa using hj
    exact .inl ⟨rfl,rfl⟩
  have key : ∀ (l:List Int) (hs:List (Int×Int)),(∀ t∈l,0<=t/\t<=24)->TreeOk busy hs->l.foldl (fun o t=>o.bind fun hops=>qa5 busy hops t) (some hs)=some hops->TreeOk busy hops/\(∀ t∈l,t∈qak hops)/\∃ r,hops=hs++r:=by
   intro l;induction l with
   | nil=>
    intro hs _ ht he;obtain rfl:hs=hops:=by simpa using he
    exact⟨ht,by simp,[],by simp⟩
   | cons t l ih=>
    intro hs hl ht he;rw[yap] at he;simp only[ybl] at he;cases hx:qa5 busy hs t with
    | none=>
     rw[hx] at he;have hnone : ∀ (l:List Int),l.foldl (fun o t=>o.bind fun hops=>qa5 busy hops t) (none:Option (List (Int×Int)))=none:=by
      intro l;induction l with
      | nil=>rfl
      | cons a l ih2=>exact ih2
     rw[hnone] at he;cases he
    | some h2=>
     rw[hx] at he;obtain⟨a1,a2,r1,a3⟩:=qiW ht (hl t (by simp)) hx;obtain⟨b1,b2,r2,b3⟩:=ih h2 (fun z hz=>hl z (by simp[hz])) a1 he;refine⟨b1,fun z hz=>?_,r1++r2,by rw[b3,a3,yaq]⟩;rcases List.mem_cons.1 hz with rfl|h3
     ·rw[b3];simp only[qak,yaE,yas];exact .inl a2
     ·exact b2 z h3
  obtain⟨a1,a2,r,a3⟩:=key _ _ (fun t ht=>hp t (yaM ht)) base h;refine⟨a1,fun t ht=>?_,r,a3⟩;obtain⟨j,hj,rfl⟩:=qaE 0 ht;cases j with
  | zero=>rw[a3];simp[qak]
  | succ j=>
   refine a2 _ ?_;have e:(pins.drop 1).getD j 0=pins.getD (j+1) 0:=by simp[List.getD,Nat.add_comm]
   rw[<-e];exact qac (by simp;omega)
theorem qm5 {pins:List Int}{busy:List (List Bool)} : ∀ (f t:Nat) {u:Nat}{h:List (Int×Int)},netB pins busy f t=some (u,h)->t<=u/\u<t+f/\qgp (busy.getD u []) pins=some h/\∀ v,t<=v->v<u->qgp (busy.getD v []) pins=none
 | 0,t,u,h,e=>by simp[netB] at e
 | f+1,t,u,h,e=>by
  simp only[netB] at e;split at e
  ·rename_i h2 he;simp only[yab,yac] at e;obtain⟨rfl,rfl⟩:=e;exact⟨by omega,by omega,he,by omega⟩
  ·rename_i he;obtain⟨a,b,c,d⟩:=qm5 f (t+1) e;refine⟨by omega,by omega,c,fun v h1 h2=>?_⟩;by_cases hv:v=t
   ·subst hv;exact he
   ·exact d v (by omega) h2
end Go.VL
