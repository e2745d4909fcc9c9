/- Contracts, plain definitions and lemmas. Conditions: none; lemmas. -/
import Derived.Test.YteikeianenfhaaaGreatC74
import Derived.Test.YteikeianenfhaaaGreatO5
import Derived.Test.YteikeianenfhaaaGreatD3
set_option maxRecDepth 20000
set_option linter.unusedSimpArgs false
set_option linter.unusedVariables false
set_option maxHeartbeats 2000000
namespace Go.Proofs
set_option linter.defProp false
open Go Go.VL Tryz
variable {l:List Bool}{k i:Nat}{busy:List (List Bool)}{n q:Int}{c:ac}{cells:List bR}{place:List Int}
def nW (s:BS):List (D×D):=s.2.map fun t=>(dI t,dI (s.1.getD t.toNat 0))
def bx (l:List Bool):List I:=l.map fun b=>.d (.bool b)
@[go_sem] def rR {K:List R} : ∀ {l:List Bool},j4 K (bx l) (bx l)=True
 | []=>rfl
 | b::l=>by
  show(cQ K (.d (.bool b)) (.d (.bool b))/\j4 K (bx l) (bx l))=True
  rw[rR];simp only[go_sem,and_true]
@[go_sem] def Ps {m:Nat} : ∀ {l:List Bool},ly m (bx l)=True
 | []=>rfl
 | b::l=>by
  show((I.d (.bool b)).aI m/\ly m (bx l))=True
  rw[Ps];simp only[go_sem,and_true]
@[go_sem] def tz {ρ : Nat->Nat} : ∀ {l:List Bool},dW ρ (bx l)=bx l
 | []=>rfl
 | b::l=>by
  show aU ρ (.d (.bool b))::dW ρ (bx l)=_
  rw[tz];rfl
@[go_sem] def Td:(bx l).length=l.length:=by simp[bx]
def BT (h:k<l.length):(bx l).getD k .junk=.d (.bool (l.getD k false)):=ck _ _ _ _ _ h
def HK {b:Bool}:(bx l).set k (.d (.bool b))=bx (l.set k b):=by simp[bx,List.map_set]
def Dg (g:Int->D) (x:Int) : ∀ l:List Int,fX (l.map fun t=>(dI t,g t)) (dI x)=if x∈l then some (g x) else none
 | []=>rfl
 | y::l=>by
  have ih:=Dg g x l;show fX ((dI y,g y)::l.map fun t=>(dI t,g t)) _=_
  rw[Ch,x3];by_cases h:x=y
  ·subst h;simp
  ·rw[decide_eq_false h];simp only[eV,if_false,ih,jP,h,false_or]
def Eh (g:Int->D) (x:Int) (v:D) : ∀ l:List Int,x∉l->cw (l.map fun t=>(dI t,g t)) (dI x) v=(l.map fun t=>(dI t,g t)) ++ [(dI x,v)]
 | [],_=>rfl
 | y::l,hx=>by
  rw[jP,not_or] at hx;have ih:=Eh g x v l hx.2;show cw ((dI y,g y)::l.map fun t=>(dI t,g t)) _ _=_
  rw[cw,x3,decide_eq_false hx.1];simp only[eV,if_false,ih];rfl
def FO (g:Int->D) (l:List Int):jL (.int .i64) (l.map fun t=>(dI t,g t)):=by
 rw[Bc];intro e he;obtain⟨x,_,rfl⟩:=List.mem_map.1 he;exact rfl
def xg (s:BS):jL (.int .i64) (nW s):=FO (fun t=>dI (s.1.getD t.toNat 0)) s.2
def Of {busy:List Bool}{T:List Int}{s:BS}(h:cc busy T s) (hn:0<=n/\n<=24) (hm:n∉s.2):nW (s.1.set n.toNat q,s.2 ++ [n])=nW s ++ [(dI n,dI q)]:=by
 have hl:=h.len;have e : ∀ t,t∈s.2->(s.1.set n.toNat q).getD t.toNat 0=s.1.getD t.toNat 0:=fun t ht=>by
  have:=h.rng t ht;rw[rg (by omega),if_neg];intro e;have:t=n:=by omega
  subst this;exact hm ht
 unfold nW;rw[iz];congr 1
 ·exact List.map_congr_left fun t ht=>by
   show(dI t,dI ((s.1.set n.toNat q).getD t.toNat 0))=_
   rw[e t ht]
 ·show [(dI n,dI ((s.1.set n.toNat q).getD n.toNat 0))]=_
  rw[rg (by omega),if_pos rfl]
def sm (t:Int):List Int:=[gQ t,oS t,om t,oT t]
def nh (busy:List Bool) (q:Int) (s:BS) (n:Int):BS:=if n<0 then s else gL busy q s n
def E6 (hq:0<=q/\q<=24) (h:n∈sm q):n<0∨n∈dz q:=by
 simp only[sm,jP,List.not_mem_nil,or_false] at h;unfold dz gQ oS om oT at *
 simp only[fV];rcases h with h|h|h|h <;> split at h
 ·exact .inr (.inl (.inl (.inl (by simp[*]))))
 ·exact .inl (by omega)
 ·exact .inr (.inl (.inl (.inr (by simp[*]))))
 ·exact .inl (by omega)
 ·exact .inr (.inl (.inr (by simp[*])))
 ·exact .inl (by omega)
 ·exact .inr (.inr (by simp[*]))
 ·exact .inl (by omega)
def Mc (hq:0<=q/\q<=24) (busy:List Bool) (s:BS):(sm q).foldl (nh busy q) s=dh busy s q:=by
 have e : ∀ (s:BS) (n:Int) (p:Prop) [Decidable p],(p->0<=n)->nh busy q s (if p then n else -1)=(if p then [n] else []).foldl (gL busy q) s:=by
  intro s n p _ h;split
  ·rename_i hp;have:=h hp;rw[nh,if_neg (by omega)];rfl
  ·rfl
 unfold dh dz sm gQ oS om oT;simp only[mM,eO,List.foldl_nil];rw[e _ _ _ (by omega),e _ _ _ (by omega),e _ _ _ (by omega),e _ _ _ (by omega)]
def D0 {busy:List Bool}{T:List Int}{q:Int}(hq:0<=q/\q<=24) : ∀ (l:List Int) {s:BS},cc busy T s->q∈s.2->(∀ n∈l,n<0∨n∈dz q)->cc busy T (l.foldl (nh busy q) s)/\cW s (l.foldl (nh busy q) s)
 | [],s,h,_,_=>⟨h,cW.rfl s⟩
 | n::l,s,h,hm,hl=>by
  rw[eO];by_cases hn:n<0
  ·rw[nh,if_pos hn];exact D0 hq l h hm fun m hm2=>hl m (by simp[hm2])
  ·rw[nh,if_neg hn];have hnb:=(hl n (by simp)).resolve_left hn;have m1:=IT h (q:=q) (xz hq n hnb).1;obtain⟨r,hr⟩:=m1.1;obtain⟨a1,a2⟩:=D0 hq l (h.step hm hnb) (by rw[hr];exact nz _ hm) fun m hm2=>hl m (by simp[hm2])
   exact⟨a1,m1.trans a2⟩
def Tryz.wK (g:Nat) (busy:List (List Bool)) (ab:List (Int×Int)) (sink:Int) (u:Nat) (hu:u<8) (ht:bL (busy.getD u []) ab) (hs:0<=sink/\sink<=24) :
  aQ prog 211 [.ptr 0 0,.sl 1 g 2 0 ab.length,.d (dI sink),.d (dI u)] [.box (bx (eF busy)),.row g 2 true (ab.map fun x=>dP x)]
   (fun r H'=>r=.d (.tup [aO (((eo (busy.getD u []) ab sink).getD []).drop ab.length),dB (eo (busy.getD u []) ab sink).isSome])/\H'=[.box (bx (eF busy)),.row g 2 true (ab.map fun x=>dP x)]):=by
 have hhl:=ru ht;refine jp (E:=env 2) tok rfl 1000 func211 rfl rfl ntmps211 (by simp) ?_;simp only[go_sem,seval,-List.reduceReplicate]
 repeat' first|assumption|simp (disch:=first|assumption|omega|simp;try omega) only[ag];try simp only[go_sem,seval,-List.reduceReplicate]|(with_reducible first|apply aa|intro)|(try rw[ae]);omega
 refine bt (E:=env 2) tok (σ:=Nat) (fun i=>[(0,.ptr 0 0),(2,.d (dI sink)),(3,.d (dI u)),(10,.map 2),(11,.sl 3 i 1 0 i),(22,.sl 1 g 2 0 ab.length),(23,.d (dI ab.length)),(24,.d (dI i))])
  (fun i=>[.box (bx (eF busy)),.row g 2 true (ab.map fun x=>dP x),.map ((a9 (ab.take i)).map fun t=>(dI t,dI (-1))),.row i 1 true ((a9 (ab.take i)).map (D.int .i64))]) (fun i=>i<=ab.length) (fun i=>ab.length-i) [] [(11,1,true)] 1000 1000 ?_ ?_
 ·simp only[go_sem,seval,-List.reduceReplicate];exact⟨0,by omega,by simp[a9]⟩
 ·intro i hi;have hql:(a9 (ab.take i)).length=i:=by simp[a9];omega
  by_cases hit:i<ab.length
  ·have hts:a9 (ab.take (i+1))=a9 (ab.take i) ++ [(ab.getD i (0,0)).1]:=mz (0,0) hit;have hni:(ab.getD i (0,0)).1∉a9 (ab.take i):=fun hm=>by
    obtain⟨x,hx,he⟩:=List.mem_map.1 hm;obtain⟨j,hj,rfl⟩:=fO (0,0) hx;have hj2:j<i:=by simp at hj;omega
    have e:(ab.take i).getD j (0,0)=ab.getD j (0,0):=by simp[List.getD,List.getElem?_take,hj2]
    rw[e] at he;have:=Nr ht.nd (by omega) hit he;omega
   have eu:=Eh (fun _=>dI (-1)) _ (dI (-1)) _ hni;have hks:=FO (fun _=>dI (-1)) (a9 (ab.take i));have hr:=ht.rng _ (aP hit:ab.getD i (0,0)∈ab);generalize a9 (ab.take i)=q at *
   generalize hx9:ab.getD i (0,0)=x at *
   simp only[go_sem,seval,-List.reduceReplicate,hx9,eu]
   repeat' first|assumption|simp (disch:=first|assumption|omega|simp;try omega) only[ag];try simp only[go_sem,seval,-List.reduceReplicate,hx9,eu,hql]|(with_reducible first|apply aa|intro)|(try rw[ae]);omega
   refine⟨i+1,by omega,by omega,rfl,?_⟩;rw[hts];simp
  ·obtain rfl:i=ab.length:=by omega
   rw[iA];have e0:((a9 ab).map fun t=>(dI t,dI (-1)))=nW (co ab):=by
    refine List.map_congr_left fun t ht2=>?_
    obtain⟨x,hx,rfl⟩:=List.mem_map.1 ht2;have:=ht.rng x hx;show _=(dI x.1,dI ((m7 ab).getD x.1.toNat 0))
    rw[Bo ht.rng this.1 this.2,if_pos ht2]
   rw[e0];simp only[go_sem,seval,-List.reduceReplicate]
   repeat' first|assumption|simp (disch:=first|assumption|omega|simp;try omega) only[ag];try simp only[go_sem,seval,-List.reduceReplicate]|(with_reducible first|apply aa|intro)|(try rw[ae]);omega
   have hinv : ∀ k,(∀ j,j<k->j<(bm (busy.getD u []) (co ab) j).2.length)->cc (busy.getD u []) (a9 ab) (bm (busy.getD u []) (co ab) k):=fun k=>wh (xT ht.rng ht.nd) k
   refine bt (E:=env 2) tok (σ:=Nat) (fun k=>[(0,.ptr 0 0),(2,.d (dI sink)),(3,.d (dI u)),(10,.map 2),(11,.sl 3 (bm (busy.getD u []) (co ab) k).2.length 1 0 (bm (busy.getD u []) (co ab) k).2.length),(14,.d (dI k))])
    (fun k=>[.box (bx (eF busy)),.row g 2 true (ab.map fun x=>dP x),.map (nW (bm (busy.getD u []) (co ab) k)),.row (bm (busy.getD u []) (co ab) k).2.length 1 true ((bm (busy.getD u []) (co ab) k).2.map (D.int .i64))]) (fun k=>k<=(bm (busy.getD u []) (co ab) k).2.length/\(∀ j,j<k->j<(bm (busy.getD u []) (co ab) j).2.length)/\∀ j,j<k->(bm (busy.getD u []) (co ab) k).2.getD j 0≠sink) (fun k=>26-k) [] [] 1000 1000 ?_ ?_
   ·simp only[go_sem,seval,-List.reduceReplicate];refine⟨0,⟨by omega,by omega,by omega⟩,?_⟩;have:(a9 ab).length=ab.length:=by simp[a9]
    simp[bm,co,this]
   ·rintro k ⟨hk,hj,hne⟩;have hbi:=hinv k hj;have hql:=hbi.mV;have hxn:=LK ht hs hj;have hxs:=Nw ht hs hj;have hvs:bm (busy.getD u []) (co ab) (k+1)=dh (busy.getD u []) (bm (busy.getD u []) (co ab) k) ((bm (busy.getD u []) (co ab) k).2.getD k 0):=rfl;generalize hS:bm (busy.getD u []) (co ab) k=S at *
    obtain⟨fr,qu⟩:=S;simp only at hk hne hql hxn hxs hvs;by_cases hlt:k<qu.length
    ·have hqm:=aP hlt (z:=(0:Int));have hqr:=hbi.rng _ hqm;by_cases heq:qu.getD k 0=sink
     ·have hx:=hxs hlt heq;rw[hx];simp only[go_sem,seval,-List.reduceReplicate,heq]
      repeat' first|assumption|simp (disch:=first|assumption|omega|simp;try omega) only[ag];try simp only[go_sem,seval,-List.reduceReplicate,heq]|(with_reducible first|apply aa|intro)|(try rw[ae]);omega
      have hfE : ∀ x,x∈qu->fX (nW (fr,qu)) (dI x)=some (dI (fr.getD x.toNat 0)):=fun x hx=>by rw[nW,Dg,if_pos hx]
      clear hx hxs hxn hvs;refine bt (E:=env 2) tok (σ:=Nat×Nat×List (Int×Int)) (fun s=>[(10,.map 2),(15,.d (aO s.2.2)),(16,.d (dI (qu.getD s.2.1 0)))]) (fun s=>[.box (bx (eF busy)),.row g 2 true (ab.map fun x=>dP x),.map (nW (fr,qu))])
       (fun s=>s.2.1<s.1/\s.2.1<qu.length/\s.1+s.2.2.length<=25/\ii fr s.1 (qu.getD s.2.1 0) s.2.2=ii fr 25 sink []) (fun s=>s.1) [] [] 1000 1000 ?_ ?_
      ·simp only[go_sem,seval,-List.reduceReplicate];refine⟨(25,k,[]),⟨by simp only;omega,hlt,by simp,by rw[heq]⟩,?_⟩;simp only[List.map_nil,true_and,and_true];exact heq.symm
      ·rintro⟨f,p,acc⟩ ⟨hpf,hpq,hfa,hch⟩;simp only at hpf hpq hfa hch;have hpm0:=aP hpq (z:=(0:Int));have hpm:=hbi.rng _ hpm0;have hroot:=hbi.root p hpq;have hff:=hfE _ hpm0;simp only at hroot;obtain⟨f',rfl⟩ : ∃ f',f=f'+1:=⟨f-1,by omega⟩;have hcs:ii fr (f'+1) (qu.getD p 0) acc=if 0<=fr.getD (qu.getD p 0).toNat 0 then ii fr f' (fr.getD (qu.getD p 0).toNat 0) ((qu.getD p 0,fr.getD (qu.getD p 0).toNat 0)::acc) else acc:=rfl
       rw[hcs] at hch;by_cases hge:0<=fr.getD (qu.getD p 0).toNat 0
       ·rw[if_pos hge] at hch;obtain⟨m,hm1,hm2⟩ : ∃ m,m<p/\qu.getD m 0=fr.getD (qu.getD p 0).toNat 0:=by
         rcases hroot with⟨h1,-⟩|⟨-,-,-,m,h4,h5,-⟩
         ·omega
         ·exact⟨m,h4,h5⟩
        generalize qu.getD p 0=tt at *
        generalize hv9:fr.getD tt.toNat 0=v at *
        simp only[go_sem,seval,-List.reduceReplicate,hv9,hff,i9]
        repeat' first|assumption|simp (disch:=first|assumption|omega|simp;try omega) only[ag];try simp only[go_sem,seval,-List.reduceReplicate,hv9,hff,i9]|(with_reducible first|apply aa|intro)|(try rw[ae]);omega
        all_goals first|exact xg _|skip
        refine⟨(f',m,(tt,v)::acc),⟨by simp only;omega,by simp only;omega,by simp only[cU];omega,by simp only;rw[hm2];exact hch⟩,by simp only;omega,?_⟩;exact⟨rfl,hm2.symm⟩
       ·rw[if_neg hge] at hch;generalize qu.getD p 0=tt at *
        simp only[go_sem,seval,-List.reduceReplicate,hff,i9]
        repeat' first|assumption|simp (disch:=first|assumption|omega|simp;try omega) only[ag];try simp only[go_sem,seval,-List.reduceReplicate,hff,i9]|(with_reducible first|apply aa|intro)|(try rw[ae]);omega
        all_goals first|exact xg _|skip
        rw[<-hch,List.drop_left];refine pr (r0:=.d (.tup [aO acc,dB true])) (H1:=[.box (bx (eF busy)),.row g 2 true (ab.map fun x=>dP x)]) ?_ ⟨rfl,rfl⟩;simp only[go_sem,seval,-List.reduceReplicate]
     ·have hnb:=ew (qu.getD k 0) hqr;generalize hq9:qu.getD k 0=q at *
      simp only[go_sem,seval,-List.reduceReplicate,hq9]
      repeat' first|assumption|simp (disch:=first|assumption|omega|simp;try omega) only[ag];try simp only[go_sem,seval,-List.reduceReplicate,hq9]|(with_reducible first|apply aa|intro)|(refine aA hnb ?_;simp only[go_sem,seval,-List.reduceReplicate,hq9])|(try rw[ae]);omega
      have hfold:=Mc hqr (busy.getD u []) (fr,qu);have hsx:=fun i=>D0 (busy:=busy.getD u []) hqr ((sm q).take i) hbi hqm fun n hn=>E6 hqr (jX hn)
      have hgn:(D.agg [dI (gQ q),dI (oS q),dI (om q),dI (oT q)])=.agg ((sm q).map fun x=>dI x):=rfl;have hnl:(sm q).length=4:=rfl;rw[hgn];generalize hnb4:sm q=N at *
      refine bt (E:=env 2) tok (σ:=Nat) (fun i=>[(0,.ptr 0 0),(2,.d (dI sink)),(3,.d (dI u)),(10,.map 2),(11,.sl 3 ((N.take i).foldl (nh (busy.getD u []) q) (fr,qu)).2.length 1 0 ((N.take i).foldl (nh (busy.getD u []) q) (fr,qu)).2.length),(14,.d (dI k)),(70,.d (.agg (N.map fun x=>dI x))),(71,.d (dI i))])
       (fun i=>[.box (bx (eF busy)),.row g 2 true (ab.map fun x=>dP x),.map (nW ((N.take i).foldl (nh (busy.getD u []) q) (fr,qu))),.row ((N.take i).foldl (nh (busy.getD u []) q) (fr,qu)).2.length 1 true (((N.take i).foldl (nh (busy.getD u []) q) (fr,qu)).2.map (D.int .i64))]) (fun i=>i<=4) (fun i=>4-i) [] [] 1000 1000 ?_ ?_
      ·simp only[go_sem,seval,-List.reduceReplicate];exact⟨0,by omega,by simp⟩
      ·intro i hi;obtain⟨hSi,hSm⟩:=hsx i;obtain⟨⟨r,hr⟩,hSm2⟩:=hSm;by_cases hit:i<4
       ·have hfs:=gI (f:=nh (busy.getD u []) q) (b:=(fr,qu)) (0:Int) (by omega:i<N.length);have hnm:=E6 hqr (by rw[hnb4];exact aP (by omega):N.getD i 0∈sm q);have hnr:=fun h=>xz hqr (N.getD i 0) h
        generalize hS2:(N.take i).foldl (nh (busy.getD u []) q) (fr,qu)=S at *
        obtain⟨f2,q2⟩:=S;have hq2l:=hSi.mV;simp only at hr hq2l;have hk3:k<q2.length:=by rw[hr];simp;omega
        have hqk:q2.getD k 0=q:=by rw[hr,cZ hlt];exact hq9
        generalize hn9:N.getD i 0=n at *
        have hN:(N.map fun x=>dI x).getD i D.nil=dI n:=by rw[<-hn9];simp[List.getD,show i<N.length by omega]
        have hlook : ∀ x,fX (nW (f2,q2)) (dI x)=if x∈q2 then some (dI (f2.getD x.toNat 0)) else none:=fun x=>by rw[nW,Dg]
        have hse:nh (busy.getD u []) q (f2,q2) n=if n<0 then(f2,q2) else if f2.getD n.toNat 0 = -2/\(busy.getD u []).getD n.toNat false=false then(f2.set n.toNat q,q2 ++ [n]) else(f2,q2):=rfl
        have hlkn:=hlook n;rw[hse] at hfs;by_cases hneg:n<0
        ·rw[if_pos hneg] at hfs;have hd:decide (n<0)=true:=decide_eq_true hneg;have hbx:(bx (eF busy)).getD (n.toNat*8+u) I.junk=.d (.bool ((eF busy).getD u false)):=by
          have e0:n.toNat*8+u=u:=by omega
          rw[e0,BT (by rw[m4];omega)]
         simp only[go_sem,seval,-List.reduceReplicate,hqk,hN,jn,hd,hbx,hlkn]
         repeat' first|assumption|simp (disch:=first|assumption|omega|simp;try omega) only[ag];try simp only[go_sem,seval,-List.reduceReplicate,hqk,hN,jn,hd,hbx,hlkn]|(with_reducible first|apply aa|intro)|(try rw[ae]);omega
         all_goals first|exact xg _|skip
         refine⟨i+1,by omega,by omega,?_⟩;rw[hfs];exact⟨⟨rfl,rfl⟩,rfl,rfl,rfl⟩
        ·rw[if_neg hneg] at hfs;have hnb2:=hnm.resolve_left hneg;have hn2:=(hnr hnb2).1;have hbx:(bx (eF busy)).getD (n.toNat*8+u) I.junk=.d (.bool ((busy.getD u []).getD n.toNat false)):=by
          rw[BT (by rw[m4];omega),FK (by omega) hu]
         have hd:decide (n<0)=false:=decide_eq_false hneg;have hseen:=hSi.seen n hn2.1 hn2.2;simp only at hseen;by_cases hb:(busy.getD u []).getD n.toNat false=true
         ·rw[if_neg (by rw[hb];simp)] at hfs;rw[hb] at hbx;simp only[go_sem,seval,-List.reduceReplicate,hqk,hN,jn,hd,hbx,m4]
          repeat' first|assumption|simp (disch:=first|assumption|omega|simp;try omega) only[ag];try simp only[go_sem,seval,-List.reduceReplicate,hqk,hN,jn,hd,hbx,m4]|(with_reducible first|apply aa|intro)|(try rw[ae]);omega
          all_goals first|exact xg _|skip
          refine⟨i+1,by omega,by omega,?_⟩;rw[hfs];exact⟨⟨rfl,rfl⟩,rfl,rfl,rfl⟩
         ·have hb2:(busy.getD u []).getD n.toNat false=false:=by simpa using hb
          rw[hb2] at hbx;by_cases hm:n∈q2
          ·rw[if_pos hm] at hlkn;rw[if_neg (fun h=>hseen.2 hm h.1)] at hfs;simp only[go_sem,seval,-List.reduceReplicate,hqk,hN,jn,hd,hbx,m4,hlkn]
           repeat' first|assumption|simp (disch:=first|assumption|omega|simp;try omega) only[ag];try simp only[go_sem,seval,-List.reduceReplicate,hqk,hN,jn,hd,hbx,m4,hlkn]|(with_reducible first|apply aa|intro)|(try rw[ae]);omega
           all_goals first|exact xg _|skip
           refine⟨i+1,by omega,by omega,?_⟩;rw[hfs];exact⟨⟨rfl,rfl⟩,rfl,rfl,rfl⟩
          ·rw[if_neg hm] at hlkn;rw[if_pos ⟨Decidable.byContradiction fun h=>hm (hseen.1 h),hb2⟩] at hfs;have hpush:=Of hSi (q:=q) hn2 hm;have hupd:cw (nW (f2,q2)) (dI n) (dI q)=nW (f2,q2) ++ [(dI n,dI q)]:=Eh (fun t=>dI (f2.getD t.toNat 0)) n (dI q) q2 hm;simp only[go_sem,seval,-List.reduceReplicate,hqk,hN,jn,hd,hbx,m4,hlkn,hupd]
           repeat' first|assumption|simp (disch:=first|assumption|omega|simp;try omega) only[ag];try simp only[go_sem,seval,-List.reduceReplicate,hqk,hN,jn,hd,hbx,m4,hlkn,hupd]|(with_reducible first|apply aa|intro)|(try rw[ae]);omega
           all_goals first|exact xg _|skip
           refine⟨i+1,by omega,by omega,?_⟩;rw[hfs,hpush];exact⟨⟨by simp,rfl⟩,rfl,by simp,rfl⟩
       ·obtain rfl:i=4:=by omega
        have e:N.take 4=N:=ag (by omega);rw[e,hfold,<-hvs];rw[e,hfold,<-hvs] at hr;simp only at hr;simp only[go_sem,seval,-List.reduceReplicate]
        repeat' first|assumption|simp (disch:=first|assumption|omega|simp;try omega) only[ag];try simp only[go_sem,seval,-List.reduceReplicate]|(with_reducible first|apply aa|intro)|(try rw[ae]);omega
        refine⟨k+1,⟨by rw[hr];simp;omega,fun j hj2=>?_,fun j hj2 he=>?_⟩,by omega,⟨rfl,rfl⟩,rfl,rfl,rfl⟩
        ·by_cases e:j=k
         ·subst e;rw[hS];exact hlt
         ·exact hj j (by omega)
        ·rw[hr] at he;by_cases e:j=k
         ·subst e;rw[cZ hlt,hq9] at he;exact heq he
         ·rw[cZ (by omega)] at he;exact hne j (by omega) he
    ·have hke:k=qu.length:=by omega
     have hx:=hxn hke (fun hm=>by
      obtain⟨j,hj2,he⟩:=fO 0 hm;exact hne j (by omega) he)
     rw[hx];simp only[go_sem,seval,-List.reduceReplicate]
     repeat' first|assumption|simp (disch:=first|assumption|omega|simp;try omega) only[ag];try simp only[go_sem,seval,-List.reduceReplicate]|(with_reducible first|apply aa|intro)|(try rw[ae]);omega
     refine pr (r0:=.d (.tup [aO [],dB false])) (H1:=[.box (bx (eF busy)),.row g 2 true (ab.map fun x=>dP x)]) ?_ ⟨rfl,rfl⟩;simp only[go_sem,seval,-List.reduceReplicate]

def LX (busy:List (List Bool)) (o:Option (List (Int×Int))) (r:I) (H':List R):Prop:=
 match o with
 | none=>r=.tup [.d .nil,.d (dB false)]/\H'=[.box (bx (eF busy))]
 | some h=>∃ g,r=.tup [.sl 1 g 2 0 h.length,.d (dB true)]/\H'=[.box (bx (eF busy)),.row g 2 true (h.map fun x=>dP x)]
def Tryz.wF (busy:List (List Bool)) (tiles:List Int) (u:Nat) (hu:u<8) (hne:tiles≠[]) (hr : ∀ t∈tiles,0<=t/\t<=24) (htl:tiles.length<=1000) :
  aQ prog 188 [.ptr 0 0,.d (ai tiles),.d (dI u)] [.box (bx (eF busy))] (LX busy (kT (busy.getD u []) tiles)):=by
 obtain⟨t0,l,rfl⟩ : ∃ t0 l,tiles=t0::l:=by
  cases tiles with
  | nil=>exact absurd rfl hne
  | cons t0 l=>exact⟨t0,l,rfl⟩
 have h0:=hr t0 (by simp);have hl:l.length<=1000:=by simp at htl;omega
 have hT:kT (busy.getD u []) (t0::l)=if(busy.getD u []).getD t0.toNat false=true then none else l.foldl (fun o t=>o.bind fun ab=>eo (busy.getD u []) ab t) (some [(t0,-1)]):=rfl;have hbx:(bx (eF busy)).getD (t0.toNat*8+u) I.junk=.d (.bool ((busy.getD u []).getD t0.toNat false)):=by
  rw[BT (by rw[m4];omega),FK (by omega) hu]
 rw[hT];refine jp (E:=env 1) tok rfl 1000 func188 rfl rfl ntmps188 (by simp) ?_
 repeat' first|assumption|simp (disch:=first|assumption|omega|simp;try omega) only[go_sem,seval,hbx,jn,m4,ag]|(with_reducible first|apply aa|intro)|exact ah|(try rw[ae]);omega
 ·rename_i hb;rw[if_pos hb];exact tE ⟨rfl,rfl⟩
 rename_i hb;rw[if_neg (by rw[hb];simp)];have base:bL (busy.getD u []) [(t0,-1)]:=by
  refine⟨fun x hx=>?_,by simp[a9],fun x hx=>?_,by simp,fun j hj=>?_⟩
  ·obtain rfl:x=(t0,-1):=by simpa using hx
   exact h0
  ·obtain rfl:x=(t0,-1):=by simpa using hx
   simpa using hb
  ·obtain rfl:j=0:=by simpa using hj
   exact .inl ⟨rfl,rfl⟩
 have hrl : ∀ t∈l,0<=t/\t<=24:=fun t ht=>hr t (by simp[ht])
 refine bt (E:=env 1) tok (σ:=Nat×Nat×List (Int×Int)) (fun s=>[(0,.ptr 0 0),(2,.d (dI u)),(8,.sl 1 s.2.1 2 0 s.2.2.length),(29,.d (ai l)),(30,.d (dI l.length)),(31,.d (dI s.1))])
  (fun s=>[.box (bx (eF busy)),.row s.2.1 2 true (s.2.2.map fun x=>dP x)]) (fun s=>s.1<=l.length/\bL (busy.getD u []) s.2.2/\(l.take s.1).foldl (fun o t=>o.bind fun ab=>eo (busy.getD u []) ab t) (some [(t0,-1)])=some s.2.2) (fun s=>l.length-s.1) [] [] 1000 1000 ?_ ?_
 ·simp only[go_sem,seval];exact⟨(0,0,[(t0,-1)]),⟨by simp,base,by simp⟩,by simp⟩
 ·rintro⟨i,g,ab⟩ ⟨hi,ht,hf⟩;simp only at hi ht hf;have hhl:=ru ht;by_cases hlt:i<l.length
  ·have hfs:=gI (f:=fun(o:Option (List (Int×Int))) (t:Int)=>o.bind fun ab=>eo (busy.getD u []) ab t) (b:=some [(t0,-1)]) (0:Int) hlt;rw[hf,tw] at hfs;have htr:=hrl _ (aP hlt:l.getD i 0∈l);generalize hx9:l.getD i 0=x at *
   have hpa:=wK g busy ab x u hu ht htr;have hdrop:l.foldl (fun o t=>o.bind fun ab=>eo (busy.getD u []) ab t) (some [(t0,-1)])=(l.drop (i+1)).foldl (fun o t=>o.bind fun ab=>eo (busy.getD u []) ab t) (eo (busy.getD u []) ab x):=by
    conv=>lhs;rw[<-x9 (i+1) l]
    rw[mM,hfs]
   repeat' first|assumption|simp (disch:=first|assumption|omega|simp;try omega) only[go_sem,seval,hx9,ag]|(with_reducible first|apply aa|intro)|exact ah|(try rw[ae]);omega
   refine iu hpa [0,1] (by simp only[go_sem,seval]) ?_;rintro r0 H1 ⟨rfl,rfl⟩;cases hex:eo (busy.getD u []) ab x with
   | none=>
    rw[hex,AT] at hdrop;rw[hdrop]
    repeat' first|assumption|simp (disch:=first|assumption|omega|simp;try omega) only[go_sem,seval,ag]|(with_reducible first|apply aa|intro)|exact ah|(try rw[ae]);omega
    refine pr (r0:=.tup [.d .nil,.d (dB false)]) (H1:=[.box (bx (eF busy))]) ?_ ⟨rfl,rfl⟩;simp only[go_sem,seval]
   | some h2=>
    obtain⟨a1,a2,r1,a3⟩:=Bs ht htr hex;have hl2:=ru a1;rw[hex] at hfs;subst a3
    repeat' first|assumption|simp (disch:=first|assumption|omega|simp;try omega) only[go_sem,seval,i9,List.drop_left,ag]|(with_reducible first|apply aa|intro)|exact ah|(try rw[ae]);omega
    ·have hll:(ab++r1).length=ab.length+r1.length:=cr ..;omega
    ·refine⟨(i+1,g+1,ab++r1),⟨by simp only;omega,a1,hfs⟩,by simp only;omega,⟨⟨rfl,by simp⟩,rfl⟩,rfl,rfl⟩
  ·obtain rfl:i=l.length:=by omega
   rw[iA] at hf;rw[hf]
   repeat' first|assumption|simp (disch:=first|assumption|omega|simp;try omega) only[go_sem,seval,ag]|(with_reducible first|apply aa|intro)|exact ah|(try rw[ae]);omega
   exact tE ⟨_,rfl,rfl⟩

def Hy {α β : Type}{f : β->α->Option β} : ∀ (l:List α),l.foldl (fun o t=>o.bind fun h=>f h t) (none:Option β)=none
 | []=>rfl
 | x::l=>Hy l
def Tryz.q7 (g:Nat) (pins:List Int) (busy:List Bool) (hb:busy.length=25) (hp : ∀ t∈pins,0<=t/\t<=24) (hne:pins≠[]) (hpl:pins.length<=1000) :
  aQ prog 195 [.d (ai pins),.sl 0 g 1 0 25] [.row g 1 true (busy.map D.bool)] (fun r H'=>r=.d (.tup [aO ((kT busy pins).getD []),dB (kT busy pins).isSome])/\H'=[.row g 1 true (busy.map D.bool)]):=by
 obtain⟨p0,rest,rfl⟩ : ∃ p0 rest,pins=p0::rest:=by
  cases pins with
  | nil=>exact absurd rfl hne
  | cons a l=>exact⟨a,l,rfl⟩
 have hp0:=hp p0 (by simp);have htd:kT busy (p0::rest)=if busy.getD p0.toNat false=true then none else rest.foldl (fun o t=>o.bind fun ab=>eo busy ab t) (some [(p0,-1)]):=rfl
 have hg0:(p0::rest).getD 0 0=p0:=rfl;by_cases hbz:busy.getD p0.toNat false=true
 ·rw[if_pos hbz] at htd;rw[htd];refine jp (E:=env 1) tok rfl 1000 func195 rfl rfl ntmps195 (by simp) ?_
  repeat' first|assumption|simp (disch:=first|assumption|omega|simp;try omega) only[go_sem,seval,hg0,hbz,cV,ag,cV]|(with_reducible first|apply aa|intro)|(try rw[ae]);omega
  refine rh (by simp) (by simp only[go_sem,seval]) ?_;simp only[go_sem,seval];rfl
 ·rw[if_neg hbz] at htd;rw[Bool.not_eq_true] at hbz;have base:bL busy [(p0,-1)]:=by
   refine⟨fun x hx=>?_,by simp[a9],fun x hx=>?_,by simp,fun j hj=>?_⟩
   ·obtain rfl:x=(p0,-1):=by simpa using hx
    exact hp0
   ·obtain rfl:x=(p0,-1):=by simpa using hx
    exact hbz
   ·obtain rfl:j=0:=by simpa using hj
    exact .inl ⟨rfl,rfl⟩
  refine jp (E:=env 1) tok rfl 1000 func195 rfl rfl ntmps195 (by simp) ?_
  repeat' first|assumption|simp (disch:=first|assumption|omega|simp;try omega) only[go_sem,seval,hg0,hbz,cV,ag,cV]|(with_reducible first|apply aa|intro)|(try rw[ae]);omega
  rw[htd];generalize hP9:p0::rest=P at *
  have hPl:P.length=rest.length+1:=by rw[<-hP9];rfl
  have hPg : ∀ m,P.getD (m+1) 0=rest.getD m 0:=fun m=>by rw[<-hP9];rfl
  refine bt (E:=env 1) tok (σ:=Nat×List (Int×Int)) (fun s=>[(0,.d (ai P)),(1,.sl 0 g 1 0 25),(6,.d (aO s.2)),(7,.d (dI ((s.1+1:Nat):Int)))]) (fun s=>[.row g 1 true (busy.map D.bool)])
   (fun s=>s.1<=rest.length/\bL busy s.2/\(rest.take s.1).foldl (fun o t=>o.bind fun ab=>eo busy ab t) (some [(p0,-1)])=some s.2) (fun s=>rest.length-s.1) [] [] 1000 1000 ?_ ?_
  ·simp only[go_sem,seval];exact⟨(0,[(p0,-1)]),⟨by simp,base,rfl⟩,by simp⟩
  ·rintro⟨m,ab⟩ ⟨hm,hT,hfo⟩;simp only at hm hT hfo;by_cases hmt:m<rest.length
   ·have hrm:rest.getD m 0∈rest:=aP hmt;have hrr:=hp _ (by rw[<-hP9];exact fP _ hrm);have hpa:=qF g ab (rest.getD m 0) busy hb hT hrr;have hfs:=gI (f:=fun(o:Option (List (Int×Int))) (t:Int)=>o.bind fun ab=>eo busy ab t) (b:=some [(p0,-1)]) (0:Int) hmt;rw[hfo] at hfs;simp only[tw] at hfs;have hex:=@Bs busy ab hT (rest.getD m 0) hrr;have hsplit:rest.foldl (fun o t=>o.bind fun ab=>eo busy ab t) (some [(p0,-1)])=(rest.drop (m+1)).foldl (fun o t=>o.bind fun ab=>eo busy ab t) ((rest.take (m+1)).foldl (fun o t=>o.bind fun ab=>eo busy ab t) (some [(p0,-1)])):=by
     rw[<-mM,x9]
    have hPm:=hPg m;generalize rest.getD m 0=x at *
    cases he:eo busy ab x with
    | none=>
     rw[he] at hpa hfs;rw[hsplit,hfs,Hy]
     repeat' first|assumption|simp (disch:=first|assumption|omega|simp;try omega) only[go_sem,seval,hPm,hPl,cV,ag,cV]|(with_reducible first|apply aa|intro)|(try rw[ae]);omega
     refine iu hpa [0] (by simp only[go_sem,seval]) ?_;rintro r0 H1 ⟨rfl,rfl⟩
     repeat' first|assumption|simp (disch:=first|assumption|omega|simp;try omega) only[go_sem,seval,hPm,hPl,cV,ag,cV]|(with_reducible first|apply aa|intro)|(try rw[ae]);omega
     refine rh (by simp) (by simp only[go_sem,seval]) ?_;simp only[go_sem,seval];rfl
    | some h2=>
     rw[he] at hpa hfs;obtain⟨q1,-,-⟩:=hex he
     repeat' first|assumption|simp (disch:=first|assumption|omega|simp;try omega) only[go_sem,seval,hPm,hPl,cV,ag,cV]|(with_reducible first|apply aa|intro)|(try rw[ae]);omega
     refine iu hpa [0] (by simp only[go_sem,seval]) ?_;rintro r0 H1 ⟨rfl,rfl⟩
     repeat' first|assumption|simp (disch:=first|assumption|omega|simp;try omega) only[go_sem,seval,hPm,hPl,cV,ag,cV]|(with_reducible first|apply aa|intro)|(try rw[ae]);omega
     exact⟨(m+1,h2),⟨by simp only;omega,q1,hfs⟩,by simp only;omega,rfl,rfl⟩
   ·rw[show rest.take m=rest from ag (by omega)] at hfo;rw[hfo]
    repeat' first|assumption|simp (disch:=first|assumption|omega|simp;try omega) only[go_sem,seval,hPl,cV,ag,cV]|(with_reducible first|apply aa|intro)|(try rw[ae]);omega
    refine rh (by simp) (by simp only[go_sem,seval]) ?_;simp only[go_sem,seval]
def te (net:Int):Option (Nat×List (Int×Int))->D
 | some (t,h)=>wN ⟨net,(t:Int),h⟩
 | none=>.agg [dI 0,dI 0,.nil]
def fZ {α : Type}{l:List α}{z : α}(h:i<l.length):l.set i (l.getD i z)=l:=by
 refine sq (by simp) fun j h1 h2=>?_
 rw[List.getElem_set];split
 ·rename_i e;subst e;simp[List.getD,h]
 ·rfl
def Tryz.tv (g:Nat) (net:Int) (pins:List Int) (busy:List (List Bool)) (hb:da busy) (hp : ∀ t∈pins,0<=t/\t<=24) (hne:pins≠[]) (hpl:pins.length<=1000) :
  aQ prog 141 [.d (dI net),.d (ai pins),.sl 0 g 1 0 8] [.row g 1 true (busy.map fun x=>eZ x)] (fun r H'=>r=.d (.tup [te net (cC pins busy 8 0),dB (cC pins busy 8 0).isSome])/\H'=[.row g 1 true (busy.map fun x=>eZ x)]):=by
 have hl:=hb.len;refine jp (E:=env 1) tok rfl 1000 func141 rfl rfl ntmps141 (by simp) ?_
 repeat' first|assumption|simp (disch:=first|assumption|omega|simp;try omega) only[go_sem,seval,cV,ag,cV]|(with_reducible first|apply aa|intro)|(try rw[ae]);omega
 refine bt (E:=env 1) tok (σ:=Nat) (fun t=>[(0,.d (dI net)),(1,.d (ai pins)),(2,.sl 0 g 1 0 8),(6,.ptr 1 0),(7,.d (dB false)),(8,.d (dI t))]) (fun s=>[.row g 1 true (busy.map fun x=>eZ x),.box [.d (dI 0),.d (dI 0),.d .nil]]) (fun t=>t<=8/\cC pins busy (8-t) t=cC pins busy 8 0) (fun t=>8-t) [] [] 1000 1000 ?_ ?_
 ·simp only[go_sem,seval];exact⟨0,⟨by omega,rfl⟩,rfl⟩
 ·rintro t ⟨ht,hn⟩;by_cases htt:t<8
  ·have hrl:=hb.row t htt;have htr:=q7 1 pins (busy.getD t []) (hb.row t htt) hp hne hpl;have hst:cC pins busy (8-t) t=match kT (busy.getD t []) pins with|some h=>some (t,h)|none=>cC pins busy (8-(t+1)) (t+1):=by
    rw[show 8-t=(8-(t+1))+1 by omega];rfl
   rw[hn] at hst;cases he:kT (busy.getD t []) pins with
   | none=>
    rw[he] at hst htr;simp only at hst;simp only[go_sem,seval]
    repeat' first|assumption|simp (disch:=first|assumption|omega|simp;try omega) only[go_sem,seval,hrl,cV,ag,cV]|(with_reducible first|apply aa|intro)|(try rw[ae]);omega
    refine iu htr [2] (by simp only[go_sem,seval]) ?_;rintro r0 H1 ⟨rfl,rfl⟩
    repeat' first|assumption|simp (disch:=first|assumption|omega|simp;try omega) only[go_sem,seval,hrl,cV,ag,cV]|(with_reducible first|apply aa|intro)|(try rw[ae]);omega
    refine⟨t+1,⟨by omega,hst.symm⟩,by omega,rfl,?_⟩;exact(C3 (f:=fun x=>eZ x)).trans (by rw[fZ (by omega)])
   | some h=>
    rw[he] at hst htr;simp only at hst;rw[hst];simp only[go_sem,seval]
    repeat' first|assumption|simp (disch:=first|assumption|omega|simp;try omega) only[go_sem,seval,hrl,cV,ag,cV]|(with_reducible first|apply aa|intro)|(try rw[ae]);omega
    refine iu htr [2] (by simp only[go_sem,seval]) ?_;rintro r0 H1 ⟨rfl,rfl⟩
    repeat' first|assumption|simp (disch:=first|assumption|omega|simp;try omega) only[go_sem,seval,hrl,cV,ag,cV]|(with_reducible first|apply aa|intro)|(try rw[ae]);omega
    have hpc:cY 1 (busy.map fun x=>eZ x) t 0 (D.lst 1 ((busy.getD t []).map D.bool))=busy.map fun x=>eZ x:=(C3 (f:=fun x=>eZ x)).trans (by rw[fZ (by omega)])
    have htk:List.take 25 ((busy.getD t []).map D.bool)=(busy.getD t []).map D.bool:=ag (by rw[ie];omega);refine M6 ?_;simp only[go_sem,seval,hpc,htk];refine⟨by omega,?_⟩;refine rh (by simp) (by simp only[go_sem,seval]) ?_;simp only[go_sem,seval];rfl
  ·obtain rfl:t=8:=by omega
   have e:cC pins busy 8 0=none:=hn.symm;rw[e]
   repeat' first|assumption|simp (disch:=first|assumption|omega|simp;try omega) only[go_sem,seval,cV,ag,cV]|(with_reducible first|apply aa|intro)|(try rw[ae]);omega
   refine rh (by simp) (by simp only[go_sem,seval]) ?_;simp only[go_sem,seval];rfl

def FX {c:ac}{cells:List bR}{place:List Int}{busy0:List (List Bool)} : ∀ {k n:Nat},k<=n->kG c cells place busy0 k=none->kG c cells place busy0 n=none
 | k,0,h,e=>by
           obtain rfl:k=0:=by omega
           exact e
 | k,n+1,h,e=>by
  by_cases hk:k<=n
  ·rw[kG,FX hk e]
  ·obtain rfl:k=n+1:=by omega
   exact e
def ND {busy0:List (List Bool)}{out:List Rt}(h:kG c cells place busy0 k=some (busy,out)) :
  kG c cells place busy0 (k+1)=if i8 c cells place ((k:Int)+1)=[] then some (busy,out) else match cC (i8 c cells place ((k:Int)+1)) busy 8 0 with
   | none=>none
   | some (t,hs)=>some (bC busy t hs,out ++ [⟨(k:Int)+1,(t:Int),hs⟩]):=by
 rw[kG,h];rfl
def Pc (hci : ∀ x∈cells,x.inputs.length<=3) (net:Int) : ∀ n,n<=cells.length->(eA cells net n).length<=3*n:=by
 intro n;induction n with
 | zero=>intro _;simp[eA]
 | succ n ih=>
  intro h;have h1:=ih (by omega);have h2:=hci _ (aP (by omega):cells.getD n bI∈cells);have h3:(pJ (cells.getD n bI) net n).length<=(cells.getD n bI).inputs.length:=by
   simp only[pJ,ie];exact List.length_filter_le _ _
  rw[eA,cr];omega
def Fh : ∀ (l out:List Int),(l.foldl aS out).length<=out.length+l.length
 | [],out=>by simp
 | x::l,out=>by
  have h1:=Fh l (aS out x);have h2:(aS out x).length<=out.length+1:=by unfold aS;split <;> simp
  rw[eO,cU];omega
def BW {c:ac}{net:Int} : ∀ o,(dS c net o).length<=o
 | 0=>by simp[dS]
 | o+1=>by
  have:=BW (c:=c) (net:=net) o;rw[dS,cr];split <;> simp <;> omega
def Kh {cells:List bR}{place:List Int}{net:Int} : ∀ i,(jM cells place net i).length<=i
 | 0=>by simp[jM]
 | i+1=>by
  have:=Kh (cells:=cells) (place:=place) (net:=net) i;rw[jM,cr];split <;> simp <;> omega
def Nk (hc:c.Valid) (hcl:cells.length<=25) (hci : ∀ x∈cells,x.inputs.length<=3) {net:Int}:(i8 c cells place net).length<=1000:=by
 have hlo:=hc.lo;unfold i8;split
 ·simp
 ·have h1:=Fh (fe c cells place net) (ox c net++jM cells place net cells.length);have h2:=Pc hci net cells.length (aC _);have h3:=BW (c:=c) (net:=net) c.outs.length;have h4:=Kh (cells:=cells) (place:=place) (net:=net) cells.length;have h5:(ox c net).length<=1:=by unfold ox;split <;> simp
  have h6:(fe c cells place net).length=(eA cells net cells.length).length+(dS c net c.outs.length).length:=by simp[fe,mH]
  rw[cr] at h1;omega
def GP {t:Nat}(ht:t<busy.length) {hs:List (Int×Int)}(hi:i<hs.length) :
  bC busy t (hs.take (i+1))=(bC busy t (hs.take i)).set t (((bC busy t (hs.take i)).getD t []).set (hs.getD i (0,0)).1.toNat true):=by
 have e:nY (busy.getD t []) (hs.take (i+1))=(nY (busy.getD t []) (hs.take i)).set (hs.getD i (0,0)).1.toNat true:=gI (f:=fun(b:List Bool) (h:Int×Int)=>b.set h.1.toNat true) (b:=busy.getD t []) ((0,0):Int×Int) hi;unfold bC;rw[e,List.set_set];congr 1;simp[List.getD,ht]
def Tryz.oN (c:ac) (hc:c.Valid) (cells:List bR) (hcl:cells.length<=25) (hci : ∀ x∈cells,x.inputs.length<=3) (place:List Int) (hp:ay cells.length place) :
  bk prog 109 [dC c,cd cells,ai place] (.tup [gW ((kh c cells place jv).getD []),dB (kh c cells place jv).isSome]):=by
 have hf:=hc.am;have hv:=hc.aM;have hi0:=hc.i0;have hi1:=hc.i1;have hvv:c.vars=c.first+(c.gates.length:Int):=rfl
 have hfst:=ba c (by omega);have k3:dR (dI c.first):=by show cp .i64 _;rw[ae];omega
 have hpb:=fun net=>yI hc hp (net:=net)
 refine pu (E:=kb 0) tok rfl 1000 func109 rfl rfl ntmps109 (by simp) fun ok=>?_
 simp only[go_sem,seval,-List.reduceReplicate] at ok
 repeat' first|assumption|simp (disch:=first|assumption|omega|simp;try omega) only[go_sem,seval,-List.reduceReplicate,cV,ag,cV]|(with_reducible first|apply aa|intro)|exact ah|(try rw[ae]);omega
 refine bt (E:=kb 0) tok (σ:=Nat) (fun t=>[(0,.d (dC c)),(1,.d (cd cells)),(2,.d (ai place)),(3,.ptr 0 0),(6,.d .nil),(7,.d (dB false)),(8,.sl 1 t 1 0 t),(9,.d (dI t))]) (fun t=>[.box [.d (dI c.inputs),.d (ai c.next),.d (aO c.gates),.d (ai c.outs)],.row t 1 true ((List.replicate t (List.replicate 25 false)).map fun x=>eZ x)]) (fun t=>t<=8) (fun t=>8-t) [] [] 1000 1000 ?_ ?_
 ·simp only[go_sem,seval,-List.reduceReplicate];exact⟨0,by omega,by simp⟩
 ·intro t ht;by_cases htt:t<8
  ·have hrl:(List.replicate t (List.replicate 25 false)).length=t:=by simp
   have hrs:List.replicate (t+1) (List.replicate 25 false)=List.replicate t (List.replicate 25 false) ++ [List.replicate 25 false]:=wU;generalize List.replicate t (List.replicate 25 false)=q at *
   simp only[go_sem,seval,-List.reduceReplicate]
   repeat' first|assumption|simp (disch:=first|assumption|omega|simp;try omega) only[go_sem,seval,-List.reduceReplicate,hrl,cV,ag,cV]|(with_reducible first|apply aa|intro)|exact ah|(try rw[ae]);omega
   refine⟨t+1,by omega,by omega,rfl,rfl,?_⟩;rw[hrs]
  ·obtain rfl:t=8:=by omega
   rw[show List.replicate 8 (List.replicate 25 false)=jv from rfl]
   repeat' first|assumption|simp (disch:=first|assumption|omega|simp;try omega) only[go_sem,seval,-List.reduceReplicate,cV,ag,cV]|(with_reducible first|apply aa|intro)|exact ah|(try rw[ae]);omega
   have hrc:kh c cells place jv=(kG c cells place jv (c.vars.toNat-1)).map (·.2):=rfl;refine bt (E:=kb 0) tok (σ:=Nat×List (List Bool)×List Rt) (fun s=>[(0,.d (dC c)),(1,.d (cd cells)),(2,.d (ai place)),(3,.ptr 0 0),(6,.d .nil),(7,.d (dB false)),(8,.sl 1 8 1 0 8),(10,.sl 2 s.2.2.length 3 0 s.2.2.length),(11,.d (dI ((s.1+1:Nat):Int)))]) (fun s=>[.box [.d (dI c.inputs),.d (ai c.next),.d (aO c.gates),.d (ai c.outs)],.row 8 1 true (s.2.1.map fun x=>eZ x),.row s.2.2.length 3 false (s.2.2.map fun x=>wN x)])
    (fun s=>(s.1:Int)<=c.vars-1/\kG c cells place jv s.1=some (s.2.1,s.2.2)/\s.2.2.length<=s.1) (fun s=>c.vars.toNat-s.1) [] [] 1000 1000 ?_ ?_
   ·simp only[go_sem,seval,-List.reduceReplicate];exact⟨(0,jv,[]),⟨by simp only;omega,rfl,by simp⟩,by simp⟩
   ·rintro⟨k,busy,out⟩ ⟨hk,hro,hol⟩;simp only at hk hro hol;have hR:=AO hc hp jA k hro;have hbl:=hR.bok.len;have ek:(k:Int)+1=((k+1:Nat):Int):=by omega
    by_cases hlt:(k:Int)<c.vars-1
    ·have hst:=ND hro;rw[ek] at hst;have h1:=lP c hc cells hcl hci place hp ((k+1:Nat):Int) (by omega);have hpbk:=hpb ((k+1:Nat):Int);have hpl:=Nk hc hcl hci (place:=place) (net:=((k+1:Nat):Int));generalize i8 c cells place ((k+1:Nat):Int)=pins at *
     by_cases hpe:pins=[]
     ·rw[if_pos hpe] at hst;subst hpe
      repeat' first|assumption|simp (disch:=first|assumption|omega|simp;try omega) only[go_sem,seval,-List.reduceReplicate,cV,ag,cV]|(with_reducible first|apply aa|intro)|(refine nP (fun _=>⟨hfst,k3⟩) ?_)|(refine aA h1 ?_)|exact ah|(try rw[ae]);omega
      exact⟨(k+1,busy,out),⟨by simp only;omega,hst,by simp only;omega⟩,by simp only;omega,⟨rfl,rfl⟩,rfl,rfl,rfl⟩
     ·rw[if_neg hpe] at hst;have hpp:0<pins.length:=List.length_pos_iff.2 hpe;have hnt:=tv 8 ((k+1:Nat):Int) pins busy hR.bok hpbk hpe hpl;cases hne:cC pins busy 8 0 with
      | none=>
       rw[hne] at hst hnt;simp only at hst;have hrn:kh c cells place jv=none:=by rw[hrc,FX (by omega) hst];rfl
       rw[hrn]
       repeat' first|assumption|simp (disch:=first|assumption|omega|simp;try omega) only[go_sem,seval,-List.reduceReplicate,cV,ag,cV]|(with_reducible first|apply aa|intro)|(refine nP (fun _=>⟨hfst,k3⟩) ?_)|(refine aA h1 ?_)|exact ah|(try rw[ae]);omega
       refine iu hnt [1] (by simp only[go_sem,seval,-List.reduceReplicate]) ?_;rintro r0 H1 ⟨rfl,rfl⟩
       repeat' first|assumption|simp (disch:=first|assumption|omega|simp;try omega) only[go_sem,seval,-List.reduceReplicate,te,cV,ag,cV]|(with_reducible first|apply aa|intro)|exact ah|(try rw[ae]);omega
      | some q=>
       obtain⟨t,hs⟩:=q;rw[hne] at hst hnt;simp only at hst;obtain⟨-,ht8,htr,-⟩:=Af 8 0 hne;obtain⟨b1,b2,b3⟩:=Bb hpbk hpe htr
       repeat' first|assumption|simp (disch:=first|assumption|omega|simp;try omega) only[go_sem,seval,-List.reduceReplicate,cV,ag,cV]|(with_reducible first|apply aa|intro)|(refine nP (fun _=>⟨hfst,k3⟩) ?_)|(refine aA h1 ?_)|exact ah|(try rw[ae]);omega
       refine iu hnt [1] (by simp only[go_sem,seval,-List.reduceReplicate]) ?_;rintro r0 H1 ⟨rfl,rfl⟩
       repeat' first|assumption|simp (disch:=first|assumption|omega|simp;try omega) only[go_sem,seval,-List.reduceReplicate,te,cV,ag,cV]|(with_reducible first|apply aa|intro)|exact ah|(try rw[ae]);omega
       have hhl:=ru b1;refine bt (E:=kb 0) tok (σ:=Nat) (fun i=>[(0,.d (dC c)),(1,.d (cd cells)),(2,.d (ai place)),(3,.ptr 0 0),(6,.d .nil),(7,.d (dB false)),(8,.sl 1 8 1 0 8),(10,.sl 2 out.length 3 0 out.length),(11,.d (dI ((k+1:Nat):Int))),(13,.ptr 3 0),(15,.d (dI i))]) (fun i=>[.box [.d (dI c.inputs),.d (ai c.next),.d (aO c.gates),.d (ai c.outs)],.row 8 1 true ((bC busy t (hs.take i)).map fun x=>eZ x),.row out.length 3 false (out.map fun x=>wN x),.box [.d (dI ((k+1:Nat):Int)),.d (dI t),.d (aO hs)]])
        (fun i=>i<=hs.length) (fun i=>hs.length-i) [] [] 1000 1000 ?_ ?_
       ·simp only[go_sem,seval,-List.reduceReplicate];exact⟨0,by omega,rfl,by rw[show bC busy t (hs.take 0)=busy from fZ (by omega)]⟩
       ·intro i hi;have hTl:(bC busy t (hs.take i)).length=8:=by simp[bC];omega
        have hTr:((bC busy t (hs.take i)).getD t []).length=25:=(Bt hR.bok (by omega)).row t (by omega);by_cases hit:i<hs.length
        ·have hstp:=GP (busy:=busy) (t:=t) (by omega) hit;have hr:=b1.rng _ (aP hit:hs.getD i (0,0)∈hs);generalize bC busy t (hs.take i)=T at *
         generalize hh9:hs.getD i (0,0)=hh at *
         simp only[go_sem,seval,-List.reduceReplicate,hh9]
         repeat' first|assumption|simp (disch:=first|assumption|omega|simp;try omega) only[go_sem,seval,-List.reduceReplicate,hh9,hTl,hTr,cV,ag,cV]|(with_reducible first|apply aa|intro)|exact ah|(try rw[ae]);omega
         refine xX (E:=kb 0) tok Tryz.follows 1000 1000 [12] (aw [0,1,5,7,2,3,4,6,8,9,10,11] (.one 12 .done)) (by kernel_rfl) ?_
         repeat' first|assumption|simp (disch:=first|assumption|omega|simp;try omega) only[go_sem,seval,-List.reduceReplicate,hh9,hTl,hTr,cV,ag,cV]|(with_reducible first|apply aa|intro)|exact ah|(try rw[ae]);omega
         refine⟨i+1,by omega,by omega,rfl,?_⟩;rw[hstp,ag (by rw[fB];omega)];exact C3 (f:=fun x=>eZ x)
        ·rw[show hs.take i=hs from ag (by omega)];rw[show hs.take i=hs from ag (by omega)] at hTl
         repeat' first|assumption|simp (disch:=first|assumption|omega|simp;try omega) only[go_sem,seval,-List.reduceReplicate,te,cV,ag,cV]|(with_reducible first|apply aa|intro)|exact ah|(try rw[ae]);omega
         refine⟨(k+1,bC busy t hs,out ++ [⟨((k+1:Nat):Int),(t:Int),hs⟩]),⟨by simp only;omega,hst,by simp only[cr,mr];omega⟩,by simp only;omega,⟨by simp,rfl⟩,rfl,by simp,by simp⟩
    ·have hkk:k=c.vars.toNat-1:=by omega
     have hrn:kh c cells place jv=some out:=by rw[hrc,<-hkk,hro];rfl
     rw[hrn]
     repeat' first|assumption|simp (disch:=first|assumption|omega|simp;try omega) only[go_sem,seval,-List.reduceReplicate,cV,ag,cV]|(with_reducible first|apply aa|intro)|(refine nP (fun _=>⟨hfst,k3⟩) ?_)|exact ah|(try rw[ae]);omega

def Pg (busy:List (List Bool)) (n:mo) (o:Option (Nat×List (Int×Int))) (r:I) (H':List R):Prop:=
 match o with
 | none=>r=.tup [.d (.agg [dI 0,dI 0,.nil]),.d (dB false)]/\H'=[.box (bx (eF busy))]
 | some (t,h)=>∃ g,r=.tup [.agg [.d (dI n.net),.d (dI t),.sl 3 g 2 0 h.length],.d (dB true)]/\H'=[.box (bx (eF (bC busy t h))),.box [.d (dI n.net),.d (dI n.cell),.d (dI n.tile),.d (ai n.sinks),.d (ai n.pads)],.box [.d (dI n.net),.d (dI t),.sl 3 g 2 0 h.length],.row g 2 true (h.map fun x=>dP x)]
def Tryz.tf (busy:List (List Bool)) (hb:da busy) (n:mo) (place:List Int) (hs : ∀ i∈n.sinks,0<=i/\i<place.length) (hk:n.cell<place.length) (hl:n.sinks.length<=400) (hl2:n.pads.length<=400) (hp:place.length<=1000) (ht : ∀ t∈gE n place,0<=t/\t<=24) :
  aQ prog 132 [.ptr 0 0,.d (rV n),.d (ai place)] [.box (bx (eF busy))] (Pg busy n (cC (gE n place) busy 8 0)):=by
 have hti:=nO n place hs hk (by omega) (by omega) hp;have htl:(gE n place).length<=1000:=by simp[gE];omega
 have htn:gE n place≠[]:=by simp[gE]
 have htr:=fun u hu=>wF busy (gE n place) u hu htn ht htl
 have hokb:=fun k h=>Bb (busy:=busy.getD k []) ht htn (ab:=h)
 generalize gE n place=tiles at *
 refine jp (E:=env 1) tok rfl 1000 func132 rfl rfl ntmps132 (by simp) ?_
 repeat' first|assumption|simp (disch:=first|assumption|omega|simp;try omega) only[go_sem,seval,ag]|(with_reducible first|apply aa|intro)|(refine aA hti ?_)|(try rw[ae]);omega
 refine bt (E:=env 1) tok (σ:=Nat) (fun k=>[(0,.ptr 0 0),(4,.ptr 1 0),(6,.ptr 2 0),(8,.d (ai tiles)),(17,.d (dI k))])
  (fun k=>[.box (bx (eF busy)),.box [.d (dI n.net),.d (dI n.cell),.d (dI n.tile),.d (ai n.sinks),.d (ai n.pads)],.box [.d (dI 0),.d (dI 0),.d .nil]]) (fun k=>k<=8/\cC tiles busy (8-k) k=cC tiles busy 8 0) (fun k=>8-k) [] [] 1000 1000 ?_ ?_
 ·simp only[go_sem,seval];exact⟨0,⟨by omega,rfl⟩,rfl⟩
 ·rintro k ⟨hk8,hnb⟩;by_cases hlt:k<8
  ·have htk:=htr k hlt;have hokk:=fun h=>hokb k h
   have hstep:cC tiles busy (8-k) k=match kT (busy.getD k []) tiles with
     | some h=>some (k,h)
     | none=>cC tiles busy (8-(k+1)) (k+1):=by
    rw[show 8-k=(8-(k+1))+1 by omega];rfl
   rw[hnb] at hstep
   repeat' first|assumption|simp (disch:=first|assumption|omega|simp;try omega) only[go_sem,seval,ag]|(with_reducible first|apply aa|intro)|(try rw[ae]);omega
   refine iu htk [0] (by simp only[go_sem,seval]) ?_;cases htre:kT (busy.getD k []) tiles with
   | none=>
    rw[htre] at hstep;simp only at hstep;rintro r0 H1 ⟨rfl,rfl⟩
    repeat' first|assumption|simp (disch:=first|assumption|omega|simp;try omega) only[go_sem,seval,ag]|(with_reducible first|apply aa|intro)|(try rw[ae]);omega
    exact⟨k+1,⟨by omega,hstep.symm⟩,by omega,rfl⟩
   | some h=>
    rw[htre] at hstep;simp only at hstep;obtain⟨hT,-,-⟩:=hokk h htre;have hhl:=ru hT;rw[hstep];rintro r0 H1 ⟨g,rfl,rfl⟩
    repeat' first|assumption|simp (disch:=first|assumption|omega|simp;try omega) only[go_sem,seval,ag]|(with_reducible first|apply aa|intro)|(try rw[ae]);omega
    refine bt (E:=env 1) tok (σ:=Nat) (fun i=>[(0,.ptr 0 0),(4,.ptr 1 0),(6,.ptr 2 0),(9,.d (dI k)),(10,.sl 3 g 2 0 h.length),(29,.sl 3 g 2 0 h.length),(30,.d (dI h.length)),(31,.d (dI i))])
     (fun i=>[.box (bx (eF (bC busy k (h.take i)))),.box [.d (dI n.net),.d (dI n.cell),.d (dI n.tile),.d (ai n.sinks),.d (ai n.pads)],.box [.d (dI 0),.d (dI 0),.d .nil],.row g 2 true (h.map fun x=>dP x)]) (fun i=>i<=h.length) (fun i=>h.length-i) [] [] 1000 1000 ?_ ?_
    ·simp only[go_sem,seval];refine⟨0,by omega,?_⟩;rw[show bC busy k (h.take 0)=busy from fZ (by rw[hb.len];omega)];simp only[go_sem,seval]
    ·intro i hi;have hTl:(bC busy k (h.take i)).length=8:=by simp[bC,hb.len]
     have hTr:((bC busy k (h.take i)).getD k []).length=25:=(Bt hb hlt).row k hlt;by_cases hit:i<h.length
     ·have hstp:=GP (busy:=busy) (t:=k) (by rw[hb.len];exact hlt) hit;have hr:=hT.rng _ (aP hit:h.getD i (0,0)∈h);generalize bC busy k (h.take i)=T at *
      generalize hh9:h.getD i (0,0)=hh at *
      have hset:=HK (l:=eF T) (k:=hh.1.toNat*8+k) (b:=true);rw[KL (by omega) hlt (by omega) (by omega),<-hstp] at hset
      repeat' first|assumption|simp (disch:=first|assumption|omega|simp;try omega) only[go_sem,seval,hh9,jn,m4,hset,ag]|(with_reducible first|apply aa|intro)|(try rw[ae]);omega
      refine cg (n:=1) [8] (aw [0,1,3,4,5,2,6,7] (.one 8 .done)) ?_
      repeat' first|assumption|simp (disch:=first|assumption|omega|simp;try omega) only[go_sem,seval,hh9,jn,m4,hset,ag]|(with_reducible first|apply aa|intro)|(try rw[ae]);omega
      refine⟨i+1,by omega,by omega,rfl,?_⟩;simp only[go_sem,seval]
     ·rw[show h.take i=h from ag (by omega)]
      repeat' first|assumption|simp (disch:=first|assumption|omega|simp;try omega) only[go_sem,seval,ag]|(with_reducible first|apply aa|intro)|(try rw[ae]);omega
      exact tE ⟨_,rfl,rfl⟩
  ·obtain rfl:k=8:=by omega
   have hnn:cC tiles busy (8-8) 8=none:=rfl;rw[<-hnb,hnn]
   repeat' first|assumption|simp (disch:=first|assumption|omega|simp;try omega) only[go_sem,seval,ag]|(with_reducible first|apply aa|intro)|(try rw[ae]);omega
   refine pr (r0:=.tup [.d (.agg [dI 0,dI 0,.nil]),.d (dB false)]) (H1:=[.box (bx (eF busy))]) ?_ ⟨rfl,rfl⟩;simp only[go_sem,seval]
end Go.Proofs
