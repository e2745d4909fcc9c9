/- Contracts: a shortest path from a tree to a tile. Conditions: none; lemmas. -/
import Derived.Test.YteikeianenfhaaaGreatC73
import Derived.Test.YteikeianenfhaaaGreatC10
set_option maxRecDepth 20000
set_option linter.unusedVariables false
set_option linter.unusedSimpArgs false
namespace Go.Proofs
open Go Go.VL
def qgu (s:BS):List (D×D):=s.2.map fun t=>(dI t,dI (s.1.getD t.toNat 0))
def bx (l:List Bool):List I:=l.map fun b=>.d (.bool b)
@[go_sem] theorem fitL_bx {K:List R} : ∀ {l:List Bool},fitL K (bx l) (bx l)=True
 | []=>rfl
 | b::l=>by
  show(fit1 K (.d (.bool b)) (.d (.bool b))/\fitL K (bx l) (bx l))=True
  rw[fitL_bx];simp only[go_sem,and_true]
@[go_sem] theorem qrg {m:Nat} : ∀ {l:List Bool},qeZ m (bx l)=True
 | []=>rfl
 | b::l=>by
  show((I.d (.bool b)).idlt m/\qeZ m (bx l))=True
  rw[qrg];simp only[go_sem,and_true]
@[go_sem] theorem renL_bx {ρ : Nat->Nat} : ∀ {l:List Bool},renL ρ (bx l)=bx l
 | []=>rfl
 | b::l=>by
  show renI ρ (.d (.bool b))::renL ρ (bx l)=_
  rw[renL_bx];rfl
@[go_sem] theorem bx_len {l:List Bool}:(bx l).length=l.length:=by simp[bx]
theorem qaM {l:List Bool}{k:Nat}(h:k<l.length):(bx l).getD k .junk=.d (.bool (l.getD k false)):=getD_lt _ _ _ _ _ h
theorem qsk {l:List Bool}{k:Nat}{b:Bool}:(bx l).set k (.d (.bool b))=bx (l.set k b):=by simp[bx,ybm]
theorem qiI (g:Int->D) (x:Int) : ∀ l:List Int,qdj (l.map fun t=>(dI t,g t)) (dI x)=if x∈l then some (g x) else none
 | []=>rfl
 | y::l=>by
  have ih:=qiI g x l;show qdj ((dI y,g y)::l.map fun t=>(dI t,g t)) _=_
  rw[qgN,qdy];by_cases h:x=y
  ·subst h;simp
  ·rw[decide_eq_false h];simp only[yaj,if_false,ih,yax,h,false_or]
theorem qko (g:Int->D) (x:Int) (v:D) : ∀ l:List Int,x∉l->updD (l.map fun t=>(dI t,g t)) (dI x) v=(l.map fun t=>(dI t,g t)) ++ [(dI x,v)]
 | [],_=>rfl
 | y::l,hx=>by
  rw[yax,not_or] at hx;have ih:=qko g x v l hx.2;show updD ((dI y,g y)::l.map fun t=>(dI t,g t)) _ _=_
  rw[updD,qdy,decide_eq_false hx.1];simp only[yaj,if_false,ih];rfl
theorem qlp (g:Int->D) (l:List Int):qbO (.int .i64) (l.map fun t=>(dI t,g t)):=by
 rw[qet];intro e he;obtain⟨x,_,rfl⟩:=List.mem_map.1 he;exact rfl
theorem qdA (s:BS):qbO (.int .i64) (qgu s):=qlp (fun t=>dI (s.1.getD t.toNat 0)) s.2
theorem qnO {busy:List Bool}{T:List Int}{s:BS}(h:BInv busy T s) {n q:Int}(hn:0<=n/\n<=24) (hm:n∉s.2):qgu (s.1.set n.toNat q,s.2 ++ [n])=qgu s ++ [(dI n,dI q)]:=by
 have hl:=h.len;have e : ∀ t,t∈s.2->(s.1.set n.toNat q).getD t.toNat 0=s.1.getD t.toNat 0:=fun t ht=>by
  have:=h.rng t ht;rw[qcs (by omega),if_neg];intro e;have:t=n:=by omega
  subst this;exact hm ht
 unfold qgu;rw[yaC];congr 1
 ·exact List.map_congr_left fun t ht=>by
   show(dI t,dI ((s.1.set n.toNat q).getD t.toNat 0))=_
   rw[e t ht]
 ·show [(dI n,dI ((s.1.set n.toNat q).getD n.toNat 0))]=_
  rw[qcs (by omega),if_pos rfl]
def nb4 (t:Int):List Int:=[nbUp t,qeL t,qdh t,qeM t]
def qfT (busy:List Bool) (q:Int) (s:BS) (n:Int):BS:=if n<0 then s else qcN busy q s n
theorem qps {q n:Int}(hq:0<=q/\q<=24) (h:n∈nb4 q):n<0∨n∈nbC q:=by
 simp only[nb4,yax,List.not_mem_nil,or_false] at h;unfold nbC nbUp qeL qdh qeM at *
 simp only[yas];rcases h with h|h|h|h <;> split at h
 ·exact .inr (.inl (.inl (.inl (by simp[*]))))
 ·exact .inl (by omega)
 ·exact .inr (.inl (.inl (.inr (by simp[*]))))
 ·exact .inl (by omega)
 ·exact .inr (.inl (.inr (by simp[*])))
 ·exact .inl (by omega)
 ·exact .inr (.inr (by simp[*]))
 ·exact .inl (by omega)
theorem qrh {q:Int}(hq:0<=q/\q<=24) (busy:List Bool) (s:BS):(nb4 q).foldl (qfT busy q) s=visitB busy s q:=by
 have e : ∀ (s:BS) (n:Int) (p:Prop) [Decidable p],(p->0<=n)->qfT busy q s (if p then n else -1)=(if p then [n] else []).foldl (qcN busy q) s:=by
  intro s n p _ h;split
  ·rename_i hp;have:=h hp;rw[qfT,if_neg (by omega)];rfl
  ·rfl
 unfold visitB nbC nb4 nbUp qeL qdh qeM;simp only[yaO,yam,List.foldl_nil];rw[e _ _ _ (by omega),e _ _ _ (by omega),e _ _ _ (by omega),e _ _ _ (by omega)]
theorem qiJ {busy:List Bool}{T:List Int}{q:Int}(hq:0<=q/\q<=24) : ∀ (l:List Int) {s:BS},BInv busy T s->q∈s.2->(∀ n∈l,n<0∨n∈nbC q)->BInv busy T (l.foldl (qfT busy q) s)/\MonoB s (l.foldl (qfT busy q) s)
 | [],s,h,_,_=>⟨h,MonoB.rfl s⟩
 | n::l,s,h,hm,hl=>by
  rw[yam];by_cases hn:n<0
  ·rw[qfT,if_pos hn];exact qiJ hq l h hm fun m hm2=>hl m (by simp[hm2])
  ·rw[qfT,if_neg hn];have hnb:=(hl n (by simp)).resolve_left hn;have m1:=qjz h (q:=q) (qjy hq n hnb).1;obtain⟨r,hr⟩:=m1.1;obtain⟨a1,a2⟩:=qiJ hq l (h.step hm hnb) (by rw[hr];exact yaE _ hm) fun m hm2=>hl m (by simp[hm2])
   exact⟨a1,m1.trans a2⟩
theorem Tryz.c_path (g:Nat) (busy:List (List Bool)) (hops:List (Int×Int)) (sink:Int) (u:Nat) (hu:u<8) (ht:TreeOk (busy.getD u []) hops) (hs:0<=sink/\sink<=24) :
  ICall Tryz.prog 211 [.ptr 0 0,.sl 1 g 2 0 hops.length,.d (dI sink),.d (dI u)] [.box (bx (qcf busy)),.row g 2 true (hops.map fun x=>dP x)]
   (fun r H'=>r=.d (.tup [dPs (((qaN (busy.getD u []) hops sink).getD []).drop hops.length),dB (qaN (busy.getD u []) hops sink).isSome])/\H'=[.box (bx (qcf busy)),.row g 2 true (hops.map fun x=>dP x)]):=by
 have hhl:=qdt ht;refine qaO (E:=Tryz.env 2) Tryz.tok rfl 1000 Tryz.func211 rfl rfl Tryz.ntmps211 (by simp) ?_;simp only[go_sem,seval,-List.reduceReplicate]
 repeat' first|assumption|(simp (disch:=first|assumption|omega|(simp;done)|(simp;omega)) only[qaa,qac,yaa,qab,qaM,qae,qaf,qah,qai,qar];try simp only[go_sem,seval,-List.reduceReplicate])|(with_reducible first|refine And.intro ?_ ?_|intro _)|((try rw[qad]);omega)
 refine qap (E:=Tryz.env 2) Tryz.tok (σ:=Nat) (fun i=>[(0,.ptr 0 0),(2,.d (dI sink)),(3,.d (dI u)),(10,.map 2),(11,.sl 3 i 1 0 i),(22,.sl 1 g 2 0 hops.length),(23,.d (dI hops.length)),(24,.d (dI i))])
  (fun i=>[.box (bx (qcf busy)),.row g 2 true (hops.map fun x=>dP x),.map ((qav (hops.take i)).map fun t=>(dI t,dI (-1))),.row i 1 true ((qav (hops.take i)).map (D.int .i64))]) (fun i=>i<=hops.length) (fun i=>hops.length-i) [] [(11,1,true)] 1000 1000 ?_ ?_
 ·simp only[go_sem,seval,-List.reduceReplicate];exact⟨0,by omega,by simp[qav]⟩
 ·intro i hi;have hql:(qav (hops.take i)).length=i:=by simp[qav];omega
  by_cases hit:i<hops.length
  ·have hts:qav (hops.take (i+1))=qav (hops.take i) ++ [(hops.getD i (0,0)).1]:=qaV (0,0) hit;have hni:(hops.getD i (0,0)).1∉qav (hops.take i):=fun hm=>by
    obtain⟨x,hx,he⟩:=List.mem_map.1 hm;obtain⟨j,hj,rfl⟩:=qa1 (0,0) hx;have hj2:j<i:=by simp at hj;omega
    have e:(hops.take i).getD j (0,0)=hops.getD j (0,0):=by simp[List.getD,List.getElem?_take,hj2]
    rw[e] at he;have:=qpr ht.nd (by omega) hit he;omega
   have eu:=qko (fun _=>dI (-1)) _ (dI (-1)) _ hni;have hks:=qlp (fun _=>dI (-1)) (qav (hops.take i));have hr:=ht.rng _ (qal hit:hops.getD i (0,0)∈hops);generalize qav (hops.take i)=q at *
   generalize hx9:hops.getD i (0,0)=x at *
   simp only[go_sem,seval,-List.reduceReplicate,hx9,eu]
   repeat' first|assumption|(simp (disch:=first|assumption|omega|(simp;done)|(simp;omega)) only[qaa,qac,yaa,qab,qaM,qae,qaf,qah,qai,qar];try simp only[go_sem,seval,-List.reduceReplicate,hx9,eu,hql])|(with_reducible first|refine And.intro ?_ ?_|intro _)|((try rw[qad]);omega)
   refine⟨i+1,by omega,by omega,rfl,?_⟩;rw[hts];simp
  ·obtain rfl:i=hops.length:=by omega
   rw[yav];have e0:((qav hops).map fun t=>(dI t,dI (-1)))=qgu (vis0 hops):=by
    refine List.map_congr_left fun t ht2=>?_
    obtain⟨x,hx,rfl⟩:=List.mem_map.1 ht2;have:=ht.rng x hx;show _=(dI x.1,dI ((qfQ hops).getD x.1.toNat 0))
    rw[qgp ht.rng this.1 this.2,if_pos ht2]
   rw[e0];simp only[go_sem,seval,-List.reduceReplicate]
   repeat' first|assumption|(simp (disch:=first|assumption|omega|(simp;done)|(simp;omega)) only[qaa,qac,yaa,qab,qaM,qae,qaf,qah,qai,qar];try simp only[go_sem,seval,-List.reduceReplicate])|(with_reducible first|refine And.intro ?_ ?_|intro _)|((try rw[qad]);omega)
   have hinv : ∀ k,(∀ j,j<k->j<(visV (busy.getD u []) (vis0 hops) j).2.length)->BInv (busy.getD u []) (qav hops) (visV (busy.getD u []) (vis0 hops) k):=fun k=>qeG (qnL ht.rng ht.nd) k
   refine qap (E:=Tryz.env 2) Tryz.tok (σ:=Nat) (fun k=>[(0,.ptr 0 0),(2,.d (dI sink)),(3,.d (dI u)),(10,.map 2),(11,.sl 3 (visV (busy.getD u []) (vis0 hops) k).2.length 1 0 (visV (busy.getD u []) (vis0 hops) k).2.length),(14,.d (dI k))])
    (fun k=>[.box (bx (qcf busy)),.row g 2 true (hops.map fun x=>dP x),.map (qgu (visV (busy.getD u []) (vis0 hops) k)),.row (visV (busy.getD u []) (vis0 hops) k).2.length 1 true ((visV (busy.getD u []) (vis0 hops) k).2.map (D.int .i64))]) (fun k=>k<=(visV (busy.getD u []) (vis0 hops) k).2.length/\(∀ j,j<k->j<(visV (busy.getD u []) (vis0 hops) j).2.length)/\∀ j,j<k->(visV (busy.getD u []) (vis0 hops) k).2.getD j 0≠sink) (fun k=>26-k) [] [] 1000 1000 ?_ ?_
   ·simp only[go_sem,seval,-List.reduceReplicate];refine⟨0,⟨by omega,by omega,by omega⟩,?_⟩;have:(qav hops).length=hops.length:=by simp[qav]
    simp[visV,vis0,this]
   ·rintro k ⟨hk,hj,hne⟩;have hbi:=hinv k hj;have hql:=hbi.qlen;have hxn:=qrd ht hs hj;have hxs:=qre ht hs hj;have hvs:visV (busy.getD u []) (vis0 hops) (k+1)=visitB (busy.getD u []) (visV (busy.getD u []) (vis0 hops) k) ((visV (busy.getD u []) (vis0 hops) k).2.getD k 0):=rfl;generalize hS:visV (busy.getD u []) (vis0 hops) k=S at *
    obtain⟨fr,qu⟩:=S;simp only at hk hne hql hxn hxs hvs;by_cases hlt:k<qu.length
    ·have hqm:=qal hlt (z:=(0:Int));have hqr:=hbi.rng _ hqm;by_cases heq:qu.getD k 0=sink
     ·have hx:=hxs hlt heq;rw[hx];simp only[go_sem,seval,-List.reduceReplicate,heq]
      repeat' first|assumption|(simp (disch:=first|assumption|omega|(simp;done)|(simp;omega)) only[qaa,qac,yaa,qab,qaM,qae,qaf,qah,qai,qar];try simp only[go_sem,seval,-List.reduceReplicate,heq])|(with_reducible first|refine And.intro ?_ ?_|intro _)|((try rw[qad]);omega)
      have hfE : ∀ x,x∈qu->qdj (qgu (fr,qu)) (dI x)=some (dI (fr.getD x.toNat 0)):=fun x hx=>by rw[qgu,qiI,if_pos hx]
      clear hx hxs hxn hvs;refine qap (E:=Tryz.env 2) Tryz.tok (σ:=Nat×Nat×List (Int×Int)) (fun s=>[(10,.map 2),(15,.d (dPs s.2.2)),(16,.d (dI (qu.getD s.2.1 0)))]) (fun s=>[.box (bx (qcf busy)),.row g 2 true (hops.map fun x=>dP x),.map (qgu (fr,qu))])
       (fun s=>s.2.1<s.1/\s.2.1<qu.length/\s.1+s.2.2.length<=25/\qbY fr s.1 (qu.getD s.2.1 0) s.2.2=qbY fr 25 sink []) (fun s=>s.1) [] [] 1000 1000 ?_ ?_
      ·simp only[go_sem,seval,-List.reduceReplicate];refine⟨(25,k,[]),⟨by simp only;omega,hlt,by simp,by rw[heq]⟩,?_⟩;simp only[List.map_nil,true_and,and_true];exact heq.symm
      ·rintro⟨f,p,acc⟩ ⟨hpf,hpq,hfa,hch⟩;simp only at hpf hpq hfa hch;have hpm0:=qal hpq (z:=(0:Int));have hpm:=hbi.rng _ hpm0;have hroot:=hbi.root p hpq;have hff:=hfE _ hpm0;simp only at hroot;obtain⟨f',rfl⟩ : ∃ f',f=f'+1:=⟨f-1,by omega⟩;have hcs:qbY fr (f'+1) (qu.getD p 0) acc=if 0<=fr.getD (qu.getD p 0).toNat 0 then qbY fr f' (fr.getD (qu.getD p 0).toNat 0) ((qu.getD p 0,fr.getD (qu.getD p 0).toNat 0)::acc) else acc:=rfl
       rw[hcs] at hch;by_cases hge:0<=fr.getD (qu.getD p 0).toNat 0
       ·rw[if_pos hge] at hch;obtain⟨m,hm1,hm2⟩ : ∃ m,m<p/\qu.getD m 0=fr.getD (qu.getD p 0).toNat 0:=by
         rcases hroot with⟨h1,-⟩|⟨-,-,-,m,h4,h5,-⟩
         ·omega
         ·exact⟨m,h4,h5⟩
        generalize qu.getD p 0=tt at *
        generalize hv9:fr.getD tt.toNat 0=v at *
        simp only[go_sem,seval,-List.reduceReplicate,hv9,hff,yau]
        repeat' first|assumption|(simp (disch:=first|assumption|omega|(simp;done)|(simp;omega)) only[qaa,qac,yaa,qab,qaM,qae,qaf,qah,qai,qar];try simp only[go_sem,seval,-List.reduceReplicate,hv9,hff,yau])|(with_reducible first|refine And.intro ?_ ?_|intro _)|((try rw[qad]);omega)
        all_goals first|exact qdA _|skip
        refine⟨(f',m,(tt,v)::acc),⟨by simp only;omega,by simp only;omega,by simp only[yae];omega,by simp only;rw[hm2];exact hch⟩,by simp only;omega,?_⟩;exact⟨rfl,hm2.symm⟩
       ·rw[if_neg hge] at hch;generalize qu.getD p 0=tt at *
        simp only[go_sem,seval,-List.reduceReplicate,hff,yau]
        repeat' first|assumption|(simp (disch:=first|assumption|omega|(simp;done)|(simp;omega)) only[qaa,qac,yaa,qab,qaM,qae,qaf,qah,qai,qar];try simp only[go_sem,seval,-List.reduceReplicate,hff,yau])|(with_reducible first|refine And.intro ?_ ?_|intro _)|((try rw[qad]);omega)
        all_goals first|exact qdA _|skip
        rw[<-hch,List.drop_left];refine qcu (r0:=.d (.tup [dPs acc,dB true])) (H1:=[.box (bx (qcf busy)),.row g 2 true (hops.map fun x=>dP x)]) ?_ ⟨rfl,rfl⟩;simp only[go_sem,seval,-List.reduceReplicate]
     ·have hnb:=Tryz.c_neighbours (qu.getD k 0) hqr;generalize hq9:qu.getD k 0=q at *
      simp only[go_sem,seval,-List.reduceReplicate,hq9]
      repeat' first|assumption|(simp (disch:=first|assumption|omega|(simp;done)|(simp;omega)) only[qaa,qac,yaa,qab,qaM,qae,qaf,qah,qai,qar];try simp only[go_sem,seval,-List.reduceReplicate,hq9])|(with_reducible first|refine And.intro ?_ ?_|intro _)|(refine qaj hnb ?_;simp only[go_sem,seval,-List.reduceReplicate,hq9])|((try rw[qad]);omega)
      have hfold:=qrh hqr (busy.getD u []) (fr,qu);have hsx:=fun i=>qiJ (busy:=busy.getD u []) hqr ((nb4 q).take i) hbi hqm fun n hn=>qps hqr (yat hn)
      have hgn:(D.agg [dI (nbUp q),dI (qeL q),dI (qdh q),dI (qeM q)])=.agg ((nb4 q).map fun x=>dI x):=rfl;have hnl:(nb4 q).length=4:=rfl;rw[hgn];generalize hnb4:nb4 q=N at *
      refine qap (E:=Tryz.env 2) Tryz.tok (σ:=Nat) (fun i=>[(0,.ptr 0 0),(2,.d (dI sink)),(3,.d (dI u)),(10,.map 2),(11,.sl 3 ((N.take i).foldl (qfT (busy.getD u []) q) (fr,qu)).2.length 1 0 ((N.take i).foldl (qfT (busy.getD u []) q) (fr,qu)).2.length),(14,.d (dI k)),(70,.d (.agg (N.map fun x=>dI x))),(71,.d (dI i))])
       (fun i=>[.box (bx (qcf busy)),.row g 2 true (hops.map fun x=>dP x),.map (qgu ((N.take i).foldl (qfT (busy.getD u []) q) (fr,qu))),.row ((N.take i).foldl (qfT (busy.getD u []) q) (fr,qu)).2.length 1 true (((N.take i).foldl (qfT (busy.getD u []) q) (fr,qu)).2.map (D.int .i64))]) (fun i=>i<=4) (fun i=>4-i) [] [] 1000 1000 ?_ ?_
      ·simp only[go_sem,seval,-List.reduceReplicate];exact⟨0,by omega,by simp⟩
      ·intro i hi;obtain⟨hSi,hSm⟩:=hsx i;obtain⟨⟨r,hr⟩,hSm2⟩:=hSm;by_cases hit:i<4
       ·have hfs:=qaC (f:=qfT (busy.getD u []) q) (b:=(fr,qu)) (0:Int) (by omega:i<N.length);have hnm:=qps hqr (by rw[hnb4];exact qal (by omega):N.getD i 0∈nb4 q);have hnr:=fun h=>qjy hqr (N.getD i 0) h
        generalize hS2:(N.take i).foldl (qfT (busy.getD u []) q) (fr,qu)=S at *
        obtain⟨f2,q2⟩:=S;have hq2l:=hSi.qlen;simp only at hr hq2l;have hk3:k<q2.length:=by rw[hr];simp;omega
        have hqk:q2.getD k 0=q:=by rw[hr,qaw hlt];exact hq9
        generalize hn9:N.getD i 0=n at *
        have hN:(N.map fun x=>dI x).getD i D.nil=dI n:=by rw[<-hn9];simp[List.getD,show i<N.length by omega]
        have hlook : ∀ x,qdj (qgu (f2,q2)) (dI x)=if x∈q2 then some (dI (f2.getD x.toNat 0)) else none:=fun x=>by rw[qgu,qiI]
        have hse:qfT (busy.getD u []) q (f2,q2) n=if n<0 then(f2,q2) else if f2.getD n.toNat 0 = -2/\(busy.getD u []).getD n.toNat false=false then(f2.set n.toNat q,q2 ++ [n]) else(f2,q2):=rfl
        have hlkn:=hlook n;rw[hse] at hfs;by_cases hneg:n<0
        ·rw[if_pos hneg] at hfs;have hd:decide (n<0)=true:=decide_eq_true hneg;have hbx:(bx (qcf busy)).getD (n.toNat*8+u) I.junk=.d (.bool ((qcf busy).getD u false)):=by
          have e0:n.toNat*8+u=u:=by omega
          rw[e0,qaM (by rw[qaY];omega)]
         simp only[go_sem,seval,-List.reduceReplicate,hqk,hN,yaI,hd,hbx,hlkn]
         repeat' first|assumption|(simp (disch:=first|assumption|omega|(simp;done)|(simp;omega)) only[qaa,qac,yaa,qab,qaM,qae,qaf,qah,qai,qar];try simp only[go_sem,seval,-List.reduceReplicate,hqk,hN,yaI,hd,hbx,hlkn])|(with_reducible first|refine And.intro ?_ ?_|intro _)|((try rw[qad]);omega)
         all_goals first|exact qdA _|skip
         refine⟨i+1,by omega,by omega,?_⟩;rw[hfs];exact⟨⟨rfl,rfl⟩,rfl,rfl,rfl⟩
        ·rw[if_neg hneg] at hfs;have hnb2:=hnm.resolve_left hneg;have hn2:=(hnr hnb2).1;have hbx:(bx (qcf busy)).getD (n.toNat*8+u) I.junk=.d (.bool ((busy.getD u []).getD n.toNat false)):=by
          rw[qaM (by rw[qaY];omega),qll (by omega) hu]
         have hd:decide (n<0)=false:=decide_eq_false hneg;have hseen:=hSi.seen n hn2.1 hn2.2;simp only at hseen;by_cases hb:(busy.getD u []).getD n.toNat false=true
         ·rw[if_neg (by rw[hb];simp)] at hfs;rw[hb] at hbx;simp only[go_sem,seval,-List.reduceReplicate,hqk,hN,yaI,hd,hbx,qaY]
          repeat' first|assumption|(simp (disch:=first|assumption|omega|(simp;done)|(simp;omega)) only[qaa,qac,yaa,qab,qaM,qae,qaf,qah,qai,qar];try simp only[go_sem,seval,-List.reduceReplicate,hqk,hN,yaI,hd,hbx,qaY])|(with_reducible first|refine And.intro ?_ ?_|intro _)|((try rw[qad]);omega)
          all_goals first|exact qdA _|skip
          refine⟨i+1,by omega,by omega,?_⟩;rw[hfs];exact⟨⟨rfl,rfl⟩,rfl,rfl,rfl⟩
         ·have hb2:(busy.getD u []).getD n.toNat false=false:=by simpa using hb
          rw[hb2] at hbx;by_cases hm:n∈q2
          ·rw[if_pos hm] at hlkn;rw[if_neg (fun h=>hseen.2 hm h.1)] at hfs;simp only[go_sem,seval,-List.reduceReplicate,hqk,hN,yaI,hd,hbx,qaY,hlkn]
           repeat' first|assumption|(simp (disch:=first|assumption|omega|(simp;done)|(simp;omega)) only[qaa,qac,yaa,qab,qaM,qae,qaf,qah,qai,qar];try simp only[go_sem,seval,-List.reduceReplicate,hqk,hN,yaI,hd,hbx,qaY,hlkn])|(with_reducible first|refine And.intro ?_ ?_|intro _)|((try rw[qad]);omega)
           all_goals first|exact qdA _|skip
           refine⟨i+1,by omega,by omega,?_⟩;rw[hfs];exact⟨⟨rfl,rfl⟩,rfl,rfl,rfl⟩
          ·rw[if_neg hm] at hlkn;rw[if_pos ⟨Decidable.byContradiction fun h=>hm (hseen.1 h),hb2⟩] at hfs;have hpush:=qnO hSi (q:=q) hn2 hm;have hupd:updD (qgu (f2,q2)) (dI n) (dI q)=qgu (f2,q2) ++ [(dI n,dI q)]:=qko (fun t=>dI (f2.getD t.toNat 0)) n (dI q) q2 hm;simp only[go_sem,seval,-List.reduceReplicate,hqk,hN,yaI,hd,hbx,qaY,hlkn,hupd]
           repeat' first|assumption|(simp (disch:=first|assumption|omega|(simp;done)|(simp;omega)) only[qaa,qac,yaa,qab,qaM,qae,qaf,qah,qai,qar];try simp only[go_sem,seval,-List.reduceReplicate,hqk,hN,yaI,hd,hbx,qaY,hlkn,hupd])|(with_reducible first|refine And.intro ?_ ?_|intro _)|((try rw[qad]);omega)
           all_goals first|exact qdA _|skip
           refine⟨i+1,by omega,by omega,?_⟩;rw[hfs,hpush];exact⟨⟨by simp,rfl⟩,rfl,by simp,rfl⟩
       ·obtain rfl:i=4:=by omega
        have e:N.take 4=N:=yaa (by omega);rw[e,hfold,<-hvs];rw[e,hfold,<-hvs] at hr;simp only at hr;simp only[go_sem,seval,-List.reduceReplicate]
        repeat' first|assumption|(simp (disch:=first|assumption|omega|(simp;done)|(simp;omega)) only[qaa,qac,yaa,qab,qaM,qae,qaf,qah,qai,qar];try simp only[go_sem,seval,-List.reduceReplicate])|(with_reducible first|refine And.intro ?_ ?_|intro _)|((try rw[qad]);omega)
        refine⟨k+1,⟨by rw[hr];simp;omega,fun j hj2=>?_,fun j hj2 he=>?_⟩,by omega,⟨rfl,rfl⟩,rfl,rfl,rfl⟩
        ·by_cases e:j=k
         ·subst e;rw[hS];exact hlt
         ·exact hj j (by omega)
        ·rw[hr] at he;by_cases e:j=k
         ·subst e;rw[qaw hlt,hq9] at he;exact heq he
         ·rw[qaw (by omega)] at he;exact hne j (by omega) he
    ·have hke:k=qu.length:=by omega
     have hx:=hxn hke (fun hm=>by
      obtain⟨j,hj2,he⟩:=qa1 0 hm;exact hne j (by omega) he)
     rw[hx];simp only[go_sem,seval,-List.reduceReplicate]
     repeat' first|assumption|(simp (disch:=first|assumption|omega|(simp;done)|(simp;omega)) only[qaa,qac,yaa,qab,qaM,qae,qaf,qah,qai,qar];try simp only[go_sem,seval,-List.reduceReplicate])|(with_reducible first|refine And.intro ?_ ?_|intro _)|((try rw[qad]);omega)
     refine qcu (r0:=.d (.tup [dPs [],dB false])) (H1:=[.box (bx (qcf busy)),.row g 2 true (hops.map fun x=>dP x)]) ?_ ⟨rfl,rfl⟩;simp only[go_sem,seval,-List.reduceReplicate]
end Go.Proofs
