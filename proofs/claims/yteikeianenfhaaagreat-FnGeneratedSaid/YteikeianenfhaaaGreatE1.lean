/- Contracts, plain definitions and lemmas. Conditions: none; lemmas. -/
import Derived.Test.YteikeianenfhaaaGreatC74
import Derived.Test.YteikeianenfhaaaGreatC10
set_option maxRecDepth 20000
set_option linter.unusedSimpArgs false
set_option linter.unusedVariables false
set_option maxHeartbeats 2000000
namespace Go.Proofs
open Go Go.VL Tryz
def qgv (s:BS):List (D×D):=s.2.map fun t=>(dI t,dI (s.1.getD t.toNat 0))
def bx (l:List Bool):List I:=l.map fun b=>.d (.bool b)
@[go_sem] theorem fitL_bx {K:List R} : ∀ {l:List Bool},fitL K (bx l) (bx l)=True
 | []=>rfl
 | b::l=>by
  show(fit1 K (.d (.bool b)) (.d (.bool b))/\fitL K (bx l) (bx l))=True
  rw[fitL_bx];simp only[go_sem,and_true]
@[go_sem] theorem qtn {m:Nat} : ∀ {l:List Bool},qeU m (bx l)=True
 | []=>rfl
 | b::l=>by
  show((I.d (.bool b)).idlt m/\qeU m (bx l))=True
  rw[qtn];simp only[go_sem,and_true]
@[go_sem] theorem renL_bx {ρ : Nat->Nat} : ∀ {l:List Bool},renL ρ (bx l)=bx l
 | []=>rfl
 | b::l=>by
  show renI ρ (.d (.bool b))::renL ρ (bx l)=_
  rw[renL_bx];rfl
@[go_sem] theorem bx_len {l:List Bool}:(bx l).length=l.length:=by simp[bx]
theorem qm8 {l:List Bool}{k:Nat}(h:k<l.length):(bx l).getD k .junk=.d (.bool (l.getD k false)):=getD_lt _ _ _ _ _ h
theorem quG {l:List Bool}{k:Nat}{b:Bool}:(bx l).set k (.d (.bool b))=bx (l.set k b):=by simp[bx,List.map_set]
theorem qi1 (g:Int->D) (x:Int) : ∀ l:List Int,qcc (l.map fun t=>(dI t,g t)) (dI x)=if x∈l then some (g x) else none
 | []=>rfl
 | y::l=>by
  have ih:=qi1 g x l;show qcc ((dI y,g y)::l.map fun t=>(dI t,g t)) _=_
  rw[qdT,qdk];by_cases h:x=y
  ·subst h;simp
  ·rw[decide_eq_false h];simp only[yag,if_false,ih,yaA,h,false_or]
theorem qkN (g:Int->D) (x:Int) (v:D) : ∀ l:List Int,x∉l->updD (l.map fun t=>(dI t,g t)) (dI x) v=(l.map fun t=>(dI t,g t)) ++ [(dI x,v)]
 | [],_=>rfl
 | y::l,hx=>by
  rw[yaA,not_or] at hx;have ih:=qkN g x v l hx.2;show updD ((dI y,g y)::l.map fun t=>(dI t,g t)) _ _=_
  rw[updD,qdk,decide_eq_false hx.1];simp only[yag,if_false,ih];rfl
theorem qlZ (g:Int->D) (l:List Int):qba (.int .i64) (l.map fun t=>(dI t,g t)):=by
 rw[qcI];intro e he;obtain⟨x,_,rfl⟩:=List.mem_map.1 he;exact rfl
theorem qdl (s:BS):qba (.int .i64) (qgv s):=qlZ (fun t=>dI (s.1.getD t.toNat 0)) s.2
theorem qo1 {busy:List Bool}{T:List Int}{s:BS}(h:BInv busy T s) {n q:Int}(hn:0<=n/\n<=24) (hm:n∉s.2):qgv (s.1.set n.toNat q,s.2 ++ [n])=qgv s ++ [(dI n,dI q)]:=by
 have hl:=h.len;have e : ∀ t,t∈s.2->(s.1.set n.toNat q).getD t.toNat 0=s.1.getD t.toNat 0:=fun t ht=>by
  have:=h.rng t ht;rw[qcY (by omega),if_neg];intro e;have:t=n:=by omega
  subst this;exact hm ht
 unfold qgv;rw[yaE];congr 1
 ·exact ybd fun t ht=>by
   show(dI t,dI ((s.1.set n.toNat q).getD t.toNat 0))=_
   rw[e t ht]
 ·show [(dI n,dI ((s.1.set n.toNat q).getD n.toNat 0))]=_
  rw[qcY (by omega),if_pos rfl]
def nb4 (t:Int):List Int:=[nbUp t,qeE t,qc7 t,qeF t]
def qf2 (busy:List Bool) (q:Int) (s:BS) (n:Int):BS:=if n<0 then s else qiU busy q s n
theorem qq4 {q n:Int}(hq:0<=q/\q<=24) (h:n∈nb4 q):n<0∨n∈nbC q:=by
 simp only[nb4,yaA,List.not_mem_nil,or_false] at h;unfold nbC nbUp qeE qc7 qeF at *
 simp only[yas];rcases h with h|h|h|h <;> split at h
 ·exact .inr (.inl (.inl (.inl (by simp[*]))))
 ·exact .inl (by omega)
 ·exact .inr (.inl (.inl (.inr (by simp[*]))))
 ·exact .inl (by omega)
 ·exact .inr (.inl (.inr (by simp[*])))
 ·exact .inl (by omega)
 ·exact .inr (.inr (by simp[*]))
 ·exact .inl (by omega)
theorem qto {q:Int}(hq:0<=q/\q<=24) (busy:List Bool) (s:BS):(nb4 q).foldl (qf2 busy q) s=visitB busy s q:=by
 have e : ∀ (s:BS) (n:Int) (p:Prop) [Decidable p],(p->0<=n)->qf2 busy q s (if p then n else -1)=(if p then [n] else []).foldl (qiU busy q) s:=by
  intro s n p _ h;split
  ·rename_i hp;have:=h hp;rw[qf2,if_neg (by omega)];rfl
  ·rfl
 unfold visitB nbC nb4 nbUp qeE qc7 qeF;simp only[yaQ,yap,List.foldl_nil];rw[e _ _ _ (by omega),e _ _ _ (by omega),e _ _ _ (by omega),e _ _ _ (by omega)]
theorem qi2 {busy:List Bool}{T:List Int}{q:Int}(hq:0<=q/\q<=24) : ∀ (l:List Int) {s:BS},BInv busy T s->q∈s.2->(∀ n∈l,n<0∨n∈nbC q)->BInv busy T (l.foldl (qf2 busy q) s)/\MonoB s (l.foldl (qf2 busy q) s)
 | [],s,h,_,_=>⟨h,MonoB.rfl s⟩
 | n::l,s,h,hm,hl=>by
  rw[yap];by_cases hn:n<0
  ·rw[qf2,if_pos hn];exact qi2 hq l h hm fun m hm2=>hl m (by simp[hm2])
  ·rw[qf2,if_neg hn];have hnb:=(hl n (by simp)).resolve_left hn;have m1:=qjQ h (q:=q) (qlR hq n hnb).1;obtain⟨r,hr⟩:=m1.1;obtain⟨a1,a2⟩:=qi2 hq l (h.step hm hnb) (by rw[hr];exact yaC _ hm) fun m hm2=>hl m (by simp[hm2])
   exact⟨a1,m1.trans a2⟩
theorem Tryz.c_path (g:Nat) (busy:List (List Bool)) (hops:List (Int×Int)) (sink:Int) (u:Nat) (hu:u<8) (ht:TreeOk (busy.getD u []) hops) (hs:0<=sink/\sink<=24) :
  ICall prog 211 [.ptr 0 0,.sl 1 g 2 0 hops.length,.d (dI sink),.d (dI u)] [.box (bx (qbZ busy)),.row g 2 true (hops.map fun x=>dP x)]
   (fun r H'=>r=.d (.tup [dPs (((qa5 (busy.getD u []) hops sink).getD []).drop hops.length),dB (qa5 (busy.getD u []) hops sink).isSome])/\H'=[.box (bx (qbZ busy)),.row g 2 true (hops.map fun x=>dP x)]):=by
 have hhl:=qex ht;refine qau (E:=env 2) tok rfl 1000 func211 rfl rfl ntmps211 (by simp) ?_;simp only[go_sem,seval,-List.reduceReplicate]
 repeat' first|assumption|(simp (disch:=first|assumption|omega|(simp;done)|(simp;omega)) only[yaa];try simp only[go_sem,seval,-List.reduceReplicate])|(with_reducible first|apply And.intro|intro _)|((try rw[qaa]);omega)
 refine qao (E:=env 2) tok (σ:=Nat) (fun i=>[(0,.ptr 0 0),(2,.d (dI sink)),(3,.d (dI u)),(10,.map 2),(11,.sl 3 i 1 0 i),(22,.sl 1 g 2 0 hops.length),(23,.d (dI hops.length)),(24,.d (dI i))])
  (fun i=>[.box (bx (qbZ busy)),.row g 2 true (hops.map fun x=>dP x),.map ((qak (hops.take i)).map fun t=>(dI t,dI (-1))),.row i 1 true ((qak (hops.take i)).map (D.int .i64))]) (fun i=>i<=hops.length) (fun i=>hops.length-i) [] [(11,1,true)] 1000 1000 ?_ ?_
 ·simp only[go_sem,seval,-List.reduceReplicate];exact⟨0,by omega,by simp[qak]⟩
 ·intro i hi;have hql:(qak (hops.take i)).length=i:=by simp[qak];omega
  by_cases hit:i<hops.length
  ·have hts:qak (hops.take (i+1))=qak (hops.take i) ++ [(hops.getD i (0,0)).1]:=qa9 (0,0) hit;have hni:(hops.getD i (0,0)).1∉qak (hops.take i):=fun hm=>by
    obtain⟨x,hx,he⟩:=List.mem_map.1 hm;obtain⟨j,hj,rfl⟩:=qaE (0,0) hx;have hj2:j<i:=by simp at hj;omega
    have e:(hops.take i).getD j (0,0)=hops.getD j (0,0):=by simp[List.getD,List.getElem?_take,hj2]
    rw[e] at he;have:=qq3 ht.nd (by omega) hit he;omega
   have eu:=qkN (fun _=>dI (-1)) _ (dI (-1)) _ hni;have hks:=qlZ (fun _=>dI (-1)) (qak (hops.take i));have hr:=ht.rng _ (qac hit:hops.getD i (0,0)∈hops);generalize qak (hops.take i)=q at *
   generalize hx9:hops.getD i (0,0)=x at *
   simp only[go_sem,seval,-List.reduceReplicate,hx9,eu]
   repeat' first|assumption|(simp (disch:=first|assumption|omega|(simp;done)|(simp;omega)) only[yaa];try simp only[go_sem,seval,-List.reduceReplicate,hx9,eu,hql])|(with_reducible first|apply And.intro|intro _)|((try rw[qaa]);omega)
   refine⟨i+1,by omega,by omega,rfl,?_⟩;rw[hts];simp
  ·obtain rfl:i=hops.length:=by omega
   rw[yav];have e0:((qak hops).map fun t=>(dI t,dI (-1)))=qgv (vis0 hops):=by
    refine ybd fun t ht2=>?_
    obtain⟨x,hx,rfl⟩:=List.mem_map.1 ht2;have:=ht.rng x hx;show _=(dI x.1,dI ((qhE hops).getD x.1.toNat 0))
    rw[qgr ht.rng this.1 this.2,if_pos ht2]
   rw[e0];simp only[go_sem,seval,-List.reduceReplicate]
   repeat' first|assumption|(simp (disch:=first|assumption|omega|(simp;done)|(simp;omega)) only[yaa];try simp only[go_sem,seval,-List.reduceReplicate])|(with_reducible first|apply And.intro|intro _)|((try rw[qaa]);omega)
   have hinv : ∀ k,(∀ j,j<k->j<(visV (busy.getD u []) (vis0 hops) j).2.length)->BInv (busy.getD u []) (qak hops) (visV (busy.getD u []) (vis0 hops) k):=fun k=>qey (qqW ht.rng ht.nd) k
   refine qao (E:=env 2) tok (σ:=Nat) (fun k=>[(0,.ptr 0 0),(2,.d (dI sink)),(3,.d (dI u)),(10,.map 2),(11,.sl 3 (visV (busy.getD u []) (vis0 hops) k).2.length 1 0 (visV (busy.getD u []) (vis0 hops) k).2.length),(14,.d (dI k))])
    (fun k=>[.box (bx (qbZ busy)),.row g 2 true (hops.map fun x=>dP x),.map (qgv (visV (busy.getD u []) (vis0 hops) k)),.row (visV (busy.getD u []) (vis0 hops) k).2.length 1 true ((visV (busy.getD u []) (vis0 hops) k).2.map (D.int .i64))]) (fun k=>k<=(visV (busy.getD u []) (vis0 hops) k).2.length/\(∀ j,j<k->j<(visV (busy.getD u []) (vis0 hops) j).2.length)/\∀ j,j<k->(visV (busy.getD u []) (vis0 hops) k).2.getD j 0≠sink) (fun k=>26-k) [] [] 1000 1000 ?_ ?_
   ·simp only[go_sem,seval,-List.reduceReplicate];refine⟨0,⟨by omega,by omega,by omega⟩,?_⟩;have:(qak hops).length=hops.length:=by simp[qak]
    simp[visV,vis0,this]
   ·rintro k ⟨hk,hj,hne⟩;have hbi:=hinv k hj;have hql:=hbi.qlen;have hxn:=qtk ht hs hj;have hxs:=qtl ht hs hj;have hvs:visV (busy.getD u []) (vis0 hops) (k+1)=visitB (busy.getD u []) (visV (busy.getD u []) (vis0 hops) k) ((visV (busy.getD u []) (vis0 hops) k).2.getD k 0):=rfl;generalize hS:visV (busy.getD u []) (vis0 hops) k=S at *
    obtain⟨fr,qu⟩:=S;simp only at hk hne hql hxn hxs hvs;by_cases hlt:k<qu.length
    ·have hqm:=qac hlt (z:=(0:Int));have hqr:=hbi.rng _ hqm;by_cases heq:qu.getD k 0=sink
     ·have hx:=hxs hlt heq;rw[hx];simp only[go_sem,seval,-List.reduceReplicate,heq]
      repeat' first|assumption|(simp (disch:=first|assumption|omega|(simp;done)|(simp;omega)) only[yaa];try simp only[go_sem,seval,-List.reduceReplicate,heq])|(with_reducible first|apply And.intro|intro _)|((try rw[qaa]);omega)
      have hfE : ∀ x,x∈qu->qcc (qgv (fr,qu)) (dI x)=some (dI (fr.getD x.toNat 0)):=fun x hx=>by rw[qgv,qi1,if_pos hx]
      clear hx hxs hxn hvs;refine qao (E:=env 2) tok (σ:=Nat×Nat×List (Int×Int)) (fun s=>[(10,.map 2),(15,.d (dPs s.2.2)),(16,.d (dI (qu.getD s.2.1 0)))]) (fun s=>[.box (bx (qbZ busy)),.row g 2 true (hops.map fun x=>dP x),.map (qgv (fr,qu))])
       (fun s=>s.2.1<s.1/\s.2.1<qu.length/\s.1+s.2.2.length<=25/\qct fr s.1 (qu.getD s.2.1 0) s.2.2=qct fr 25 sink []) (fun s=>s.1) [] [] 1000 1000 ?_ ?_
      ·simp only[go_sem,seval,-List.reduceReplicate];refine⟨(25,k,[]),⟨by simp only;omega,hlt,by simp,by rw[heq]⟩,?_⟩;simp only[List.map_nil,true_and,and_true];exact heq.symm
      ·rintro⟨f,p,acc⟩ ⟨hpf,hpq,hfa,hch⟩;simp only at hpf hpq hfa hch;have hpm0:=qac hpq (z:=(0:Int));have hpm:=hbi.rng _ hpm0;have hroot:=hbi.root p hpq;have hff:=hfE _ hpm0;simp only at hroot;obtain⟨f',rfl⟩ : ∃ f',f=f'+1:=⟨f-1,by omega⟩;have hcs:qct fr (f'+1) (qu.getD p 0) acc=if 0<=fr.getD (qu.getD p 0).toNat 0 then qct fr f' (fr.getD (qu.getD p 0).toNat 0) ((qu.getD p 0,fr.getD (qu.getD p 0).toNat 0)::acc) else acc:=rfl
       rw[hcs] at hch;by_cases hge:0<=fr.getD (qu.getD p 0).toNat 0
       ·rw[if_pos hge] at hch;obtain⟨m,hm1,hm2⟩ : ∃ m,m<p/\qu.getD m 0=fr.getD (qu.getD p 0).toNat 0:=by
         rcases hroot with⟨h1,-⟩|⟨-,-,-,m,h4,h5,-⟩
         ·omega
         ·exact⟨m,h4,h5⟩
        generalize qu.getD p 0=tt at *
        generalize hv9:fr.getD tt.toNat 0=v at *
        simp only[go_sem,seval,-List.reduceReplicate,hv9,hff,yaf]
        repeat' first|assumption|(simp (disch:=first|assumption|omega|(simp;done)|(simp;omega)) only[yaa];try simp only[go_sem,seval,-List.reduceReplicate,hv9,hff,yaf])|(with_reducible first|apply And.intro|intro _)|((try rw[qaa]);omega)
        all_goals first|exact qdl _|skip
        refine⟨(f',m,(tt,v)::acc),⟨by simp only;omega,by simp only;omega,by simp only[yau];omega,by simp only;rw[hm2];exact hch⟩,by simp only;omega,?_⟩;exact⟨rfl,hm2.symm⟩
       ·rw[if_neg hge] at hch;generalize qu.getD p 0=tt at *
        simp only[go_sem,seval,-List.reduceReplicate,hff,yaf]
        repeat' first|assumption|(simp (disch:=first|assumption|omega|(simp;done)|(simp;omega)) only[yaa];try simp only[go_sem,seval,-List.reduceReplicate,hff,yaf])|(with_reducible first|apply And.intro|intro _)|((try rw[qaa]);omega)
        all_goals first|exact qdl _|skip
        rw[<-hch,List.drop_left];refine qaH (r0:=.d (.tup [dPs acc,dB true])) (H1:=[.box (bx (qbZ busy)),.row g 2 true (hops.map fun x=>dP x)]) ?_ ⟨rfl,rfl⟩;simp only[go_sem,seval,-List.reduceReplicate]
     ·have hnb:=c_neighbours (qu.getD k 0) hqr;generalize hq9:qu.getD k 0=q at *
      simp only[go_sem,seval,-List.reduceReplicate,hq9]
      repeat' first|assumption|(simp (disch:=first|assumption|omega|(simp;done)|(simp;omega)) only[yaa];try simp only[go_sem,seval,-List.reduceReplicate,hq9])|(with_reducible first|apply And.intro|intro _)|(refine qab hnb ?_;simp only[go_sem,seval,-List.reduceReplicate,hq9])|((try rw[qaa]);omega)
      have hfold:=qto hqr (busy.getD u []) (fr,qu);have hsx:=fun i=>qi2 (busy:=busy.getD u []) hqr ((nb4 q).take i) hbi hqm fun n hn=>qq4 hqr (yat hn)
      have hgn:(D.agg [dI (nbUp q),dI (qeE q),dI (qc7 q),dI (qeF q)])=.agg ((nb4 q).map fun x=>dI x):=rfl;have hnl:(nb4 q).length=4:=rfl;rw[hgn];generalize hnb4:nb4 q=N at *
      refine qao (E:=env 2) tok (σ:=Nat) (fun i=>[(0,.ptr 0 0),(2,.d (dI sink)),(3,.d (dI u)),(10,.map 2),(11,.sl 3 ((N.take i).foldl (qf2 (busy.getD u []) q) (fr,qu)).2.length 1 0 ((N.take i).foldl (qf2 (busy.getD u []) q) (fr,qu)).2.length),(14,.d (dI k)),(70,.d (.agg (N.map fun x=>dI x))),(71,.d (dI i))])
       (fun i=>[.box (bx (qbZ busy)),.row g 2 true (hops.map fun x=>dP x),.map (qgv ((N.take i).foldl (qf2 (busy.getD u []) q) (fr,qu))),.row ((N.take i).foldl (qf2 (busy.getD u []) q) (fr,qu)).2.length 1 true (((N.take i).foldl (qf2 (busy.getD u []) q) (fr,qu)).2.map (D.int .i64))]) (fun i=>i<=4) (fun i=>4-i) [] [] 1000 1000 ?_ ?_
      ·simp only[go_sem,seval,-List.reduceReplicate];exact⟨0,by omega,by simp⟩
      ·intro i hi;obtain⟨hSi,hSm⟩:=hsx i;obtain⟨⟨r,hr⟩,hSm2⟩:=hSm;by_cases hit:i<4
       ·have hfs:=qa8 (f:=qf2 (busy.getD u []) q) (b:=(fr,qu)) (0:Int) (by omega:i<N.length);have hnm:=qq4 hqr (by rw[hnb4];exact qac (by omega):N.getD i 0∈nb4 q);have hnr:=fun h=>qlR hqr (N.getD i 0) h
        generalize hS2:(N.take i).foldl (qf2 (busy.getD u []) q) (fr,qu)=S at *
        obtain⟨f2,q2⟩:=S;have hq2l:=hSi.qlen;simp only at hr hq2l;have hk3:k<q2.length:=by rw[hr];simp;omega
        have hqk:q2.getD k 0=q:=by rw[hr,qae hlt];exact hq9
        generalize hn9:N.getD i 0=n at *
        have hN:(N.map fun x=>dI x).getD i D.nil=dI n:=by rw[<-hn9];simp[List.getD,show i<N.length by omega]
        have hlook : ∀ x,qcc (qgv (f2,q2)) (dI x)=if x∈q2 then some (dI (f2.getD x.toNat 0)) else none:=fun x=>by rw[qgv,qi1]
        have hse:qf2 (busy.getD u []) q (f2,q2) n=if n<0 then(f2,q2) else if f2.getD n.toNat 0 = -2/\(busy.getD u []).getD n.toNat false=false then(f2.set n.toNat q,q2 ++ [n]) else(f2,q2):=rfl
        have hlkn:=hlook n;rw[hse] at hfs;by_cases hneg:n<0
        ·rw[if_pos hneg] at hfs;have hd:decide (n<0)=true:=decide_eq_true hneg;have hbx:(bx (qbZ busy)).getD (n.toNat*8+u) I.junk=.d (.bool ((qbZ busy).getD u false)):=by
          have e0:n.toNat*8+u=u:=by omega
          rw[e0,qm8 (by rw[qbg];omega)]
         simp only[go_sem,seval,-List.reduceReplicate,hqk,hN,yaS,hd,hbx,hlkn]
         repeat' first|assumption|(simp (disch:=first|assumption|omega|(simp;done)|(simp;omega)) only[yaa];try simp only[go_sem,seval,-List.reduceReplicate,hqk,hN,yaS,hd,hbx,hlkn])|(with_reducible first|apply And.intro|intro _)|((try rw[qaa]);omega)
         all_goals first|exact qdl _|skip
         refine⟨i+1,by omega,by omega,?_⟩;rw[hfs];exact⟨⟨rfl,rfl⟩,rfl,rfl,rfl⟩
        ·rw[if_neg hneg] at hfs;have hnb2:=hnm.resolve_left hneg;have hn2:=(hnr hnb2).1;have hbx:(bx (qbZ busy)).getD (n.toNat*8+u) I.junk=.d (.bool ((busy.getD u []).getD n.toNat false)):=by
          rw[qm8 (by rw[qbg];omega),qlW (by omega) hu]
         have hd:decide (n<0)=false:=decide_eq_false hneg;have hseen:=hSi.seen n hn2.1 hn2.2;simp only at hseen;by_cases hb:(busy.getD u []).getD n.toNat false=true
         ·rw[if_neg (by rw[hb];simp)] at hfs;rw[hb] at hbx;simp only[go_sem,seval,-List.reduceReplicate,hqk,hN,yaS,hd,hbx,qbg]
          repeat' first|assumption|(simp (disch:=first|assumption|omega|(simp;done)|(simp;omega)) only[yaa];try simp only[go_sem,seval,-List.reduceReplicate,hqk,hN,yaS,hd,hbx,qbg])|(with_reducible first|apply And.intro|intro _)|((try rw[qaa]);omega)
          all_goals first|exact qdl _|skip
          refine⟨i+1,by omega,by omega,?_⟩;rw[hfs];exact⟨⟨rfl,rfl⟩,rfl,rfl,rfl⟩
         ·have hb2:(busy.getD u []).getD n.toNat false=false:=by simpa using hb
          rw[hb2] at hbx;by_cases hm:n∈q2
          ·rw[if_pos hm] at hlkn;rw[if_neg (fun h=>hseen.2 hm h.1)] at hfs;simp only[go_sem,seval,-List.reduceReplicate,hqk,hN,yaS,hd,hbx,qbg,hlkn]
           repeat' first|assumption|(simp (disch:=first|assumption|omega|(simp;done)|(simp;omega)) only[yaa];try simp only[go_sem,seval,-List.reduceReplicate,hqk,hN,yaS,hd,hbx,qbg,hlkn])|(with_reducible first|apply And.intro|intro _)|((try rw[qaa]);omega)
           all_goals first|exact qdl _|skip
           refine⟨i+1,by omega,by omega,?_⟩;rw[hfs];exact⟨⟨rfl,rfl⟩,rfl,rfl,rfl⟩
          ·rw[if_neg hm] at hlkn;rw[if_pos ⟨Decidable.byContradiction fun h=>hm (hseen.1 h),hb2⟩] at hfs;have hpush:=qo1 hSi (q:=q) hn2 hm;have hupd:updD (qgv (f2,q2)) (dI n) (dI q)=qgv (f2,q2) ++ [(dI n,dI q)]:=qkN (fun t=>dI (f2.getD t.toNat 0)) n (dI q) q2 hm;simp only[go_sem,seval,-List.reduceReplicate,hqk,hN,yaS,hd,hbx,qbg,hlkn,hupd]
           repeat' first|assumption|(simp (disch:=first|assumption|omega|(simp;done)|(simp;omega)) only[yaa];try simp only[go_sem,seval,-List.reduceReplicate,hqk,hN,yaS,hd,hbx,qbg,hlkn,hupd])|(with_reducible first|apply And.intro|intro _)|((try rw[qaa]);omega)
           all_goals first|exact qdl _|skip
           refine⟨i+1,by omega,by omega,?_⟩;rw[hfs,hpush];exact⟨⟨by simp,rfl⟩,rfl,by simp,rfl⟩
       ·obtain rfl:i=4:=by omega
        have e:N.take 4=N:=yaa (by omega);rw[e,hfold,<-hvs];rw[e,hfold,<-hvs] at hr;simp only at hr;simp only[go_sem,seval,-List.reduceReplicate]
        repeat' first|assumption|(simp (disch:=first|assumption|omega|(simp;done)|(simp;omega)) only[yaa];try simp only[go_sem,seval,-List.reduceReplicate])|(with_reducible first|apply And.intro|intro _)|((try rw[qaa]);omega)
        refine⟨k+1,⟨by rw[hr];simp;omega,fun j hj2=>?_,fun j hj2 he=>?_⟩,by omega,⟨rfl,rfl⟩,rfl,rfl,rfl⟩
        ·by_cases e:j=k
         ·subst e;rw[hS];exact hlt
         ·exact hj j (by omega)
        ·rw[hr] at he;by_cases e:j=k
         ·subst e;rw[qae hlt,hq9] at he;exact heq he
         ·rw[qae (by omega)] at he;exact hne j (by omega) he
    ·have hke:k=qu.length:=by omega
     have hx:=hxn hke (fun hm=>by
      obtain⟨j,hj2,he⟩:=qaE 0 hm;exact hne j (by omega) he)
     rw[hx];simp only[go_sem,seval,-List.reduceReplicate]
     repeat' first|assumption|(simp (disch:=first|assumption|omega|(simp;done)|(simp;omega)) only[yaa];try simp only[go_sem,seval,-List.reduceReplicate])|(with_reducible first|apply And.intro|intro _)|((try rw[qaa]);omega)
     refine qaH (r0:=.d (.tup [dPs [],dB false])) (H1:=[.box (bx (qbZ busy)),.row g 2 true (hops.map fun x=>dP x)]) ?_ ⟨rfl,rfl⟩;simp only[go_sem,seval,-List.reduceReplicate]

def qtp (busy:List (List Bool)) (o:Option (List (Int×Int))) (r:I) (H':List R):Prop:=
 match o with
 | none=>r=.tup [.d .nil,.d (dB false)]/\H'=[.box (bx (qbZ busy))]
 | some h=>∃ g,r=.tup [.sl 1 g 2 0 h.length,.d (dB true)]/\H'=[.box (bx (qbZ busy)),.row g 2 true (h.map fun x=>dP x)]
theorem Tryz.c_tree (busy:List (List Bool)) (tiles:List Int) (u:Nat) (hu:u<8) (hne:tiles≠[]) (hr : ∀ t∈tiles,0<=t/\t<=24) (htl:tiles.length<=1000) :
  ICall prog 188 [.ptr 0 0,.d (dIs tiles),.d (dI u)] [.box (bx (qbZ busy))] (qtp busy (qgp (busy.getD u []) tiles)):=by
 obtain⟨t0,l,rfl⟩ : ∃ t0 l,tiles=t0::l:=by
  cases tiles with
  | nil=>exact absurd rfl hne
  | cons t0 l=>exact⟨t0,l,rfl⟩
 have h0:=hr t0 (by simp);have hl:l.length<=1000:=by simp at htl;omega
 have hT:qgp (busy.getD u []) (t0::l)=if(busy.getD u []).getD t0.toNat false=true then none else l.foldl (fun o t=>o.bind fun hops=>qa5 (busy.getD u []) hops t) (some [(t0,-1)]):=rfl;have hbx:(bx (qbZ busy)).getD (t0.toNat*8+u) I.junk=.d (.bool ((busy.getD u []).getD t0.toNat false)):=by
  rw[qm8 (by rw[qbg];omega),qlW (by omega) hu]
 rw[hT];refine qau (E:=env 1) tok rfl 1000 func188 rfl rfl ntmps188 (by simp) ?_
 repeat' first|assumption|(simp (disch:=first|assumption|omega|(simp;done)|(simp;omega)) only[go_sem,seval,hbx,yaS,qbg,yaa])|(with_reducible first|apply And.intro|intro _)|exact lexT|((try rw[qaa]);omega)
 ·rename_i hb;rw[if_pos hb];exact qcz ⟨rfl,rfl⟩
 rename_i hb;rw[if_neg (by rw[hb];simp)];have base:TreeOk (busy.getD u []) [(t0,-1)]:=by
  refine⟨fun x hx=>?_,by simp[qak],fun x hx=>?_,by simp,fun j hj=>?_⟩
  ·obtain rfl:x=(t0,-1):=by simpa using hx
   exact h0
  ·obtain rfl:x=(t0,-1):=by simpa using hx
   simpa using hb
  ·obtain rfl:j=0:=by simpa using hj
   exact .inl ⟨rfl,rfl⟩
 have hrl : ∀ t∈l,0<=t/\t<=24:=fun t ht=>hr t (by simp[ht])
 refine qao (E:=env 1) tok (σ:=Nat×Nat×List (Int×Int)) (fun s=>[(0,.ptr 0 0),(2,.d (dI u)),(8,.sl 1 s.2.1 2 0 s.2.2.length),(29,.d (dIs l)),(30,.d (dI l.length)),(31,.d (dI s.1))])
  (fun s=>[.box (bx (qbZ busy)),.row s.2.1 2 true (s.2.2.map fun x=>dP x)]) (fun s=>s.1<=l.length/\TreeOk (busy.getD u []) s.2.2/\(l.take s.1).foldl (fun o t=>o.bind fun hops=>qa5 (busy.getD u []) hops t) (some [(t0,-1)])=some s.2.2) (fun s=>l.length-s.1) [] [] 1000 1000 ?_ ?_
 ·simp only[go_sem,seval];exact⟨(0,0,[(t0,-1)]),⟨by simp,base,by simp⟩,by simp⟩
 ·rintro⟨i,g,hops⟩ ⟨hi,ht,hf⟩;simp only at hi ht hf;have hhl:=qex ht;by_cases hlt:i<l.length
  ·have hfs:=qa8 (f:=fun(o:Option (List (Int×Int))) (t:Int)=>o.bind fun hops=>qa5 (busy.getD u []) hops t) (b:=some [(t0,-1)]) (0:Int) hlt;rw[hf,ybl] at hfs;have htr:=hrl _ (qac hlt:l.getD i 0∈l);generalize hx9:l.getD i 0=x at *
   have hpa:=c_path g busy hops x u hu ht htr;have hdrop:l.foldl (fun o t=>o.bind fun hops=>qa5 (busy.getD u []) hops t) (some [(t0,-1)])=(l.drop (i+1)).foldl (fun o t=>o.bind fun hops=>qa5 (busy.getD u []) hops t) (qa5 (busy.getD u []) hops x):=by
    conv=>lhs;rw[<-List.take_append_drop (i+1) l]
    rw[yaQ,hfs]
   repeat' first|assumption|(simp (disch:=first|assumption|omega|(simp;done)|(simp;omega)) only[go_sem,seval,hx9,yaa])|(with_reducible first|apply And.intro|intro _)|exact lexT|((try rw[qaa]);omega)
   refine qal hpa [0,1] (by simp only[go_sem,seval]) ?_;rintro r0 H1 ⟨rfl,rfl⟩;cases hex:qa5 (busy.getD u []) hops x with
   | none=>
    rw[hex,qgt] at hdrop;rw[hdrop]
    repeat' first|assumption|(simp (disch:=first|assumption|omega|(simp;done)|(simp;omega)) only[go_sem,seval,yaa])|(with_reducible first|apply And.intro|intro _)|exact lexT|((try rw[qaa]);omega)
    refine qaH (r0:=.tup [.d .nil,.d (dB false)]) (H1:=[.box (bx (qbZ busy))]) ?_ ⟨rfl,rfl⟩;simp only[go_sem,seval]
   | some h2=>
    obtain⟨a1,a2,r1,a3⟩:=qiW ht htr hex;have hl2:=qex a1;rw[hex] at hfs;subst a3
    repeat' first|assumption|(simp (disch:=first|assumption|omega|(simp;done)|(simp;omega)) only[go_sem,seval,yaf,List.drop_left,yaa])|(with_reducible first|apply And.intro|intro _)|exact lexT|((try rw[qaa]);omega)
    ·have hll:(hops++r1).length=hops.length+r1.length:=yae ..;omega
    ·refine⟨(i+1,g+1,hops++r1),⟨by simp only;omega,a1,hfs⟩,by simp only;omega,⟨⟨rfl,by simp⟩,rfl⟩,rfl,rfl⟩
  ·obtain rfl:i=l.length:=by omega
   rw[yav] at hf;rw[hf]
   repeat' first|assumption|(simp (disch:=first|assumption|omega|(simp;done)|(simp;omega)) only[go_sem,seval,yaa])|(with_reducible first|apply And.intro|intro _)|exact lexT|((try rw[qaa]);omega)
   exact qcz ⟨_,rfl,rfl⟩
end Go.Proofs
