/- Contracts, plain definitions and lemmas. Conditions: none; lemmas. -/
import Derived.Test.YteikeianenfhaaaGreatD6
import Derived.Test.YteikeianenfhaaaGreatF3
import Derived.Test.YteikeianenfhaaaGreatC74
import Derived.Test.YteikeianenfhaaaGreatC46
set_option maxRecDepth 20000
set_option linter.unusedSimpArgs false
set_option linter.unusedVariables false
set_option maxHeartbeats 2000000
namespace Go.Proofs
set_option linter.defProp false
open Go Go.VL Tryz
variable {l:List Bool}{k:Nat}{n q:Int}
def qgQ (s:BS):List (D×D):=s.2.map fun t=>(dI t,dI (s.1.getD t.toNat 0))
def bx (l:List Bool):List I:=l.map fun b=>.d (.bool b)
@[go_sem] def fitL_bx {K:List R} : ∀ {l:List Bool},fitL K (bx l) (bx l)=True
 | []=>rfl
 | b::l=>by
  show(fit1 K (.d (.bool b)) (.d (.bool b))/\fitL K (bx l) (bx l))=True
  rw[fitL_bx];simp only[go_sem,and_true]
@[go_sem] def qsc {m:Nat} : ∀ {l:List Bool},qfJ m (bx l)=True
 | []=>rfl
 | b::l=>by
  show((I.d (.bool b)).idlt m/\qfJ m (bx l))=True
  rw[qsc];simp only[go_sem,and_true]
@[go_sem] def renL_bx {ρ : Nat->Nat} : ∀ {l:List Bool},renL ρ (bx l)=bx l
 | []=>rfl
 | b::l=>by
  show renI ρ (.d (.bool b))::renL ρ (bx l)=_
  rw[renL_bx];rfl
@[go_sem] def zqY:(bx l).length=l.length:=by simp[bx]
def qmT (h:k<l.length):(bx l).getD k .junk=.d (.bool (l.getD k false)):=getD_lt _ _ _ _ _ h
def qte {b:Bool}:(bx l).set k (.d (.bool b))=bx (l.set k b):=by simp[bx,List.map_set]
def qjf (g:Int->D) (x:Int) : ∀ l:List Int,qcP (l.map fun t=>(dI t,g t)) (dI x)=if x∈l then some (g x) else none
 | []=>rfl
 | y::l=>by
  have ih:=qjf g x l;show qcP ((dI y,g y)::l.map fun t=>(dI t,g t)) _=_
  rw[qeh,qdE];by_cases h:x=y
  ·subst h;simp
  ·rw[decide_eq_false h];simp only[yah,if_false,ih,yaE,h,false_or]
def qkT (g:Int->D) (x:Int) (v:D) : ∀ l:List Int,x∉l->updD (l.map fun t=>(dI t,g t)) (dI x) v=(l.map fun t=>(dI t,g t)) ++ [(dI x,v)]
 | [],_=>rfl
 | y::l,hx=>by
  rw[yaE,not_or] at hx;have ih:=qkT g x v l hx.2;show updD ((dI y,g y)::l.map fun t=>(dI t,g t)) _ _=_
  rw[updD,qdE,decide_eq_false hx.1];simp only[yah,if_false,ih];rfl
def ql1 (g:Int->D) (l:List Int):qbw (.int .i64) (l.map fun t=>(dI t,g t)):=by
 rw[qcV];intro e he;obtain⟨x,_,rfl⟩:=List.mem_map.1 he;exact rfl
def qdI (s:BS):qbw (.int .i64) (qgQ s):=ql1 (fun t=>dI (s.1.getD t.toNat 0)) s.2
def qov {busy:List Bool}{T:List Int}{s:BS}(h:BInv busy T s) (hn:0<=n/\n<=24) (hm:n∉s.2):qgQ (s.1.set n.toNat q,s.2 ++ [n])=qgQ s ++ [(dI n,dI q)]:=by
 have hl:=h.len;have e : ∀ t,t∈s.2->(s.1.set n.toNat q).getD t.toNat 0=s.1.getD t.toNat 0:=fun t ht=>by
  have:=h.rng t ht;rw[qcp (by omega),if_neg];intro e;have:t=n:=by omega
  subst this;exact hm ht
 unfold qgQ;rw[yaz];congr 1
 ·exact List.map_congr_left fun t ht=>by
   show(dI t,dI ((s.1.set n.toNat q).getD t.toNat 0))=_
   rw[e t ht]
 ·show [(dI n,dI ((s.1.set n.toNat q).getD n.toNat 0))]=_
  rw[qcp (by omega),if_pos rfl]
def nb4 (t:Int):List Int:=[nbUp t,qd2 t,qcN t,qd3 t]
def qgc (busy:List Bool) (q:Int) (s:BS) (n:Int):BS:=if n<0 then s else qcQ busy q s n
def qqo (hq:0<=q/\q<=24) (h:n∈nb4 q):n<0∨n∈nbC q:=by
 simp only[nb4,yaE,List.not_mem_nil,or_false] at h;unfold nbC nbUp qd2 qcN qd3 at *
 simp only[yax];rcases h with h|h|h|h <;> split at h
 ·exact .inr (.inl (.inl (.inl (by simp[*]))))
 ·exact .inl (by omega)
 ·exact .inr (.inl (.inl (.inr (by simp[*]))))
 ·exact .inl (by omega)
 ·exact .inr (.inl (.inr (by simp[*])))
 ·exact .inl (by omega)
 ·exact .inr (.inr (by simp[*]))
 ·exact .inl (by omega)
def qsd (hq:0<=q/\q<=24) (busy:List Bool) (s:BS):(nb4 q).foldl (qgc busy q) s=visitB busy s q:=by
 have e : ∀ (s:BS) (n:Int) (p:Prop) [Decidable p],(p->0<=n)->qgc busy q s (if p then n else -1)=(if p then [n] else []).foldl (qcQ busy q) s:=by
  intro s n p _ h;split
  ·rename_i hp;have:=h hp;rw[qgc,if_neg (by omega)];rfl
  ·rfl
 unfold visitB nbC nb4 nbUp qd2 qcN qd3;simp only[yaM,yao,List.foldl_nil];rw[e _ _ _ (by omega),e _ _ _ (by omega),e _ _ _ (by omega),e _ _ _ (by omega)]
def qjg {busy:List Bool}{T:List Int}{q:Int}(hq:0<=q/\q<=24) : ∀ (l:List Int) {s:BS},BInv busy T s->q∈s.2->(∀ n∈l,n<0∨n∈nbC q)->BInv busy T (l.foldl (qgc busy q) s)/\MonoB s (l.foldl (qgc busy q) s)
 | [],s,h,_,_=>⟨h,MonoB.rfl s⟩
 | n::l,s,h,hm,hl=>by
  rw[yao];by_cases hn:n<0
  ·rw[qgc,if_pos hn];exact qjg hq l h hm fun m hm2=>hl m (by simp[hm2])
  ·rw[qgc,if_neg hn];have hnb:=(hl n (by simp)).resolve_left hn;have m1:=qjS h (q:=q) (qjP hq n hnb).1;obtain⟨r,hr⟩:=m1.1;obtain⟨a1,a2⟩:=qjg hq l (h.step hm hnb) (by rw[hr];exact yaI _ hm) fun m hm2=>hl m (by simp[hm2])
   exact⟨a1,m1.trans a2⟩
def Tryz.c_path (g:Nat) (busy:List (List Bool)) (hops:List (Int×Int)) (sink:Int) (u:Nat) (hu:u<8) (ht:TreeOk (busy.getD u []) hops) (hs:0<=sink/\sink<=24) :
  ICall prog 211 [.ptr 0 0,.sl 1 g 2 0 hops.length,.d (dI sink),.d (dI u)] [.box (bx (qcb busy)),.row g 2 true (hops.map fun x=>dP x)]
   (fun r H'=>r=.d (.tup [dPs (((qaJ (busy.getD u []) hops sink).getD []).drop hops.length),dB (qaJ (busy.getD u []) hops sink).isSome])/\H'=[.box (bx (qcb busy)),.row g 2 true (hops.map fun x=>dP x)]):=by
 have hhl:=qdz ht;refine qaz (E:=env 2) tok rfl 1000 func211 rfl rfl ntmps211 (by simp) ?_;simp only[go_sem,seval,-List.reduceReplicate]
 repeat' first|assumption|(simp (disch:=first|assumption|omega|(simp;done)|(simp;omega)) only[yaa];try simp only[go_sem,seval,-List.reduceReplicate])|(with_reducible first|apply And.intro|intro _)|((try rw[qaa]);omega)
 refine qaf (E:=env 2) tok (σ:=Nat) (fun i=>[(0,.ptr 0 0),(2,.d (dI sink)),(3,.d (dI u)),(10,.map 2),(11,.sl 3 i 1 0 i),(22,.sl 1 g 2 0 hops.length),(23,.d (dI hops.length)),(24,.d (dI i))])
  (fun i=>[.box (bx (qcb busy)),.row g 2 true (hops.map fun x=>dP x),.map ((qao (hops.take i)).map fun t=>(dI t,dI (-1))),.row i 1 true ((qao (hops.take i)).map (D.int .i64))]) (fun i=>i<=hops.length) (fun i=>hops.length-i) [] [(11,1,true)] 1000 1000 ?_ ?_
 ·simp only[go_sem,seval,-List.reduceReplicate];exact⟨0,by omega,by simp[qao]⟩
 ·intro i hi;have hql:(qao (hops.take i)).length=i:=by simp[qao];omega
  by_cases hit:i<hops.length
  ·have hts:qao (hops.take (i+1))=qao (hops.take i) ++ [(hops.getD i (0,0)).1]:=qaT (0,0) hit;have hni:(hops.getD i (0,0)).1∉qao (hops.take i):=fun hm=>by
    obtain⟨x,hx,he⟩:=List.mem_map.1 hm;obtain⟨j,hj,rfl⟩:=qaV (0,0) hx;have hj2:j<i:=by simp at hj;omega
    have e:(hops.take i).getD j (0,0)=hops.getD j (0,0):=by simp[List.getD,List.getElem?_take,hj2]
    rw[e] at he;have:=qp7 ht.nd (by omega) hit he;omega
   have eu:=qkT (fun _=>dI (-1)) _ (dI (-1)) _ hni;have hks:=ql1 (fun _=>dI (-1)) (qao (hops.take i));have hr:=ht.rng _ (qad hit:hops.getD i (0,0)∈hops);generalize qao (hops.take i)=q at *
   generalize hx9:hops.getD i (0,0)=x at *
   simp only[go_sem,seval,-List.reduceReplicate,hx9,eu]
   repeat' first|assumption|(simp (disch:=first|assumption|omega|(simp;done)|(simp;omega)) only[yaa];try simp only[go_sem,seval,-List.reduceReplicate,hx9,eu,hql])|(with_reducible first|apply And.intro|intro _)|((try rw[qaa]);omega)
   refine⟨i+1,by omega,by omega,rfl,?_⟩;rw[hts];simp
  ·obtain rfl:i=hops.length:=by omega
   rw[yaA];have e0:((qao hops).map fun t=>(dI t,dI (-1)))=qgQ (vis0 hops):=by
    refine List.map_congr_left fun t ht2=>?_
    obtain⟨x,hx,rfl⟩:=List.mem_map.1 ht2;have:=ht.rng x hx;show _=(dI x.1,dI ((qf9 hops).getD x.1.toNat 0))
    rw[qgG ht.rng this.1 this.2,if_pos ht2]
   rw[e0];simp only[go_sem,seval,-List.reduceReplicate]
   repeat' first|assumption|(simp (disch:=first|assumption|omega|(simp;done)|(simp;omega)) only[yaa];try simp only[go_sem,seval,-List.reduceReplicate])|(with_reducible first|apply And.intro|intro _)|((try rw[qaa]);omega)
   have hinv : ∀ k,(∀ j,j<k->j<(visV (busy.getD u []) (vis0 hops) j).2.length)->BInv (busy.getD u []) (qao hops) (visV (busy.getD u []) (vis0 hops) k):=fun k=>qeR (qom ht.rng ht.nd) k
   refine qaf (E:=env 2) tok (σ:=Nat) (fun k=>[(0,.ptr 0 0),(2,.d (dI sink)),(3,.d (dI u)),(10,.map 2),(11,.sl 3 (visV (busy.getD u []) (vis0 hops) k).2.length 1 0 (visV (busy.getD u []) (vis0 hops) k).2.length),(14,.d (dI k))])
    (fun k=>[.box (bx (qcb busy)),.row g 2 true (hops.map fun x=>dP x),.map (qgQ (visV (busy.getD u []) (vis0 hops) k)),.row (visV (busy.getD u []) (vis0 hops) k).2.length 1 true ((visV (busy.getD u []) (vis0 hops) k).2.map (D.int .i64))]) (fun k=>k<=(visV (busy.getD u []) (vis0 hops) k).2.length/\(∀ j,j<k->j<(visV (busy.getD u []) (vis0 hops) j).2.length)/\∀ j,j<k->(visV (busy.getD u []) (vis0 hops) k).2.getD j 0≠sink) (fun k=>26-k) [] [] 1000 1000 ?_ ?_
   ·simp only[go_sem,seval,-List.reduceReplicate];refine⟨0,⟨by omega,by omega,by omega⟩,?_⟩;have:(qao hops).length=hops.length:=by simp[qao]
    simp[visV,vis0,this]
   ·rintro k ⟨hk,hj,hne⟩;have hbi:=hinv k hj;have hql:=hbi.qlen;have hxn:=qr0 ht hs hj;have hxs:=qr1 ht hs hj;have hvs:visV (busy.getD u []) (vis0 hops) (k+1)=visitB (busy.getD u []) (visV (busy.getD u []) (vis0 hops) k) ((visV (busy.getD u []) (vis0 hops) k).2.getD k 0):=rfl;generalize hS:visV (busy.getD u []) (vis0 hops) k=S at *
    obtain⟨fr,qu⟩:=S;simp only at hk hne hql hxn hxs hvs;by_cases hlt:k<qu.length
    ·have hqm:=qad hlt (z:=(0:Int));have hqr:=hbi.rng _ hqm;by_cases heq:qu.getD k 0=sink
     ·have hx:=hxs hlt heq;rw[hx];simp only[go_sem,seval,-List.reduceReplicate,heq]
      repeat' first|assumption|(simp (disch:=first|assumption|omega|(simp;done)|(simp;omega)) only[yaa];try simp only[go_sem,seval,-List.reduceReplicate,heq])|(with_reducible first|apply And.intro|intro _)|((try rw[qaa]);omega)
      have hfE : ∀ x,x∈qu->qcP (qgQ (fr,qu)) (dI x)=some (dI (fr.getD x.toNat 0)):=fun x hx=>by rw[qgQ,qjf,if_pos hx]
      clear hx hxs hxn hvs;refine qaf (E:=env 2) tok (σ:=Nat×Nat×List (Int×Int)) (fun s=>[(10,.map 2),(15,.d (dPs s.2.2)),(16,.d (dI (qu.getD s.2.1 0)))]) (fun s=>[.box (bx (qcb busy)),.row g 2 true (hops.map fun x=>dP x),.map (qgQ (fr,qu))])
       (fun s=>s.2.1<s.1/\s.2.1<qu.length/\s.1+s.2.2.length<=25/\qbX fr s.1 (qu.getD s.2.1 0) s.2.2=qbX fr 25 sink []) (fun s=>s.1) [] [] 1000 1000 ?_ ?_
      ·simp only[go_sem,seval,-List.reduceReplicate];refine⟨(25,k,[]),⟨by simp only;omega,hlt,by simp,by rw[heq]⟩,?_⟩;simp only[List.map_nil,true_and,and_true];exact heq.symm
      ·rintro⟨f,p,acc⟩ ⟨hpf,hpq,hfa,hch⟩;simp only at hpf hpq hfa hch;have hpm0:=qad hpq (z:=(0:Int));have hpm:=hbi.rng _ hpm0;have hroot:=hbi.root p hpq;have hff:=hfE _ hpm0;simp only at hroot;obtain⟨f',rfl⟩ : ∃ f',f=f'+1:=⟨f-1,by omega⟩;have hcs:qbX fr (f'+1) (qu.getD p 0) acc=if 0<=fr.getD (qu.getD p 0).toNat 0 then qbX fr f' (fr.getD (qu.getD p 0).toNat 0) ((qu.getD p 0,fr.getD (qu.getD p 0).toNat 0)::acc) else acc:=rfl
       rw[hcs] at hch;by_cases hge:0<=fr.getD (qu.getD p 0).toNat 0
       ·rw[if_pos hge] at hch;obtain⟨m,hm1,hm2⟩ : ∃ m,m<p/\qu.getD m 0=fr.getD (qu.getD p 0).toNat 0:=by
         rcases hroot with⟨h1,-⟩|⟨-,-,-,m,h4,h5,-⟩
         ·omega
         ·exact⟨m,h4,h5⟩
        generalize qu.getD p 0=tt at *
        generalize hv9:fr.getD tt.toNat 0=v at *
        simp only[go_sem,seval,-List.reduceReplicate,hv9,hff,yag]
        repeat' first|assumption|(simp (disch:=first|assumption|omega|(simp;done)|(simp;omega)) only[yaa];try simp only[go_sem,seval,-List.reduceReplicate,hv9,hff,yag])|(with_reducible first|apply And.intro|intro _)|((try rw[qaa]);omega)
        all_goals first|exact qdI _|skip
        refine⟨(f',m,(tt,v)::acc),⟨by simp only;omega,by simp only;omega,by simp only[yaf];omega,by simp only;rw[hm2];exact hch⟩,by simp only;omega,?_⟩;exact⟨rfl,hm2.symm⟩
       ·rw[if_neg hge] at hch;generalize qu.getD p 0=tt at *
        simp only[go_sem,seval,-List.reduceReplicate,hff,yag]
        repeat' first|assumption|(simp (disch:=first|assumption|omega|(simp;done)|(simp;omega)) only[yaa];try simp only[go_sem,seval,-List.reduceReplicate,hff,yag])|(with_reducible first|apply And.intro|intro _)|((try rw[qaa]);omega)
        all_goals first|exact qdI _|skip
        rw[<-hch,List.drop_left];refine qaK (r0:=.d (.tup [dPs acc,dB true])) (H1:=[.box (bx (qcb busy)),.row g 2 true (hops.map fun x=>dP x)]) ?_ ⟨rfl,rfl⟩;simp only[go_sem,seval,-List.reduceReplicate]
     ·have hnb:=c_neighbours (qu.getD k 0) hqr;generalize hq9:qu.getD k 0=q at *
      simp only[go_sem,seval,-List.reduceReplicate,hq9]
      repeat' first|assumption|(simp (disch:=first|assumption|omega|(simp;done)|(simp;omega)) only[yaa];try simp only[go_sem,seval,-List.reduceReplicate,hq9])|(with_reducible first|apply And.intro|intro _)|(refine qac hnb ?_;simp only[go_sem,seval,-List.reduceReplicate,hq9])|((try rw[qaa]);omega)
      have hfold:=qsd hqr (busy.getD u []) (fr,qu);have hsx:=fun i=>qjg (busy:=busy.getD u []) hqr ((nb4 q).take i) hbi hqm fun n hn=>qqo hqr (yau hn)
      have hgn:(D.agg [dI (nbUp q),dI (qd2 q),dI (qcN q),dI (qd3 q)])=.agg ((nb4 q).map fun x=>dI x):=rfl;have hnl:(nb4 q).length=4:=rfl;rw[hgn];generalize hnb4:nb4 q=N at *
      refine qaf (E:=env 2) tok (σ:=Nat) (fun i=>[(0,.ptr 0 0),(2,.d (dI sink)),(3,.d (dI u)),(10,.map 2),(11,.sl 3 ((N.take i).foldl (qgc (busy.getD u []) q) (fr,qu)).2.length 1 0 ((N.take i).foldl (qgc (busy.getD u []) q) (fr,qu)).2.length),(14,.d (dI k)),(70,.d (.agg (N.map fun x=>dI x))),(71,.d (dI i))])
       (fun i=>[.box (bx (qcb busy)),.row g 2 true (hops.map fun x=>dP x),.map (qgQ ((N.take i).foldl (qgc (busy.getD u []) q) (fr,qu))),.row ((N.take i).foldl (qgc (busy.getD u []) q) (fr,qu)).2.length 1 true (((N.take i).foldl (qgc (busy.getD u []) q) (fr,qu)).2.map (D.int .i64))]) (fun i=>i<=4) (fun i=>4-i) [] [] 1000 1000 ?_ ?_
      ·simp only[go_sem,seval,-List.reduceReplicate];exact⟨0,by omega,by simp⟩
      ·intro i hi;obtain⟨hSi,hSm⟩:=hsx i;obtain⟨⟨r,hr⟩,hSm2⟩:=hSm;by_cases hit:i<4
       ·have hfs:=qaA (f:=qgc (busy.getD u []) q) (b:=(fr,qu)) (0:Int) (by omega:i<N.length);have hnm:=qqo hqr (by rw[hnb4];exact qad (by omega):N.getD i 0∈nb4 q);have hnr:=fun h=>qjP hqr (N.getD i 0) h
        generalize hS2:(N.take i).foldl (qgc (busy.getD u []) q) (fr,qu)=S at *
        obtain⟨f2,q2⟩:=S;have hq2l:=hSi.qlen;simp only at hr hq2l;have hk3:k<q2.length:=by rw[hr];simp;omega
        have hqk:q2.getD k 0=q:=by rw[hr,qaq hlt];exact hq9
        generalize hn9:N.getD i 0=n at *
        have hN:(N.map fun x=>dI x).getD i D.nil=dI n:=by rw[<-hn9];simp[List.getD,show i<N.length by omega]
        have hlook : ∀ x,qcP (qgQ (f2,q2)) (dI x)=if x∈q2 then some (dI (f2.getD x.toNat 0)) else none:=fun x=>by rw[qgQ,qjf]
        have hse:qgc (busy.getD u []) q (f2,q2) n=if n<0 then(f2,q2) else if f2.getD n.toNat 0 = -2/\(busy.getD u []).getD n.toNat false=false then(f2.set n.toNat q,q2 ++ [n]) else(f2,q2):=rfl
        have hlkn:=hlook n;rw[hse] at hfs;by_cases hneg:n<0
        ·rw[if_pos hneg] at hfs;have hd:decide (n<0)=true:=decide_eq_true hneg;have hbx:(bx (qcb busy)).getD (n.toNat*8+u) I.junk=.d (.bool ((qcb busy).getD u false)):=by
          have e0:n.toNat*8+u=u:=by omega
          rw[e0,qmT (by rw[qbt];omega)]
         simp only[go_sem,seval,-List.reduceReplicate,hqk,hN,yaR,hd,hbx,hlkn]
         repeat' first|assumption|(simp (disch:=first|assumption|omega|(simp;done)|(simp;omega)) only[yaa];try simp only[go_sem,seval,-List.reduceReplicate,hqk,hN,yaR,hd,hbx,hlkn])|(with_reducible first|apply And.intro|intro _)|((try rw[qaa]);omega)
         all_goals first|exact qdI _|skip
         refine⟨i+1,by omega,by omega,?_⟩;rw[hfs];exact⟨⟨rfl,rfl⟩,rfl,rfl,rfl⟩
        ·rw[if_neg hneg] at hfs;have hnb2:=hnm.resolve_left hneg;have hn2:=(hnr hnb2).1;have hbx:(bx (qcb busy)).getD (n.toNat*8+u) I.junk=.d (.bool ((busy.getD u []).getD n.toNat false)):=by
          rw[qmT (by rw[qbt];omega),qlL (by omega) hu]
         have hd:decide (n<0)=false:=decide_eq_false hneg;have hseen:=hSi.seen n hn2.1 hn2.2;simp only at hseen;by_cases hb:(busy.getD u []).getD n.toNat false=true
         ·rw[if_neg (by rw[hb];simp)] at hfs;rw[hb] at hbx;simp only[go_sem,seval,-List.reduceReplicate,hqk,hN,yaR,hd,hbx,qbt]
          repeat' first|assumption|(simp (disch:=first|assumption|omega|(simp;done)|(simp;omega)) only[yaa];try simp only[go_sem,seval,-List.reduceReplicate,hqk,hN,yaR,hd,hbx,qbt])|(with_reducible first|apply And.intro|intro _)|((try rw[qaa]);omega)
          all_goals first|exact qdI _|skip
          refine⟨i+1,by omega,by omega,?_⟩;rw[hfs];exact⟨⟨rfl,rfl⟩,rfl,rfl,rfl⟩
         ·have hb2:(busy.getD u []).getD n.toNat false=false:=by simpa using hb
          rw[hb2] at hbx;by_cases hm:n∈q2
          ·rw[if_pos hm] at hlkn;rw[if_neg (fun h=>hseen.2 hm h.1)] at hfs;simp only[go_sem,seval,-List.reduceReplicate,hqk,hN,yaR,hd,hbx,qbt,hlkn]
           repeat' first|assumption|(simp (disch:=first|assumption|omega|(simp;done)|(simp;omega)) only[yaa];try simp only[go_sem,seval,-List.reduceReplicate,hqk,hN,yaR,hd,hbx,qbt,hlkn])|(with_reducible first|apply And.intro|intro _)|((try rw[qaa]);omega)
           all_goals first|exact qdI _|skip
           refine⟨i+1,by omega,by omega,?_⟩;rw[hfs];exact⟨⟨rfl,rfl⟩,rfl,rfl,rfl⟩
          ·rw[if_neg hm] at hlkn;rw[if_pos ⟨Decidable.byContradiction fun h=>hm (hseen.1 h),hb2⟩] at hfs;have hpush:=qov hSi (q:=q) hn2 hm;have hupd:updD (qgQ (f2,q2)) (dI n) (dI q)=qgQ (f2,q2) ++ [(dI n,dI q)]:=qkT (fun t=>dI (f2.getD t.toNat 0)) n (dI q) q2 hm;simp only[go_sem,seval,-List.reduceReplicate,hqk,hN,yaR,hd,hbx,qbt,hlkn,hupd]
           repeat' first|assumption|(simp (disch:=first|assumption|omega|(simp;done)|(simp;omega)) only[yaa];try simp only[go_sem,seval,-List.reduceReplicate,hqk,hN,yaR,hd,hbx,qbt,hlkn,hupd])|(with_reducible first|apply And.intro|intro _)|((try rw[qaa]);omega)
           all_goals first|exact qdI _|skip
           refine⟨i+1,by omega,by omega,?_⟩;rw[hfs,hpush];exact⟨⟨by simp,rfl⟩,rfl,by simp,rfl⟩
       ·obtain rfl:i=4:=by omega
        have e:N.take 4=N:=yaa (by omega);rw[e,hfold,<-hvs];rw[e,hfold,<-hvs] at hr;simp only at hr;simp only[go_sem,seval,-List.reduceReplicate]
        repeat' first|assumption|(simp (disch:=first|assumption|omega|(simp;done)|(simp;omega)) only[yaa];try simp only[go_sem,seval,-List.reduceReplicate])|(with_reducible first|apply And.intro|intro _)|((try rw[qaa]);omega)
        refine⟨k+1,⟨by rw[hr];simp;omega,fun j hj2=>?_,fun j hj2 he=>?_⟩,by omega,⟨rfl,rfl⟩,rfl,rfl,rfl⟩
        ·by_cases e:j=k
         ·subst e;rw[hS];exact hlt
         ·exact hj j (by omega)
        ·rw[hr] at he;by_cases e:j=k
         ·subst e;rw[qaq hlt,hq9] at he;exact heq he
         ·rw[qaq (by omega)] at he;exact hne j (by omega) he
    ·have hke:k=qu.length:=by omega
     have hx:=hxn hke (fun hm=>by
      obtain⟨j,hj2,he⟩:=qaV 0 hm;exact hne j (by omega) he)
     rw[hx];simp only[go_sem,seval,-List.reduceReplicate]
     repeat' first|assumption|(simp (disch:=first|assumption|omega|(simp;done)|(simp;omega)) only[yaa];try simp only[go_sem,seval,-List.reduceReplicate])|(with_reducible first|apply And.intro|intro _)|((try rw[qaa]);omega)
     refine qaK (r0:=.d (.tup [dPs [],dB false])) (H1:=[.box (bx (qcb busy)),.row g 2 true (hops.map fun x=>dP x)]) ?_ ⟨rfl,rfl⟩;simp only[go_sem,seval,-List.reduceReplicate]

def qse (busy:List (List Bool)) (o:Option (List (Int×Int))) (r:I) (H':List R):Prop:=
 match o with
 | none=>r=.tup [.d .nil,.d (dB false)]/\H'=[.box (bx (qcb busy))]
 | some h=>∃ g,r=.tup [.sl 1 g 2 0 h.length,.d (dB true)]/\H'=[.box (bx (qcb busy)),.row g 2 true (h.map fun x=>dP x)]
def Tryz.c_tree (busy:List (List Bool)) (tiles:List Int) (u:Nat) (hu:u<8) (hne:tiles≠[]) (hr : ∀ t∈tiles,0<=t/\t<=24) (htl:tiles.length<=1000) :
  ICall prog 188 [.ptr 0 0,.d (dIs tiles),.d (dI u)] [.box (bx (qcb busy))] (qse busy (qeQ (busy.getD u []) tiles)):=by
 obtain⟨t0,l,rfl⟩ : ∃ t0 l,tiles=t0::l:=by
  cases tiles with
  | nil=>exact absurd rfl hne
  | cons t0 l=>exact⟨t0,l,rfl⟩
 have h0:=hr t0 (by simp);have hl:l.length<=1000:=by simp at htl;omega
 have hT:qeQ (busy.getD u []) (t0::l)=if(busy.getD u []).getD t0.toNat false=true then none else l.foldl (fun o t=>o.bind fun hops=>qaJ (busy.getD u []) hops t) (some [(t0,-1)]):=rfl;have hbx:(bx (qcb busy)).getD (t0.toNat*8+u) I.junk=.d (.bool ((busy.getD u []).getD t0.toNat false)):=by
  rw[qmT (by rw[qbt];omega),qlL (by omega) hu]
 rw[hT];refine qaz (E:=env 1) tok rfl 1000 func188 rfl rfl ntmps188 (by simp) ?_
 repeat' first|assumption|(simp (disch:=first|assumption|omega|(simp;done)|(simp;omega)) only[go_sem,seval,hbx,yaR,qbt,yaa])|(with_reducible first|apply And.intro|intro _)|exact lexT|((try rw[qaa]);omega)
 ·rename_i hb;rw[if_pos hb];exact qbS ⟨rfl,rfl⟩
 rename_i hb;rw[if_neg (by rw[hb];simp)];have base:TreeOk (busy.getD u []) [(t0,-1)]:=by
  refine⟨fun x hx=>?_,by simp[qao],fun x hx=>?_,by simp,fun j hj=>?_⟩
  ·obtain rfl:x=(t0,-1):=by simpa using hx
   exact h0
  ·obtain rfl:x=(t0,-1):=by simpa using hx
   simpa using hb
  ·obtain rfl:j=0:=by simpa using hj
   exact .inl ⟨rfl,rfl⟩
 have hrl : ∀ t∈l,0<=t/\t<=24:=fun t ht=>hr t (by simp[ht])
 refine qaf (E:=env 1) tok (σ:=Nat×Nat×List (Int×Int)) (fun s=>[(0,.ptr 0 0),(2,.d (dI u)),(8,.sl 1 s.2.1 2 0 s.2.2.length),(29,.d (dIs l)),(30,.d (dI l.length)),(31,.d (dI s.1))])
  (fun s=>[.box (bx (qcb busy)),.row s.2.1 2 true (s.2.2.map fun x=>dP x)]) (fun s=>s.1<=l.length/\TreeOk (busy.getD u []) s.2.2/\(l.take s.1).foldl (fun o t=>o.bind fun hops=>qaJ (busy.getD u []) hops t) (some [(t0,-1)])=some s.2.2) (fun s=>l.length-s.1) [] [] 1000 1000 ?_ ?_
 ·simp only[go_sem,seval];exact⟨(0,0,[(t0,-1)]),⟨by simp,base,by simp⟩,by simp⟩
 ·rintro⟨i,g,hops⟩ ⟨hi,ht,hf⟩;simp only at hi ht hf;have hhl:=qdz ht;by_cases hlt:i<l.length
  ·have hfs:=qaA (f:=fun(o:Option (List (Int×Int))) (t:Int)=>o.bind fun hops=>qaJ (busy.getD u []) hops t) (b:=some [(t0,-1)]) (0:Int) hlt;rw[hf,ybk] at hfs;have htr:=hrl _ (qad hlt:l.getD i 0∈l);generalize hx9:l.getD i 0=x at *
   have hpa:=c_path g busy hops x u hu ht htr;have hdrop:l.foldl (fun o t=>o.bind fun hops=>qaJ (busy.getD u []) hops t) (some [(t0,-1)])=(l.drop (i+1)).foldl (fun o t=>o.bind fun hops=>qaJ (busy.getD u []) hops t) (qaJ (busy.getD u []) hops x):=by
    conv=>lhs;rw[<-List.take_append_drop (i+1) l]
    rw[yaM,hfs]
   repeat' first|assumption|(simp (disch:=first|assumption|omega|(simp;done)|(simp;omega)) only[go_sem,seval,hx9,yaa])|(with_reducible first|apply And.intro|intro _)|exact lexT|((try rw[qaa]);omega)
   refine qan hpa [0,1] (by simp only[go_sem,seval]) ?_;rintro r0 H1 ⟨rfl,rfl⟩;cases hex:qaJ (busy.getD u []) hops x with
   | none=>
    rw[hex,qgL] at hdrop;rw[hdrop]
    repeat' first|assumption|(simp (disch:=first|assumption|omega|(simp;done)|(simp;omega)) only[go_sem,seval,yaa])|(with_reducible first|apply And.intro|intro _)|exact lexT|((try rw[qaa]);omega)
    refine qaK (r0:=.tup [.d .nil,.d (dB false)]) (H1:=[.box (bx (qcb busy))]) ?_ ⟨rfl,rfl⟩;simp only[go_sem,seval]
   | some h2=>
    obtain⟨a1,a2,r1,a3⟩:=qgH ht htr hex;have hl2:=qdz a1;rw[hex] at hfs;subst a3
    repeat' first|assumption|(simp (disch:=first|assumption|omega|(simp;done)|(simp;omega)) only[go_sem,seval,yag,List.drop_left,yaa])|(with_reducible first|apply And.intro|intro _)|exact lexT|((try rw[qaa]);omega)
    ·have hll:(hops++r1).length=hops.length+r1.length:=yae ..;omega
    ·refine⟨(i+1,g+1,hops++r1),⟨by simp only;omega,a1,hfs⟩,by simp only;omega,⟨⟨rfl,by simp⟩,rfl⟩,rfl,rfl⟩
  ·obtain rfl:i=l.length:=by omega
   rw[yaA] at hf;rw[hf]
   repeat' first|assumption|(simp (disch:=first|assumption|omega|(simp;done)|(simp;omega)) only[go_sem,seval,yaa])|(with_reducible first|apply And.intro|intro _)|exact lexT|((try rw[qaa]);omega)
   exact qbS ⟨_,rfl,rfl⟩
end Go.Proofs
