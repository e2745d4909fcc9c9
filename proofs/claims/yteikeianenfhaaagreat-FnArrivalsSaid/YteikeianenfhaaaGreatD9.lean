/- Contracts, plain definitions and lemmas. Conditions: none; lemmas. -/
import Derived.Test.YteikeianenfhaaaGreatC11
import Derived.Test.YteikeianenfhaaaGreatD6
import Derived.Test.YteikeianenfhaaaGreatC74
set_option maxRecDepth 20000
set_option linter.unusedSimpArgs false
set_option linter.unusedVariables false
set_option maxHeartbeats 2000000
namespace Go.Proofs
open Go Go.VL Tryz
structure Tcfg where
 table:Int
 select:List Int
 reg:Bool
 drive:List Int
noncomputable instance:DecidableEq Tcfg:=fun _ _=>Classical.propDecidable _
def trackOk (n:Int):Bool:=(decide (0<=n)&&decide (n<=7)) || decide (n=15)
def nbUp (t:Int):Int:=if 5<=t then t-5 else -1
def qhR (t:Int):Int:=if 0<t%5 then t-1 else -1
def qfm (t:Int):Int:=if t%5<4 then t+1 else -1
def qhS (t:Int):Int:=if t<20 then t+5 else -1
def nb (t d:Int):Int:=if d=2 then nbUp t else if d=3 then qhR t else if d=4 then qfm t else if d=5 then qhS t else -1
def driveOk (t d:Int):Bool:=decide (d=0∨d=1∨(2<=d/\d<=5/\0<=nb t d)∨(d=6/\t%5=0/\t/5<4))
def Tcfg.ok (t:Int) (x:Tcfg):Bool:=(decide (0<=x.table)&&decide (x.table<256))&&decide (x.select.length=3)&&decide (x.drive.length=8)&&x.select.all trackOk&&x.drive.all (driveOk t)
theorem Tryz.c_neighbours (t:Int) (ht:0<=t/\t<=24):Pure prog 185 [dI t] (.agg [dI (nbUp t),dI (qhR t),dI (qfm t),dI (qhS t)]):=by
 refine qaA func185 rfl ntmps185 fun ok=>?_
 simp only[go_sem,seval] at ok⊢
 repeat' first|assumption|(simp (disch:=first|assumption|omega|(simp;done)|(simp;omega)) only[qae];try simp only[go_sem,seval])|(with_reducible first|apply And.intro|intro _)|((try rw[qaa]);omega)
 all_goals (simp only[nbUp,qhR,qfm,qhS];first|rw[if_pos (by assumption)]|rw[if_neg (by assumption)])

def qfT (s:BS):List (D×D):=s.2.map fun t=>(dI t,dI (s.1.getD t.toNat 0))
def bx (l:List Bool):List I:=l.map fun b=>.d (.bool b)
@[go_sem] theorem fitL_bx {K:List R} : ∀ {l:List Bool},fitL K (bx l) (bx l)=True
 | []=>rfl
 | b::l=>by
  show(fit1 K (.d (.bool b)) (.d (.bool b))/\fitL K (bx l) (bx l))=True
  rw[fitL_bx];simp only[go_sem,and_true]
@[go_sem] theorem qpQ {m:Nat} : ∀ {l:List Bool},qeT m (bx l)=True
 | []=>rfl
 | b::l=>by
  show((I.d (.bool b)).idlt m/\qeT m (bx l))=True
  rw[qpQ];simp only[go_sem,and_true]
@[go_sem] theorem renL_bx {ρ : Nat->Nat} : ∀ {l:List Bool},renL ρ (bx l)=bx l
 | []=>rfl
 | b::l=>by
  show renI ρ (.d (.bool b))::renL ρ (bx l)=_
  rw[renL_bx];rfl
@[go_sem] theorem bx_len {l:List Bool}:(bx l).length=l.length:=by simp[bx]
theorem qla {l:List Bool}{k:Nat}(h:k<l.length):(bx l).getD k .junk=.d (.bool (l.getD k false)):=getD_lt _ _ _ _ _ h
theorem qqN {l:List Bool}{k:Nat}{b:Bool}:(bx l).set k (.d (.bool b))=bx (l.set k b):=by simp[bx,List.map_set]
theorem qhT (g:Int->D) (x:Int) : ∀ l:List Int,qcV (l.map fun t=>(dI t,g t)) (dI x)=if x∈l then some (g x) else none
 | []=>rfl
 | y::l=>by
  have ih:=qhT g x l;show qcV ((dI y,g y)::l.map fun t=>(dI t,g t)) _=_
  rw[qf7,qeK];by_cases h:x=y
  ·subst h;simp
  ·rw[decide_eq_false h];simp only[yaf,if_false,ih,yas,h,false_or]
theorem qjl (g:Int->D) (x:Int) (v:D) : ∀ l:List Int,x∉l->updD (l.map fun t=>(dI t,g t)) (dI x) v=(l.map fun t=>(dI t,g t)) ++ [(dI x,v)]
 | [],_=>rfl
 | y::l,hx=>by
  rw[yas,not_or] at hx;have ih:=qjl g x v l hx.2;show updD ((dI y,g y)::l.map fun t=>(dI t,g t)) _ _=_
  rw[updD,qeK,decide_eq_false hx.1];simp only[yaf,if_false,ih];rfl
theorem qko (g:Int->D) (l:List Int):qbw (.int .i64) (l.map fun t=>(dI t,g t)):=by
 rw[qdV];intro e he;obtain⟨x,_,rfl⟩:=List.mem_map.1 he;exact rfl
theorem qcU (s:BS):qbw (.int .i64) (qfT s):=qko (fun t=>dI (s.1.getD t.toNat 0)) s.2
theorem qmw {busy:List Bool}{T:List Int}{s:BS}(h:BInv busy T s) {n q:Int}(hn:0<=n/\n<=24) (hm:n∉s.2):qfT (s.1.set n.toNat q,s.2 ++ [n])=qfT s ++ [(dI n,dI q)]:=by
 have hl:=h.len;have e : ∀ t,t∈s.2->(s.1.set n.toNat q).getD t.toNat 0=s.1.getD t.toNat 0:=fun t ht=>by
  have:=h.rng t ht;rw[qdd (by omega),if_neg];intro e;have:t=n:=by omega
  subst this;exact hm ht
 unfold qfT;rw[yaI];congr 1
 ·exact List.map_congr_left fun t ht=>by
   show(dI t,dI ((s.1.set n.toNat q).getD t.toNat 0))=_
   rw[e t ht]
 ·show [(dI n,dI ((s.1.set n.toNat q).getD n.toNat 0))]=_
  rw[qdd (by omega),if_pos rfl]
def nb4 (t:Int):List Int:=[nbUp t,qhR t,qfm t,qhS t]
def qfn (busy:List Bool) (q:Int) (s:BS) (n:Int):BS:=if n<0 then s else qco busy q s n
theorem qn6 {q n:Int}(hq:0<=q/\q<=24) (h:n∈nb4 q):n<0∨n∈nbC q:=by
 simp only[nb4,yas,List.not_mem_nil,or_false] at h;unfold nbC nbUp qhR qfm qhS at *
 simp only[yao];rcases h with h|h|h|h <;> split at h
 ·exact .inr (.inl (.inl (.inl (by simp[*]))))
 ·exact .inl (by omega)
 ·exact .inr (.inl (.inl (.inr (by simp[*]))))
 ·exact .inl (by omega)
 ·exact .inr (.inl (.inr (by simp[*])))
 ·exact .inl (by omega)
 ·exact .inr (.inr (by simp[*]))
 ·exact .inl (by omega)
theorem qpR {q:Int}(hq:0<=q/\q<=24) (busy:List Bool) (s:BS):(nb4 q).foldl (qfn busy q) s=visitB busy s q:=by
 have e : ∀ (s:BS) (n:Int) (p:Prop) [Decidable p],(p->0<=n)->qfn busy q s (if p then n else -1)=(if p then [n] else []).foldl (qco busy q) s:=by
  intro s n p _ h;split
  ·rename_i hp;have:=h hp;rw[qfn,if_neg (by omega)];rfl
  ·rfl
 unfold visitB nbC nb4 nbUp qhR qfm qhS;simp only[ybf,yan,List.foldl_nil];rw[e _ _ _ (by omega),e _ _ _ (by omega),e _ _ _ (by omega),e _ _ _ (by omega)]
theorem qhU {busy:List Bool}{T:List Int}{q:Int}(hq:0<=q/\q<=24) : ∀ (l:List Int) {s:BS},BInv busy T s->q∈s.2->(∀ n∈l,n<0∨n∈nbC q)->BInv busy T (l.foldl (qfn busy q) s)/\MonoB s (l.foldl (qfn busy q) s)
 | [],s,h,_,_=>⟨h,MonoB.rfl s⟩
 | n::l,s,h,hm,hl=>by
  rw[yan];by_cases hn:n<0
  ·rw[qfn,if_pos hn];exact qhU hq l h hm fun m hm2=>hl m (by simp[hm2])
  ·rw[qfn,if_neg hn];have hnb:=(hl n (by simp)).resolve_left hn;have m1:=qiE h (q:=q) (qkd hq n hnb).1;obtain⟨r,hr⟩:=m1.1;obtain⟨a1,a2⟩:=qhU hq l (h.step hm hnb) (by rw[hr];exact yaC _ hm) fun m hm2=>hl m (by simp[hm2])
   exact⟨a1,m1.trans a2⟩
theorem Tryz.c_path (g:Nat) (busy:List (List Bool)) (hops:List (Int×Int)) (sink:Int) (u:Nat) (hu:u<8) (ht:TreeOk (busy.getD u []) hops) (hs:0<=sink/\sink<=24) :
  ICall prog 211 [.ptr 0 0,.sl 1 g 2 0 hops.length,.d (dI sink),.d (dI u)] [.box (bx (qbS busy)),.row g 2 true (hops.map fun x=>dP x)]
   (fun r H'=>r=.d (.tup [dPs (((qaD (busy.getD u []) hops sink).getD []).drop hops.length),dB (qaD (busy.getD u []) hops sink).isSome])/\H'=[.box (bx (qbS busy)),.row g 2 true (hops.map fun x=>dP x)]):=by
 have hhl:=qcP ht;refine qaz (E:=env 2) tok rfl 1000 func211 rfl rfl ntmps211 (by simp) ?_;simp only[go_sem,seval,-List.reduceReplicate]
 repeat' first|assumption|(simp (disch:=first|assumption|omega|(simp;done)|(simp;omega)) only[yaa];try simp only[go_sem,seval,-List.reduceReplicate])|(with_reducible first|apply And.intro|intro _)|((try rw[qaa]);omega)
 refine qai (E:=env 2) tok (σ:=Nat) (fun i=>[(0,.ptr 0 0),(2,.d (dI sink)),(3,.d (dI u)),(10,.map 2),(11,.sl 3 i 1 0 i),(22,.sl 1 g 2 0 hops.length),(23,.d (dI hops.length)),(24,.d (dI i))])
  (fun i=>[.box (bx (qbS busy)),.row g 2 true (hops.map fun x=>dP x),.map ((qak (hops.take i)).map fun t=>(dI t,dI (-1))),.row i 1 true ((qak (hops.take i)).map (D.int .i64))]) (fun i=>i<=hops.length) (fun i=>hops.length-i) [] [(11,1,true)] 1000 1000 ?_ ?_
 ·simp only[go_sem,seval,-List.reduceReplicate];exact⟨0,by omega,by simp[qak]⟩
 ·intro i hi;have hql:(qak (hops.take i)).length=i:=by simp[qak];omega
  by_cases hit:i<hops.length
  ·have hts:qak (hops.take (i+1))=qak (hops.take i) ++ [(hops.getD i (0,0)).1]:=qaN (0,0) hit;have hni:(hops.getD i (0,0)).1∉qak (hops.take i):=fun hm=>by
    obtain⟨x,hx,he⟩:=List.mem_map.1 hm;obtain⟨j,hj,rfl⟩:=qbg (0,0) hx;have hj2:j<i:=by simp at hj;omega
    have e:(hops.take i).getD j (0,0)=hops.getD j (0,0):=by simp[List.getD,List.getElem?_take,hj2]
    rw[e] at he;have:=qeC ht.nd (by omega) hit he;omega
   have eu:=qjl (fun _=>dI (-1)) _ (dI (-1)) _ hni;have hks:=qko (fun _=>dI (-1)) (qak (hops.take i));have hr:=ht.rng _ (qab hit:hops.getD i (0,0)∈hops);generalize qak (hops.take i)=q at *
   generalize hx9:hops.getD i (0,0)=x at *
   simp only[go_sem,seval,-List.reduceReplicate,hx9,eu]
   repeat' first|assumption|(simp (disch:=first|assumption|omega|(simp;done)|(simp;omega)) only[yaa];try simp only[go_sem,seval,-List.reduceReplicate,hx9,eu,hql])|(with_reducible first|apply And.intro|intro _)|((try rw[qaa]);omega)
   refine⟨i+1,by omega,by omega,rfl,?_⟩;rw[hts];simp
  ·obtain rfl:i=hops.length:=by omega
   rw[yaq];have e0:((qak hops).map fun t=>(dI t,dI (-1)))=qfT (vis0 hops):=by
    refine List.map_congr_left fun t ht2=>?_
    obtain⟨x,hx,rfl⟩:=List.mem_map.1 ht2;have:=ht.rng x hx;show _=(dI x.1,dI ((qfj hops).getD x.1.toNat 0))
    rw[qfO ht.rng this.1 this.2,if_pos ht2]
   rw[e0];simp only[go_sem,seval,-List.reduceReplicate]
   repeat' first|assumption|(simp (disch:=first|assumption|omega|(simp;done)|(simp;omega)) only[yaa];try simp only[go_sem,seval,-List.reduceReplicate])|(with_reducible first|apply And.intro|intro _)|((try rw[qaa]);omega)
   have hinv : ∀ k,(∀ j,j<k->j<(visV (busy.getD u []) (vis0 hops) j).2.length)->BInv (busy.getD u []) (qak hops) (visV (busy.getD u []) (vis0 hops) k):=fun k=>qea (qms ht.rng ht.nd) k
   refine qai (E:=env 2) tok (σ:=Nat) (fun k=>[(0,.ptr 0 0),(2,.d (dI sink)),(3,.d (dI u)),(10,.map 2),(11,.sl 3 (visV (busy.getD u []) (vis0 hops) k).2.length 1 0 (visV (busy.getD u []) (vis0 hops) k).2.length),(14,.d (dI k))])
    (fun k=>[.box (bx (qbS busy)),.row g 2 true (hops.map fun x=>dP x),.map (qfT (visV (busy.getD u []) (vis0 hops) k)),.row (visV (busy.getD u []) (vis0 hops) k).2.length 1 true ((visV (busy.getD u []) (vis0 hops) k).2.map (D.int .i64))]) (fun k=>k<=(visV (busy.getD u []) (vis0 hops) k).2.length/\(∀ j,j<k->j<(visV (busy.getD u []) (vis0 hops) j).2.length)/\∀ j,j<k->(visV (busy.getD u []) (vis0 hops) k).2.getD j 0≠sink) (fun k=>26-k) [] [] 1000 1000 ?_ ?_
   ·simp only[go_sem,seval,-List.reduceReplicate];refine⟨0,⟨by omega,by omega,by omega⟩,?_⟩;have:(qak hops).length=hops.length:=by simp[qak]
    simp[visV,vis0,this]
   ·rintro k ⟨hk,hj,hne⟩;have hbi:=hinv k hj;have hql:=hbi.qlen;have hxn:=qpL ht hs hj;have hxs:=qpM ht hs hj;have hvs:visV (busy.getD u []) (vis0 hops) (k+1)=visitB (busy.getD u []) (visV (busy.getD u []) (vis0 hops) k) ((visV (busy.getD u []) (vis0 hops) k).2.getD k 0):=rfl;generalize hS:visV (busy.getD u []) (vis0 hops) k=S at *
    obtain⟨fr,qu⟩:=S;simp only at hk hne hql hxn hxs hvs;by_cases hlt:k<qu.length
    ·have hqm:=qab hlt (z:=(0:Int));have hqr:=hbi.rng _ hqm;by_cases heq:qu.getD k 0=sink
     ·have hx:=hxs hlt heq;rw[hx];simp only[go_sem,seval,-List.reduceReplicate,heq]
      repeat' first|assumption|(simp (disch:=first|assumption|omega|(simp;done)|(simp;omega)) only[yaa];try simp only[go_sem,seval,-List.reduceReplicate,heq])|(with_reducible first|apply And.intro|intro _)|((try rw[qaa]);omega)
      have hfE : ∀ x,x∈qu->qcV (qfT (fr,qu)) (dI x)=some (dI (fr.getD x.toNat 0)):=fun x hx=>by rw[qfT,qhT,if_pos hx]
      clear hx hxs hxn hvs;refine qai (E:=env 2) tok (σ:=Nat×Nat×List (Int×Int)) (fun s=>[(10,.map 2),(15,.d (dPs s.2.2)),(16,.d (dI (qu.getD s.2.1 0)))]) (fun s=>[.box (bx (qbS busy)),.row g 2 true (hops.map fun x=>dP x),.map (qfT (fr,qu))])
       (fun s=>s.2.1<s.1/\s.2.1<qu.length/\s.1+s.2.2.length<=25/\qbJ fr s.1 (qu.getD s.2.1 0) s.2.2=qbJ fr 25 sink []) (fun s=>s.1) [] [] 1000 1000 ?_ ?_
      ·simp only[go_sem,seval,-List.reduceReplicate];refine⟨(25,k,[]),⟨by simp only;omega,hlt,by simp,by rw[heq]⟩,?_⟩;simp only[List.map_nil,true_and,and_true];exact heq.symm
      ·rintro⟨f,p,acc⟩ ⟨hpf,hpq,hfa,hch⟩;simp only at hpf hpq hfa hch;have hpm0:=qab hpq (z:=(0:Int));have hpm:=hbi.rng _ hpm0;have hroot:=hbi.root p hpq;have hff:=hfE _ hpm0;simp only at hroot;obtain⟨f',rfl⟩ : ∃ f',f=f'+1:=⟨f-1,by omega⟩;have hcs:qbJ fr (f'+1) (qu.getD p 0) acc=if 0<=fr.getD (qu.getD p 0).toNat 0 then qbJ fr f' (fr.getD (qu.getD p 0).toNat 0) ((qu.getD p 0,fr.getD (qu.getD p 0).toNat 0)::acc) else acc:=rfl
       rw[hcs] at hch;by_cases hge:0<=fr.getD (qu.getD p 0).toNat 0
       ·rw[if_pos hge] at hch;obtain⟨m,hm1,hm2⟩ : ∃ m,m<p/\qu.getD m 0=fr.getD (qu.getD p 0).toNat 0:=by
         rcases hroot with⟨h1,-⟩|⟨-,-,-,m,h4,h5,-⟩
         ·omega
         ·exact⟨m,h4,h5⟩
        generalize qu.getD p 0=tt at *
        generalize hv9:fr.getD tt.toNat 0=v at *
        simp only[go_sem,seval,-List.reduceReplicate,hv9,hff,yap]
        repeat' first|assumption|(simp (disch:=first|assumption|omega|(simp;done)|(simp;omega)) only[yaa];try simp only[go_sem,seval,-List.reduceReplicate,hv9,hff,yap])|(with_reducible first|apply And.intro|intro _)|((try rw[qaa]);omega)
        all_goals first|exact qcU _|skip
        refine⟨(f',m,(tt,v)::acc),⟨by simp only;omega,by simp only;omega,by simp only[yah];omega,by simp only;rw[hm2];exact hch⟩,by simp only;omega,?_⟩;exact⟨rfl,hm2.symm⟩
       ·rw[if_neg hge] at hch;generalize qu.getD p 0=tt at *
        simp only[go_sem,seval,-List.reduceReplicate,hff,yap]
        repeat' first|assumption|(simp (disch:=first|assumption|omega|(simp;done)|(simp;omega)) only[yaa];try simp only[go_sem,seval,-List.reduceReplicate,hff,yap])|(with_reducible first|apply And.intro|intro _)|((try rw[qaa]);omega)
        all_goals first|exact qcU _|skip
        rw[<-hch,List.drop_left];refine qa3 (r0:=.d (.tup [dPs acc,dB true])) (H1:=[.box (bx (qbS busy)),.row g 2 true (hops.map fun x=>dP x)]) ?_ ⟨rfl,rfl⟩;simp only[go_sem,seval,-List.reduceReplicate]
     ·have hnb:=c_neighbours (qu.getD k 0) hqr;generalize hq9:qu.getD k 0=q at *
      simp only[go_sem,seval,-List.reduceReplicate,hq9]
      repeat' first|assumption|(simp (disch:=first|assumption|omega|(simp;done)|(simp;omega)) only[yaa];try simp only[go_sem,seval,-List.reduceReplicate,hq9])|(with_reducible first|apply And.intro|intro _)|(refine qad hnb ?_;simp only[go_sem,seval,-List.reduceReplicate,hq9])|((try rw[qaa]);omega)
      have hfold:=qpR hqr (busy.getD u []) (fr,qu);have hsx:=fun i=>qhU (busy:=busy.getD u []) hqr ((nb4 q).take i) hbi hqm fun n hn=>qn6 hqr (yam hn)
      have hgn:(D.agg [dI (nbUp q),dI (qhR q),dI (qfm q),dI (qhS q)])=.agg ((nb4 q).map fun x=>dI x):=rfl;have hnl:(nb4 q).length=4:=rfl;rw[hgn];generalize hnb4:nb4 q=N at *
      refine qai (E:=env 2) tok (σ:=Nat) (fun i=>[(0,.ptr 0 0),(2,.d (dI sink)),(3,.d (dI u)),(10,.map 2),(11,.sl 3 ((N.take i).foldl (qfn (busy.getD u []) q) (fr,qu)).2.length 1 0 ((N.take i).foldl (qfn (busy.getD u []) q) (fr,qu)).2.length),(14,.d (dI k)),(70,.d (.agg (N.map fun x=>dI x))),(71,.d (dI i))])
       (fun i=>[.box (bx (qbS busy)),.row g 2 true (hops.map fun x=>dP x),.map (qfT ((N.take i).foldl (qfn (busy.getD u []) q) (fr,qu))),.row ((N.take i).foldl (qfn (busy.getD u []) q) (fr,qu)).2.length 1 true (((N.take i).foldl (qfn (busy.getD u []) q) (fr,qu)).2.map (D.int .i64))]) (fun i=>i<=4) (fun i=>4-i) [] [] 1000 1000 ?_ ?_
      ·simp only[go_sem,seval,-List.reduceReplicate];exact⟨0,by omega,by simp⟩
      ·intro i hi;obtain⟨hSi,hSm⟩:=hsx i;obtain⟨⟨r,hr⟩,hSm2⟩:=hSm;by_cases hit:i<4
       ·have hfs:=qaw (f:=qfn (busy.getD u []) q) (b:=(fr,qu)) (0:Int) (by omega:i<N.length);have hnm:=qn6 hqr (by rw[hnb4];exact qab (by omega):N.getD i 0∈nb4 q);have hnr:=fun h=>qkd hqr (N.getD i 0) h
        generalize hS2:(N.take i).foldl (qfn (busy.getD u []) q) (fr,qu)=S at *
        obtain⟨f2,q2⟩:=S;have hq2l:=hSi.qlen;simp only at hr hq2l;have hk3:k<q2.length:=by rw[hr];simp;omega
        have hqk:q2.getD k 0=q:=by rw[hr,qar hlt];exact hq9
        generalize hn9:N.getD i 0=n at *
        have hN:(N.map fun x=>dI x).getD i D.nil=dI n:=by rw[<-hn9];simp[List.getD,show i<N.length by omega]
        have hlook : ∀ x,qcV (qfT (f2,q2)) (dI x)=if x∈q2 then some (dI (f2.getD x.toNat 0)) else none:=fun x=>by rw[qfT,qhT]
        have hse:qfn (busy.getD u []) q (f2,q2) n=if n<0 then(f2,q2) else if f2.getD n.toNat 0 = -2/\(busy.getD u []).getD n.toNat false=false then(f2.set n.toNat q,q2 ++ [n]) else(f2,q2):=rfl
        have hlkn:=hlook n;rw[hse] at hfs;by_cases hneg:n<0
        ·rw[if_pos hneg] at hfs;have hd:decide (n<0)=true:=decide_eq_true hneg;have hbx:(bx (qbS busy)).getD (n.toNat*8+u) I.junk=.d (.bool ((qbS busy).getD u false)):=by
          have e0:n.toNat*8+u=u:=by omega
          rw[e0,qla (by rw[qbe];omega)]
         simp only[go_sem,seval,-List.reduceReplicate,hqk,hN,yaK,hd,hbx,hlkn]
         repeat' first|assumption|(simp (disch:=first|assumption|omega|(simp;done)|(simp;omega)) only[yaa];try simp only[go_sem,seval,-List.reduceReplicate,hqk,hN,yaK,hd,hbx,hlkn])|(with_reducible first|apply And.intro|intro _)|((try rw[qaa]);omega)
         all_goals first|exact qcU _|skip
         refine⟨i+1,by omega,by omega,?_⟩;rw[hfs];exact⟨⟨rfl,rfl⟩,rfl,rfl,rfl⟩
        ·rw[if_neg hneg] at hfs;have hnb2:=hnm.resolve_left hneg;have hn2:=(hnr hnb2).1;have hbx:(bx (qbS busy)).getD (n.toNat*8+u) I.junk=.d (.bool ((busy.getD u []).getD n.toNat false)):=by
          rw[qla (by rw[qbe];omega),qki (by omega) hu]
         have hd:decide (n<0)=false:=decide_eq_false hneg;have hseen:=hSi.seen n hn2.1 hn2.2;simp only at hseen;by_cases hb:(busy.getD u []).getD n.toNat false=true
         ·rw[if_neg (by rw[hb];simp)] at hfs;rw[hb] at hbx;simp only[go_sem,seval,-List.reduceReplicate,hqk,hN,yaK,hd,hbx,qbe]
          repeat' first|assumption|(simp (disch:=first|assumption|omega|(simp;done)|(simp;omega)) only[yaa];try simp only[go_sem,seval,-List.reduceReplicate,hqk,hN,yaK,hd,hbx,qbe])|(with_reducible first|apply And.intro|intro _)|((try rw[qaa]);omega)
          all_goals first|exact qcU _|skip
          refine⟨i+1,by omega,by omega,?_⟩;rw[hfs];exact⟨⟨rfl,rfl⟩,rfl,rfl,rfl⟩
         ·have hb2:(busy.getD u []).getD n.toNat false=false:=by simpa using hb
          rw[hb2] at hbx;by_cases hm:n∈q2
          ·rw[if_pos hm] at hlkn;rw[if_neg (fun h=>hseen.2 hm h.1)] at hfs;simp only[go_sem,seval,-List.reduceReplicate,hqk,hN,yaK,hd,hbx,qbe,hlkn]
           repeat' first|assumption|(simp (disch:=first|assumption|omega|(simp;done)|(simp;omega)) only[yaa];try simp only[go_sem,seval,-List.reduceReplicate,hqk,hN,yaK,hd,hbx,qbe,hlkn])|(with_reducible first|apply And.intro|intro _)|((try rw[qaa]);omega)
           all_goals first|exact qcU _|skip
           refine⟨i+1,by omega,by omega,?_⟩;rw[hfs];exact⟨⟨rfl,rfl⟩,rfl,rfl,rfl⟩
          ·rw[if_neg hm] at hlkn;rw[if_pos ⟨Decidable.byContradiction fun h=>hm (hseen.1 h),hb2⟩] at hfs;have hpush:=qmw hSi (q:=q) hn2 hm;have hupd:updD (qfT (f2,q2)) (dI n) (dI q)=qfT (f2,q2) ++ [(dI n,dI q)]:=qjl (fun t=>dI (f2.getD t.toNat 0)) n (dI q) q2 hm;simp only[go_sem,seval,-List.reduceReplicate,hqk,hN,yaK,hd,hbx,qbe,hlkn,hupd]
           repeat' first|assumption|(simp (disch:=first|assumption|omega|(simp;done)|(simp;omega)) only[yaa];try simp only[go_sem,seval,-List.reduceReplicate,hqk,hN,yaK,hd,hbx,qbe,hlkn,hupd])|(with_reducible first|apply And.intro|intro _)|((try rw[qaa]);omega)
           all_goals first|exact qcU _|skip
           refine⟨i+1,by omega,by omega,?_⟩;rw[hfs,hpush];exact⟨⟨by simp,rfl⟩,rfl,by simp,rfl⟩
       ·obtain rfl:i=4:=by omega
        have e:N.take 4=N:=yaa (by omega);rw[e,hfold,<-hvs];rw[e,hfold,<-hvs] at hr;simp only at hr;simp only[go_sem,seval,-List.reduceReplicate]
        repeat' first|assumption|(simp (disch:=first|assumption|omega|(simp;done)|(simp;omega)) only[yaa];try simp only[go_sem,seval,-List.reduceReplicate])|(with_reducible first|apply And.intro|intro _)|((try rw[qaa]);omega)
        refine⟨k+1,⟨by rw[hr];simp;omega,fun j hj2=>?_,fun j hj2 he=>?_⟩,by omega,⟨rfl,rfl⟩,rfl,rfl,rfl⟩
        ·by_cases e:j=k
         ·subst e;rw[hS];exact hlt
         ·exact hj j (by omega)
        ·rw[hr] at he;by_cases e:j=k
         ·subst e;rw[qar hlt,hq9] at he;exact heq he
         ·rw[qar (by omega)] at he;exact hne j (by omega) he
    ·have hke:k=qu.length:=by omega
     have hx:=hxn hke (fun hm=>by
      obtain⟨j,hj2,he⟩:=qbg 0 hm;exact hne j (by omega) he)
     rw[hx];simp only[go_sem,seval,-List.reduceReplicate]
     repeat' first|assumption|(simp (disch:=first|assumption|omega|(simp;done)|(simp;omega)) only[yaa];try simp only[go_sem,seval,-List.reduceReplicate])|(with_reducible first|apply And.intro|intro _)|((try rw[qaa]);omega)
     refine qa3 (r0:=.d (.tup [dPs [],dB false])) (H1:=[.box (bx (qbS busy)),.row g 2 true (hops.map fun x=>dP x)]) ?_ ⟨rfl,rfl⟩;simp only[go_sem,seval,-List.reduceReplicate]
end Go.Proofs
