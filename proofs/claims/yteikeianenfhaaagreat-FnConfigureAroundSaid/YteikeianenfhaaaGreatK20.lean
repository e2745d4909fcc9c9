/- Contracts: a cycle of the fabric. Conditions: none; lemmas. -/
import Derived.Test.YteikeianenfhaaaGreatC85
import Derived.Test.YteikeianenfhaaaGreatC92
import Derived.Test.YteikeianenfhaaaGreatD6
set_option maxRecDepth 20000
set_option linter.unusedVariables false
set_option linter.unusedSimpArgs false
set_option maxHeartbeats 2000000
namespace Go.Proofs
set_option linter.defProp false
open Go Go.VL Tryz
variable {V:Wr->Bool}{r n:Nat}
abbrev Wm:=List (Wr×Bool)
variable {m:Wm}
def wm (m:Wm) (k:Wr):Option Bool:=(m.find? fun e=>decide (e.1=k)).map fun e=>e.2
def wmUp:Wm->Wr->Bool->Wm
 | [],k,b=>[(k,b)]
 | e::r,k,b=>if e.1=k then(k,b)::r else e::wmUp r k b
def wm_up (k:Wr) (b:Bool) (j:Wr) : ∀ m,wm (wmUp m k b) j=if j=k then some b else wm m j
 | []=>by by_cases h:j=k <;> simp[wm,wmUp,h,eq_comm]
 | e::r=>by
  have ih:=wm_up k b j r;unfold wmUp;by_cases h:e.1=k
  ·rw[if_pos h];by_cases h2:j=k
   ·simp[wm,h2]
   ·have h3 : ¬ e.1=j:=fun h4=>h2 (by rw[<-h4,h])
    have h4 : ¬ k=j:=fun h5=>h2 h5.symm
    simp[wm,h2,h3,h4]
  ·rw[if_neg h];by_cases h3:e.1=j
   ·have h2 : ¬ j=k:=fun h4=>h (by rw[h3,h4])
    simp[wm,h2,h3]
   ·unfold wm at ih ⊢;simp only[List.find?_cons,decide_eq_false h3,ih]
def wmE (m:Wm):List (D×D):=m.map fun e=>(dP e.1,D.bool e.2)
def qnI (w:Wr) : ∀ m,qcP (wmE m) (.agg [dI w.1,dI w.2])=(wm m w).map D.bool
 | []=>rfl
 | e::r=>by
  have ih:=qnI w r;show qcP ((dP e.1,D.bool e.2)::wmE r) _=_
  rw[qeh,qgm];by_cases h:e.1=w
  ·subst h;simp[wm]
  ·have h2 : ¬ (w.1=e.1.1/\w.2=e.1.2):=fun h3=>h (Prod.ext h3.1.symm h3.2.symm)
   rw[decide_eq_false h2];simp only[yah,if_false,ih];simp[wm,h]
def qmR (w:Wr) (b:Bool) : ∀ m,updD (wmE m) (.agg [dI w.1,dI w.2]) (D.bool b)=wmE (wmUp m w b)
 | []=>rfl
 | e::r=>by
  have ih:=qmR w b r;show updD ((dP e.1,D.bool e.2)::wmE r) _ _=_
  rw[updD,qgm];by_cases h:e.1=w
  ·subst h;simp[wmUp,wmE]
  ·have h2 : ¬ (w.1=e.1.1/\w.2=e.1.2):=fun h3=>h (Prod.ext h3.1.symm h3.2.symm)
   rw[decide_eq_false h2];simp only[yah,if_false,ih];simp[wmUp,wmE,h]
def qsa {fs:List (Nat×Nat)}(h:fs.length=2) (m:Wm):qbw (.struct fs) (wmE m):=by
 rw[qcV];intro e he;obtain⟨x,_,rfl⟩:=List.mem_map.1 he;show(2=fs.length/\_)
 exact⟨h.symm,⟨rfl,rfl,trivial⟩⟩
def WmOk (V:Wr->Bool) (m:Wm):Prop:=∀ w b,wm m w=some b->b=V w
def WmOk.up (h:WmOk V m) (w:Wr):WmOk V (wmUp m w (V w)):=fun u b e=>by
 rw[wm_up] at e;split at e
 ·rename_i h1;subst h1;exact(Option.some.inj e).symm
 ·exact h u b e
abbrev rbox (k:Kcfg) (regs ins:List Bool):R:=.box [.d (pK k),.d (dBs regs),.d (dBs ins),.map 1]
def valP (k:Kcfg) (regs ins:List Bool) (V:Wr->Bool) (b:Bool) (r:I) (H':List R):Prop:=∃ m',WmOk V m'/\r=.d (dB b)/\H'=[rbox k regs ins,.map (wmE m')]
def val_end {k:Kcfg}{regs ins:List Bool}{w:Wr}{v:Bool}(hv:V w=v) {X:R}(hm:WmOk V m):endI 2 (valP k regs ins V v) (.d (.bool v)) [rbox k regs ins,.map (updD (wmE m) (.agg [dI w.1,dI w.2]) (.bool v)),X]:=by
 subst hv;rw[qmR];refine qaK (r0:=.d (dB (V w))) (H1:=[rbox k regs ins,.map (wmE (wmUp m w (V w)))]) ?_ ⟨_,hm.up w,rfl,rfl⟩;simp only[go_sem,seval,-List.reduceReplicate]
def Tryz.c_read (k:Kcfg) (regs ins:List Bool) (V:Wr->Bool) (t s:Int) (ht:0<=t/\t<=24) (hs:s=15∨0<=s/\s<=7)
  (hv:s≠15->∀ m,WmOk V m->ICall prog 199 [.ptr 0 0,.d (dP (t,s))] [rbox k regs ins,.map (wmE m)] (valP k regs ins V (V (t,s)))) (m:Wm) (hm:WmOk V m) :
  ICall prog 147 [.ptr 0 0,.d (dI t),.d (dI s)] [rbox k regs ins,.map (wmE m)] (valP k regs ins V (qdV V t s)):=by
 by_cases h:s=15
 ·subst h;refine qaz (E:=env 2) tok rfl 1000 func147 rfl rfl ntmps147 (by simp) ?_
  repeat' first|assumption|(simp (disch:=first|assumption|omega|(simp;done)|(simp;omega)) only[go_sem,seval,-List.reduceReplicate,yaa,qap])|(with_reducible first|apply And.intro|intro _)|(refine qb9 ?_;simp only[go_sem,seval,-List.reduceReplicate])|exact lexT|((try rw[qaa]);omega)
  refine qaK (r0:=.d (dB (qdV V t 15))) (H1:=[rbox k regs ins,.map (wmE m)]) ?_ ⟨m,hm,rfl,rfl⟩;simp only[go_sem,seval,-List.reduceReplicate];rfl
 ·have e:qdV V t s=V (t,s):=by simp[qdV,h]
  rw[e];have hv2:=hv h m hm;generalize V (t,s)=b at *
  refine qaz (E:=env 2) tok rfl 1000 func147 rfl rfl ntmps147 (by simp) ?_
  repeat' first|assumption|(simp (disch:=first|assumption|omega|(simp;done)|(simp;omega)) only[go_sem,seval,-List.reduceReplicate,h,yaa,qap])|(with_reducible first|apply And.intro|intro _)|(refine qb9 ?_;simp only[go_sem,seval,-List.reduceReplicate,h])|exact lexT|((try rw[qaa]);omega)
  refine qan hv2 [0,1] (by simp only[go_sem,seval,-List.reduceReplicate]) ?_;rintro r0 H1 ⟨m2,hm2,rfl,rfl⟩
  repeat' first|assumption|(simp (disch:=first|assumption|omega|(simp;done)|(simp;omega)) only[go_sem,seval,-List.reduceReplicate,h,yaa,qap])|(with_reducible first|apply And.intro|intro _)|(refine qb9 ?_;simp only[go_sem,seval,-List.reduceReplicate,h])|exact lexT|((try rw[qaa]);omega)
  refine qaK (r0:=.d (dB b)) (H1:=[rbox k regs ins,.map (wmE m2)]) ?_ ⟨m2,hm2,rfl,rfl⟩;simp only[go_sem,seval,-List.reduceReplicate,h]
def or_pow (h:r<2 ^ n):r ||| ((2:Int) ^ n).toNat=r+2 ^ n:=by
 have e:((2:Int) ^ n).toNat=2 ^ n:=by
  have:((2:Int) ^ n)=((2 ^ n:Nat):Int):=by simp
  rw[this];rfl
 have:=Nat.two_pow_add_eq_or_of_lt h 1;rw[yaR] at this;rw[e,Nat.or_comm,<-this];omega
def bit_at {x:Int}(h:0<=x):decide ((((x/2 ^ r).toNat &&& (1:Int).toNat:Nat):Int)=1)=x.toNat.testBit r:=by
 obtain⟨n,rfl⟩:=yaV h;have e:(((n:Int)/2 ^ r).toNat)=n/2 ^ r:=by
  have:((n:Int)/2 ^ r)=((n/2 ^ r:Nat):Int):=by simp
  rw[this];rfl
 rw[e,Nat.testBit_eq_decide_div_mod_eq,show(1:Int).toNat=1 from rfl,Nat.and_one_is_mod];refine decide_eq_decide.2 ?_;show(((n/2 ^ r%2:Nat):Int)=1)↔n/2 ^ r%2=1
 omega
def qj6 {f:Int->Bool} : ∀ {l:List Int}{n:Nat},n<l.length->qbx f (l.take (n+1))=qbx f (l.take n)+if f (l.getD n 0) then 2 ^ n else 0
 | [],n,h=>by simp at h
 | z::l,0,_=>by simp[qbx]
 | z::l,n+1,h=>by
  have ih:=qj6 (f:=f) (l:=l) (n:=n) (by simpa using h);rw[List.take_succ_cons,List.take_succ_cons,qbx,qbx,ih];have e:(z::l).getD (n+1) 0=l.getD n 0:=rfl;rw[e];split <;> split <;> omega
def qfC {f:Int->Bool} : ∀ {l:List Int}(n:Nat),qbx f (l.take n)<2 ^ n
 | [],n=>by simpa [qbx] using Nat.two_pow_pos n
 | z::l,0=>by simp[qbx]
 | z::l,n+1=>by
  have ih:=qfC (f:=f) (l:=l) n;rw[List.take_succ_cons,qbx,Nat.pow_succ];split <;> omega
def Tryz.c_table (k:Kcfg) (hk:k.ok) (regs ins:List Bool) (V:Wr->Bool) (t:Int) (ht:0<=t/\t<=24)
  (hv : ∀ s∈(k.tiles.getD t.toNat tc0).select,∀ m,WmOk V m->ICall prog 147 [.ptr 0 0,.d (dI t),.d (dI s)] [rbox k regs ins,.map (wmE m)] (valP k regs ins V (qdV V t s))) (m:Wm) (hm:WmOk V m) :
  ICall prog 149 [.ptr 0 0,.d (dI t)] [rbox k regs ins,.map (wmE m)] (valP k regs ins V (lutE k V t)):=by
 have gx : ∀ z,(k.tiles.map fun x=>dTc x).getD t.toNat z=dTc (k.tiles.getD t.toNat tc0):=fun z=>qam (by have:=hk.1;omega)
 have hok:=Tcfg.ok_iff.1 (hk.2.2 t.toNat (by have:=hk.1;omega));have hkl:=hk.1;unfold lutE;generalize k.tiles.getD t.toNat tc0=x at *
 refine qaz (E:=env 2) tok rfl 1000 func149 rfl rfl ntmps149 (by simp) ?_
 repeat' first|assumption|(simp (disch:=first|assumption|omega|(simp;done)|(simp;omega)) only[go_sem,seval,-List.reduceReplicate,gx,yaa,qap])|(with_reducible first|apply And.intro|intro _)|(refine qb9 ?_;simp only[go_sem,seval,-List.reduceReplicate,gx])|exact lexT|((try rw[qaa]);omega)
 have hsl:=hok.2.1;refine qaf (E:=env 2) tok (σ:=Nat×Wm) (fun s=>[(0,.ptr 0 0),(1,.d (dI t)),(5,.d (.ptr [dI x.table,dIs x.select,dB x.reg,dIs x.drive])),(6,.d (dI (qbx (qdV V t) (x.select.take s.1)))),(21,.d (dIs x.select)),(22,.d (dI x.select.length)),(23,.d (dI s.1))])
  (fun s=>[rbox k regs ins,.map (wmE s.2)]) (fun s=>s.1<=3/\WmOk V s.2) (fun s=>3-s.1) [] [] 1000 1000 ?_ ?_
 ·simp only[go_sem,seval,-List.reduceReplicate];exact⟨(0,m),⟨by simp only;omega,hm⟩,⟨rfl,rfl⟩,rfl⟩
 ·rintro⟨n,m2⟩ ⟨hn,hm2⟩;simp only at hn hm2;by_cases hlt:n<3
  ·have hv2:=hv _ (qad (by omega):x.select.getD n 0∈x.select) m2 hm2;have hst:=qj6 (f:=qdV V t) (l:=x.select) (n:=n) (by omega);have hbd:=qfC (f:=qdV V t) (l:=x.select) n;generalize hs9:x.select.getD n 0=s at *
   generalize qbx (qdV V t) (x.select.take n)=r at *
   generalize qdV V t s=b at *
   repeat' first|assumption|(simp (disch:=first|assumption|omega|(simp;done)|(simp;omega)) only[go_sem,seval,-List.reduceReplicate,hs9,yaa,qap])|(with_reducible first|apply And.intro|intro _)|(refine qb9 ?_;simp only[go_sem,seval,-List.reduceReplicate,hs9])|exact lexT|((try rw[qaa]);omega)
   refine qan hv2 [0,1] (by simp only[go_sem,seval,-List.reduceReplicate]) ?_;rintro r0 H1 ⟨m3,hm3,rfl,rfl⟩
   repeat' first|assumption|(simp (disch:=first|assumption|omega|(simp;done)|(simp;omega)) only[go_sem,seval,-List.reduceReplicate,hs9,yaa,qap])|(with_reducible first|apply And.intro|intro _)|(refine qb9 ?_;simp only[go_sem,seval,-List.reduceReplicate,hs9])|exact lexT|((try rw[qaa]);omega)
   ·rw[qaa];obtain rfl|rfl|rfl:n=0∨n=1∨n=2:=by omega
    all_goals decide
   ·obtain rfl|rfl|rfl:n=0∨n=1∨n=2:=by omega
    all_goals decide
   ·rename_i hb;refine⟨(n+1,m3),⟨by simp only;omega,hm3⟩,by simp only;omega,⟨?_,rfl⟩,rfl⟩;rw[hst,if_pos hb,or_pow hbd]
   ·rename_i hb;refine⟨(n+1,m3),⟨by simp only;omega,hm3⟩,by simp only;omega,⟨?_,rfl⟩,rfl⟩;rw[hst,if_neg (by simpa using hb),ybi]
  ·obtain rfl:n=3:=by omega
   have hbd:=qfC (f:=qdV V t) (l:=x.select) 3;rw[yaa (by omega)] at hbd;have h0:=hok.1.1
   repeat' first|assumption|(simp (disch:=first|assumption|omega|(simp;done)|(simp;omega)) only[go_sem,seval,-List.reduceReplicate,yaa,qap])|(with_reducible first|apply And.intro|intro _)|(refine qb9 ?_;simp only[go_sem,seval,-List.reduceReplicate])|exact lexT|((try rw[qaa]);omega)
   ·exact Int.ediv_nonneg h0 (Int.le_of_lt (Int.pow_pos (by omega)))
   ·refine qaK (r0:=.d (dB (x.table.toNat.testBit (qbx (qdV V t) x.select)))) (H1:=[rbox k regs ins,.map (wmE m2)]) ?_ ⟨m2,hm2,rfl,rfl⟩;simp only[go_sem,seval,-List.reduceReplicate];exact bit_at h0
def Tryz.c_value (k:Kcfg) (hk:k.ok) (regs ins:List Bool) (hin:ins.length<=4) (hrl:regs.length=25) (V:Wr->Bool) (hV:VOk k regs ins V) (w:Wr) (ha:Acc (Rel k) w):wOk w->∀ m,WmOk V m->
  ICall prog 199 [.ptr 0 0,.d (dP w)] [rbox k regs ins,.map (wmE m)] (valP k regs ins V (V w)):=by
 induction ha with
 | intro w _ ih=>
  intro hw m hm;have hdc:=qiZ hk hw;have hno:=qnz hk hw;have hVw:=hV w hw;have hkl:=hk.1;have gx : ∀ z,(k.tiles.map fun x=>dTc x).getD w.1.toNat z=dTc (k.tiles.getD w.1.toNat tc0):=fun z=>qam (by have:=hw.1;omega)
  have ek:=qnI w m;have hks:=fun m=>qsa (fs:=[(0,3),(1,3)]) rfl m
  have hm9:=hm w;have hdv:(k.tiles.getD w.1.toNat tc0).drive.getD w.2.toNat 0=drv k w:=rfl;have hsz:=Kcfg.ok_sizes hk (i:=w.1.toNat) (by have:=hw.1;omega);have hs2:=hsz.2;have hnb:=c_neighbours w.1 hw.1;obtain⟨⟨w1,w2⟩,w3,w4⟩:=hw;have hup:=qmR w (V w);have hread:drv k w=1->(k.tiles.getD w.1.toNat tc0).reg=false->∀ s∈(k.tiles.getD w.1.toNat tc0).select,∀ m,WmOk V m->ICall prog 147 [.ptr 0 0,.d (dI w.1),.d (dI s)] [rbox k regs ins,.map (wmE m)] (valP k regs ins V (qdV V w.1 s)):=fun h1 h2 s hs m hm=>by
   have hmem:s≠15->(w.1,s)∈qbI k w:=fun h15=>by
    unfold qbI;rw[if_neg (by omega),if_pos ⟨h1,h2⟩];exact List.mem_map.2 ⟨s,List.mem_filter.2 ⟨hs,by simpa using h15⟩,rfl⟩
   have hsr:s=15∨0<=s/\s<=7:=by
    by_cases h15:s=15
    ·exact .inl h15
    ·exact .inr (hno _ (hmem h15)).2
   exact c_read k regs ins V w.1 s ⟨w1,w2⟩ hsr (fun h15 m hm=>ih _ (hmem h15) (hno _ (hmem h15)) m hm) m hm
  have hnd9:2<=drv k w->drv k w<=5->(nb w.1 (drv k w),w.2)∈qbI k w:=fun h1 h2=>by
   unfold qbI;rw[if_pos ⟨h1,h2⟩];exact List.mem_singleton.2 rfl
  rw[qr6] at hVw;generalize drv k w=d at *
  generalize ht9:k.tiles.getD w.1.toNat tc0=t at *
  cases hf:wm m w with
  | some b=>
   have hb:=hm9 b hf;rw[hf] at ek;refine qaz (E:=env 2) tok rfl 1000 func199 rfl rfl ntmps199 (by simp) ?_
   repeat' first|assumption|(simp (disch:=first|assumption|omega|(simp;done)|(simp;omega)) only[go_sem,seval,-List.reduceReplicate,ek,yak,yai,yag,yan,yaa,qap])|(with_reducible first|apply And.intro|intro _)|(refine qb9 ?_;simp only[go_sem,seval,-List.reduceReplicate,ek,yak,yai,yag,yan])|exact lexT|((try rw[qaa]);omega)
   ·exact hks _
   ·refine qaK (r0:=.d (dB (V w))) (H1:=[rbox k regs ins,.map (wmE m)]) ?_ ⟨m,hm,rfl,rfl⟩;simp only[go_sem,seval,-List.reduceReplicate];exact hb
  | none=>
   rw[hf] at ek;generalize hv9:V w=v at *
   have hend : ∀ {X:R}{m2:Wm},WmOk V m2->endI 2 (valP k regs ins V v) (.d (.bool v)) [rbox k regs ins,.map (updD (wmE m2) (.agg [dI w.1,dI w.2]) (.bool v)),X]:=fun {X m2} hm2=>val_end hv9 hm2
   refine qaz (E:=env 2) tok rfl 1000 func199 rfl rfl ntmps199 (by simp) ?_;simp only[go_sem,seval,-List.reduceReplicate,ek,yak,yai,yag,yan,gx,hdv];obtain rfl|rfl|⟨h2,h5,h0⟩|rfl:=hdc
   ·have e:v=false:=by rw[hVw];simp
    repeat' first|assumption|(simp (disch:=first|assumption|omega|(simp;done)|(simp;omega)) only[go_sem,seval,-List.reduceReplicate,ek,yak,yai,yag,yan,gx,hdv,yaa,qap])|(with_reducible first|apply And.intro|intro _)|(refine qb9 ?_;simp only[go_sem,seval,-List.reduceReplicate,ek,yak,yai,yag,yan,gx,hdv])|exact lexT|((try rw[qaa]);omega)
    ·exact hks _
    refine qaL (n:=2) [6] (fsts [0,1,2,5,3,4] (.one 6 .done)) ?_
    repeat' first|assumption|(simp (disch:=first|assumption|omega|(simp;done)|(simp;omega)) only[go_sem,seval,-List.reduceReplicate,ek,yak,yai,yag,yan,gx,hdv,yaa,qap])|(with_reducible first|apply And.intro|intro _)|(refine qb9 ?_;simp only[go_sem,seval,-List.reduceReplicate,ek,yak,yai,yag,yan,gx,hdv])|exact lexT|((try rw[qaa]);omega)
    ·exact hks _
    ·rw[<-e];exact hend hm
   ·repeat' first|assumption|(simp (disch:=first|assumption|omega|(simp;done)|(simp;omega)) only[go_sem,seval,-List.reduceReplicate,ek,yak,yai,yag,yan,gx,hdv,yaa,qap])|(with_reducible first|apply And.intro|intro _)|(refine qb9 ?_;simp only[go_sem,seval,-List.reduceReplicate,ek,yak,yai,yag,yan,gx,hdv])|exact lexT|((try rw[qaa]);omega)
    ·exact hks _
    ·rename_i hr;have e:v=regs.getD w.1.toNat false:=by rw[hVw,if_neg (by decide),if_pos rfl,if_pos hr]
     refine qaL (n:=2) [6] (fsts [0,1,2,5,3,4] (.one 6 .done)) ?_
     repeat' first|assumption|(simp (disch:=first|assumption|omega|(simp;done)|(simp;omega)) only[go_sem,seval,-List.reduceReplicate,ek,yak,yai,yag,yan,gx,hdv,yaa,qap])|(with_reducible first|apply And.intro|intro _)|(refine qb9 ?_;simp only[go_sem,seval,-List.reduceReplicate,ek,yak,yai,yag,yan,gx,hdv])|exact lexT|((try rw[qaa]);omega)
     ·exact hks _
     ·rw[<-e];exact hend hm
    ·rename_i hr;have e:v=lutE k V w.1:=by rw[hVw,if_neg (by decide),if_pos rfl,if_neg (by simp[hr])]
     refine qan (c_table k hk regs ins V w.1 ⟨w1,w2⟩ (by rw[ht9];exact hread rfl (by simpa using hr)) m hm) [0,1] (by simp only[go_sem,seval,-List.reduceReplicate]) ?_;rintro r0 H1 ⟨m2,hm2,rfl,rfl⟩;rw[<-e]
     repeat' first|assumption|(simp (disch:=first|assumption|omega|(simp;done)|(simp;omega)) only[go_sem,seval,-List.reduceReplicate,ek,yak,yai,yag,yan,gx,hdv,yaa,qap])|(with_reducible first|apply And.intro|intro _)|(refine qb9 ?_;simp only[go_sem,seval,-List.reduceReplicate,ek,yak,yai,yag,yan,gx,hdv])|exact lexT|((try rw[qaa]);omega)
     refine qaL (n:=2) [6] (fsts [0,1,2,5,3,4] (.one 6 .done)) ?_
     repeat' first|assumption|(simp (disch:=first|assumption|omega|(simp;done)|(simp;omega)) only[go_sem,seval,-List.reduceReplicate,ek,yak,yai,yag,yan,gx,hdv,yaa,qap])|(with_reducible first|apply And.intro|intro _)|(refine qb9 ?_;simp only[go_sem,seval,-List.reduceReplicate,ek,yak,yai,yag,yan,gx,hdv])|exact lexT|((try rw[qaa]);omega)
     ·exact hks _
     ·exact hend hm2
   ·have e:v=V (nb w.1 d,w.2):=by rw[hVw,if_neg (by omega),if_neg (by omega),if_pos ⟨h2,h5⟩]
    have hmem:=hnd9 h2 h5;have hiv:=ih _ hmem (hno _ hmem) m hm;rw[<-e] at hiv;obtain h|h|h|h:d=2∨d=3∨d=4∨d=5:=by omega
    all_goals (
     subst h
     repeat' first|assumption|(simp (disch:=first|assumption|omega|(simp;done)|(simp;omega)) only[go_sem,seval,-List.reduceReplicate,ek,yak,yai,yag,yan,gx,hdv,yaa,qap])|(with_reducible first|apply And.intro|intro _)|(refine qb9 ?_;simp only[go_sem,seval,-List.reduceReplicate,ek,yak,yai,yag,yan,gx,hdv])|exact lexT|((try rw[qaa]);omega)
     ·exact hks _
     refine qaL (n:=2) [10] (fsts [0,1,4,5,7,2,8] (.one 3 (fsts [6,9] (.one 10 (.fst 11 .done))))) ?_
     repeat' first|assumption|(simp (disch:=first|assumption|omega|(simp;done)|(simp;omega)) only[go_sem,seval,-List.reduceReplicate,ek,yak,yai,yag,yan,gx,hdv,yaa,qap])|(with_reducible first|apply And.intro|intro _)|(refine qac hnb ?_)|(refine qb9 ?_;simp only[go_sem,seval,-List.reduceReplicate,ek,yak,yai,yag,yan,gx,hdv])|exact lexT|((try rw[qaa]);omega)
     refine qan hiv [0,1] (by simp only[go_sem,seval,-List.reduceReplicate];rfl) ?_;rintro r0 H1 ⟨m2,hm2,rfl,rfl⟩
     repeat' first|assumption|(simp (disch:=first|assumption|omega|(simp;done)|(simp;omega)) only[go_sem,seval,-List.reduceReplicate,ek,yak,yai,yag,yan,gx,hdv,yaa,qap])|(with_reducible first|apply And.intro|intro _)|(refine qb9 ?_;simp only[go_sem,seval,-List.reduceReplicate,ek,yak,yai,yag,yan,gx,hdv])|exact lexT|((try rw[qaa]);omega)
     refine qaL (n:=2) [6] (fsts [0,1,2,5,3,4] (.one 6 .done)) ?_
     repeat' first|assumption|(simp (disch:=first|assumption|omega|(simp;done)|(simp;omega)) only[go_sem,seval,-List.reduceReplicate,ek,yak,yai,yag,yan,gx,hdv,yaa,qap])|(with_reducible first|apply And.intro|intro _)|(refine qb9 ?_;simp only[go_sem,seval,-List.reduceReplicate,ek,yak,yai,yag,yan,gx,hdv])|exact lexT|((try rw[qaa]);omega)
     ·exact hks _
     ·exact hend hm2)
   ·have e:v=ins.getD (w.1/5).toNat false:=by rw[hVw,if_pos rfl]
    repeat' first|assumption|(simp (disch:=first|assumption|omega|(simp;done)|(simp;omega)) only[go_sem,seval,-List.reduceReplicate,ek,yak,yai,yag,yan,gx,hdv,yaa,qap])|(with_reducible first|apply And.intro|intro _)|(refine qb9 ?_;simp only[go_sem,seval,-List.reduceReplicate,ek,yak,yai,yag,yan,gx,hdv])|exact lexT|((try rw[qaa]);omega)
    ·exact hks _
    have e2:(decide (w.1/5<(ins.length:Int))&&ins.getD (w.1/5).toNat false)=v:=by
     rw[e];by_cases hl:w.1/5<(ins.length:Int)
     ·rw[decide_eq_true hl,ybq]
     ·rw[decide_eq_false hl,List.getD_eq_getElem?_getD,List.getElem?_eq_none (by omega)];rfl
    refine qaL (n:=2) [6] (fsts [0,1,2,5,3,4] (.one 6 .done)) ?_
    repeat' first|assumption|(simp (disch:=first|assumption|omega|(simp;done)|(simp;omega)) only[go_sem,seval,-List.reduceReplicate,ek,yak,yai,yag,yan,gx,hdv,e2,yaa,qap])|(with_reducible first|apply And.intro|intro _)|(refine qb9 ?_;simp only[go_sem,seval,-List.reduceReplicate,ek,yak,yai,yag,yan,gx,hdv,e2])|exact lexT|((try rw[qaa]);omega)
    all_goals first|exact hks _|exact hend hm|skip
def Tryz.c_FabricReset:Pure prog 80 [] (.agg [dBs (List.replicate 25 false)]):=by
 refine qax func80 rfl ntmps80 fun ok=>?_
 simp only[go_sem,seval,-List.reduceReplicate] at ok
 repeat' first|assumption|(simp (disch:=first|assumption|omega|(simp;done)|(simp;omega)) only[go_sem,seval,-List.reduceReplicate,yaa,qap])|(with_reducible first|apply And.intro|intro _)|(refine qb9 ?_;simp only[go_sem,seval,-List.reduceReplicate])|exact lexT|((try rw[qaa]);omega)
def outN (k:Kcfg) (V:Wr->Bool) (n:Nat):List Bool:=(List.range n).map fun(o:Nat)=>qdV V ((o:Int)*5+4) (k.pads.getD o (0,false)).1 != (k.pads.getD o (0,false)).2
def qqi (k:Kcfg) (V:Wr->Bool) (n:Nat):outN k V (n+1)=outN k V n ++ [qdV V ((n:Int)*5+4) (k.pads.getD n (0,false)).1 != (k.pads.getD n (0,false)).2]:=by
 rw[outN,yaH,yaz];rfl
def qnJ (k:Kcfg) (V:Wr->Bool) (n:Nat):(outN k V n).length=n:=by simp[outN]
def qkR (k:Kcfg) (V:Wr->Bool) (n:Nat):List Bool:=((List.range n).map fun(t:Nat)=>(k.tiles.getD t tc0).reg&&lutE k V (t:Int))++List.replicate (25-n) false
def ql0 (k:Kcfg) (V:Wr->Bool) (h:n<=25):(qkR k V n).length=25:=by simp[qkR];omega
def qou (k:Kcfg) (V:Wr->Bool) (h:n<25):(qkR k V n).set n ((k.tiles.getD n tc0).reg&&lutE k V (n:Int))=qkR k V (n+1):=by
 unfold qkR;rw[List.set_append_right _ _ (by simp),yaw,ybr,Nat.sub_self,show 25-n=(25-(n+1))+1 by omega,List.replicate_succ,List.set_cons_zero,yaH,yaz,yar];rfl
def qqj (k:Kcfg) (V:Wr->Bool):qkR k V 25=qkN k V:=by simp[qkR,qkN]
set_option maxHeartbeats 2000000 in
def Tryz.c_stepFabric (k:Kcfg) (hk:k.ok) (hw:Wf k) (regs ins:List Bool) (hin:ins.length<=4) (hrl:regs.length=25) (V:Wr->Bool) (hV:VOk k regs ins V) :
  Pure prog 81 [pK k,dBs regs,dBs ins] (.agg [dBs (outE k V),dBs (qkN k V)]):=by
 have hfr:=c_FabricReset;have hval:=fun w ho m hm=>c_value k hk regs ins hin hrl V hV w (hw w ho) ho m hm
 have hpl:=hk.2.1.1;have hkl:=hk.1;have hread : ∀ t s:Int,0<=t->t<=24->qcM s=true->∀ m,WmOk V m->ICall prog 147 [.ptr 0 0,.d (dI t),.d (dI s)] [rbox k regs ins,.map (wmE m)] (valP k regs ins V (qdV V t s)):=fun t s t1 t2 hs m hm=>by
  simp only[qcM,ybe,yap,decide_eq_true_eq] at hs;exact c_read k regs ins V t s ⟨t1,t2⟩ hs.symm (fun h15 m hm=>hval (t,s) ⟨⟨t1,t2⟩,hs.resolve_right h15⟩ m hm) m hm
 have htab : ∀ t:Nat,t<25->∀ m,WmOk V m->ICall prog 149 [.ptr 0 0,.d (dI t)] [rbox k regs ins,.map (wmE m)] (valP k regs ins V (lutE k V t)):=fun t ht m hm=>by
  have hok:=Tcfg.ok_iff.1 (hk.2.2 t (by omega));refine c_table k hk regs ins V t (by omega) (fun s hs m hm=>?_) m hm;rw[show(t:Int).toNat=t by omega] at hs;obtain⟨j,hj,rfl⟩:=qaV (0:Int) hs;exact hread t _ (by omega) (by omega) (hok.2.2.2.1 j hj) m hm
 rw[show outE k V=outN k V 3 by unfold outE outN;rw[hpl],<-qqj];refine qcf (E:=env 0) tok rfl 1000 func81 rfl rfl ntmps81 (by simp) fun ok=>?_
 simp only[go_sem,seval,-List.reduceReplicate] at ok
 repeat' first|assumption|(simp (disch:=first|assumption|omega|(simp;done)|(simp;omega)) only[go_sem,seval,-List.reduceReplicate,yaa,qap])|(with_reducible first|apply And.intro|intro _)|(refine qbr hfr ?_)|(refine qb9 ?_;simp only[go_sem,seval,-List.reduceReplicate])|exact lexT|((try rw[qaa]);omega)
 refine qaf (E:=env 0) tok (σ:=Nat×Wm) (fun s=>[(0,.d (pK k)),(6,.ptr 0 0),(7,.ptr 2 0),(8,.ptr 4 0),(23,.d (dQs k.pads)),(24,.d (dI k.pads.length)),(25,.d (dI s.1))])
  (fun s=>[.box [.d .nil,.d .nil],.map (wmE s.2),rbox k regs ins,.row 0 1 true ((List.replicate 25 false).map D.bool),.box [.sl 5 s.1 1 0 s.1,.sl 3 0 1 0 25],.row s.1 1 true ((outN k V s.1).map D.bool)]) (fun s=>s.1<=3/\WmOk V s.2) (fun s=>3-s.1) [(4,0,1,true)] [] 1000 1000 ?_ ?_
 ·simp only[go_sem,seval,-List.reduceReplicate];exact⟨(0,[]),⟨by simp only;omega,fun w b e=>by cases e⟩,rfl,rfl,rfl,rfl,rfl⟩
 ·rintro⟨o,m⟩ ⟨ho,hm⟩;simp only at ho hm;by_cases hlt:o<3
  ·have hpt:=hk.2.1.2 o (by omega);have gy : ∀ z,(k.pads.map fun x=>dQ x).getD o z=dQ (k.pads.getD o (0,false)):=fun z=>qap (by omega)
   have hsc:=qqi k V o;have hol:=qnJ k V o;have hpd:=c_padTile (o:Int) (by omega);have hrd:=hread ((o:Int)*5+4) (k.pads.getD o (0,false)).1 (by omega) (by omega) hpt m hm;generalize qdV V ((o:Int)*5+4) (k.pads.getD o (0,false)).1=b at *
   generalize outN k V o=q at *
   generalize k.pads.getD o (0,false)=p at *
   obtain⟨p1,p2⟩:=p
   repeat' first|assumption|(simp (disch:=first|assumption|omega|(simp;done)|(simp;omega)) only[go_sem,seval,-List.reduceReplicate,gy,yaa,qap])|(with_reducible first|apply And.intro|intro _)|(refine qb9 ?_;simp only[go_sem,seval,-List.reduceReplicate,gy])|exact lexT|((try rw[qaa]);omega)
   refine qaL (n:=0) [7,12,14] (fsts [0,2,3,5,8,6] (.three 1 (.two 4 (.two 7 (.one 9 (.fst 10 (.one 11 (.one 12 (.fst 13 (.one 14 .done)))))) 9 (.one 7 (.fst 10 (.one 11 (.one 12 (.fst 13 (.one 14 .done))))))) 9 (.one 4 (.one 7 (.fst 10 (.one 11 (.one 12 (.fst 13 (.one 14 .done)))))))) 4 (.three 1 (.two 7 (.one 9 (.fst 10 (.one 11 (.one 12 (.fst 13 (.one 14 .done)))))) 9 (.one 7 (.fst 10 (.one 11 (.one 12 (.fst 13 (.one 14 .done))))))) 7 (.two 1 (.one 9 (.fst 10 (.one 11 (.one 12 (.fst 13 (.one 14 .done)))))) 9 (.fst 10 (.two 1 (.one 11 (.one 12 (.fst 13 (.one 14 .done)))) 11 (.one 1 (.one 12 (.fst 13 (.one 14 .done))))))) 9 (.two 1 (.one 7 (.fst 10 (.one 11 (.one 12 (.fst 13 (.one 14 .done)))))) 7 (.fst 10 (.two 1 (.one 11 (.one 12 (.fst 13 (.one 14 .done)))) 11 (.one 1 (.one 12 (.fst 13 (.one 14 .done)))))))) 9 (.two 1 (.one 4 (.one 7 (.fst 10 (.one 11 (.one 12 (.fst 13 (.one 14 .done))))))) 4 (.two 1 (.one 7 (.fst 10 (.one 11 (.one 12 (.fst 13 (.one 14 .done)))))) 7 (.fst 10 (.two 1 (.one 11 (.one 12 (.fst 13 (.one 14 .done)))) 11 (.one 1 (.one 12 (.fst 13 (.one 14 .done)))))))))) ?_
   repeat' first|assumption|(simp (disch:=first|assumption|omega|(simp;done)|(simp;omega)) only[go_sem,seval,-List.reduceReplicate,gy,yaa,qap])|(with_reducible first|apply And.intro|intro _)|(refine qac hpd ?_)|(refine qb9 ?_;simp only[go_sem,seval,-List.reduceReplicate,gy])|exact lexT|((try rw[qaa]);omega)
   all_goals (
    refine qan hrd [2,1] (by simp only[go_sem,seval,-List.reduceReplicate]) ?_;rintro r0 H1 ⟨m2,hm2,rfl,rfl⟩
    repeat' first|assumption|(simp (disch:=first|assumption|omega|(simp;done)|(simp;omega)) only[go_sem,seval,-List.reduceReplicate,gy,yaa,qap])|(with_reducible first|apply And.intro|intro _)|(refine qb9 ?_;simp only[go_sem,seval,-List.reduceReplicate,gy])|exact lexT|((try rw[qaa]);omega)
    refine⟨(o+1,m2),⟨by simp only;omega,hm2⟩,by simp only;omega,rfl,rfl,rfl,rfl,?_⟩;rw[hsc];cases b <;> cases p2 <;> rfl)
  ·obtain rfl:o=3:=by omega
   repeat' first|assumption|(simp (disch:=first|assumption|omega|(simp;done)|(simp;omega)) only[go_sem,seval,-List.reduceReplicate,yaa,qap])|(with_reducible first|apply And.intro|intro _)|(refine qb9 ?_;simp only[go_sem,seval,-List.reduceReplicate])|exact lexT|((try rw[qaa]);omega)
   refine qaf (E:=env 0) tok (σ:=Nat×Wm) (fun s=>[(0,.d (pK k)),(6,.ptr 0 0),(7,.ptr 2 0),(8,.ptr 4 0),(48,.d (dTcs k.tiles)),(49,.d (dI k.tiles.length)),(50,.d (dI s.1))])
    (fun s=>[.box [.d .nil,.d .nil],.map (wmE s.2),rbox k regs ins,.row 0 1 true ((qkR k V s.1).map D.bool),.box [.sl 5 3 1 0 3,.sl 3 0 1 0 25],.row 3 1 true ((outN k V 3).map D.bool)]) (fun s=>s.1<=25/\WmOk V s.2) (fun s=>25-s.1) [] [] 1000 1000 ?_ ?_
   ·simp only[go_sem,seval,-List.reduceReplicate];exact⟨(0,m),⟨by simp only;omega,hm⟩,rfl,rfl,rfl⟩
   ·rintro⟨t,m2⟩ ⟨ht,hm2⟩;simp only at ht hm2;by_cases hlt2:t<25
    ·have gx : ∀ z,(k.tiles.map fun x=>dTc x).getD t z=dTc (k.tiles.getD t tc0):=fun z=>qam (by omega)
     have hsc:=qou k V hlt2;have hol:=ql0 k V ht;have hrd:=htab t hlt2 m2 hm2;generalize qkR k V t=q at *
     generalize k.tiles.getD t tc0=x at *
     obtain⟨x1,x2,x3,x4⟩:=x;simp only at hsc;cases x3 with
     | false=>
      repeat' first|assumption|(simp (disch:=first|assumption|omega|(simp;done)|(simp;omega)) only[go_sem,seval,-List.reduceReplicate,gx,yaa,qap])|(with_reducible first|apply And.intro|intro _)|(refine qb9 ?_;simp only[go_sem,seval,-List.reduceReplicate,gx])|exact lexT|((try rw[qaa]);omega)
      refine qaL (n:=0) [15,18] (fsts [0,1,3,4,5,6,8,7,9,10,11,12,13,14] (.two 2 (.one 15 (fsts [16,17] (.one 18 .done))) 15 (.fst 16 (.one 2 (.fst 17 (.one 18 .done)))))) ?_
      repeat' first|assumption|(simp (disch:=first|assumption|omega|(simp;done)|(simp;omega)) only[go_sem,seval,-List.reduceReplicate,gx,yaa,qap])|(with_reducible first|apply And.intro|intro _)|(refine qb9 ?_;simp only[go_sem,seval,-List.reduceReplicate,gx])|exact lexT|((try rw[qaa]);omega)
      all_goals (
       refine⟨(t+1,m2),⟨by simp only;omega,hm2⟩,by simp only;omega,rfl,rfl,?_⟩;rw[<-hsc];rfl)
     | true=>
      repeat' first|assumption|(simp (disch:=first|assumption|omega|(simp;done)|(simp;omega)) only[go_sem,seval,-List.reduceReplicate,gx,yaa,qap])|(with_reducible first|apply And.intro|intro _)|(refine qb9 ?_;simp only[go_sem,seval,-List.reduceReplicate,gx])|exact lexT|((try rw[qaa]);omega)
      refine qaL (n:=0) [15,18] (fsts [0,1,3,4,5,6,8,7,9,10,11,12,13,14] (.two 2 (.one 15 (fsts [16,17] (.one 18 .done))) 15 (.fst 16 (.one 2 (.fst 17 (.one 18 .done)))))) ?_
      repeat' first|assumption|(simp (disch:=first|assumption|omega|(simp;done)|(simp;omega)) only[go_sem,seval,-List.reduceReplicate,gx,yaa,qap])|(with_reducible first|apply And.intro|intro _)|(refine qb9 ?_;simp only[go_sem,seval,-List.reduceReplicate,gx])|exact lexT|((try rw[qaa]);omega)
      all_goals (
       refine qan hrd [2,1] (by simp only[go_sem,seval,-List.reduceReplicate]) ?_;rintro r0 H1 ⟨m3,hm3,rfl,rfl⟩
       repeat' first|assumption|(simp (disch:=first|assumption|omega|(simp;done)|(simp;omega)) only[go_sem,seval,-List.reduceReplicate,gx,yaa,qap])|(with_reducible first|apply And.intro|intro _)|(refine qb9 ?_;simp only[go_sem,seval,-List.reduceReplicate,gx])|exact lexT|((try rw[qaa]);omega)
       refine⟨(t+1,m3),⟨by simp only;omega,hm3⟩,by simp only;omega,rfl,rfl,?_⟩;rw[<-hsc];rfl)
    ·obtain rfl:t=25:=by omega
     repeat' first|assumption|(simp (disch:=first|assumption|omega|(simp;done)|(simp;omega)) only[go_sem,seval,-List.reduceReplicate,yaa,qap])|(with_reducible first|apply And.intro|intro _)|(refine qb9 ?_;simp only[go_sem,seval,-List.reduceReplicate])|exact lexT|((try rw[qaa]);omega)
     ·exact(qnJ k V 3).symm
     ·exact(ql0 k V (by omega)).symm
end Go.Proofs
