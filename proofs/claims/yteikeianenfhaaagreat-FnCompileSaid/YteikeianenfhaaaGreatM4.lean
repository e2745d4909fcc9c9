/- Contracts, plain definitions and lemmas. Conditions: none; lemmas. -/
import Derived.Test.YteikeianenfhaaaGreatC85
import Derived.Test.YteikeianenfhaaaGreatK5
import Derived.Test.YteikeianenfhaaaGreatC73
import Derived.Test.YteikeianenfhaaaGreatP7
import Derived.Test.YteikeianenfhaaaGreatR1
import Derived.Test.YteikeianenfhaaaGreatC12
import Derived.Test.YteikeianenfhaaaGreatC53
set_option maxRecDepth 20000
set_option linter.unusedSimpArgs false
set_option linter.unusedVariables false
set_option maxHeartbeats 2000000
set_option linter.defProp false
namespace Go.Proofs
open Go Go.VL Tryz
variable {V:Wr->Bool}{k:aG}{r n i:Nat}{b:ZA}{T:ZF}{p:Int}{K:I->ZF->Prop}
abbrev Wm:=List (Wr×Bool)
variable {m:Wm}
def wm (m:Wm) (k:Wr):Option Bool:=(m.find? fun e=>decide (e.1=k)).map fun e=>e.2
def lD:Wm->Wr->Bool->Wm
 | [],k,b=>[(k,b)]
 | e::r,k,b=>if e.1=k then(k,b)::r else e::lD r k b
def vY (k:Wr) (b:Bool) (j:Wr) : ∀ m,wm (lD m k b) j=if j=k then some b else wm m j
 | []=>by by_cases h:j=k <;> simp[wm,lD,h,eq_comm]
 | e::r=>by
  have ih:=vY k b j r;unfold lD;by_cases h:e.1=k
  ·rw[if_pos h];by_cases h2:j=k
   ·simp[wm,h2]
   ·have h3 : ¬ e.1=j:=fun h4=>h2 (by rw[<-h4,h])
    have h4 : ¬ k=j:=fun h5=>h2 h5.symm
    simp[wm,h2,h3,h4]
  ·rw[if_neg h];by_cases h3:e.1=j
   ·have h2 : ¬ j=k:=fun h4=>h (by rw[h3,h4])
    simp[wm,h2,h3]
   ·unfold wm at ih ⊢;simp only[List.find?_cons,decide_eq_false h3,ih]
def iM (m:Wm):List (D×D):=m.map fun e=>(dP e.1,D.bool e.2)
def Ls (w:Wr) : ∀ m,fR (iM m) (.agg [dI w.1,dI w.2])=(wm m w).map D.bool
 | []=>rfl
 | e::r=>by
  have ih:=Ls w r;show fR ((dP e.1,D.bool e.2)::iM r) _=_
  rw[Bs,AD];by_cases h:e.1=w
  ·subst h;simp[wm]
  ·have h2 : ¬ (w.1=e.1.1/\w.2=e.1.2):=fun h3=>h (Prod.ext h3.1.symm h3.2.symm)
   rw[decide_eq_false h2];simp only[eE,if_false,ih];simp[wm,h]
def E7 (w:Wr) (b:Bool) : ∀ m,bU (iM m) (.agg [dI w.1,dI w.2]) (D.bool b)=iM (lD m w b)
 | []=>rfl
 | e::r=>by
  have ih:=E7 w b r;show bU ((dP e.1,D.bool e.2)::iM r) _ _=_
  rw[bU,AD];by_cases h:e.1=w
  ·subst h;simp[lD,iM]
  ·have h2 : ¬ (w.1=e.1.1/\w.2=e.1.2):=fun h3=>h (Prod.ext h3.1.symm h3.2.symm)
   rw[decide_eq_false h2];simp only[eE,if_false,ih];simp[lD,iM,h]
def Ot {fs:List (Nat×Nat)}(h:fs.length=2) (m:Wm):jN (.struct fs) (iM m):=by
 rw[y0];intro e he;obtain⟨x,_,rfl⟩:=List.mem_map.1 he;show(2=fs.length/\_)
 exact⟨h.symm,⟨rfl,rfl,trivial⟩⟩
def fP (V:Wr->Bool) (m:Wm):Prop:=∀ w b,wm m w=some b->b=V w
def fP.up (h:fP V m) (w:Wr):fP V (lD m w (V w)):=fun u b e=>by
 rw[vY] at e;split at e
 ·rename_i h1;subst h1;exact(Option.some.inj e).symm
 ·exact h u b e
abbrev eJ (k:aG) (aX ins:ZB):R:=.box [.d (pK k),.d (cf aX),.d (cf ins),.map 1]
def kW (k:aG) (aX ins:ZB) (V:Wr->Bool) (b:Bool) (r:I) (H':ZF):Prop:=∃ m',fP V m'/\r=.d (dB b)/\H'=[eJ k aX ins,.map (iM m')]
def u4 {aX ins:ZB}{w:Wr}{v:Bool}(hv:V w=v) {X:R}(hm:fP V m):gI 2 (kW k aX ins V v) (.d (.bool v)) [eJ k aX ins,.map (bU (iM m) (.agg [dI w.1,dI w.2]) (.bool v)),X]:=by
 subst hv;rw[E7];refine fI (r0:=.d (dB (V w))) (H1:=[eJ k aX ins,.map (iM (lD m w (V w)))]) ?_ ⟨_,hm.up w,rfl,rfl⟩;simp only[go_sem,seval,-List.reduceReplicate]
def Tryz.qT (k:aG) (aX ins:ZB) (V:Wr->Bool) (t s:Int) (ht:0<=t/\t<=24) (hs:s=15∨0<=s/\s<=7)
  (hv:s≠15->∀ m,fP V m->aA prog 199 [.ptr 0 0,.d (dP (t,s))] [eJ k aX ins,.map (iM m)] (kW k aX ins V (V (t,s)))) (m:Wm) (hm:fP V m) :
  aA prog 147 [.ptr 0 0,.d (dI t),.d (dI s)] [eJ k aX ins,.map (iM m)] (kW k aX ins V (ki V t s)):=by
 by_cases h:s=15
 ·subst h;refine xN rfl 1000 func147 rfl rfl ntmps147 (by simp) ?_
  repeat' first|simp (disch:=omega) only[go_sem,seval,-List.reduceReplicate,ag,bw]|(with_reducible first|apply aa|intro)|(refine fh ?_;simp only[go_sem,seval,-List.reduceReplicate])|exact ah|(try rw[ae]);omega
  refine fI (r0:=.d (dB (ki V t 15))) (H1:=[eJ k aX ins,.map (iM m)]) ?_ ⟨m,hm,rfl,rfl⟩;simp only[go_sem,seval,-List.reduceReplicate];rfl
 ·have e:ki V t s=V (t,s):=by simp[ki,h]
  rw[e];have hv2:=hv h m hm;generalize V (t,s)=b at *
  refine xN rfl 1000 func147 rfl rfl ntmps147 (by simp) ?_
  repeat' first|simp (disch:=omega) only[go_sem,seval,-List.reduceReplicate,h,ag,bw]|(with_reducible first|apply aa|intro)|(refine fh ?_;simp only[go_sem,seval,-List.reduceReplicate,h])|exact ah|(try rw[ae]);omega
  refine c7 hv2 [0,1] (by simp only[go_sem,seval,-List.reduceReplicate]) ?_;rintro r0 H1 ⟨m2,hm2,rfl,rfl⟩
  repeat' first|simp (disch:=omega) only[go_sem,seval,-List.reduceReplicate,h,ag,bw]|(with_reducible first|apply aa|intro)|(refine fh ?_;simp only[go_sem,seval,-List.reduceReplicate,h])|exact ah|(try rw[ae]);omega
  refine fI (r0:=.d (dB b)) (H1:=[eJ k aX ins,.map (iM m2)]) ?_ ⟨m2,hm2,rfl,rfl⟩;simp only[go_sem,seval,-List.reduceReplicate,h]
def yD (h:r<2 ^ n):r ||| ((2:Int) ^ n).toNat=r+2 ^ n:=by
 have e:((2:Int) ^ n).toNat=2 ^ n:=by
  have:((2:Int) ^ n)=((2 ^ n:Nat):Int):=by simp
  rw[this];rfl
 have:=Nat.two_pow_add_eq_or_of_lt h 1;rw[jL] at this;rw[e,Nat.or_comm,<-this];omega
def yF {x:Int}(h:0<=x):decide ((((x/2 ^ r).toNat &&& (1:Int).toNat:Nat):Int)=1)=x.toNat.testBit r:=by
 obtain⟨n,rfl⟩:=vr h;have e:(((n:Int)/2 ^ r).toNat)=n/2 ^ r:=by
  have:((n:Int)/2 ^ r)=((n/2 ^ r:Nat):Int):=by simp
  rw[this];rfl
 rw[e,Nat.testBit_eq_decide_div_mod_eq,show(1:Int).toNat=1 from rfl,Nat.and_one_is_mod];refine decide_eq_decide.2 ?_;show(((n/2 ^ r%2:Nat):Int)=1)↔n/2 ^ r%2=1
 omega
def GY {f:Int->Bool} : ∀ {l:ZA}{n:Nat},n<l.length->dL f (l.take (n+1))=dL f (l.take n)+if f (l.getD n 0) then 2 ^ n else 0
 | [],n,h=>by simp at h
 | z::l,0,_=>by simp[dL]
 | z::l,n+1,h=>by
  have ih:=GY (f:=f) (l:=l) (n:=n) (by simpa using h);rw[List.take_succ_cons,List.take_succ_cons,dL,dL,ih];have e:(z::l).getD (n+1) 0=l.getD n 0:=rfl;rw[e];split <;> split <;> omega
def yY {f:Int->Bool} : ∀ {l:ZA}(n:Nat),dL f (l.take n)<2 ^ n
 | [],n=>by simpa [dL] using Nat.two_pow_pos n
 | z::l,0=>by simp[dL]
 | z::l,n+1=>by
  have ih:=yY (f:=f) (l:=l) n;rw[List.take_succ_cons,dL,Nat.pow_succ];split <;> omega
def Tryz.oy (k:aG) (hk:k.ok) (aX ins:ZB) (V:Wr->Bool) (t:Int) (ht:0<=t/\t<=24)
  (hv : ∀ s∈(k.tiles.getD t.toNat ba).select,∀ m,fP V m->aA prog 147 [.ptr 0 0,.d (dI t),.d (dI s)] [eJ k aX ins,.map (iM m)] (kW k aX ins V (ki V t s))) (m:Wm) (hm:fP V m) :
  aA prog 149 [.ptr 0 0,.d (dI t)] [eJ k aX ins,.map (iM m)] (kW k aX ins V (jp k V t)):=by
 have gx : ∀ z,(k.tiles.map fun x=>fO x).getD t.toNat z=fO (k.tiles.getD t.toNat ba):=fun z=>cE (by have:=hk.1;omega)
 have hok:=ar.b6.1 (hk.2.2 t.toNat (by have:=hk.1;omega));have hkl:=hk.1;unfold jp;generalize k.tiles.getD t.toNat ba=x at *
 refine xN rfl 1000 func149 rfl rfl ntmps149 (by simp) ?_
 repeat' first|simp (disch:=omega) only[go_sem,seval,-List.reduceReplicate,gx,ag,bw]|(with_reducible first|apply aa|intro)|(refine fh ?_;simp only[go_sem,seval,-List.reduceReplicate,gx])|exact ah|(try rw[ae]);omega
 have hsl:=hok.2.1;refine A4 (σ:=Nat×Wm) (fun s=>[(0,.ptr 0 0),(1,.d (dI t)),(5,.d (.ptr [dI x.table,aj x.select,dB x.gj,aj x.drive])),(6,.d (dI (dL (ki V t) (x.select.take s.1)))),(21,.d (aj x.select)),(22,.d (dI x.select.length)),(23,.d (dI s.1))])
  (fun s=>[eJ k aX ins,.map (iM s.2)]) (fun s=>s.1<=3/\fP V s.2) (fun s=>3-s.1) [] [] 1000 1000 ?_ ?_
 ·simp only[go_sem,seval,-List.reduceReplicate];exact⟨(0,m),⟨by simp only;omega,hm⟩,⟨rfl,rfl⟩,rfl⟩
 ·rintro⟨n,m2⟩ ⟨hn,hm2⟩;simp only at hn hm2;by_cases hlt:n<3
  ·have hv2:=hv _ (aO (by omega):x.select.getD n 0∈x.select) m2 hm2;have hst:=GY (f:=ki V t) (l:=x.select) (n:=n) (by omega);have hbd:=yY (f:=ki V t) (l:=x.select) n;generalize hs9:x.select.getD n 0=s at *
   generalize dL (ki V t) (x.select.take n)=r at *
   generalize ki V t s=b at *
   repeat' first|simp (disch:=omega) only[go_sem,seval,-List.reduceReplicate,hs9,ag,bw]|(with_reducible first|apply aa|intro)|(refine fh ?_;simp only[go_sem,seval,-List.reduceReplicate,hs9])|exact ah|(try rw[ae]);omega
   refine c7 hv2 [0,1] (by simp only[go_sem,seval,-List.reduceReplicate]) ?_;rintro r0 H1 ⟨m3,hm3,rfl,rfl⟩
   repeat' first|simp (disch:=omega) only[go_sem,seval,-List.reduceReplicate,hs9,ag,bw]|(with_reducible first|apply aa|intro)|(refine fh ?_;simp only[go_sem,seval,-List.reduceReplicate,hs9])|exact ah|(try rw[ae]);omega
   ·rw[ae];obtain rfl|rfl|rfl:n=0∨n=1∨n=2:=by omega
    all_goals decide
   ·obtain rfl|rfl|rfl:n=0∨n=1∨n=2:=by omega
    all_goals decide
   ·rename_i hb;refine⟨(n+1,m3),⟨by simp only;omega,hm3⟩,by simp only;omega,⟨?_,rfl⟩,rfl⟩;rw[hst,if_pos hb,yD hbd]
   ·rename_i hb;refine⟨(n+1,m3),⟨by simp only;omega,hm3⟩,by simp only;omega,⟨?_,rfl⟩,rfl⟩;rw[hst,if_neg (by simpa using hb),lL]
  ·obtain rfl:n=3:=by omega
   have hbd:=yY (f:=ki V t) (l:=x.select) 3;rw[ag (by omega)] at hbd;have h0:=hok.1.1
   repeat' first|simp (disch:=omega) only[go_sem,seval,-List.reduceReplicate,ag,bw]|(with_reducible first|apply aa|intro)|(refine fh ?_;simp only[go_sem,seval,-List.reduceReplicate])|exact ah|(try rw[ae]);omega
   ·exact Int.ediv_nonneg h0 (Int.le_of_lt (Int.pow_pos (by omega)))
   ·refine fI (r0:=.d (dB (x.table.toNat.testBit (dL (ki V t) x.select)))) (H1:=[eJ k aX ins,.map (iM m2)]) ?_ ⟨m2,hm2,rfl,rfl⟩;simp only[go_sem,seval,-List.reduceReplicate];exact yF h0
def Tryz.s7 (k:aG) (hk:k.ok) (aX ins:ZB) (hin:ins.length<=4) (hrl:aX.length=25) (V:Wr->Bool) (hV:vM k aX ins V) (w:Wr) (ha:Acc (Rel k) w):qw w->∀ m,fP V m->
  aA prog 199 [.ptr 0 0,.d (dP w)] [eJ k aX ins,.map (iM m)] (kW k aX ins V (V w)):=by
 induction ha with
 | intro w _ ih=>
  intro hw m hm;have hdc:=Hz hk hw;have hno:=HU hk hw;have hVw:=hV w hw;have hkl:=hk.1;have gx : ∀ z,(k.tiles.map fun x=>fO x).getD w.1.toNat z=fO (k.tiles.getD w.1.toNat ba):=fun z=>cE (by have:=hw.1;omega)
  have ek:=Ls w m;have hks:=fun m=>Ot (fs:=[(0,3),(1,3)]) rfl m
  have hm9:=hm w;have hdv:(k.tiles.getD w.1.toNat ba).drive.getD w.2.toNat 0=go k w:=rfl;have hsz:=aG.cA hk (i:=w.1.toNat) (by have:=hw.1;omega);have hs2:=hsz.2;have hnb:=cC w.1 hw.1;obtain⟨⟨w1,w2⟩,w3,w4⟩:=hw;have hup:=E7 w (V w);have hread:go k w=1->(k.tiles.getD w.1.toNat ba).gj=false->∀ s∈(k.tiles.getD w.1.toNat ba).select,∀ m,fP V m->aA prog 147 [.ptr 0 0,.d (dI w.1),.d (dI s)] [eJ k aX ins,.map (iM m)] (kW k aX ins V (ki V w.1 s)):=fun h1 h2 s hs m hm=>by
   have hmem:s≠15->(w.1,s)∈ir k w:=fun h15=>by
    unfold ir;rw[if_neg (by omega),if_pos ⟨h1,h2⟩];exact List.mem_map.2 ⟨s,List.mem_filter.2 ⟨hs,by simpa using h15⟩,rfl⟩
   have hsr:s=15∨0<=s/\s<=7:=by
    by_cases h15:s=15
    ·exact .inl h15
    ·exact .inr (hno _ (hmem h15)).2
   exact qT k aX ins V w.1 s ⟨w1,w2⟩ hsr (fun h15 m hm=>ih _ (hmem h15) (hno _ (hmem h15)) m hm) m hm
  have hnd9:2<=go k w->go k w<=5->(nb w.1 (go k w),w.2)∈ir k w:=fun h1 h2=>by
   unfold ir;rw[if_pos ⟨h1,h2⟩];exact List.mem_singleton.2 rfl
  rw[Cx] at hVw;generalize go k w=d at *
  generalize ht9:k.tiles.getD w.1.toNat ba=t at *
  cases hf:wm m w with
  | some b=>
   have hb:=hm9 b hf;rw[hf] at ek;refine xN rfl 1000 func199 rfl rfl ntmps199 (by simp) ?_
   repeat' first|simp (disch:=omega) only[go_sem,seval,-List.reduceReplicate,ek,dE,dh,cP,fH,ag,bw]|(with_reducible first|apply aa|intro)|(refine fh ?_;simp only[go_sem,seval,-List.reduceReplicate,ek,dE,dh,cP,fH])|exact ah|(try rw[ae]);omega
   ·exact hks _
   ·refine fI (r0:=.d (dB (V w))) (H1:=[eJ k aX ins,.map (iM m)]) ?_ ⟨m,hm,rfl,rfl⟩;simp only[go_sem,seval,-List.reduceReplicate];exact hb
  | none=>
   rw[hf] at ek;generalize hv9:V w=v at *
   have hend : ∀ {X:R}{m2:Wm},fP V m2->gI 2 (kW k aX ins V v) (.d (.bool v)) [eJ k aX ins,.map (bU (iM m2) (.agg [dI w.1,dI w.2]) (.bool v)),X]:=fun {X m2} hm2=>u4 hv9 hm2
   refine xN rfl 1000 func199 rfl rfl ntmps199 (by simp) ?_;simp only[go_sem,seval,-List.reduceReplicate,ek,dE,dh,cP,fH,gx,hdv];obtain rfl|rfl|⟨h2,h5,h0⟩|rfl:=hdc
   ·have e:v=false:=by rw[hVw];simp
    repeat' first|simp (disch:=omega) only[go_sem,seval,-List.reduceReplicate,ek,dE,dh,cP,fH,gx,hdv,ag,bw]|(with_reducible first|apply aa|intro)|(refine fh ?_;simp only[go_sem,seval,-List.reduceReplicate,ek,dE,dh,cP,fH,gx,hdv])|exact ah|(try rw[ae]);omega
    ·exact hks _
    refine co (n:=2) [6] (ax [0,1,2,5,3,4] (.one 6 .done)) ?_
    repeat' first|simp (disch:=omega) only[go_sem,seval,-List.reduceReplicate,ek,dE,dh,cP,fH,gx,hdv,ag,bw]|(with_reducible first|apply aa|intro)|(refine fh ?_;simp only[go_sem,seval,-List.reduceReplicate,ek,dE,dh,cP,fH,gx,hdv])|exact ah|(try rw[ae]);omega
    ·exact hks _
    ·rw[<-e];exact hend hm
   ·repeat' first|simp (disch:=omega) only[go_sem,seval,-List.reduceReplicate,ek,dE,dh,cP,fH,gx,hdv,ag,bw]|(with_reducible first|apply aa|intro)|(refine fh ?_;simp only[go_sem,seval,-List.reduceReplicate,ek,dE,dh,cP,fH,gx,hdv])|exact ah|(try rw[ae]);omega
    ·exact hks _
    ·rename_i hr;have e:v=aX.getD w.1.toNat false:=by rw[hVw,if_neg (by decide),if_pos rfl,if_pos hr]
     refine co (n:=2) [6] (ax [0,1,2,5,3,4] (.one 6 .done)) ?_
     repeat' first|simp (disch:=omega) only[go_sem,seval,-List.reduceReplicate,ek,dE,dh,cP,fH,gx,hdv,ag,bw]|(with_reducible first|apply aa|intro)|(refine fh ?_;simp only[go_sem,seval,-List.reduceReplicate,ek,dE,dh,cP,fH,gx,hdv])|exact ah|(try rw[ae]);omega
     ·exact hks _
     ·rw[<-e];exact hend hm
    ·rename_i hr;have e:v=jp k V w.1:=by rw[hVw,if_neg (by decide),if_pos rfl,if_neg (by simp[hr])]
     refine c7 (oy k hk aX ins V w.1 ⟨w1,w2⟩ (by rw[ht9];exact hread rfl (by simpa using hr)) m hm) [0,1] (by simp only[go_sem,seval,-List.reduceReplicate]) ?_;rintro r0 H1 ⟨m2,hm2,rfl,rfl⟩;rw[<-e]
     repeat' first|simp (disch:=omega) only[go_sem,seval,-List.reduceReplicate,ek,dE,dh,cP,fH,gx,hdv,ag,bw]|(with_reducible first|apply aa|intro)|(refine fh ?_;simp only[go_sem,seval,-List.reduceReplicate,ek,dE,dh,cP,fH,gx,hdv])|exact ah|(try rw[ae]);omega
     refine co (n:=2) [6] (ax [0,1,2,5,3,4] (.one 6 .done)) ?_
     repeat' first|simp (disch:=omega) only[go_sem,seval,-List.reduceReplicate,ek,dE,dh,cP,fH,gx,hdv,ag,bw]|(with_reducible first|apply aa|intro)|(refine fh ?_;simp only[go_sem,seval,-List.reduceReplicate,ek,dE,dh,cP,fH,gx,hdv])|exact ah|(try rw[ae]);omega
     ·exact hks _
     ·exact hend hm2
   ·have e:v=V (nb w.1 d,w.2):=by rw[hVw,if_neg (by omega),if_neg (by omega),if_pos ⟨h2,h5⟩]
    have hmem:=hnd9 h2 h5;have hiv:=ih _ hmem (hno _ hmem) m hm;rw[<-e] at hiv;obtain h|h|h|h:d=2∨d=3∨d=4∨d=5:=by omega
    all_goals (
     subst h
     repeat' first|simp (disch:=omega) only[go_sem,seval,-List.reduceReplicate,ek,dE,dh,cP,fH,gx,hdv,ag,bw]|(with_reducible first|apply aa|intro)|(refine fh ?_;simp only[go_sem,seval,-List.reduceReplicate,ek,dE,dh,cP,fH,gx,hdv])|exact ah|(try rw[ae]);omega
     ·exact hks _
     refine co (n:=2) [10] (ax [0,1,4,5,7,2,8] (.one 3 (ax [6,9] (.one 10 (.fst 11 .done))))) ?_
     repeat' first|simp (disch:=omega) only[go_sem,seval,-List.reduceReplicate,ek,dE,dh,cP,fH,gx,hdv,ag,bw]|(with_reducible first|apply aa|intro)|(refine az hnb ?_)|(refine fh ?_;simp only[go_sem,seval,-List.reduceReplicate,ek,dE,dh,cP,fH,gx,hdv])|exact ah|(try rw[ae]);omega
     refine c7 hiv [0,1] (by simp only[go_sem,seval,-List.reduceReplicate];rfl) ?_;rintro r0 H1 ⟨m2,hm2,rfl,rfl⟩
     repeat' first|simp (disch:=omega) only[go_sem,seval,-List.reduceReplicate,ek,dE,dh,cP,fH,gx,hdv,ag,bw]|(with_reducible first|apply aa|intro)|(refine fh ?_;simp only[go_sem,seval,-List.reduceReplicate,ek,dE,dh,cP,fH,gx,hdv])|exact ah|(try rw[ae]);omega
     refine co (n:=2) [6] (ax [0,1,2,5,3,4] (.one 6 .done)) ?_
     repeat' first|simp (disch:=omega) only[go_sem,seval,-List.reduceReplicate,ek,dE,dh,cP,fH,gx,hdv,ag,bw]|(with_reducible first|apply aa|intro)|(refine fh ?_;simp only[go_sem,seval,-List.reduceReplicate,ek,dE,dh,cP,fH,gx,hdv])|exact ah|(try rw[ae]);omega
     ·exact hks _
     ·exact hend hm2)
   ·have e:v=ins.getD (w.1/5).toNat false:=by rw[hVw,if_pos rfl]
    repeat' first|simp (disch:=omega) only[go_sem,seval,-List.reduceReplicate,ek,dE,dh,cP,fH,gx,hdv,ag,bw]|(with_reducible first|apply aa|intro)|(refine fh ?_;simp only[go_sem,seval,-List.reduceReplicate,ek,dE,dh,cP,fH,gx,hdv])|exact ah|(try rw[ae]);omega
    ·exact hks _
    have e2:(decide (w.1/5<(ins.length:Int))&&ins.getD (w.1/5).toNat false)=v:=by
     rw[e];by_cases hl:w.1/5<(ins.length:Int)
     ·rw[decide_eq_true hl,rR]
     ·rw[decide_eq_false hl,List.getD_eq_getElem?_getD,List.getElem?_eq_none (by omega)];rfl
    refine co (n:=2) [6] (ax [0,1,2,5,3,4] (.one 6 .done)) ?_
    repeat' first|simp (disch:=omega) only[go_sem,seval,-List.reduceReplicate,ek,dE,dh,cP,fH,gx,hdv,e2,ag,bw]|(with_reducible first|apply aa|intro)|(refine fh ?_;simp only[go_sem,seval,-List.reduceReplicate,ek,dE,dh,cP,fH,gx,hdv,e2])|exact ah|(try rw[ae]);omega
    all_goals first|exact hks _|exact hend hm|skip
def Tryz.gu:Pure prog 80 [] (.agg [cf (List.replicate 25 false)]):=by
 refine bz func80 rfl ntmps80 fun ok=>?_
 simp only[go_sem,seval,-List.reduceReplicate] at ok
 repeat' first|simp (disch:=omega) only[go_sem,seval,-List.reduceReplicate,ag,bw]|(with_reducible first|apply aa|intro)|(refine fh ?_;simp only[go_sem,seval,-List.reduceReplicate])|exact ah|(try rw[ae]);omega
def kT (k:aG) (V:Wr->Bool) (n:Nat):ZB:=(List.range n).map fun(o:Nat)=>ki V ((o:Int)*5+4) (k.pads.getD o (0,false)).1 != (k.pads.getD o (0,false)).2
def Oa (k:aG) (V:Wr->Bool) (n:Nat):kT k V (n+1)=kT k V n ++ [ki V ((n:Int)*5+4) (k.pads.getD n (0,false)).1 != (k.pads.getD n (0,false)).2]:=by
 rw[kT,kO,gw];rfl
def Ip (k:aG) (V:Wr->Bool) (n:Nat):(kT k V n).length=n:=by simp[kT]
def uh (k:aG) (V:Wr->Bool) (n:Nat):ZB:=((List.range n).map fun(t:Nat)=>(k.tiles.getD t ba).gj&&jp k V (t:Int))++List.replicate (25-n) false
def L2 (k:aG) (V:Wr->Bool) (h:n<=25):(uh k V n).length=25:=by simp[uh];omega
def QI (k:aG) (V:Wr->Bool) (h:n<25):(uh k V n).set n ((k.tiles.getD n ba).gj&&jp k V (n:Int))=uh k V (n+1):=by
 unfold uh;rw[List.set_append_right _ _ (by simp),gQ,v7,Nat.sub_self,show 25-n=(25-(n+1))+1 by omega,List.replicate_succ,List.set_cons_zero,kO,gw,fA];rfl
def P3 (k:aG) (V:Wr->Bool):uh k V 25=uJ k V:=by simp[uh,uJ]
set_option maxHeartbeats 2000000 in
def Tryz.lw (k:aG) (hk:k.ok) (hw:Wf k) (aX ins:ZB) (hin:ins.length<=4) (hrl:aX.length=25) (V:Wr->Bool) (hV:vM k aX ins V) :
  Pure prog 81 [pK k,cf aX,cf ins] (.agg [cf (iO k V),cf (uJ k V)]):=by
 have hfr:=gu;have hval:=fun w ho m hm=>s7 k hk aX ins hin hrl V hV w (hw w ho) ho m hm
 have hpl:=hk.2.1.1;have hkl:=hk.1;have hread : ∀ t s:Int,0<=t->t<=24->ji s=true->∀ m,fP V m->aA prog 147 [.ptr 0 0,.d (dI t),.d (dI s)] [eJ k aX ins,.map (iM m)] (kW k aX ins V (ki V t s)):=fun t s t1 t2 hs m hm=>by
  simp only[ji,nM,gO,decide_eq_true_eq] at hs;exact qT k aX ins V t s ⟨t1,t2⟩ hs.symm (fun h15 m hm=>hval (t,s) ⟨⟨t1,t2⟩,hs.resolve_right h15⟩ m hm) m hm
 have htab : ∀ t:Nat,t<25->∀ m,fP V m->aA prog 149 [.ptr 0 0,.d (dI t)] [eJ k aX ins,.map (iM m)] (kW k aX ins V (jp k V t)):=fun t ht m hm=>by
  have hok:=ar.b6.1 (hk.2.2 t (by omega));refine oy k hk aX ins V t (by omega) (fun s hs m hm=>?_) m hm;rw[show(t:Int).toNat=t by omega] at hs;obtain⟨j,hj,rfl⟩:=gm (0:Int) hs;exact hread t _ (by omega) (by omega) (hok.2.2.2.1 j hj) m hm
 rw[show iO k V=kT k V 3 by unfold iO kT;rw[hpl],<-P3];refine l9 rfl 1000 func81 rfl rfl ntmps81 (by simp) fun ok=>?_
 simp only[go_sem,seval,-List.reduceReplicate] at ok
 repeat' first|simp (disch:=omega) only[go_sem,seval,-List.reduceReplicate,ag,bw]|(with_reducible first|apply aa|intro)|(refine me hfr ?_)|(refine fh ?_;simp only[go_sem,seval,-List.reduceReplicate])|exact ah|(try rw[ae]);omega
 refine cD (σ:=Nat×Wm) (fun s=>[(0,.d (pK k)),(6,.ptr 0 0),(7,.ptr 2 0),(8,.ptr 4 0),(23,.d (jV k.pads)),(24,.d (dI k.pads.length)),(25,.d (dI s.1))])
  (fun s=>[.box [.d .nil,.d .nil],.map (iM s.2),eJ k aX ins,.row 0 1 true ((List.replicate 25 false).map D.bool),.box [.sl 5 s.1 1 0 s.1,.sl 3 0 1 0 25],.row s.1 1 true ((kT k V s.1).map D.bool)]) (fun s=>s.1<=3/\fP V s.2) (fun s=>3-s.1) [(4,0,1,true)] [] 1000 1000 ?_ ?_
 ·simp only[go_sem,seval,-List.reduceReplicate];exact⟨(0,[]),⟨by simp only;omega,fun w b e=>by cases e⟩,rfl,rfl,rfl,rfl,rfl⟩
 ·rintro⟨o,m⟩ ⟨ho,hm⟩;simp only at ho hm;by_cases hlt:o<3
  ·have hpt:=hk.2.1.2 o (by omega);have gy : ∀ z,(k.pads.map fun x=>dQ x).getD o z=dQ (k.pads.getD o (0,false)):=fun z=>bw (by omega)
   have hsc:=Oa k V o;have hol:=Ip k V o;have hpd:=lm (o:Int) (by omega);have hrd:=hread ((o:Int)*5+4) (k.pads.getD o (0,false)).1 (by omega) (by omega) hpt m hm;generalize ki V ((o:Int)*5+4) (k.pads.getD o (0,false)).1=b at *
   generalize kT k V o=q at *
   generalize k.pads.getD o (0,false)=p at *
   obtain⟨p1,p2⟩:=p
   repeat' first|simp (disch:=omega) only[go_sem,seval,-List.reduceReplicate,gy,ag,bw]|(with_reducible first|apply aa|intro)|(refine fh ?_;simp only[go_sem,seval,-List.reduceReplicate,gy])|exact ah|(try rw[ae]);omega
   refine co (n:=0) [7,12,14] (ax [0,2,3,5,8,6] (.three 1 (.two 4 (.two 7 (.one 9 (.fst 10 (.one 11 (.one 12 (.fst 13 (.one 14 .done)))))) 9 (.one 7 (.fst 10 (.one 11 (.one 12 (.fst 13 (.one 14 .done))))))) 9 (.one 4 (.one 7 (.fst 10 (.one 11 (.one 12 (.fst 13 (.one 14 .done)))))))) 4 (.three 1 (.two 7 (.one 9 (.fst 10 (.one 11 (.one 12 (.fst 13 (.one 14 .done)))))) 9 (.one 7 (.fst 10 (.one 11 (.one 12 (.fst 13 (.one 14 .done))))))) 7 (.two 1 (.one 9 (.fst 10 (.one 11 (.one 12 (.fst 13 (.one 14 .done)))))) 9 (.fst 10 (.two 1 (.one 11 (.one 12 (.fst 13 (.one 14 .done)))) 11 (.one 1 (.one 12 (.fst 13 (.one 14 .done))))))) 9 (.two 1 (.one 7 (.fst 10 (.one 11 (.one 12 (.fst 13 (.one 14 .done)))))) 7 (.fst 10 (.two 1 (.one 11 (.one 12 (.fst 13 (.one 14 .done)))) 11 (.one 1 (.one 12 (.fst 13 (.one 14 .done)))))))) 9 (.two 1 (.one 4 (.one 7 (.fst 10 (.one 11 (.one 12 (.fst 13 (.one 14 .done))))))) 4 (.two 1 (.one 7 (.fst 10 (.one 11 (.one 12 (.fst 13 (.one 14 .done)))))) 7 (.fst 10 (.two 1 (.one 11 (.one 12 (.fst 13 (.one 14 .done)))) 11 (.one 1 (.one 12 (.fst 13 (.one 14 .done)))))))))) ?_
   repeat' first|simp (disch:=omega) only[go_sem,seval,-List.reduceReplicate,gy,ag,bw]|(with_reducible first|apply aa|intro)|(refine az hpd ?_)|(refine fh ?_;simp only[go_sem,seval,-List.reduceReplicate,gy])|exact ah|(try rw[ae]);omega
   all_goals (
    refine c7 hrd [2,1] (by simp only[go_sem,seval,-List.reduceReplicate]) ?_;rintro r0 H1 ⟨m2,hm2,rfl,rfl⟩
    repeat' first|simp (disch:=omega) only[go_sem,seval,-List.reduceReplicate,gy,ag,bw]|(with_reducible first|apply aa|intro)|(refine fh ?_;simp only[go_sem,seval,-List.reduceReplicate,gy])|exact ah|(try rw[ae]);omega
    refine⟨(o+1,m2),⟨by simp only;omega,hm2⟩,by simp only;omega,rfl,rfl,rfl,rfl,?_⟩;rw[hsc];cases b <;> cases p2 <;> rfl)
  ·obtain rfl:o=3:=by omega
   repeat' first|simp (disch:=omega) only[go_sem,seval,-List.reduceReplicate,ag,bw]|(with_reducible first|apply aa|intro)|(refine fh ?_;simp only[go_sem,seval,-List.reduceReplicate])|exact ah|(try rw[ae]);omega
   refine cD (σ:=Nat×Wm) (fun s=>[(0,.d (pK k)),(6,.ptr 0 0),(7,.ptr 2 0),(8,.ptr 4 0),(48,.d (dm k.tiles)),(49,.d (dI k.tiles.length)),(50,.d (dI s.1))])
    (fun s=>[.box [.d .nil,.d .nil],.map (iM s.2),eJ k aX ins,.row 0 1 true ((uh k V s.1).map D.bool),.box [.sl 5 3 1 0 3,.sl 3 0 1 0 25],.row 3 1 true ((kT k V 3).map D.bool)]) (fun s=>s.1<=25/\fP V s.2) (fun s=>25-s.1) [] [] 1000 1000 ?_ ?_
   ·simp only[go_sem,seval,-List.reduceReplicate];exact⟨(0,m),⟨by simp only;omega,hm⟩,rfl,rfl,rfl⟩
   ·rintro⟨t,m2⟩ ⟨ht,hm2⟩;simp only at ht hm2;by_cases hlt2:t<25
    ·have gx : ∀ z,(k.tiles.map fun x=>fO x).getD t z=fO (k.tiles.getD t ba):=fun z=>cE (by omega)
     have hsc:=QI k V hlt2;have hol:=L2 k V ht;have hrd:=htab t hlt2 m2 hm2;generalize uh k V t=q at *
     generalize k.tiles.getD t ba=x at *
     obtain⟨x1,x2,x3,x4⟩:=x;simp only at hsc;cases x3 with
     | false=>
      repeat' first|simp (disch:=omega) only[go_sem,seval,-List.reduceReplicate,gx,ag,bw]|(with_reducible first|apply aa|intro)|(refine fh ?_;simp only[go_sem,seval,-List.reduceReplicate,gx])|exact ah|(try rw[ae]);omega
      refine co (n:=0) [15,18] (ax [0,1,3,4,5,6,8,7,9,10,11,12,13,14] (.two 2 (.one 15 (ax [16,17] (.one 18 .done))) 15 (.fst 16 (.one 2 (.fst 17 (.one 18 .done)))))) ?_
      repeat' first|simp (disch:=omega) only[go_sem,seval,-List.reduceReplicate,gx,ag,bw]|(with_reducible first|apply aa|intro)|(refine fh ?_;simp only[go_sem,seval,-List.reduceReplicate,gx])|exact ah|(try rw[ae]);omega
      all_goals (
       refine⟨(t+1,m2),⟨by simp only;omega,hm2⟩,by simp only;omega,rfl,rfl,?_⟩;rw[<-hsc];rfl)
     | true=>
      repeat' first|simp (disch:=omega) only[go_sem,seval,-List.reduceReplicate,gx,ag,bw]|(with_reducible first|apply aa|intro)|(refine fh ?_;simp only[go_sem,seval,-List.reduceReplicate,gx])|exact ah|(try rw[ae]);omega
      refine co (n:=0) [15,18] (ax [0,1,3,4,5,6,8,7,9,10,11,12,13,14] (.two 2 (.one 15 (ax [16,17] (.one 18 .done))) 15 (.fst 16 (.one 2 (.fst 17 (.one 18 .done)))))) ?_
      repeat' first|simp (disch:=omega) only[go_sem,seval,-List.reduceReplicate,gx,ag,bw]|(with_reducible first|apply aa|intro)|(refine fh ?_;simp only[go_sem,seval,-List.reduceReplicate,gx])|exact ah|(try rw[ae]);omega
      all_goals (
       refine c7 hrd [2,1] (by simp only[go_sem,seval,-List.reduceReplicate]) ?_;rintro r0 H1 ⟨m3,hm3,rfl,rfl⟩
       repeat' first|simp (disch:=omega) only[go_sem,seval,-List.reduceReplicate,gx,ag,bw]|(with_reducible first|apply aa|intro)|(refine fh ?_;simp only[go_sem,seval,-List.reduceReplicate,gx])|exact ah|(try rw[ae]);omega
       refine⟨(t+1,m3),⟨by simp only;omega,hm3⟩,by simp only;omega,rfl,rfl,?_⟩;rw[<-hsc];rfl)
    ·obtain rfl:t=25:=by omega
     repeat' first|simp (disch:=omega) only[go_sem,seval,-List.reduceReplicate,ag,bw]|(with_reducible first|apply aa|intro)|(refine fh ?_;simp only[go_sem,seval,-List.reduceReplicate])|exact ah|(try rw[ae]);omega
     ·exact(Ip k V 3).symm
     ·exact(L2 k V (by omega)).symm

def PE (k:aG) (V:Wr->Bool):(uJ k V).length=25:=by simp[uJ]
def OP (k:aG) (V:Nat->Wr->Bool) : ∀ i,(oD k V i).length=25
 | 0=>by simp[oD]
 | i+1=>by rw[oD,PE]
def pj (k:aG) (V:Nat->Wr->Bool) (n:Nat):List ZB:=(List.range n).map fun i=>iO k (V i)
def Sj (k:aG) (V:Nat->Wr->Bool) (n:Nat):pj k V (n+1)=pj k V n ++ [iO k (V n)]:=by rw[pj,kO,gw];rfl
def EK (k:aG) (V:Nat->Wr->Bool) (n:Nat):(pj k V n).length=n:=by simp[pj]
def Tryz.lA (k:aG) (hk:k.ok) (hw:Wf k) (rows:List ZB) (hr:rows.length<=40) (hin : ∀ r∈rows,r.length<=4) (V:Nat->Wr->Bool) (hV : ∀ i,i<rows.length->vM k (oD k V i) (rows.getD i []) (V i)) :
  aA prog 19 [.d (dK k),.d (eZ rows)] [] (fun r H'=>r=.d (eZ (pj k V rows.length))/\H'=[]):=by
 have hfr:=gu;have hca:=jo k;rw[decide_eq_true ⟨hk,hw⟩] at hca;refine xx rfl 1000 func19 rfl rfl ntmps19 (by simp) ?_
 repeat' first|simp (disch:=omega) only[go_sem,seval,-List.reduceReplicate,bT]|(with_reducible first|apply aa|intro)|(refine az hca ?_)|(try rw[ae]);omega
 refine cQ (σ:=Nat) (fun i=>[(0,.d (dK k)),(1,.d (eZ rows)),(2,.ptr 0 0),(4,.d .nil),(20,.d (eZ rows)),(21,.d (dI rows.length)),(22,.d (dI i))])
  (fun i=>[.box [.d (dm k.tiles),.d (jV k.pads)]]) (fun i=>i<=rows.length) (fun i=>rows.length-i) [] 1000 1000 ?_ ?_ ?_
 ·simp only[go_sem,seval,-List.reduceReplicate]
 ·simp only[go_sem,seval,-List.reduceReplicate];first|exact⟨0,by omega,rfl⟩|exact⟨0,by omega,rfl,rfl⟩|exact⟨0,by omega,rfl,rfl,rfl⟩
 ·intro i hi;by_cases hlt:i<rows.length
  ·have hi4:=hin _ (aO hlt:rows.getD i []∈rows);generalize hx9:rows.getD i []=x at *
   repeat' first|simp (disch:=omega) only[go_sem,seval,-List.reduceReplicate,hx9,bT]|(with_reducible first|apply aa|intro)|(try rw[ae]);omega
   all_goals first|exact⟨i+1,by omega,by omega,rfl⟩|exact⟨i+1,by omega,by omega,rfl,rfl⟩
  ·obtain rfl:i=rows.length:=by omega
   repeat' first|simp (disch:=omega) only[go_sem,seval,-List.reduceReplicate,bT]|(with_reducible first|apply aa|intro)|(refine az hfr ?_)|(try rw[ae]);omega
   refine cQ (σ:=Nat) (fun i=>[(0,.d (dK k)),(2,.ptr 0 0),(7,.ptr 1 0),(8,.sl 2 i 1 0 i),(31,.d (eZ rows)),(32,.d (dI rows.length)),(33,.d (dI i))])
    (fun i=>[.box [.d (dm k.tiles),.d (jV k.pads)],.box [.d (cf (oD k V i))],.row i 1 false ((pj k V i).map fun x=>cf x)]) (fun i=>i<=rows.length) (fun i=>rows.length-i) [(8,1,false)] 1000 1000 ?_ ?_ ?_
   ·simp only[go_sem,seval,-List.reduceReplicate]
   ·simp only[go_sem,seval,-List.reduceReplicate];exact⟨0,by omega,⟨rfl,rfl⟩,rfl,rfl,rfl⟩
   ·intro i hi;by_cases hlt2:i<rows.length
    ·have hi4:=hin _ (aO hlt2:rows.getD i []∈rows);have hst:=lw k hk hw (oD k V i) (rows.getD i []) hi4 (OP k V i) (V i) (hV i hlt2);have hro:=Sj k V i;have hrl:=EK k V i;have hrg:oD k V (i+1)=uJ k (V i):=rfl;generalize hx9:rows.getD i []=x at *
     generalize oD k V i=r at *
     repeat' first|simp (disch:=omega) only[go_sem,seval,-List.reduceReplicate,hx9,bT]|(with_reducible first|apply aa|intro)|(refine az hst ?_)|(try rw[ae]);omega
     exact⟨i+1,by omega,by omega,rfl,by rw[hrg],rfl,hro.symm⟩
    ·obtain rfl:i=rows.length:=by omega
     repeat' first|simp (disch:=omega) only[go_sem,seval,-List.reduceReplicate,bT]|(with_reducible first|apply aa|intro)|(try rw[ae]);omega
     refine fI (r0:=.d (eZ (pj k V rows.length))) (H1:=[]) ?_ ⟨rfl,rfl⟩;simp only[go_sem,seval,-List.reduceReplicate];exact ag (by rw[EK];omega)

def Tryz.jl (k:aG) (hk:k.ok) (hw:Wf k) (rows:List ZB) (hr:rows.length<=40) (hin : ∀ r∈rows,r.length<=4) (V:Nat->Wr->Bool) (hV : ∀ i,i<rows.length->vM k (oD k V i) (rows.getD i []) (V i)) :
  aA prog 34 [.d (lk (dV k)),.d (eZ rows)] [] (fun r H'=>r=.d (eZ (pj k V rows.length))/\H'=[]):=by
 have hrun:=lA k hk hw rows hr hin V hV;have hd:=kp k hk;generalize pj k V rows.length=ro at *
 generalize dV k=l at *
 refine xx rfl 1000 func34 rfl rfl ntmps34 (by simp) ?_;simp only[go_sem,seval]
 repeat' first|simp (disch:=omega) only[];try simp only[go_sem,seval]|(with_reducible first|apply aa|intro)|(refine kN hd ?_;simp only[go_sem,seval])|(try rw[ae]);omega
 refine c7 hrun [] (by simp only[go_sem,seval]) ?_;rintro r0 H1 ⟨rfl,rfl⟩;simp only[go_sem,seval];refine fI (r0:=.d (eZ ro)) (H1:=[]) ?_ ⟨rfl,rfl⟩;simp only[go_sem,seval]

def Cb {a b c:Int}:([D.int .i64 a,D.int .i64 b,D.int .i64 c]:ZD).getD n (D.int .i64 0)=D.int .i64 (([a,b,c]:ZA).getD n 0):=by
 match n with
 | 0|1|2|_+3=>rfl
def Hf (n:Int) (k:aG):Prop:=k.tiles.length<=25/\k.pads.length=3/\(∀ t∈k.tiles,t.select.length=3/\t.drive.length<=8)/\(n=0->fV k.tiles)
def Hf.of {n:Int}{T:List ar}{P:List (Int×Bool)}(h1:fV T) (h2:P.length=3):Hf n ⟨T,P⟩:=
 ⟨by have:=h1.1;simp only;omega,h2,fun t ht=>by have:=h1.2 t ht;exact⟨this.1,by have:=this.2;omega⟩,fun _=>h1⟩

def Tryz.o5 {A:R}(hb:Bytes b) {n:Int}(hp:0<=p/\p<=100000000) (hn:0<=n/\n<=1000) (hk : ∀ (c:ac) (q:Int),(p<=q/\q<=p+200)->(c.next.length<=40/\c.gates.length<=40/\c.outs.length<=40/\-1<=c.inputs/\c.inputs<=5)->K (.d (dC c)) (A::rd b q::T)) :
  aA prog 66 [.ptr 1 0,.d (dI n)] (A::rd b p::T) K:=by
 refine c7 (lK b p n hb hp hn) [1] (by simp only[go_sem,seval]) ?_;rintro r0 H1 ⟨c,q,hq,hl,rfl,rfl⟩;have:=hk c q hq hl;simp only[go_sem,seval];simpa using this
def Tryz.pz (hb:Bytes b) {n:Int}(hp:0<=p/\p<=100000000) (hn:n<=1000) (hk : ∀ l:ZB,l.length=n.toNat->K (.d (cf l)) (rd b (p+(n.toNat:Int))::T)) :
  aA prog 159 [.ptr 0 0,.d (dI n)] (rd b p::T) K:=by
 refine c7 (nP b p n hb hp hn) [0] (by simp only[go_sem,seval]) ?_;rintro r0 H1 ⟨l,hl,rfl,rfl⟩;have:=hk l hl;simp only[go_sem,seval];simpa using this
def Tryz.nS (b:ZA) (p n:Int) (hb:Bytes b) (hp:0<=p/\p<=10000000) (hn : -1<=n/\n<=8) :
  aA prog 94 [.ptr 0 0,.d (dI n)] [rd b p] (fun r H'=>∃ (l:List ZB) (q:Int),(p<=q/\q<=p+100)/\(l.length<=11/\∀ x∈l,x.length=n.toNat)/\r=.sl 1 l.length 1 0 l.length/\H'=[rd b q,.row l.length 1 false (l.map fun x=>cf x)]):=by
 refine i9 rfl 1000 func94 rfl rfl ntmps94 (by simp) ?_;simp only[go_sem,seval];refine cB hb (by omega) fun x1 hx1=>?_
 simp only[go_sem,seval];refine pA (σ:=List ZB×Int×Int) (fun s=>[(0,.ptr 0 0),(1,.d (dI n)),(5,.sl 1 s.1.length 1 0 s.1.length),(6,.d (dI s.2.1))]) (fun s=>[rd b s.2.2,.row s.1.length 1 false (s.1.map fun x=>cf x)])
  (fun s=>0<=s.2.1/\s.1.length+s.2.1<=11/\(p+1<=s.2.2/\s.2.2<=p+1+8*s.1.length)/\∀ x∈s.1,x.length=n.toNat) (fun s=>s.2.1.toNat) [] 1000 1000 ?_ ?_ ?_
 ·simp only[go_sem,seval]
 ·simp only[go_sem,seval];exact⟨([],x1,p+1),by simp;omega,by simp⟩
 ·rintro⟨l,k,q⟩ ⟨hk,hl,hq,hx⟩;simp only at hk hl hq hx;simp only[go_sem,seval];refine⟨fun h1=>?_,fun h1=>?_⟩
  ·refine pz hb (by omega) (by omega) fun y hy=>?_
   repeat' first|simp (disch:=omega) only[go_sem,seval]|(with_reducible first|apply aa|intro)|(try rw[ae]);omega
   refine⟨(l ++ [y],k-1,q+n.toNat),⟨by simp only;omega,by simp;omega,by simp;omega,?_⟩,by simp only;omega,by simp,rfl,by simp,rfl⟩;intro x hxx;rcases List.mem_append.1 hxx with h2|h2
   ·exact hx x h2
   ·rw[List.mem_singleton.1 h2];exact hy
  ·exact n5 ⟨l,q,by omega,⟨by omega,hx⟩,rfl,rfl⟩
def Tryz.pO (code:ZA):dX prog 32 [lk code] (fun x=>∃ (c:ac) (l:List ZB),x=.tup [dC c,eZ l]/\l.length<=11/\∀ r∈l,r.length=c.inputs.toNat):=by
 refine QN (E:=env 0) tok rfl 1000 func32 rfl rfl ntmps32 (by simp) fun ok=>?_
 simp only[go_sem,seval] at ok⊢;have hb:=re ok.2 2000;refine CR (o7 code) [] (by simp only[go_sem,seval]) ?_;simp only[go_sem,seval];refine o5 (p:=0) (n:=0) hb (by omega) (by omega) fun c q hq hc=>?_
 repeat' first|simp (disch:=omega) only[go_sem,seval]|(with_reducible first|apply aa|intro)|(try rw[ae]);omega
 refine co (n:=0) [4,5] (ax [1,2,3] (.two 0 (.one 4 (.one 5 (.fst 6 .done))) 4 (.one 0 (.one 5 (.fst 6 .done))))) ?_
 repeat' first|simp (disch:=omega) only[go_sem,seval]|(with_reducible first|apply aa|intro)|(try rw[ae]);omega
 all_goals (
  refine c7 (nS _ q c.inputs hb (by omega) (by omega)) [1] (by simp only[go_sem,seval]) ?_;rintro r0 H1 ⟨l,q2,hq2,hl,rfl,rfl⟩
  repeat' first|simp (disch:=omega) only[go_sem,seval]|(with_reducible first|apply aa|intro)|(try rw[ae]);omega
  exact⟨_,of_eq_true sY,c,l,rfl,hl⟩)

def jf (c:ac) (rows:List ZB) (n:Nat):List ZB:=(List.range n).map fun i=>dN (nj c rows i) c.outs
def P6 (c:ac) (rows:List ZB) (n:Nat):jf c rows (n+1)=jf c rows n ++ [dN (nj c rows n) c.outs]:=by rw[jf,kO,gw];rfl
def DG (c:ac) (rows:List ZB) (n:Nat):(jf c rows n).length=n:=by simp[jf]
def Ob (c:ac) (rows:List ZB) (h:i<n):(jf c rows n).getD i []=dN (nj c rows i) c.outs:=by simp[jf,List.getD,h]
def o9 (j:Nat) (c:ac) (rows:List ZB):Nat->I
 | 0=>.sl j 0 1 0 c.next.length
 | i+1=>.d (cf (kF c rows (i+1)))
def Tryz.mV (c:ac) (rows:List ZB) (h:GC c rows) :
  aA prog 18 [.d (dC c),.d (eZ rows)] [] (fun r H'=>r=.d (eZ (jf c rows rows.length))/\H'=[]):=by
 refine xx rfl 1000 func18 rfl rfl ntmps18 (by simp) ?_;simp only[go_sem,seval,-List.reduceReplicate];have hln:=h.1.ln;have hst : ∀ i,(kF c rows i).length=c.next.length:=fun i=>by cases i <;> simp[kF,dN]
 repeat' first|simp (disch:=first|assumption|omega|simp;try omega) only[go_sem,seval,-List.reduceReplicate,bT,ag]|(with_reducible first|apply aa|intro)|(refine az (pq c rows) ?_)|(try rw[ae]);omega
 all_goals first
  | (exfalso;contradiction)
  | skip
 refine cQ (σ:=Nat) (fun i=>[(0,.d (dC c)),(1,.d (eZ rows)),(2,.ptr 0 0),(4,.d .nil),(5,o9 1 c rows i),(6,.sl 2 i 1 0 i),(17,.d (eZ rows)),(18,.d (dI rows.length)),(19,.d (dI i))])
  (fun i=>[.box [.d (dI c.inputs),.d (aj c.next),.d (aY c.gates),.d (aj c.outs)],.row 0 1 true ((List.replicate c.next.length false).map D.bool),.row i 1 false ((jf c rows i).map fun x=>cf x)]) (fun i=>i<=rows.length) (fun i=>rows.length-i) [(6,1,false)] 1000 1000 ?_ ?_ ?_
 ·simp only[go_sem,seval,-List.reduceReplicate]
 ·simp only[go_sem,seval,-List.reduceReplicate];refine⟨0,by omega,?_⟩;simp only[o9];simp only[go_sem,seval,-List.reduceReplicate];simp[jf]
 ·intro i hi;by_cases hlt:i<rows.length
  ·have hrow:=h.2.2 _ (aO (z:=[]) hlt);have hsp:=x9 c _ _ h.1 (hst i) hrow;have hpush:=P6 c rows i;have hso:=DG c rows i;have hr40:=h.2.1;have hsn:kF c rows (i+1)=dN (values c (kF c rows i) (rows.getD i [])) c.next:=rfl;have hso2:nj c rows i=values c (kF c rows i) (rows.getD i []):=rfl;rw[hso2] at hpush;rcases i with _|i
   ·simp only[o9];simp only[kF] at hsp hpush hsn
    repeat' first|simp (disch:=first|assumption|omega|simp;try omega) only[go_sem,seval,-List.reduceReplicate,bT,ag]|(with_reducible first|apply aa|intro)|(refine az hsp ?_)|(try rw[ae]);omega
    refine⟨1,by omega,by omega,?_⟩;simp only[o9];simp only[go_sem,seval,-List.reduceReplicate];exact⟨rfl,hpush.symm⟩
   ·simp only[o9]
    repeat' first|simp (disch:=first|assumption|omega|simp;try omega) only[go_sem,seval,-List.reduceReplicate,bT,ag]|(with_reducible first|apply aa|intro)|(refine az hsp ?_)|(try rw[ae]);omega
    refine⟨i+2,by omega,by omega,?_⟩;simp only[o9];simp only[go_sem,seval,-List.reduceReplicate];exact⟨rfl,hpush.symm⟩
  ·obtain rfl:i=rows.length:=by omega
   repeat' first|simp (disch:=first|assumption|omega|simp;try omega) only[go_sem,seval,-List.reduceReplicate,bT,ag]|(with_reducible first|apply aa|intro)|(try rw[ae]);omega
   refine fI (r0:=.d (eZ (jf c rows rows.length))) (H1:=[]) ?_ ⟨rfl,rfl⟩;simp only[go_sem,seval,-List.reduceReplicate];exact ag (by rw[DG];omega)

def pF (l:ZB):ZB:=l++List.replicate (3-l.length) false
def RA {c:ac}{list:List (Int×Int)}(h:jC c list=some k) {rows:List ZB}(hr : ∀ r∈rows,(r.length:Int)=c.inputs) :
  (c.Valid/\k.ok/\Wf k)/\∃ V:Nat->Wr->Bool,(∀ i,i<rows.length->vM k (oD k V i) (rows.getD i []) (V i))/\∀ i,iO k (V i)=pF (dN (nj c rows i) c.outs):=by
 obtain⟨hv,-,rs,R,-,rfl⟩:=LB h;refine⟨⟨hv,R.ok,R.wf⟩,ry c rs rows,fun i hi=>R.run hr hi,fun i=>?_⟩;rw[R.sU,pF,z0]
def Qj (k:aG) (V:Nat->Wr->Bool) (h:i<n):(pj k V n).getD i []=iO k (V i):=by simp[pj,List.getD,h]
def Tryz.sc (l:ZB) (hl:l.length<=3):Pure prog 22 [cf l] (cf (pF l)):=by
 refine bz func22 rfl ntmps22 fun ok=>?_
 simp only[go_sem,seval,-List.reduceReplicate] at ok;simp only[go_sem,seval,-List.reduceReplicate]
 repeat' first|simp (disch:=omega) only[bT];try simp only[go_sem,seval,-List.reduceReplicate]|(with_reducible first|apply aa|intro)|(try rw[ae]);omega
 have e:(3-(l.length:Int)).toNat=3-l.length:=by omega
 rw[e];rfl
end Go.Proofs
