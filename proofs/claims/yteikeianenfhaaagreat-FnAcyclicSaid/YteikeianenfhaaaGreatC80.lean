/- Contracts: configurations that are drawn. Conditions: none; lemmas. -/
import Derived.Test.YteikeianenfhaaaGreatC79
import Derived.Test.YteikeianenfhaaaGreatC60
set_option maxRecDepth 20000
set_option linter.unusedVariables false
set_option linter.unusedSimpArgs false
set_option maxHeartbeats 2000000
namespace Go.Proofs
set_option linter.defProp false
open Go Go.VL Tryz
variable {T:List Tcfg}{i:Nat}{t:Tcfg}{l b:List Int}{a n q1 j qe p q:Int}{T0 P0:List D}{Tl:List R}
def qoh {c:Circ}{k:Kcfg}(h:qg8 c=some k):Tsz k.tiles/\k.pads.length=3:=by
 unfold qg8 at h;split at h
 ·rename_i hc;obtain⟨rs,h1,rfl⟩:=Option.map_eq_some_iff.1 h;have hcl:=qbA hc;have hp:=qgu (c:=c) (cells:=qaf c) (by omega);obtain⟨hr1,hr2⟩:=qlB hc hp h1;exact⟨qiQ (qdN Tsz.empty (qhw hc) hp _ (yad _)) hr1 _,padsT_len⟩
 ·cases h
def qg9 (hT:Tsz T) (hi:i<25) (ht:T.getD i tc0=t) (hl:l.length=3) :
  ∃ T',Tsz T'/\putC 4 (T.map fun x=>dTc x) i 1 (D.lst 1 (l.map (D.int .i64)))=T'.map fun x=>dTc x:=by
 have h2:=hT.get hi;rw[ht] at h2;refine⟨T.set i ⟨t.table,l,t.reg,t.drive⟩,hT.set ⟨hl,h2.2⟩,qeF (by decide) (z:=tc0) (by rw[hT.1];exact hi) ?_⟩;rw[ht];rfl
def qfc (hT:Tsz T) (hi:i<25) (ht:T.getD i tc0=t) (hl:l.length=8) :
  ∃ T',Tsz T'/\putC 4 (T.map fun x=>dTc x) i 3 (D.lst 1 (l.map (D.int .i64)))=T'.map fun x=>dTc x:=by
 have h2:=hT.get hi;rw[ht] at h2;refine⟨T.set i ⟨t.table,t.select,t.reg,l⟩,hT.set ⟨h2.1,hl⟩,qeF (by decide) (z:=tc0) (by rw[hT.1];exact hi) ?_⟩;rw[ht];rfl
def qfd (hT:Tsz T) {d:List Int}{c:Bool}(hb:b.length=3) (hd:d.length=8) :
  ∃ T',Tsz T'/\(T.map fun x=>dTc x).set i (D.agg [dI a,dIs b,dB c,dIs d])=T'.map fun x=>dTc x:=
 ⟨T.set i ⟨a,b,c,d⟩,hT.set ⟨hb,hd⟩,by rw[qg7]⟩
def qmD (hT:T.length=25) (hi:i<25) (ht:T.getD i tc0=t) (l:List Int):putC 4 (T.map fun x=>dTc x) i 3 (D.lst 1 (l.map (D.int .i64)))=(T.set i ⟨t.table,t.select,t.reg,l⟩).map fun x=>dTc x:=
 qeF (f:=fun x=>dTc x) (by decide) (z:=tc0) (by rw[hT];exact hi) (by rw[ht];rfl)
def qhP (hT:T.length=25) (hi:i<25) (u:Tcfg):(T.set i u).getD i tc0=u:=by
 simp[List.getD,hT,hi]
def qnu (hT:T.length=25) (hi:i<25) (u:Tcfg) (l:List Int):putC 4 ((T.set i u).map fun x=>dTc x) i 3 (D.lst 1 (l.map (D.int .i64)))=(T.set i ⟨u.table,u.select,u.reg,l⟩).map fun x=>dTc x:=by
 rw[qmD (by rw[yae];exact hT) hi (qhP hT hi u),List.set_set]
def qnv (hT:T.length=25) (hi:i<25) (u:Tcfg) (l:List Int):putC 4 ((T.set i u).map fun x=>dTc x) i 1 (D.lst 1 (l.map (D.int .i64)))=(T.set i ⟨u.table,l,u.reg,u.drive⟩).map fun x=>dTc x:=by
 rw[qeF (f:=fun x=>dTc x) (y:=⟨u.table,l,u.reg,u.drive⟩) (by decide) (z:=tc0) (by rw[yae,hT];exact hi) (by rw[qhP hT hi];rfl),List.set_set]
def qaw {b c:Int}{n:Nat}:([D.int .i64 a,D.int .i64 b,D.int .i64 c]:List D).getD n (D.int .i64 0)=D.int .i64 (([a,b,c]:List Int).getD n 0):=by
 match n with
 | 0|1|2|_+3=>rfl
def qiR (h : ∃ T',Tsz T'/\T0=T'.map fun x=>dTc x) (hb:0<j/\j<=12/\q1<=qe/\qe<=q1+100-6*(j-1)) :
  ∃ s':List Tcfg×Int×Int,(Tsz s'.1/\0<=s'.2.1/\s'.2.1<=12/\q1<=s'.2.2/\s'.2.2<=q1+100-6*s'.2.1)/\s'.2.1.toNat<j.toNat/\j-1=s'.2.1/\qe=s'.2.2/\T0=s'.1.map fun x=>dTc x:=by
 obtain⟨T',h1,h2⟩:=h;exact⟨(T',j-1,qe),⟨h1,by simp only;omega,by simp only;omega,by simp only;omega,by simp only;omega⟩,by simp only;omega,rfl,rfl,h2⟩
def qpQ {u:Tcfg}(hT:Tsz T) (hb:0<j/\j<=12/\q1<=qe/\qe<=q1+100-6*(j-1)) (hu:tsz u) :
  ∃ s':List Tcfg×Int×Int,(Tsz s'.1/\0<=s'.2.1/\s'.2.1<=12/\q1<=s'.2.2/\s'.2.2<=q1+100-6*s'.2.1)/\s'.2.1.toNat<j.toNat/\j-1=s'.2.1/\qe=s'.2.2/\((T.set i u).map fun x=>dTc x)=s'.1.map fun x=>dTc x:=
 qiR ⟨_,hT.set hu,rfl⟩ hb
def Ksh (n:Int) (k:Kcfg):Prop:=k.tiles.length<=25/\k.pads.length=3/\(∀ t∈k.tiles,t.select.length=3/\t.drive.length<=8)/\(n=0->Tsz k.tiles)
def Ksh.of {P:List (Int×Bool)}(h1:Tsz T) (h2:P.length=3):Ksh n ⟨T,P⟩:=
 ⟨by have:=h1.1;simp only;omega,h2,fun t ht=>by have:=h1.2 t ht;exact⟨this.1,by have:=this.2;omega⟩,fun _=>h1⟩
def Tryz.endC2 (b:List Int) (hT : ∃ T',Tsz T'/\T0=T'.map fun x=>dTc x) (hP : ∃ P':List (Int×Bool),P'.length=3/\P0=P'.map fun x=>dQ x) (hq:p<=q/\q<=p+400) :
  endI 1 (fun r H'=>∃ (k:Kcfg) (q:Int),(p<=q/\q<=p+400)/\Ksh n k/\r=.d (dK k)/\H'=[rd b q]) (.agg [.sl 2 0 4 0 25,.sl 3 0 2 0 3]) (rd b q::.box [.sl 2 0 4 0 25,.sl 3 0 2 0 3]::.row 0 4 true T0::.row 0 2 true P0::.box [.sl 2 0 4 0 25,.sl 3 0 2 0 3]::Tl):=by
 obtain⟨T',h1,rfl⟩:=hT;obtain⟨P',h2,rfl⟩:=hP;refine qaP (r0:=.d (dK ⟨T',P'⟩)) (H1:=[rd b q]) ?_ ⟨⟨T',P'⟩,_,hq,Ksh.of h1 h2,rfl,rfl⟩;have e1:=h1.1;simp only[go_sem,seval,-List.reduceReplicate];rw[yaa (by simp[e1]),yaa (by simp[h2])];exact⟨rfl,rfl⟩
def Tryz.endC5 (b:List Int) (hT : ∃ T',Tsz T'/\T0=T'.map fun x=>dTc x) (hP : ∃ P':List (Int×Bool),P'.length=3/\P0=P'.map fun x=>dQ x) (hq:p<=q/\q<=p+400) :
  endI 1 (fun r H'=>∃ (k:Kcfg) (q:Int),(p<=q/\q<=p+400)/\Ksh n k/\r=.d (dK k)/\H'=[rd b q]) (.agg [.sl 5 0 4 0 25,.sl 6 0 2 0 3]) (rd b q::.box [.sl 5 0 4 0 25,.sl 6 0 2 0 3]::.dead 0::.dead 0::.box [.sl 5 0 4 0 25,.sl 6 0 2 0 3]::.row 0 4 true T0::.row 0 2 true P0::Tl):=by
 obtain⟨T',h1,rfl⟩:=hT;obtain⟨P',h2,rfl⟩:=hP;refine qaP (r0:=.d (dK ⟨T',P'⟩)) (H1:=[rd b q]) ?_ ⟨⟨T',P'⟩,_,hq,Ksh.of h1 h2,rfl,rfl⟩;have e1:=h1.1;simp only[go_sem,seval,-List.reduceReplicate];rw[yaa (by simp[e1]),yaa (by simp[h2])];exact⟨rfl,rfl⟩
def Tryz.circ_at (hb:Bytes b) (hp:0<=p/\p<=100000000) (hn:0<=n/\n<=1000) {T:List R}{K:I->List R->Prop}(hk : ∀ c q,p<=q/\q<=p+200->K (.d (dC c)) (rd b q::T)) :
  ICall prog 66 [.ptr 0 0,.d (dI n)] (rd b p::T) K:=by
 refine qas (c_l20Circuit b p n hb hp hn) [0] (by simp only[go_sem,seval,-List.reduceReplicate]) ?_;rintro r0 H1 ⟨c,q,hq,hl,rfl,rfl⟩;have:=hk c q hq;simp only[go_sem,seval,-List.reduceReplicate];simpa using this
set_option maxHeartbeats 4000000 in
def Tryz.c_l20Config (b:List Int) (p n:Int) (hb:Bytes b) (hp:0<=p/\p<=10000000) (hn:0<=n/\n<=1000) :
  ICall prog 116 [.ptr 0 0,.d (dI n)] [rd b p] (fun r H'=>∃ (k:Kcfg) (q:Int),(p<=q/\q<=p+400)/\Ksh n k/\r=.d (dK k)/\H'=[rd b q]):=by
 refine qaL (E:=env 1) tok rfl 1000 func116 rfl rfl ntmps116 (by simp) ?_;simp only[go_sem,seval,-List.reduceReplicate];refine circ_at hb (by omega) (by omega) fun c q1 hq1=>?_
 have hcf:=c_sConfigure c;have hem:=c_sEmptyConfig;simp only[go_sem,seval,-List.reduceReplicate];cases ho:qg8 c with
 | some k=>
  rw[ho] at hcf;obtain⟨hsz,hpl⟩:=qoh ho;have htl:=hsz.1;refine qce hcf ?_;simp only[go_sem,seval,-List.reduceReplicate]
  repeat' first|assumption|(simp (disch:=first|assumption|omega|(simp;done)|(simp;omega)) only[yaa,qaw,qag,qal,qab];try simp only[go_sem,seval,-List.reduceReplicate])|(with_reducible first|apply And.intro|intro _)|((try rw[qaa]);omega)
  rw[htl,hpl];refine pick_at hb (by omega) fun x1 hx1=>?_
  simp only[go_sem,seval,-List.reduceReplicate]
  repeat' first|assumption|(simp (disch:=first|assumption|omega|(simp;done)|(simp;omega)) only[yaa,qaw,qag,qal,qab];try simp only[go_sem,seval,-List.reduceReplicate])|(with_reducible first|apply And.intro|intro _)|((try rw[qaa]);omega)
  refine qah (E:=env 1) tok (σ:=List Tcfg×Int×Int) (fun s=>[(0,.ptr 0 0),(1,.d (dI n)),(4,.ptr 1 0),(5,.ptr 4 0),(7,.d (dI s.2.1))])
   (fun s=>[rd b s.2.2,.box [.d .nil,.d .nil],.row 0 4 true (s.1.map fun x=>dTc x),.row 0 2 true (k.pads.map fun x=>dQ x),.box [.sl 2 0 4 0 25,.sl 3 0 2 0 3]]) (fun s=>Tsz s.1/\0<=s.2.1/\s.2.1<=12/\q1<=s.2.2/\s.2.2<=q1+100-6*s.2.1) (fun s=>s.2.1.toNat) [] [] 1000 1000 ?_ ?_
  ·simp only[go_sem,seval,-List.reduceReplicate];exact⟨(k.tiles,x1,q1+1),⟨hsz,by simp only;omega,by simp only;omega,by simp only;omega,by simp only;omega⟩,by simp⟩
  ·rintro⟨T,j,q⟩ ⟨hT,hj0,hj1,hq0,hq2⟩;simp only at hT hj0 hj1 hq0 hq2;by_cases hlt:0<j
   ·simp only[go_sem,seval,-List.reduceReplicate]
    repeat' first|assumption|(simp (disch:=first|assumption|omega|(simp;done)|(simp;omega)) only[yaa,qaw,qag,qal,qab];try simp only[go_sem,seval,-List.reduceReplicate])|(with_reducible first|apply And.intro|intro _)|((try rw[qaa]);omega)
    refine pick_at hb (by omega) fun i hi=>?_
    simp only[go_sem,seval,-List.reduceReplicate]
    repeat' first|assumption|(simp (disch:=first|assumption|omega|(simp;done)|(simp;omega)) only[yaa,qaw,qag,qal,qab];try simp only[go_sem,seval,-List.reduceReplicate])|(with_reducible first|apply And.intro|intro _)|((try rw[qaa]);omega)
    refine pick_at hb (by omega) fun x3 hx3=>?_
    have hts:=hT.get (i:=i.toNat) (by omega);have hTl:=hT.1;have hsl:(T.getD i.toNat tc0).select.length=3:=hts.1;have hdl:(T.getD i.toNat tc0).drive.length=8:=hts.2;generalize ht9:T.getD i.toNat tc0=t at *
    have hi25:i.toNat<25:=by omega
    obtain rfl|rfl|rfl|rfl:x3=0∨x3=1∨x3=2∨x3=3:=by omega
    ·simp only[go_sem,seval,-List.reduceReplicate]
     repeat' first|assumption|(simp (disch:=first|assumption|omega|(simp;done)|(simp;omega)) only[yaa,qaw,qag,qal,qab];try simp only[go_sem,seval,-List.reduceReplicate])|(with_reducible first|apply And.intro|intro _)|((try rw[qaa]);omega)
     refine qaS (n:=1) [4,7] (fsts [0,2,3] (.two 1 (.one 4 (fsts [5,6] (.one 7 .done))) 4 (.one 1 (fsts [5,6] (.one 7 .done))))) ?_;simp only[go_sem,seval,-List.reduceReplicate,ht9,qaG,qaH,qaI]
     repeat' first|assumption|(simp (disch:=first|assumption|omega|(simp;done)|(simp;omega)) only[yaa,qaw,qag,qal,qab];try simp only[go_sem,seval,-List.reduceReplicate,ht9,qaG,qaH,qaI])|(with_reducible first|apply And.intro|intro _)|(refine pick_at hb (by omega) ?_;simp only[go_sem,seval,-List.reduceReplicate,ht9,qaG,qaH,qaI])|(refine qad (c_l9Tile _ _ (by omega)) ?_;simp only[go_sem,seval,-List.reduceReplicate,ht9,qaG,qaH,qaI])|((try rw[qaa]);omega)
     all_goals exact qiR (qfd hT hsl hdl) (by omega)
    ·simp only[go_sem,seval,-List.reduceReplicate]
     repeat' first|assumption|(simp (disch:=first|assumption|omega|(simp;done)|(simp;omega)) only[yaa,qaw,qag,qal,qab];try simp only[go_sem,seval,-List.reduceReplicate])|(with_reducible first|apply And.intro|intro _)|((try rw[qaa]);omega)
     refine qaS (n:=1) [7,9,12,16] (fsts [0,2,6,8,11] (.two 1 (fsts [3,4] (.two 5 (.one 7 (.one 9 (.two 10 (.one 12 (.fst 13 (.one 14 (.fst 15 (.one 16 .done))))) 12 (.one 10 (.fst 13 (.one 14 (.fst 15 (.one 16 .done)))))))) 7 (.two 5 (.one 9 (.two 10 (.one 12 (.fst 13 (.one 14 (.fst 15 (.one 16 .done))))) 12 (.one 10 (.fst 13 (.one 14 (.fst 15 (.one 16 .done))))))) 9 (.three 5 (.two 10 (.one 12 (.fst 13 (.one 14 (.fst 15 (.one 16 .done))))) 12 (.one 10 (.fst 13 (.one 14 (.fst 15 (.one 16 .done)))))) 10 (.two 5 (.one 12 (.fst 13 (.one 14 (.fst 15 (.one 16 .done))))) 12 (.fst 13 (.two 5 (.one 14 (.fst 15 (.one 16 .done))) 14 (.one 5 (.fst 15 (.one 16 .done)))))) 12 (.two 5 (.one 10 (.fst 13 (.one 14 (.fst 15 (.one 16 .done))))) 10 (.fst 13 (.two 5 (.one 14 (.fst 15 (.one 16 .done))) 14 (.one 5 (.fst 15 (.one 16 .done)))))))))) 7 (.two 1 (fsts [3,4] (.two 5 (.one 9 (.two 10 (.one 12 (.fst 13 (.one 14 (.fst 15 (.one 16 .done))))) 12 (.one 10 (.fst 13 (.one 14 (.fst 15 (.one 16 .done))))))) 9 (.three 5 (.two 10 (.one 12 (.fst 13 (.one 14 (.fst 15 (.one 16 .done))))) 12 (.one 10 (.fst 13 (.one 14 (.fst 15 (.one 16 .done)))))) 10 (.two 5 (.one 12 (.fst 13 (.one 14 (.fst 15 (.one 16 .done))))) 12 (.fst 13 (.two 5 (.one 14 (.fst 15 (.one 16 .done))) 14 (.one 5 (.fst 15 (.one 16 .done)))))) 12 (.two 5 (.one 10 (.fst 13 (.one 14 (.fst 15 (.one 16 .done))))) 10 (.fst 13 (.two 5 (.one 14 (.fst 15 (.one 16 .done))) 14 (.one 5 (.fst 15 (.one 16 .done))))))))) 9 (.three 1 (fsts [3,4] (.three 5 (.two 10 (.one 12 (.fst 13 (.one 14 (.fst 15 (.one 16 .done))))) 12 (.one 10 (.fst 13 (.one 14 (.fst 15 (.one 16 .done)))))) 10 (.two 5 (.one 12 (.fst 13 (.one 14 (.fst 15 (.one 16 .done))))) 12 (.fst 13 (.two 5 (.one 14 (.fst 15 (.one 16 .done))) 14 (.one 5 (.fst 15 (.one 16 .done)))))) 12 (.two 5 (.one 10 (.fst 13 (.one 14 (.fst 15 (.one 16 .done))))) 10 (.fst 13 (.two 5 (.one 14 (.fst 15 (.one 16 .done))) 14 (.one 5 (.fst 15 (.one 16 .done)))))))) 10 (.two 1 (fsts [3,4] (.two 5 (.one 12 (.fst 13 (.one 14 (.fst 15 (.one 16 .done))))) 12 (.fst 13 (.two 5 (.one 14 (.fst 15 (.one 16 .done))) 14 (.one 5 (.fst 15 (.one 16 .done))))))) 12 (.fst 13 (.two 1 (fsts [3,4] (.two 5 (.one 14 (.fst 15 (.one 16 .done))) 14 (.one 5 (.fst 15 (.one 16 .done))))) 14 (.one 1 (fsts [3,4] (.one 5 (.fst 15 (.one 16 .done)))))))) 12 (.two 1 (fsts [3,4] (.two 5 (.one 10 (.fst 13 (.one 14 (.fst 15 (.one 16 .done))))) 10 (.fst 13 (.two 5 (.one 14 (.fst 15 (.one 16 .done))) 14 (.one 5 (.fst 15 (.one 16 .done))))))) 10 (.fst 13 (.two 1 (fsts [3,4] (.two 5 (.one 14 (.fst 15 (.one 16 .done))) 14 (.one 5 (.fst 15 (.one 16 .done))))) 14 (.one 1 (fsts [3,4] (.one 5 (.fst 15 (.one 16 .done)))))))))))) ?_;simp only[go_sem,seval,-List.reduceReplicate,ht9,qaG,qaH,qaI]
     repeat' first|assumption|(simp (disch:=first|assumption|omega|(simp;done)|(simp;omega)) only[yaa,qaw,qag,qal,qab];try simp only[go_sem,seval,-List.reduceReplicate,ht9,qaG,qaH,qaI])|(with_reducible first|apply And.intro|intro _)|(refine pick_at hb (by omega) ?_;simp only[go_sem,seval,-List.reduceReplicate,ht9,qaG,qaH,qaI])|(refine qad (c_l9Tile _ _ (by omega)) ?_;simp only[go_sem,seval,-List.reduceReplicate,ht9,qaG,qaH,qaI])|((try rw[qaa]);omega)
     all_goals exact qiR (qg9 hT hi25 ht9 (by rw[yae];exact hsl)) (by omega)
    ·simp only[go_sem,seval,-List.reduceReplicate]
     repeat' first|assumption|(simp (disch:=first|assumption|omega|(simp;done)|(simp;omega)) only[yaa,qaw,qag,qal,qab];try simp only[go_sem,seval,-List.reduceReplicate])|(with_reducible first|apply And.intro|intro _)|((try rw[qaa]);omega)
     have hpd:=qmD hTl hi25 ht9;have hpd2:=qnu hTl hi25;have hps2:=qnv hTl hi25;have hgd:=qhP hTl hi25;refine pick_at hb (by omega) fun x4 hx4=>?_
     simp only[go_sem,seval,-List.reduceReplicate,ht9,qaG,qaH,qaI,hpd,hpd2,hps2,hgd,yae,yah]
     repeat' first|assumption|(simp (disch:=first|assumption|omega|(simp;done)|(simp;omega)) only[yaa,qaw,qag,qal,qab];try simp only[go_sem,seval,-List.reduceReplicate,ht9,qaG,qaH,qaI,hpd,hpd2,hps2,hgd,yae,yah])|(with_reducible first|apply And.intro|intro _)|(refine pick_at hb (by omega) ?_;simp only[go_sem,seval,-List.reduceReplicate,ht9,qaG,qaH,qaI,hpd,hpd2,hps2,hgd,yae,yah])|(refine qad (c_l9Tile ⟨t.table,t.select,t.reg,_⟩ _ (by omega)) ?_;simp only[go_sem,seval,-List.reduceReplicate,ht9,qaG,qaH,qaI,hpd,hpd2,hps2,hgd,yae,yah])|((try rw[qaa]);omega)
     refine qaS (n:=1) [8,10] (fsts [0,2,6,7] (.two 1 (fsts [3,4] (.two 5 (.one 8 (.fst 9 (.one 10 .done))) 8 (.one 5 (.fst 9 (.one 10 .done))))) 8 (.one 1 (fsts [3,4] (.one 5 (.fst 9 (.one 10 .done))))))) ?_;simp only[go_sem,seval,-List.reduceReplicate,ht9,qaG,qaH,qaI,hpd,hpd2,hps2,hgd,yae,yah]
     repeat' first|assumption|(simp (disch:=first|assumption|omega|(simp;done)|(simp;omega)) only[yaa,qaw,qag,qal,qab];try simp only[go_sem,seval,-List.reduceReplicate,ht9,qaG,qaH,qaI,hpd,hpd2,hps2,hgd,yae,yah])|(with_reducible first|apply And.intro|intro _)|(refine pick_at hb (by omega) ?_;simp only[go_sem,seval,-List.reduceReplicate,ht9,qaG,qaH,qaI,hpd,hpd2,hps2,hgd,yae,yah])|(refine qad (c_l9Tile ⟨t.table,t.select,t.reg,_⟩ _ (by omega)) ?_;simp only[go_sem,seval,-List.reduceReplicate,ht9,qaG,qaH,qaI,hpd,hpd2,hps2,hgd,yae,yah])|((try rw[qaa]);omega)
     all_goals (
      rename_i x5 hx5;have h5:=c_l9Tile ⟨t.table,t.select,t.reg,t.drive.set x4.toNat x5⟩ i (by omega);refine qad h5 ?_;simp only[go_sem,seval,-List.reduceReplicate,ht9,qaG,qaH,qaI,hpd,hpd2,hps2,hgd,yae,yah]
      repeat' first|assumption|(simp (disch:=first|assumption|omega|(simp;done)|(simp;omega)) only[yaa,qaw,qag,qal,qab];try simp only[go_sem,seval,-List.reduceReplicate,ht9,qaG,qaH,qaI,hpd,hpd2,hps2,hgd,yae,yah])|(with_reducible first|apply And.intro|intro _)|(refine pick_at hb (by omega) ?_;simp only[go_sem,seval,-List.reduceReplicate,ht9,qaG,qaH,qaI,hpd,hpd2,hps2,hgd,yae,yah])|((try rw[qaa]);omega)
      all_goals exact qpQ hT (by omega) ⟨hsl,by simp only[yae];exact hdl⟩)
    ·simp only[go_sem,seval,-List.reduceReplicate]
     repeat' first|assumption|(simp (disch:=first|assumption|omega|(simp;done)|(simp;omega)) only[yaa,qaw,qag,qal,qab];try simp only[go_sem,seval,-List.reduceReplicate])|(with_reducible first|apply And.intro|intro _)|((try rw[qaa]);omega)
     refine qaS (n:=1) [12] (fsts [0,2,3,5,1,4,6,7,8,9,10,11] (.one 12 .done)) ?_;simp only[go_sem,seval,-List.reduceReplicate,ht9,qaG,qaH,qaI]
     repeat' first|assumption|(simp (disch:=first|assumption|omega|(simp;done)|(simp;omega)) only[yaa,qaw,qag,qal,qab];try simp only[go_sem,seval,-List.reduceReplicate,ht9,qaG,qaH,qaI])|(with_reducible first|apply And.intro|intro _)|(refine pick_at hb (by omega) ?_;simp only[go_sem,seval,-List.reduceReplicate,ht9,qaG,qaH,qaI])|(refine qad (c_l9Tile _ _ (by omega)) ?_;simp only[go_sem,seval,-List.reduceReplicate,ht9,qaG,qaH,qaI])|((try rw[qaa]);omega)
     all_goals exact qiR (qfd hT hsl hdl) (by omega)
   ·have hj9:j=0:=by omega
    simp only[go_sem,seval,-List.reduceReplicate]
    repeat' first|assumption|(simp (disch:=first|assumption|omega|(simp;done)|(simp;omega)) only[yaa,qaw,qag,qal,qab];try simp only[go_sem,seval,-List.reduceReplicate])|(with_reducible first|apply And.intro|intro _)|((try rw[qaa]);omega)
    refine odd_at hb (by omega) (by omega) fun o qo hqo ho9=>?_
    simp only[go_sem,seval,-List.reduceReplicate]
    repeat' first|assumption|(simp (disch:=first|assumption|omega|(simp;done)|(simp;omega)) only[yaa,qaw,qag,qal,qab];try simp only[go_sem,seval,-List.reduceReplicate])|(with_reducible first|apply And.intro|intro _)|((try rw[qaa]);omega)
    ·refine pick_at hb (by omega) fun i hi=>?_
     simp only[go_sem,seval,-List.reduceReplicate]
     repeat' first|assumption|(simp (disch:=first|assumption|omega|(simp;done)|(simp;omega)) only[yaa,qaw,qag,qal,qab];try simp only[go_sem,seval,-List.reduceReplicate])|(with_reducible first|apply And.intro|intro _)|((try rw[qaa]);omega)
     refine pick_at hb (by omega) fun x3 hx3=>?_
     have hts:=hT.get (i:=i.toNat) (by omega);have hTl:=hT.1;have hsl:(T.getD i.toNat tc0).select.length=3:=hts.1;have hdl:(T.getD i.toNat tc0).drive.length=8:=hts.2;generalize ht9:T.getD i.toNat tc0=t at *
     have hi25:i.toNat<25:=by omega
     obtain rfl|rfl|rfl|rfl|rfl|rfl:x3=0∨x3=1∨x3=2∨x3=3∨x3=4∨x3=5:=by omega
     ·simp only[go_sem,seval,-List.reduceReplicate]
      repeat' first|assumption|(simp (disch:=first|assumption|omega|(simp;done)|(simp;omega)) only[yaa,qaw,qag,qal,qab];try simp only[go_sem,seval,-List.reduceReplicate])|(with_reducible first|apply And.intro|intro _)|((try rw[qaa]);omega)
      refine qaP (r0:=.d (dK ⟨T.drop 1,k.pads⟩)) (H1:=[rd b (qo+1+1)]) ?_ ⟨⟨T.drop 1,k.pads⟩,_,by omega,⟨by simp only[ybp];omega,hpl,fun t ht=>by have:=hT.2 t (yaE ht);exact⟨this.1,by have:=this.2;omega⟩,fun h=>by simp[ho9 h] at *⟩,rfl,rfl⟩;simp only[go_sem,seval,-List.reduceReplicate];rw[yaa (by simp;omega),List.map_drop,yaa (by simp;omega)];exact⟨rfl,rfl⟩
     ·simp only[go_sem,seval,-List.reduceReplicate]
      repeat' first|assumption|(simp (disch:=first|assumption|omega|(simp;done)|(simp;omega)) only[yaa,qaw,qag,qal,qab];try simp only[go_sem,seval,-List.reduceReplicate])|(with_reducible first|apply And.intro|intro _)|((try rw[qaa]);omega)
      refine qaS (n:=1) [5,10] (fsts [0,2,4] (.three 1 (.two 3 (.one 5 (.fst 6 (.one 7 (fsts [8,9] (.one 10 .done))))) 5 (.one 3 (.fst 6 (.one 7 (fsts [8,9] (.one 10 .done)))))) 3 (.two 1 (.one 5 (.fst 6 (.one 7 (fsts [8,9] (.one 10 .done))))) 5 (.fst 6 (.two 1 (.one 7 (fsts [8,9] (.one 10 .done))) 7 (.one 1 (fsts [8,9] (.one 10 .done)))))) 5 (.two 1 (.one 3 (.fst 6 (.one 7 (fsts [8,9] (.one 10 .done))))) 3 (.fst 6 (.two 1 (.one 7 (fsts [8,9] (.one 10 .done))) 7 (.one 1 (fsts [8,9] (.one 10 .done)))))))) ?_;simp only[go_sem,seval,-List.reduceReplicate,ht9,qaG,qaH,qaI]
      repeat' first|assumption|(simp (disch:=first|assumption|omega|(simp;done)|(simp;omega)) only[yaa,qaw,qag,qal,qab];try simp only[go_sem,seval,-List.reduceReplicate,ht9,qaG,qaH,qaI])|(with_reducible first|apply And.intro|intro _)|(refine pick_at hb (by omega) ?_;simp only[go_sem,seval,-List.reduceReplicate,ht9,qaG,qaH,qaI])|((try rw[qaa]);omega)
      all_goals (
       refine qfK ?_;simp only[go_sem,seval,-List.reduceReplicate,ht9,yae];first|exact endC2 b (qfd hT hsl hdl) ⟨_,hpl,rfl⟩ (by omega)|exact⟨by omega,endC2 b (qfd hT hsl hdl) ⟨_,hpl,rfl⟩ (by omega)⟩)
     ·simp only[go_sem,seval,-List.reduceReplicate]
      repeat' first|assumption|(simp (disch:=first|assumption|omega|(simp;done)|(simp;omega)) only[yaa,qaw,qag,qal,qab];try simp only[go_sem,seval,-List.reduceReplicate])|(with_reducible first|apply And.intro|intro _)|((try rw[qaa]);omega)
      refine qaS (n:=1) [8,12] (fsts [0,2,7] (.three 1 (fsts [3,4] (.three 5 (.two 6 (.one 8 (.fst 9 (.one 10 (.fst 11 (.one 12 .done))))) 8 (.one 6 (.fst 9 (.one 10 (.fst 11 (.one 12 .done)))))) 6 (.two 5 (.one 8 (.fst 9 (.one 10 (.fst 11 (.one 12 .done))))) 8 (.fst 9 (.two 5 (.one 10 (.fst 11 (.one 12 .done))) 10 (.one 5 (.fst 11 (.one 12 .done)))))) 8 (.two 5 (.one 6 (.fst 9 (.one 10 (.fst 11 (.one 12 .done))))) 6 (.fst 9 (.two 5 (.one 10 (.fst 11 (.one 12 .done))) 10 (.one 5 (.fst 11 (.one 12 .done)))))))) 6 (.two 1 (fsts [3,4] (.two 5 (.one 8 (.fst 9 (.one 10 (.fst 11 (.one 12 .done))))) 8 (.fst 9 (.two 5 (.one 10 (.fst 11 (.one 12 .done))) 10 (.one 5 (.fst 11 (.one 12 .done))))))) 8 (.fst 9 (.two 1 (fsts [3,4] (.two 5 (.one 10 (.fst 11 (.one 12 .done))) 10 (.one 5 (.fst 11 (.one 12 .done))))) 10 (.one 1 (fsts [3,4] (.one 5 (.fst 11 (.one 12 .done)))))))) 8 (.two 1 (fsts [3,4] (.two 5 (.one 6 (.fst 9 (.one 10 (.fst 11 (.one 12 .done))))) 6 (.fst 9 (.two 5 (.one 10 (.fst 11 (.one 12 .done))) 10 (.one 5 (.fst 11 (.one 12 .done))))))) 6 (.fst 9 (.two 1 (fsts [3,4] (.two 5 (.one 10 (.fst 11 (.one 12 .done))) 10 (.one 5 (.fst 11 (.one 12 .done))))) 10 (.one 1 (fsts [3,4] (.one 5 (.fst 11 (.one 12 .done)))))))))) ?_;simp only[go_sem,seval,-List.reduceReplicate,ht9,qaG,qaH,qaI]
      repeat' first|assumption|(simp (disch:=first|assumption|omega|(simp;done)|(simp;omega)) only[yaa,qaw,qag,qal,qab];try simp only[go_sem,seval,-List.reduceReplicate,ht9,qaG,qaH,qaI])|(with_reducible first|apply And.intro|intro _)|(refine pick_at hb (by omega) ?_;simp only[go_sem,seval,-List.reduceReplicate,ht9,qaG,qaH,qaI])|((try rw[qaa]);omega)
      all_goals (
       refine qfK ?_;simp only[go_sem,seval,-List.reduceReplicate,ht9,yae];first|exact endC2 b (qg9 hT hi25 ht9 (by rw[yae];exact hsl)) ⟨_,hpl,rfl⟩ (by omega)|exact⟨by omega,endC2 b (qg9 hT hi25 ht9 (by simp only[yaw,yae];omega)) ⟨_,hpl,rfl⟩ (by omega)⟩)
     ·simp only[go_sem,seval,-List.reduceReplicate]
      repeat' first|assumption|(simp (disch:=first|assumption|omega|(simp;done)|(simp;omega)) only[yaa,qaw,qag,qal,qab];try simp only[go_sem,seval,-List.reduceReplicate])|(with_reducible first|apply And.intro|intro _)|((try rw[qaa]);omega)
      refine qaS (n:=1) [8,12] (fsts [0,2,7] (.three 1 (fsts [3,4] (.three 5 (.two 6 (.one 8 (.fst 9 (.one 10 (.fst 11 (.one 12 .done))))) 8 (.one 6 (.fst 9 (.one 10 (.fst 11 (.one 12 .done)))))) 6 (.two 5 (.one 8 (.fst 9 (.one 10 (.fst 11 (.one 12 .done))))) 8 (.fst 9 (.two 5 (.one 10 (.fst 11 (.one 12 .done))) 10 (.one 5 (.fst 11 (.one 12 .done)))))) 8 (.two 5 (.one 6 (.fst 9 (.one 10 (.fst 11 (.one 12 .done))))) 6 (.fst 9 (.two 5 (.one 10 (.fst 11 (.one 12 .done))) 10 (.one 5 (.fst 11 (.one 12 .done)))))))) 6 (.two 1 (fsts [3,4] (.two 5 (.one 8 (.fst 9 (.one 10 (.fst 11 (.one 12 .done))))) 8 (.fst 9 (.two 5 (.one 10 (.fst 11 (.one 12 .done))) 10 (.one 5 (.fst 11 (.one 12 .done))))))) 8 (.fst 9 (.two 1 (fsts [3,4] (.two 5 (.one 10 (.fst 11 (.one 12 .done))) 10 (.one 5 (.fst 11 (.one 12 .done))))) 10 (.one 1 (fsts [3,4] (.one 5 (.fst 11 (.one 12 .done)))))))) 8 (.two 1 (fsts [3,4] (.two 5 (.one 6 (.fst 9 (.one 10 (.fst 11 (.one 12 .done))))) 6 (.fst 9 (.two 5 (.one 10 (.fst 11 (.one 12 .done))) 10 (.one 5 (.fst 11 (.one 12 .done))))))) 6 (.fst 9 (.two 1 (fsts [3,4] (.two 5 (.one 10 (.fst 11 (.one 12 .done))) 10 (.one 5 (.fst 11 (.one 12 .done))))) 10 (.one 1 (fsts [3,4] (.one 5 (.fst 11 (.one 12 .done)))))))))) ?_;simp only[go_sem,seval,-List.reduceReplicate,ht9,qaG,qaH,qaI]
      repeat' first|assumption|(simp (disch:=first|assumption|omega|(simp;done)|(simp;omega)) only[yaa,qaw,qag,qal,qab];try simp only[go_sem,seval,-List.reduceReplicate,ht9,qaG,qaH,qaI])|(with_reducible first|apply And.intro|intro _)|(refine pick_at hb (by omega) ?_;simp only[go_sem,seval,-List.reduceReplicate,ht9,qaG,qaH,qaI])|((try rw[qaa]);omega)
      all_goals (
       refine qfK ?_;simp only[go_sem,seval,-List.reduceReplicate,ht9,yae];first|exact endC2 b (qfc hT hi25 ht9 (by rw[yae];exact hdl)) ⟨_,hpl,rfl⟩ (by omega)|exact⟨by omega,endC2 b (qfc hT hi25 ht9 (by simp only[yaw,yae];omega)) ⟨_,hpl,rfl⟩ (by omega)⟩)
     ·simp only[go_sem,seval,-List.reduceReplicate]
      repeat' first|assumption|(simp (disch:=first|assumption|omega|(simp;done)|(simp;omega)) only[yaa,qaw,qag,qal,qab];try simp only[go_sem,seval,-List.reduceReplicate])|(with_reducible first|apply And.intro|intro _)|((try rw[qaa]);omega)
      exact endC2 b ⟨_,hT,rfl⟩ ⟨k.pads.set 0 (8,(k.pads.getD 0 (0,false)).2),by rw[yae];exact hpl,by rw[ybj]⟩ (by omega)
     ·have h7:=hT.get (i:=7) (by omega);have hsl7:(T.getD 7 tc0).select.length=3:=h7.1;have hdl7:(T.getD 7 tc0).drive.length=8:=h7.2;generalize ht7:T.getD 7 tc0=t7 at *
      simp only[go_sem,seval,-List.reduceReplicate,ht7,hTl]
      repeat' first|assumption|(simp (disch:=first|assumption|omega|(simp;done)|(simp;omega)) only[yaa,qaw,qag,qal,qab];try simp only[go_sem,seval,-List.reduceReplicate,ht7,hTl])|(with_reducible first|apply And.intro|intro _)|((try rw[qaa]);omega)
      all_goals (
       refine qfK ?_;simp only[go_sem,seval,-List.reduceReplicate,ht9,yae];first|exact endC2 b (qfc hT (by omega) ht7 (by rw[yae];exact hdl7)) ⟨_,hpl,rfl⟩ (by omega)|exact⟨by omega,endC2 b (qfc hT (by omega) ht7 (by simp only[yaw,yae];omega)) ⟨_,hpl,rfl⟩ (by omega)⟩)
    ·exact endC2 b ⟨_,hT,rfl⟩ ⟨_,hpl,rfl⟩ (by omega)
 | none=>
  rw[ho] at hcf;refine qce hcf ?_;simp only[go_sem,seval,-List.reduceReplicate]
  repeat' first|assumption|(simp (disch:=first|assumption|omega|(simp;done)|(simp;omega)) only[yaa,qaw,qag,qal,qab];try simp only[go_sem,seval,-List.reduceReplicate])|(with_reducible first|apply And.intro|intro _)|(refine qce hem ?_;simp only[go_sem,seval,-List.reduceReplicate])|((try rw[qaa]);omega)
  have hsz:=Tsz.empty;have hpl:(List.replicate 3 ((15:Int),false)).length=3:=rfl;generalize List.replicate 25 emptyT=T9 at *
  generalize List.replicate 3 ((15:Int),false)=P9 at *
  refine pick_at hb (by omega) fun x1 hx1=>?_
  simp only[go_sem,seval,-List.reduceReplicate]
  repeat' first|assumption|(simp (disch:=first|assumption|omega|(simp;done)|(simp;omega)) only[yaa,qaw,qag,qal,qab];try simp only[go_sem,seval,-List.reduceReplicate])|(with_reducible first|apply And.intro|intro _)|((try rw[qaa]);omega)
  refine qah (E:=env 1) tok (σ:=List Tcfg×Int×Int) (fun s=>[(0,.ptr 0 0),(1,.d (dI n)),(4,.ptr 1 0),(5,.ptr 4 0),(7,.d (dI s.2.1))])
   (fun s=>[rd b s.2.2,.box [.d .nil,.d .nil],.dead 0,.dead 0,.box [.sl 5 0 4 0 25,.sl 6 0 2 0 3],.row 0 4 true (s.1.map fun x=>dTc x),.row 0 2 true (P9.map fun x=>dQ x)]) (fun s=>Tsz s.1/\0<=s.2.1/\s.2.1<=12/\q1<=s.2.2/\s.2.2<=q1+100-6*s.2.1) (fun s=>s.2.1.toNat) [] [] 1000 1000 ?_ ?_
  ·simp only[go_sem,seval,-List.reduceReplicate];exact⟨(T9,x1,q1+1),⟨hsz,by simp only;omega,by simp only;omega,by simp only;omega,by simp only;omega⟩,by simp⟩
  ·rintro⟨T,j,q⟩ ⟨hT,hj0,hj1,hq0,hq2⟩;simp only at hT hj0 hj1 hq0 hq2;by_cases hlt:0<j
   ·simp only[go_sem,seval,-List.reduceReplicate]
    repeat' first|assumption|(simp (disch:=first|assumption|omega|(simp;done)|(simp;omega)) only[yaa,qaw,qag,qal,qab];try simp only[go_sem,seval,-List.reduceReplicate])|(with_reducible first|apply And.intro|intro _)|((try rw[qaa]);omega)
    refine pick_at hb (by omega) fun i hi=>?_
    simp only[go_sem,seval,-List.reduceReplicate]
    repeat' first|assumption|(simp (disch:=first|assumption|omega|(simp;done)|(simp;omega)) only[yaa,qaw,qag,qal,qab];try simp only[go_sem,seval,-List.reduceReplicate])|(with_reducible first|apply And.intro|intro _)|((try rw[qaa]);omega)
    refine pick_at hb (by omega) fun x3 hx3=>?_
    have hts:=hT.get (i:=i.toNat) (by omega);have hTl:=hT.1;have hsl:(T.getD i.toNat tc0).select.length=3:=hts.1;have hdl:(T.getD i.toNat tc0).drive.length=8:=hts.2;generalize ht9:T.getD i.toNat tc0=t at *
    have hi25:i.toNat<25:=by omega
    obtain rfl|rfl|rfl|rfl:x3=0∨x3=1∨x3=2∨x3=3:=by omega
    ·simp only[go_sem,seval,-List.reduceReplicate]
     repeat' first|assumption|(simp (disch:=first|assumption|omega|(simp;done)|(simp;omega)) only[yaa,qaw,qag,qal,qab];try simp only[go_sem,seval,-List.reduceReplicate])|(with_reducible first|apply And.intro|intro _)|((try rw[qaa]);omega)
     refine qaS (n:=1) [4,7] (fsts [0,2,3] (.two 1 (.one 4 (fsts [5,6] (.one 7 .done))) 4 (.one 1 (fsts [5,6] (.one 7 .done))))) ?_;simp only[go_sem,seval,-List.reduceReplicate,ht9,qaG,qaH,qaI]
     repeat' first|assumption|(simp (disch:=first|assumption|omega|(simp;done)|(simp;omega)) only[yaa,qaw,qag,qal,qab];try simp only[go_sem,seval,-List.reduceReplicate,ht9,qaG,qaH,qaI])|(with_reducible first|apply And.intro|intro _)|(refine pick_at hb (by omega) ?_;simp only[go_sem,seval,-List.reduceReplicate,ht9,qaG,qaH,qaI])|(refine qad (c_l9Tile _ _ (by omega)) ?_;simp only[go_sem,seval,-List.reduceReplicate,ht9,qaG,qaH,qaI])|((try rw[qaa]);omega)
     all_goals exact qiR (qfd hT hsl hdl) (by omega)
    ·simp only[go_sem,seval,-List.reduceReplicate]
     repeat' first|assumption|(simp (disch:=first|assumption|omega|(simp;done)|(simp;omega)) only[yaa,qaw,qag,qal,qab];try simp only[go_sem,seval,-List.reduceReplicate])|(with_reducible first|apply And.intro|intro _)|((try rw[qaa]);omega)
     refine qaS (n:=1) [7,9,12,16] (fsts [0,2,6,8,11] (.two 1 (fsts [3,4] (.two 5 (.one 7 (.one 9 (.two 10 (.one 12 (.fst 13 (.one 14 (.fst 15 (.one 16 .done))))) 12 (.one 10 (.fst 13 (.one 14 (.fst 15 (.one 16 .done)))))))) 7 (.two 5 (.one 9 (.two 10 (.one 12 (.fst 13 (.one 14 (.fst 15 (.one 16 .done))))) 12 (.one 10 (.fst 13 (.one 14 (.fst 15 (.one 16 .done))))))) 9 (.three 5 (.two 10 (.one 12 (.fst 13 (.one 14 (.fst 15 (.one 16 .done))))) 12 (.one 10 (.fst 13 (.one 14 (.fst 15 (.one 16 .done)))))) 10 (.two 5 (.one 12 (.fst 13 (.one 14 (.fst 15 (.one 16 .done))))) 12 (.fst 13 (.two 5 (.one 14 (.fst 15 (.one 16 .done))) 14 (.one 5 (.fst 15 (.one 16 .done)))))) 12 (.two 5 (.one 10 (.fst 13 (.one 14 (.fst 15 (.one 16 .done))))) 10 (.fst 13 (.two 5 (.one 14 (.fst 15 (.one 16 .done))) 14 (.one 5 (.fst 15 (.one 16 .done)))))))))) 7 (.two 1 (fsts [3,4] (.two 5 (.one 9 (.two 10 (.one 12 (.fst 13 (.one 14 (.fst 15 (.one 16 .done))))) 12 (.one 10 (.fst 13 (.one 14 (.fst 15 (.one 16 .done))))))) 9 (.three 5 (.two 10 (.one 12 (.fst 13 (.one 14 (.fst 15 (.one 16 .done))))) 12 (.one 10 (.fst 13 (.one 14 (.fst 15 (.one 16 .done)))))) 10 (.two 5 (.one 12 (.fst 13 (.one 14 (.fst 15 (.one 16 .done))))) 12 (.fst 13 (.two 5 (.one 14 (.fst 15 (.one 16 .done))) 14 (.one 5 (.fst 15 (.one 16 .done)))))) 12 (.two 5 (.one 10 (.fst 13 (.one 14 (.fst 15 (.one 16 .done))))) 10 (.fst 13 (.two 5 (.one 14 (.fst 15 (.one 16 .done))) 14 (.one 5 (.fst 15 (.one 16 .done))))))))) 9 (.three 1 (fsts [3,4] (.three 5 (.two 10 (.one 12 (.fst 13 (.one 14 (.fst 15 (.one 16 .done))))) 12 (.one 10 (.fst 13 (.one 14 (.fst 15 (.one 16 .done)))))) 10 (.two 5 (.one 12 (.fst 13 (.one 14 (.fst 15 (.one 16 .done))))) 12 (.fst 13 (.two 5 (.one 14 (.fst 15 (.one 16 .done))) 14 (.one 5 (.fst 15 (.one 16 .done)))))) 12 (.two 5 (.one 10 (.fst 13 (.one 14 (.fst 15 (.one 16 .done))))) 10 (.fst 13 (.two 5 (.one 14 (.fst 15 (.one 16 .done))) 14 (.one 5 (.fst 15 (.one 16 .done)))))))) 10 (.two 1 (fsts [3,4] (.two 5 (.one 12 (.fst 13 (.one 14 (.fst 15 (.one 16 .done))))) 12 (.fst 13 (.two 5 (.one 14 (.fst 15 (.one 16 .done))) 14 (.one 5 (.fst 15 (.one 16 .done))))))) 12 (.fst 13 (.two 1 (fsts [3,4] (.two 5 (.one 14 (.fst 15 (.one 16 .done))) 14 (.one 5 (.fst 15 (.one 16 .done))))) 14 (.one 1 (fsts [3,4] (.one 5 (.fst 15 (.one 16 .done)))))))) 12 (.two 1 (fsts [3,4] (.two 5 (.one 10 (.fst 13 (.one 14 (.fst 15 (.one 16 .done))))) 10 (.fst 13 (.two 5 (.one 14 (.fst 15 (.one 16 .done))) 14 (.one 5 (.fst 15 (.one 16 .done))))))) 10 (.fst 13 (.two 1 (fsts [3,4] (.two 5 (.one 14 (.fst 15 (.one 16 .done))) 14 (.one 5 (.fst 15 (.one 16 .done))))) 14 (.one 1 (fsts [3,4] (.one 5 (.fst 15 (.one 16 .done)))))))))))) ?_;simp only[go_sem,seval,-List.reduceReplicate,ht9,qaG,qaH,qaI]
     repeat' first|assumption|(simp (disch:=first|assumption|omega|(simp;done)|(simp;omega)) only[yaa,qaw,qag,qal,qab];try simp only[go_sem,seval,-List.reduceReplicate,ht9,qaG,qaH,qaI])|(with_reducible first|apply And.intro|intro _)|(refine pick_at hb (by omega) ?_;simp only[go_sem,seval,-List.reduceReplicate,ht9,qaG,qaH,qaI])|(refine qad (c_l9Tile _ _ (by omega)) ?_;simp only[go_sem,seval,-List.reduceReplicate,ht9,qaG,qaH,qaI])|((try rw[qaa]);omega)
     all_goals exact qiR (qg9 hT hi25 ht9 (by rw[yae];exact hsl)) (by omega)
    ·simp only[go_sem,seval,-List.reduceReplicate]
     repeat' first|assumption|(simp (disch:=first|assumption|omega|(simp;done)|(simp;omega)) only[yaa,qaw,qag,qal,qab];try simp only[go_sem,seval,-List.reduceReplicate])|(with_reducible first|apply And.intro|intro _)|((try rw[qaa]);omega)
     have hpd:=qmD hTl hi25 ht9;have hpd2:=qnu hTl hi25;have hps2:=qnv hTl hi25;have hgd:=qhP hTl hi25;refine pick_at hb (by omega) fun x4 hx4=>?_
     simp only[go_sem,seval,-List.reduceReplicate,ht9,qaG,qaH,qaI,hpd,hpd2,hps2,hgd,yae,yah]
     repeat' first|assumption|(simp (disch:=first|assumption|omega|(simp;done)|(simp;omega)) only[yaa,qaw,qag,qal,qab];try simp only[go_sem,seval,-List.reduceReplicate,ht9,qaG,qaH,qaI,hpd,hpd2,hps2,hgd,yae,yah])|(with_reducible first|apply And.intro|intro _)|(refine pick_at hb (by omega) ?_;simp only[go_sem,seval,-List.reduceReplicate,ht9,qaG,qaH,qaI,hpd,hpd2,hps2,hgd,yae,yah])|(refine qad (c_l9Tile ⟨t.table,t.select,t.reg,_⟩ _ (by omega)) ?_;simp only[go_sem,seval,-List.reduceReplicate,ht9,qaG,qaH,qaI,hpd,hpd2,hps2,hgd,yae,yah])|((try rw[qaa]);omega)
     refine qaS (n:=1) [8,10] (fsts [0,2,6,7] (.two 1 (fsts [3,4] (.two 5 (.one 8 (.fst 9 (.one 10 .done))) 8 (.one 5 (.fst 9 (.one 10 .done))))) 8 (.one 1 (fsts [3,4] (.one 5 (.fst 9 (.one 10 .done))))))) ?_;simp only[go_sem,seval,-List.reduceReplicate,ht9,qaG,qaH,qaI,hpd,hpd2,hps2,hgd,yae,yah]
     repeat' first|assumption|(simp (disch:=first|assumption|omega|(simp;done)|(simp;omega)) only[yaa,qaw,qag,qal,qab];try simp only[go_sem,seval,-List.reduceReplicate,ht9,qaG,qaH,qaI,hpd,hpd2,hps2,hgd,yae,yah])|(with_reducible first|apply And.intro|intro _)|(refine pick_at hb (by omega) ?_;simp only[go_sem,seval,-List.reduceReplicate,ht9,qaG,qaH,qaI,hpd,hpd2,hps2,hgd,yae,yah])|(refine qad (c_l9Tile ⟨t.table,t.select,t.reg,_⟩ _ (by omega)) ?_;simp only[go_sem,seval,-List.reduceReplicate,ht9,qaG,qaH,qaI,hpd,hpd2,hps2,hgd,yae,yah])|((try rw[qaa]);omega)
     all_goals (
      rename_i x5 hx5;have h5:=c_l9Tile ⟨t.table,t.select,t.reg,t.drive.set x4.toNat x5⟩ i (by omega);refine qad h5 ?_;simp only[go_sem,seval,-List.reduceReplicate,ht9,qaG,qaH,qaI,hpd,hpd2,hps2,hgd,yae,yah]
      repeat' first|assumption|(simp (disch:=first|assumption|omega|(simp;done)|(simp;omega)) only[yaa,qaw,qag,qal,qab];try simp only[go_sem,seval,-List.reduceReplicate,ht9,qaG,qaH,qaI,hpd,hpd2,hps2,hgd,yae,yah])|(with_reducible first|apply And.intro|intro _)|(refine pick_at hb (by omega) ?_;simp only[go_sem,seval,-List.reduceReplicate,ht9,qaG,qaH,qaI,hpd,hpd2,hps2,hgd,yae,yah])|((try rw[qaa]);omega)
      all_goals exact qpQ hT (by omega) ⟨hsl,by simp only[yae];exact hdl⟩)
    ·simp only[go_sem,seval,-List.reduceReplicate]
     repeat' first|assumption|(simp (disch:=first|assumption|omega|(simp;done)|(simp;omega)) only[yaa,qaw,qag,qal,qab];try simp only[go_sem,seval,-List.reduceReplicate])|(with_reducible first|apply And.intro|intro _)|((try rw[qaa]);omega)
     refine qaS (n:=1) [12] (fsts [0,2,3,5,1,4,6,7,8,9,10,11] (.one 12 .done)) ?_;simp only[go_sem,seval,-List.reduceReplicate,ht9,qaG,qaH,qaI]
     repeat' first|assumption|(simp (disch:=first|assumption|omega|(simp;done)|(simp;omega)) only[yaa,qaw,qag,qal,qab];try simp only[go_sem,seval,-List.reduceReplicate,ht9,qaG,qaH,qaI])|(with_reducible first|apply And.intro|intro _)|(refine pick_at hb (by omega) ?_;simp only[go_sem,seval,-List.reduceReplicate,ht9,qaG,qaH,qaI])|(refine qad (c_l9Tile _ _ (by omega)) ?_;simp only[go_sem,seval,-List.reduceReplicate,ht9,qaG,qaH,qaI])|((try rw[qaa]);omega)
     all_goals exact qiR (qfd hT hsl hdl) (by omega)
   ·have hj9:j=0:=by omega
    simp only[go_sem,seval,-List.reduceReplicate]
    repeat' first|assumption|(simp (disch:=first|assumption|omega|(simp;done)|(simp;omega)) only[yaa,qaw,qag,qal,qab];try simp only[go_sem,seval,-List.reduceReplicate])|(with_reducible first|apply And.intro|intro _)|((try rw[qaa]);omega)
    refine odd_at hb (by omega) (by omega) fun o qo hqo ho9=>?_
    simp only[go_sem,seval,-List.reduceReplicate]
    repeat' first|assumption|(simp (disch:=first|assumption|omega|(simp;done)|(simp;omega)) only[yaa,qaw,qag,qal,qab];try simp only[go_sem,seval,-List.reduceReplicate])|(with_reducible first|apply And.intro|intro _)|((try rw[qaa]);omega)
    ·refine pick_at hb (by omega) fun i hi=>?_
     simp only[go_sem,seval,-List.reduceReplicate]
     repeat' first|assumption|(simp (disch:=first|assumption|omega|(simp;done)|(simp;omega)) only[yaa,qaw,qag,qal,qab];try simp only[go_sem,seval,-List.reduceReplicate])|(with_reducible first|apply And.intro|intro _)|((try rw[qaa]);omega)
     refine pick_at hb (by omega) fun x3 hx3=>?_
     have hts:=hT.get (i:=i.toNat) (by omega);have hTl:=hT.1;have hsl:(T.getD i.toNat tc0).select.length=3:=hts.1;have hdl:(T.getD i.toNat tc0).drive.length=8:=hts.2;generalize ht9:T.getD i.toNat tc0=t at *
     have hi25:i.toNat<25:=by omega
     obtain rfl|rfl|rfl|rfl|rfl|rfl:x3=0∨x3=1∨x3=2∨x3=3∨x3=4∨x3=5:=by omega
     ·simp only[go_sem,seval,-List.reduceReplicate]
      repeat' first|assumption|(simp (disch:=first|assumption|omega|(simp;done)|(simp;omega)) only[yaa,qaw,qag,qal,qab];try simp only[go_sem,seval,-List.reduceReplicate])|(with_reducible first|apply And.intro|intro _)|((try rw[qaa]);omega)
      refine qaP (r0:=.d (dK ⟨T.drop 1,P9⟩)) (H1:=[rd b (qo+1+1)]) ?_ ⟨⟨T.drop 1,P9⟩,_,by omega,⟨by simp only[ybp];omega,hpl,fun t ht=>by have:=hT.2 t (yaE ht);exact⟨this.1,by have:=this.2;omega⟩,fun h=>by simp[ho9 h] at *⟩,rfl,rfl⟩;simp only[go_sem,seval,-List.reduceReplicate];rw[yaa (by simp;omega),List.map_drop,yaa (by simp;omega)];exact⟨rfl,rfl⟩
     ·simp only[go_sem,seval,-List.reduceReplicate]
      repeat' first|assumption|(simp (disch:=first|assumption|omega|(simp;done)|(simp;omega)) only[yaa,qaw,qag,qal,qab];try simp only[go_sem,seval,-List.reduceReplicate])|(with_reducible first|apply And.intro|intro _)|((try rw[qaa]);omega)
      refine qaS (n:=1) [5,10] (fsts [0,2,4] (.three 1 (.two 3 (.one 5 (.fst 6 (.one 7 (fsts [8,9] (.one 10 .done))))) 5 (.one 3 (.fst 6 (.one 7 (fsts [8,9] (.one 10 .done)))))) 3 (.two 1 (.one 5 (.fst 6 (.one 7 (fsts [8,9] (.one 10 .done))))) 5 (.fst 6 (.two 1 (.one 7 (fsts [8,9] (.one 10 .done))) 7 (.one 1 (fsts [8,9] (.one 10 .done)))))) 5 (.two 1 (.one 3 (.fst 6 (.one 7 (fsts [8,9] (.one 10 .done))))) 3 (.fst 6 (.two 1 (.one 7 (fsts [8,9] (.one 10 .done))) 7 (.one 1 (fsts [8,9] (.one 10 .done)))))))) ?_;simp only[go_sem,seval,-List.reduceReplicate,ht9,qaG,qaH,qaI]
      repeat' first|assumption|(simp (disch:=first|assumption|omega|(simp;done)|(simp;omega)) only[yaa,qaw,qag,qal,qab];try simp only[go_sem,seval,-List.reduceReplicate,ht9,qaG,qaH,qaI])|(with_reducible first|apply And.intro|intro _)|(refine pick_at hb (by omega) ?_;simp only[go_sem,seval,-List.reduceReplicate,ht9,qaG,qaH,qaI])|((try rw[qaa]);omega)
      all_goals (
       refine qfK ?_;simp only[go_sem,seval,-List.reduceReplicate,ht9,yae];first|exact endC5 b (qfd hT hsl hdl) ⟨_,hpl,rfl⟩ (by omega)|exact⟨by omega,endC5 b (qfd hT hsl hdl) ⟨_,hpl,rfl⟩ (by omega)⟩)
     ·simp only[go_sem,seval,-List.reduceReplicate]
      repeat' first|assumption|(simp (disch:=first|assumption|omega|(simp;done)|(simp;omega)) only[yaa,qaw,qag,qal,qab];try simp only[go_sem,seval,-List.reduceReplicate])|(with_reducible first|apply And.intro|intro _)|((try rw[qaa]);omega)
      refine qaS (n:=1) [8,12] (fsts [0,2,7] (.three 1 (fsts [3,4] (.three 5 (.two 6 (.one 8 (.fst 9 (.one 10 (.fst 11 (.one 12 .done))))) 8 (.one 6 (.fst 9 (.one 10 (.fst 11 (.one 12 .done)))))) 6 (.two 5 (.one 8 (.fst 9 (.one 10 (.fst 11 (.one 12 .done))))) 8 (.fst 9 (.two 5 (.one 10 (.fst 11 (.one 12 .done))) 10 (.one 5 (.fst 11 (.one 12 .done)))))) 8 (.two 5 (.one 6 (.fst 9 (.one 10 (.fst 11 (.one 12 .done))))) 6 (.fst 9 (.two 5 (.one 10 (.fst 11 (.one 12 .done))) 10 (.one 5 (.fst 11 (.one 12 .done)))))))) 6 (.two 1 (fsts [3,4] (.two 5 (.one 8 (.fst 9 (.one 10 (.fst 11 (.one 12 .done))))) 8 (.fst 9 (.two 5 (.one 10 (.fst 11 (.one 12 .done))) 10 (.one 5 (.fst 11 (.one 12 .done))))))) 8 (.fst 9 (.two 1 (fsts [3,4] (.two 5 (.one 10 (.fst 11 (.one 12 .done))) 10 (.one 5 (.fst 11 (.one 12 .done))))) 10 (.one 1 (fsts [3,4] (.one 5 (.fst 11 (.one 12 .done)))))))) 8 (.two 1 (fsts [3,4] (.two 5 (.one 6 (.fst 9 (.one 10 (.fst 11 (.one 12 .done))))) 6 (.fst 9 (.two 5 (.one 10 (.fst 11 (.one 12 .done))) 10 (.one 5 (.fst 11 (.one 12 .done))))))) 6 (.fst 9 (.two 1 (fsts [3,4] (.two 5 (.one 10 (.fst 11 (.one 12 .done))) 10 (.one 5 (.fst 11 (.one 12 .done))))) 10 (.one 1 (fsts [3,4] (.one 5 (.fst 11 (.one 12 .done)))))))))) ?_;simp only[go_sem,seval,-List.reduceReplicate,ht9,qaG,qaH,qaI]
      repeat' first|assumption|(simp (disch:=first|assumption|omega|(simp;done)|(simp;omega)) only[yaa,qaw,qag,qal,qab];try simp only[go_sem,seval,-List.reduceReplicate,ht9,qaG,qaH,qaI])|(with_reducible first|apply And.intro|intro _)|(refine pick_at hb (by omega) ?_;simp only[go_sem,seval,-List.reduceReplicate,ht9,qaG,qaH,qaI])|((try rw[qaa]);omega)
      all_goals (
       refine qfK ?_;simp only[go_sem,seval,-List.reduceReplicate,ht9,yae];first|exact endC5 b (qg9 hT hi25 ht9 (by rw[yae];exact hsl)) ⟨_,hpl,rfl⟩ (by omega)|exact⟨by omega,endC5 b (qg9 hT hi25 ht9 (by simp only[yaw,yae];omega)) ⟨_,hpl,rfl⟩ (by omega)⟩)
     ·simp only[go_sem,seval,-List.reduceReplicate]
      repeat' first|assumption|(simp (disch:=first|assumption|omega|(simp;done)|(simp;omega)) only[yaa,qaw,qag,qal,qab];try simp only[go_sem,seval,-List.reduceReplicate])|(with_reducible first|apply And.intro|intro _)|((try rw[qaa]);omega)
      refine qaS (n:=1) [8,12] (fsts [0,2,7] (.three 1 (fsts [3,4] (.three 5 (.two 6 (.one 8 (.fst 9 (.one 10 (.fst 11 (.one 12 .done))))) 8 (.one 6 (.fst 9 (.one 10 (.fst 11 (.one 12 .done)))))) 6 (.two 5 (.one 8 (.fst 9 (.one 10 (.fst 11 (.one 12 .done))))) 8 (.fst 9 (.two 5 (.one 10 (.fst 11 (.one 12 .done))) 10 (.one 5 (.fst 11 (.one 12 .done)))))) 8 (.two 5 (.one 6 (.fst 9 (.one 10 (.fst 11 (.one 12 .done))))) 6 (.fst 9 (.two 5 (.one 10 (.fst 11 (.one 12 .done))) 10 (.one 5 (.fst 11 (.one 12 .done)))))))) 6 (.two 1 (fsts [3,4] (.two 5 (.one 8 (.fst 9 (.one 10 (.fst 11 (.one 12 .done))))) 8 (.fst 9 (.two 5 (.one 10 (.fst 11 (.one 12 .done))) 10 (.one 5 (.fst 11 (.one 12 .done))))))) 8 (.fst 9 (.two 1 (fsts [3,4] (.two 5 (.one 10 (.fst 11 (.one 12 .done))) 10 (.one 5 (.fst 11 (.one 12 .done))))) 10 (.one 1 (fsts [3,4] (.one 5 (.fst 11 (.one 12 .done)))))))) 8 (.two 1 (fsts [3,4] (.two 5 (.one 6 (.fst 9 (.one 10 (.fst 11 (.one 12 .done))))) 6 (.fst 9 (.two 5 (.one 10 (.fst 11 (.one 12 .done))) 10 (.one 5 (.fst 11 (.one 12 .done))))))) 6 (.fst 9 (.two 1 (fsts [3,4] (.two 5 (.one 10 (.fst 11 (.one 12 .done))) 10 (.one 5 (.fst 11 (.one 12 .done))))) 10 (.one 1 (fsts [3,4] (.one 5 (.fst 11 (.one 12 .done)))))))))) ?_;simp only[go_sem,seval,-List.reduceReplicate,ht9,qaG,qaH,qaI]
      repeat' first|assumption|(simp (disch:=first|assumption|omega|(simp;done)|(simp;omega)) only[yaa,qaw,qag,qal,qab];try simp only[go_sem,seval,-List.reduceReplicate,ht9,qaG,qaH,qaI])|(with_reducible first|apply And.intro|intro _)|(refine pick_at hb (by omega) ?_;simp only[go_sem,seval,-List.reduceReplicate,ht9,qaG,qaH,qaI])|((try rw[qaa]);omega)
      all_goals (
       refine qfK ?_;simp only[go_sem,seval,-List.reduceReplicate,ht9,yae];first|exact endC5 b (qfc hT hi25 ht9 (by rw[yae];exact hdl)) ⟨_,hpl,rfl⟩ (by omega)|exact⟨by omega,endC5 b (qfc hT hi25 ht9 (by simp only[yaw,yae];omega)) ⟨_,hpl,rfl⟩ (by omega)⟩)
     ·simp only[go_sem,seval,-List.reduceReplicate]
      repeat' first|assumption|(simp (disch:=first|assumption|omega|(simp;done)|(simp;omega)) only[yaa,qaw,qag,qal,qab];try simp only[go_sem,seval,-List.reduceReplicate])|(with_reducible first|apply And.intro|intro _)|((try rw[qaa]);omega)
      exact endC5 b ⟨_,hT,rfl⟩ ⟨P9.set 0 (8,(P9.getD 0 (0,false)).2),by rw[yae];exact hpl,by rw[ybj]⟩ (by omega)
     ·have h7:=hT.get (i:=7) (by omega);have hsl7:(T.getD 7 tc0).select.length=3:=h7.1;have hdl7:(T.getD 7 tc0).drive.length=8:=h7.2;generalize ht7:T.getD 7 tc0=t7 at *
      simp only[go_sem,seval,-List.reduceReplicate,ht7,hTl]
      repeat' first|assumption|(simp (disch:=first|assumption|omega|(simp;done)|(simp;omega)) only[yaa,qaw,qag,qal,qab];try simp only[go_sem,seval,-List.reduceReplicate,ht7,hTl])|(with_reducible first|apply And.intro|intro _)|((try rw[qaa]);omega)
      all_goals (
       refine qfK ?_;simp only[go_sem,seval,-List.reduceReplicate,ht9,yae];first|exact endC5 b (qfc hT (by omega) ht7 (by rw[yae];exact hdl7)) ⟨_,hpl,rfl⟩ (by omega)|exact⟨by omega,endC5 b (qfc hT (by omega) ht7 (by simp only[yaw,yae];omega)) ⟨_,hpl,rfl⟩ (by omega)⟩)
    ·exact endC5 b ⟨_,hT,rfl⟩ ⟨_,hpl,rfl⟩ (by omega)
end Go.Proofs
