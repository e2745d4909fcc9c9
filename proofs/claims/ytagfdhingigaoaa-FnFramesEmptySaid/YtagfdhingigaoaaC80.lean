/- Contracts: configurations that are drawn. Conditions: none; lemmas. -/
import Derived.Test.YtagfdhingigaoaaC9
set_option maxRecDepth 20000
set_option linter.unusedVariables false
set_option linter.unusedSimpArgs false
namespace Go.Proofs
open Go Go.VL
theorem qls {c:Circ}{k:Kcfg}(h:qfr c=some k):Tsz k.tiles∧k.pads.length=3:=by
 unfold qfr at h
 split at h
 ·rename_i hc
  obtain⟨rs,h1,rfl⟩:=Option.map_eq_some_iff.1 h
  have hcl:=qhA hc
  have hp:=qi1 (c:=c) (cells:=qcH c) (by omega)
  obtain⟨hr1,hr2⟩:=qjd hc hp h1
  exact⟨qj1 (qg0 Tsz.empty (qfN hc) hp _ (Nat.le_refl _)) hr1 _,padsT_len⟩
 ·cases h
theorem qfs {T:List Tcfg}(hT:Tsz T) {i:Nat}(hi:i<25) {t:Tcfg}(ht:T.getD i tc0=t) {l:List Int}(hl:l.length=3) :
  ∃ T',Tsz T'∧putC 4 (T.map fun x=>dTc x) i 1 (D.lst 1 (l.map (D.int .i64)))=T'.map fun x=>dTc x:=by
 have h2:=hT.get hi
 rw[ht] at h2
 refine⟨T.set i ⟨t.table,l,t.reg,t.drive⟩,hT.set ⟨hl,h2.2⟩,qeT (by decide) (z:=tc0) (by rw[hT.1];exact hi) ?_⟩
 rw[ht];rfl
theorem qd6 {T:List Tcfg}(hT:Tsz T) {i:Nat}(hi:i<25) {t:Tcfg}(ht:T.getD i tc0=t) {l:List Int}(hl:l.length=8) :
  ∃ T',Tsz T'∧putC 4 (T.map fun x=>dTc x) i 3 (D.lst 1 (l.map (D.int .i64)))=T'.map fun x=>dTc x:=by
 have h2:=hT.get hi
 rw[ht] at h2
 refine⟨T.set i ⟨t.table,t.select,t.reg,l⟩,hT.set ⟨h2.1,hl⟩,qeT (by decide) (z:=tc0) (by rw[hT.1];exact hi) ?_⟩
 rw[ht];rfl
theorem qd7 {T:List Tcfg}(hT:Tsz T) {i:Nat}{a:Int}{b d:List Int}{c:Bool}(hb:b.length=3) (hd:d.length=8) :
  ∃ T',Tsz T'∧(T.map fun x=>dTc x).set i (D.agg [dI a,dIs b,dB c,dIs d])=T'.map fun x=>dTc x:=
 ⟨T.set i ⟨a,b,c,d⟩,hT.set ⟨hb,hd⟩,by rw[qgZ]⟩
theorem qj2 {T:List Tcfg}(hT:T.length=25) {i:Nat}(hi:i<25) {t:Tcfg}(ht:T.getD i tc0=t) (l:List Int):putC 4 (T.map fun x=>dTc x) i 3 (D.lst 1 (l.map (D.int .i64)))=(T.set i ⟨t.table,t.select,t.reg,l⟩).map fun x=>dTc x:=
 qeT (f:=fun x=>dTc x) (by decide) (z:=tc0) (by rw[hT];exact hi) (by rw[ht];rfl)
theorem qf8 {T:List Tcfg}(hT:T.length=25) {i:Nat}(hi:i<25) (u:Tcfg):(T.set i u).getD i tc0=u:=by
 simp[List.getD,hT,hi]
theorem qkL {T:List Tcfg}(hT:T.length=25) {i:Nat}(hi:i<25) (u:Tcfg) (l:List Int):putC 4 ((T.set i u).map fun x=>dTc x) i 3 (D.lst 1 (l.map (D.int .i64)))=(T.set i ⟨u.table,u.select,u.reg,l⟩).map fun x=>dTc x:=by
 rw[qj2 (by rw[List.length_set];exact hT) hi (qf8 hT hi u),List.set_set]
theorem qkM {T:List Tcfg}(hT:T.length=25) {i:Nat}(hi:i<25) (u:Tcfg) (l:List Int):putC 4 ((T.set i u).map fun x=>dTc x) i 1 (D.lst 1 (l.map (D.int .i64)))=(T.set i ⟨u.table,l,u.reg,u.drive⟩).map fun x=>dTc x:=by
 rw[qeT (f:=fun x=>dTc x) (y:=⟨u.table,l,u.reg,u.drive⟩) (by decide) (z:=tc0) (by rw[List.length_set,hT];exact hi) (by rw[qf8 hT hi];rfl),List.set_set]
theorem qay {a b c:Int}{n:Nat}:([D.int .i64 a,D.int .i64 b,D.int .i64 c]:List D).getD n (D.int .i64 0)=D.int .i64 (([a,b,c]:List Int).getD n 0):=by
 match n with
 | 0|1|2|_+3=>rfl
theorem qg1 {T0:List D}{q1 j qe:Int}(h : ∃ T',Tsz T'∧T0=T'.map fun x=>dTc x) (hb:0<j∧j≤12∧q1≤qe∧qe≤q1+100-6*(j-1)) :
  ∃ s':List Tcfg×Int×Int,(Tsz s'.1∧0≤s'.2.1∧s'.2.1≤12∧q1≤s'.2.2∧s'.2.2≤q1+100-6*s'.2.1)∧s'.2.1.toNat<j.toNat∧j-1=s'.2.1∧qe=s'.2.2∧T0=s'.1.map fun x=>dTc x:=by
 obtain⟨T',h1,h2⟩:=h
 exact⟨(T',j-1,qe),⟨h1,by simp only;omega,by simp only;omega,by simp only;omega,by simp only;omega⟩,by simp only;omega,rfl,rfl,h2⟩
theorem qmV {T:List Tcfg}{i:Nat}{u:Tcfg}{q1 j qe:Int}(hT:Tsz T) (hb:0<j∧j≤12∧q1≤qe∧qe≤q1+100-6*(j-1)) (hu:tsz u) :
  ∃ s':List Tcfg×Int×Int,(Tsz s'.1∧0≤s'.2.1∧s'.2.1≤12∧q1≤s'.2.2∧s'.2.2≤q1+100-6*s'.2.1)∧s'.2.1.toNat<j.toNat∧j-1=s'.2.1∧qe=s'.2.2∧((T.set i u).map fun x=>dTc x)=s'.1.map fun x=>dTc x:=
 qg1 ⟨_,hT.set hu,rfl⟩ hb
def Ksh (n:Int) (k:Kcfg):Prop:=k.tiles.length≤25∧k.pads.length=3∧(∀ t∈k.tiles,t.select.length=3∧t.drive.length≤8)∧(n=0→Tsz k.tiles)
theorem Ksh.of {n:Int}{T:List Tcfg}{P:List (Int×Bool)}(h1:Tsz T) (h2:P.length=3):Ksh n ⟨T,P⟩:=
 ⟨by have:=h1.1;simp only;omega,h2,fun t ht=>by have:=h1.2 t ht;exact⟨this.1,by have:=this.2;omega⟩,fun _=>h1⟩
theorem Try.endC2 (b:List Int) {n p q:Int}{T0 P0:List D}{Tl:List R}(hT : ∃ T',Tsz T'∧T0=T'.map fun x=>dTc x) (hP : ∃ P':List (Int×Bool),P'.length=3∧P0=P'.map fun x=>dQ x) (hq:p≤q∧q≤p+400) :
  endI 1 (fun r H'=>∃ (k:Kcfg) (q:Int),(p≤q∧q≤p+400)∧Ksh n k∧r=.d (dK k)∧H'=[Try.rd b q]) (.agg [.sl 2 0 4 0 25,.sl 3 0 2 0 3]) (Try.rd b q::.box [.sl 2 0 4 0 25,.sl 3 0 2 0 3]::.row 0 4 true T0::.row 0 2 true P0::.box [.sl 2 0 4 0 25,.sl 3 0 2 0 3]::Tl):=by
 obtain⟨T',h1,rfl⟩:=hT
 obtain⟨P',h2,rfl⟩:=hP
 refine qb5 (r0:=.d (dK ⟨T',P'⟩)) (H1:=[Try.rd b q]) ?_ ⟨⟨T',P'⟩,_,hq,Ksh.of h1 h2,rfl,rfl⟩
 have e1:=h1.1
 simp only[go_sem,seval,-List.reduceReplicate]
 rw[List.take_of_length_le (by simp[e1]),List.take_of_length_le (by simp[h2])]
 exact⟨rfl,rfl⟩
theorem Try.endC5 (b:List Int) {n p q:Int}{T0 P0:List D}{Tl:List R}(hT : ∃ T',Tsz T'∧T0=T'.map fun x=>dTc x) (hP : ∃ P':List (Int×Bool),P'.length=3∧P0=P'.map fun x=>dQ x) (hq:p≤q∧q≤p+400) :
  endI 1 (fun r H'=>∃ (k:Kcfg) (q:Int),(p≤q∧q≤p+400)∧Ksh n k∧r=.d (dK k)∧H'=[Try.rd b q]) (.agg [.sl 5 0 4 0 25,.sl 6 0 2 0 3]) (Try.rd b q::.box [.sl 5 0 4 0 25,.sl 6 0 2 0 3]::.dead 0::.dead 0::.box [.sl 5 0 4 0 25,.sl 6 0 2 0 3]::.row 0 4 true T0::.row 0 2 true P0::Tl):=by
 obtain⟨T',h1,rfl⟩:=hT
 obtain⟨P',h2,rfl⟩:=hP
 refine qb5 (r0:=.d (dK ⟨T',P'⟩)) (H1:=[Try.rd b q]) ?_ ⟨⟨T',P'⟩,_,hq,Ksh.of h1 h2,rfl,rfl⟩
 have e1:=h1.1
 simp only[go_sem,seval,-List.reduceReplicate]
 rw[List.take_of_length_le (by simp[e1]),List.take_of_length_le (by simp[h2])]
 exact⟨rfl,rfl⟩
theorem Try.circ_at {b:List Int}(hb:Try.Bytes b) {p n:Int}(hp:0≤p∧p≤100000000) (hn:0≤n∧n≤1000) {T:List R}{K:I→List R→Prop}(hk : ∀ c q,p≤q∧q≤p+200→K (.d (dC c)) (Try.rd b q::T)) :
  ICall Try.prog 24 [.ptr 0 0,.d (dI n)] (Try.rd b p::T) K:=by
 refine qaX (Try.c_l20Circuit b p n hb hp hn) [0] (by simp only[go_sem,seval,-List.reduceReplicate]) ?_
 rintro r0 H1 ⟨c,q,hq,hl,rfl,rfl⟩
 have:=hk c q hq
 simp only[go_sem,seval,-List.reduceReplicate]
 simpa using this
set_option maxHeartbeats 4000000 in
theorem Try.c_l20Config (b:List Int) (p n:Int) (hb:Try.Bytes b) (hp:0≤p∧p≤10000000) (hn:0≤n∧n≤1000) :
  ICall Try.prog 11 [.ptr 0 0,.d (dI n)] [Try.rd b p] (fun r H'=>∃ (k:Kcfg) (q:Int),(p≤q∧q≤p+400)∧Ksh n k∧r=.d (dK k)∧H'=[Try.rd b q]):=by
 refine qco (E:=Try.env 1) Try.tok rfl 1000 Try.func11 rfl rfl Try.ntmps11 (by simp) ?_
 simp only[go_sem,seval,-List.reduceReplicate,Try.results11]
 refine Try.circ_at hb (by omega) (by omega) fun c q1 hq1=>?_
 have hcf:=Try.c_sConfigure c
 have hem:=Try.c_sEmptyConfig
 simp only[go_sem,seval,-List.reduceReplicate,Try.results11]
 cases ho:qfr c with
 | some k=>
  rw[ho] at hcf
  obtain⟨hsz,hpl⟩:=qls ho
  have htl:=hsz.1
  refine qcm hcf ?_
  simp only[go_sem,seval,-List.reduceReplicate,Try.results11]
  repeat' first|assumption|(simp (disch:=first|assumption|omega|(simp;done)|(simp;omega)) only[List.take_of_length_le,qay,qae,qaj,qad];try simp only[go_sem,seval,-List.reduceReplicate,Try.results11])|(with_reducible first|apply And.intro|intro _)|(refine qac ?_;simp only[go_sem,seval,-List.reduceReplicate,Try.results11])|exact lexT|((try rw[qaa]);omega)
  rw[htl,hpl]
  refine Try.pick_at hb (by omega) fun x1 hx1=>?_
  simp only[go_sem,seval,-List.reduceReplicate,Try.results11]
  repeat' first|assumption|(simp (disch:=first|assumption|omega|(simp;done)|(simp;omega)) only[List.take_of_length_le,qay,qae,qaj,qad];try simp only[go_sem,seval,-List.reduceReplicate,Try.results11])|(with_reducible first|apply And.intro|intro _)|(refine qac ?_;simp only[go_sem,seval,-List.reduceReplicate,Try.results11])|exact lexT|((try rw[qaa]);omega)
  refine qas (E:=Try.env 1) Try.tok (σ:=List Tcfg×Int×Int) (fun s=>[(0,.ptr 0 0),(1,.d (dI n)),(4,.ptr 1 0),(5,.ptr 4 0),(7,.d (dI s.2.1))])
   (fun s=>[Try.rd b s.2.2,.box [.d .nil,.d .nil],.row 0 4 true (s.1.map fun x=>dTc x),.row 0 2 true (k.pads.map fun x=>dQ x),.box [.sl 2 0 4 0 25,.sl 3 0 2 0 3]]) (fun s=>Tsz s.1∧0≤s.2.1∧s.2.1≤12∧q1≤s.2.2∧s.2.2≤q1+100-6*s.2.1) (fun s=>s.2.1.toNat) [] [] 1000 1000 ?_ ?_
  ·simp only[go_sem,seval,-List.reduceReplicate]
   exact⟨(k.tiles,x1,q1+1),⟨hsz,by simp only;omega,by simp only;omega,by simp only;omega,by simp only;omega⟩,by simp⟩
  ·rintro⟨T,j,q⟩ ⟨hT,hj0,hj1,hq0,hq2⟩
   simp only at hT hj0 hj1 hq0 hq2
   by_cases hlt:0<j
   ·simp only[go_sem,seval,-List.reduceReplicate,Try.results11]
    repeat' first|assumption|(simp (disch:=first|assumption|omega|(simp;done)|(simp;omega)) only[List.take_of_length_le,qay,qae,qaj,qad];try simp only[go_sem,seval,-List.reduceReplicate,Try.results11])|(with_reducible first|apply And.intro|intro _)|(refine qac ?_;simp only[go_sem,seval,-List.reduceReplicate,Try.results11])|exact lexT|((try rw[qaa]);omega)
    refine Try.pick_at hb (by omega) fun i hi=>?_
    simp only[go_sem,seval,-List.reduceReplicate,Try.results11]
    repeat' first|assumption|(simp (disch:=first|assumption|omega|(simp;done)|(simp;omega)) only[List.take_of_length_le,qay,qae,qaj,qad];try simp only[go_sem,seval,-List.reduceReplicate,Try.results11])|(with_reducible first|apply And.intro|intro _)|(refine qac ?_;simp only[go_sem,seval,-List.reduceReplicate,Try.results11])|exact lexT|((try rw[qaa]);omega)
    refine Try.pick_at hb (by omega) fun x3 hx3=>?_
    have hts:=hT.get (i:=i.toNat) (by omega)
    have hTl:=hT.1
    have hsl:(T.getD i.toNat tc0).select.length=3:=hts.1
    have hdl:(T.getD i.toNat tc0).drive.length=8:=hts.2
    generalize ht9:T.getD i.toNat tc0=t at *
    have hi25:i.toNat<25:=by omega
    obtain rfl|rfl|rfl|rfl:x3=0∨x3=1∨x3=2∨x3=3:=by omega
    ·simp only[go_sem,seval,-List.reduceReplicate,Try.results11]
     repeat' first|assumption|(simp (disch:=first|assumption|omega|(simp;done)|(simp;omega)) only[List.take_of_length_le,qay,qae,qaj,qad];try simp only[go_sem,seval,-List.reduceReplicate,Try.results11])|(with_reducible first|apply And.intro|intro _)|(refine qac ?_;simp only[go_sem,seval,-List.reduceReplicate,Try.results11])|exact lexT|((try rw[qaa]);omega)
     refine qau (E:=Try.env 1) Try.tok Try.follows 1000 1000 [4,7] (fsts [0,2,3] (.two 1 (.one 4 (fsts [5,6] (.one 7 .done))) 4 (.one 1 (fsts [5,6] (.one 7 .done))))) (by kernel_rfl) ?_
     simp only[go_sem,seval,-List.reduceReplicate,Try.results11,ht9,qak,qal,qam]
     repeat' first|assumption|(simp (disch:=first|assumption|omega|(simp;done)|(simp;omega)) only[List.take_of_length_le,qay,qae,qaj,qad];try simp only[go_sem,seval,-List.reduceReplicate,Try.results11,ht9,qak,qal,qam])|(with_reducible first|apply And.intro|intro _)|(refine Try.pick_at hb (by omega) ?_;simp only[go_sem,seval,-List.reduceReplicate,Try.results11,ht9,qak,qal,qam])|(refine qag (Try.c_l9Tile _ _ (by omega)) ?_;simp only[go_sem,seval,-List.reduceReplicate,Try.results11,ht9,qak,qal,qam])|(refine qac ?_;simp only[go_sem,seval,-List.reduceReplicate,Try.results11,ht9,qak,qal,qam])|exact lexT|((try rw[qaa]);omega)
     all_goals exact qg1 (qd7 hT hsl hdl) (by omega)
    ·simp only[go_sem,seval,-List.reduceReplicate,Try.results11]
     repeat' first|assumption|(simp (disch:=first|assumption|omega|(simp;done)|(simp;omega)) only[List.take_of_length_le,qay,qae,qaj,qad];try simp only[go_sem,seval,-List.reduceReplicate,Try.results11])|(with_reducible first|apply And.intro|intro _)|(refine qac ?_;simp only[go_sem,seval,-List.reduceReplicate,Try.results11])|exact lexT|((try rw[qaa]);omega)
     refine qau (E:=Try.env 1) Try.tok Try.follows 1000 1000 [7,9,12,16] (fsts [0,2,6,8,11] (.two 1 (fsts [3,4] (.two 5 (.one 7 (.one 9 (.two 10 (.one 12 (.fst 13 (.one 14 (.fst 15 (.one 16 .done))))) 12 (.one 10 (.fst 13 (.one 14 (.fst 15 (.one 16 .done)))))))) 7 (.two 5 (.one 9 (.two 10 (.one 12 (.fst 13 (.one 14 (.fst 15 (.one 16 .done))))) 12 (.one 10 (.fst 13 (.one 14 (.fst 15 (.one 16 .done))))))) 9 (.three 5 (.two 10 (.one 12 (.fst 13 (.one 14 (.fst 15 (.one 16 .done))))) 12 (.one 10 (.fst 13 (.one 14 (.fst 15 (.one 16 .done)))))) 10 (.two 5 (.one 12 (.fst 13 (.one 14 (.fst 15 (.one 16 .done))))) 12 (.fst 13 (.two 5 (.one 14 (.fst 15 (.one 16 .done))) 14 (.one 5 (.fst 15 (.one 16 .done)))))) 12 (.two 5 (.one 10 (.fst 13 (.one 14 (.fst 15 (.one 16 .done))))) 10 (.fst 13 (.two 5 (.one 14 (.fst 15 (.one 16 .done))) 14 (.one 5 (.fst 15 (.one 16 .done)))))))))) 7 (.two 1 (fsts [3,4] (.two 5 (.one 9 (.two 10 (.one 12 (.fst 13 (.one 14 (.fst 15 (.one 16 .done))))) 12 (.one 10 (.fst 13 (.one 14 (.fst 15 (.one 16 .done))))))) 9 (.three 5 (.two 10 (.one 12 (.fst 13 (.one 14 (.fst 15 (.one 16 .done))))) 12 (.one 10 (.fst 13 (.one 14 (.fst 15 (.one 16 .done)))))) 10 (.two 5 (.one 12 (.fst 13 (.one 14 (.fst 15 (.one 16 .done))))) 12 (.fst 13 (.two 5 (.one 14 (.fst 15 (.one 16 .done))) 14 (.one 5 (.fst 15 (.one 16 .done)))))) 12 (.two 5 (.one 10 (.fst 13 (.one 14 (.fst 15 (.one 16 .done))))) 10 (.fst 13 (.two 5 (.one 14 (.fst 15 (.one 16 .done))) 14 (.one 5 (.fst 15 (.one 16 .done))))))))) 9 (.three 1 (fsts [3,4] (.three 5 (.two 10 (.one 12 (.fst 13 (.one 14 (.fst 15 (.one 16 .done))))) 12 (.one 10 (.fst 13 (.one 14 (.fst 15 (.one 16 .done)))))) 10 (.two 5 (.one 12 (.fst 13 (.one 14 (.fst 15 (.one 16 .done))))) 12 (.fst 13 (.two 5 (.one 14 (.fst 15 (.one 16 .done))) 14 (.one 5 (.fst 15 (.one 16 .done)))))) 12 (.two 5 (.one 10 (.fst 13 (.one 14 (.fst 15 (.one 16 .done))))) 10 (.fst 13 (.two 5 (.one 14 (.fst 15 (.one 16 .done))) 14 (.one 5 (.fst 15 (.one 16 .done)))))))) 10 (.two 1 (fsts [3,4] (.two 5 (.one 12 (.fst 13 (.one 14 (.fst 15 (.one 16 .done))))) 12 (.fst 13 (.two 5 (.one 14 (.fst 15 (.one 16 .done))) 14 (.one 5 (.fst 15 (.one 16 .done))))))) 12 (.fst 13 (.two 1 (fsts [3,4] (.two 5 (.one 14 (.fst 15 (.one 16 .done))) 14 (.one 5 (.fst 15 (.one 16 .done))))) 14 (.one 1 (fsts [3,4] (.one 5 (.fst 15 (.one 16 .done)))))))) 12 (.two 1 (fsts [3,4] (.two 5 (.one 10 (.fst 13 (.one 14 (.fst 15 (.one 16 .done))))) 10 (.fst 13 (.two 5 (.one 14 (.fst 15 (.one 16 .done))) 14 (.one 5 (.fst 15 (.one 16 .done))))))) 10 (.fst 13 (.two 1 (fsts [3,4] (.two 5 (.one 14 (.fst 15 (.one 16 .done))) 14 (.one 5 (.fst 15 (.one 16 .done))))) 14 (.one 1 (fsts [3,4] (.one 5 (.fst 15 (.one 16 .done)))))))))))) (by kernel_rfl) ?_
     simp only[go_sem,seval,-List.reduceReplicate,Try.results11,ht9,qak,qal,qam]
     repeat' first|assumption|(simp (disch:=first|assumption|omega|(simp;done)|(simp;omega)) only[List.take_of_length_le,qay,qae,qaj,qad];try simp only[go_sem,seval,-List.reduceReplicate,Try.results11,ht9,qak,qal,qam])|(with_reducible first|apply And.intro|intro _)|(refine Try.pick_at hb (by omega) ?_;simp only[go_sem,seval,-List.reduceReplicate,Try.results11,ht9,qak,qal,qam])|(refine qag (Try.c_l9Tile _ _ (by omega)) ?_;simp only[go_sem,seval,-List.reduceReplicate,Try.results11,ht9,qak,qal,qam])|(refine qac ?_;simp only[go_sem,seval,-List.reduceReplicate,Try.results11,ht9,qak,qal,qam])|exact lexT|((try rw[qaa]);omega)
     all_goals exact qg1 (qfs hT hi25 ht9 (by rw[List.length_set];exact hsl)) (by omega)
    ·simp only[go_sem,seval,-List.reduceReplicate,Try.results11]
     repeat' first|assumption|(simp (disch:=first|assumption|omega|(simp;done)|(simp;omega)) only[List.take_of_length_le,qay,qae,qaj,qad];try simp only[go_sem,seval,-List.reduceReplicate,Try.results11])|(with_reducible first|apply And.intro|intro _)|(refine qac ?_;simp only[go_sem,seval,-List.reduceReplicate,Try.results11])|exact lexT|((try rw[qaa]);omega)
     have hpd:=qj2 hTl hi25 ht9
     have hpd2:=qkL hTl hi25
     have hps2:=qkM hTl hi25
     have hgd:=qf8 hTl hi25
     refine Try.pick_at hb (by omega) fun x4 hx4=>?_
     simp only[go_sem,seval,-List.reduceReplicate,Try.results11,ht9,qak,qal,qam,hpd,hpd2,hps2,hgd,List.length_set,List.length_map]
     repeat' first|assumption|(simp (disch:=first|assumption|omega|(simp;done)|(simp;omega)) only[List.take_of_length_le,qay,qae,qaj,qad];try simp only[go_sem,seval,-List.reduceReplicate,Try.results11,ht9,qak,qal,qam,hpd,hpd2,hps2,hgd,List.length_set,List.length_map])|(with_reducible first|apply And.intro|intro _)|(refine Try.pick_at hb (by omega) ?_;simp only[go_sem,seval,-List.reduceReplicate,Try.results11,ht9,qak,qal,qam,hpd,hpd2,hps2,hgd,List.length_set,List.length_map])|(refine qag (Try.c_l9Tile ⟨t.table,t.select,t.reg,_⟩ _ (by omega)) ?_;simp only[go_sem,seval,-List.reduceReplicate,Try.results11,ht9,qak,qal,qam,hpd,hpd2,hps2,hgd,List.length_set,List.length_map])|(refine qac ?_;simp only[go_sem,seval,-List.reduceReplicate,Try.results11,ht9,qak,qal,qam,hpd,hpd2,hps2,hgd,List.length_set,List.length_map])|exact lexT|((try rw[qaa]);omega)
     refine qau (E:=Try.env 1) Try.tok Try.follows 1000 1000 [8,10] (fsts [0,2,6,7] (.two 1 (fsts [3,4] (.two 5 (.one 8 (.fst 9 (.one 10 .done))) 8 (.one 5 (.fst 9 (.one 10 .done))))) 8 (.one 1 (fsts [3,4] (.one 5 (.fst 9 (.one 10 .done))))))) (by kernel_rfl) ?_
     simp only[go_sem,seval,-List.reduceReplicate,Try.results11,ht9,qak,qal,qam,hpd,hpd2,hps2,hgd,List.length_set,List.length_map]
     repeat' first|assumption|(simp (disch:=first|assumption|omega|(simp;done)|(simp;omega)) only[List.take_of_length_le,qay,qae,qaj,qad];try simp only[go_sem,seval,-List.reduceReplicate,Try.results11,ht9,qak,qal,qam,hpd,hpd2,hps2,hgd,List.length_set,List.length_map])|(with_reducible first|apply And.intro|intro _)|(refine Try.pick_at hb (by omega) ?_;simp only[go_sem,seval,-List.reduceReplicate,Try.results11,ht9,qak,qal,qam,hpd,hpd2,hps2,hgd,List.length_set,List.length_map])|(refine qag (Try.c_l9Tile ⟨t.table,t.select,t.reg,_⟩ _ (by omega)) ?_;simp only[go_sem,seval,-List.reduceReplicate,Try.results11,ht9,qak,qal,qam,hpd,hpd2,hps2,hgd,List.length_set,List.length_map])|(refine qac ?_;simp only[go_sem,seval,-List.reduceReplicate,Try.results11,ht9,qak,qal,qam,hpd,hpd2,hps2,hgd,List.length_set,List.length_map])|exact lexT|((try rw[qaa]);omega)
     all_goals (
      rename_i x5 hx5
      have h5:=Try.c_l9Tile ⟨t.table,t.select,t.reg,t.drive.set x4.toNat x5⟩ i (by omega)
      refine qag h5 ?_
      simp only[go_sem,seval,-List.reduceReplicate,Try.results11,ht9,qak,qal,qam,hpd,hpd2,hps2,hgd,List.length_set,List.length_map]
      repeat' first|assumption|(simp (disch:=first|assumption|omega|(simp;done)|(simp;omega)) only[List.take_of_length_le,qay,qae,qaj,qad];try simp only[go_sem,seval,-List.reduceReplicate,Try.results11,ht9,qak,qal,qam,hpd,hpd2,hps2,hgd,List.length_set,List.length_map])|(with_reducible first|apply And.intro|intro _)|(refine Try.pick_at hb (by omega) ?_;simp only[go_sem,seval,-List.reduceReplicate,Try.results11,ht9,qak,qal,qam,hpd,hpd2,hps2,hgd,List.length_set,List.length_map])|(refine qac ?_;simp only[go_sem,seval,-List.reduceReplicate,Try.results11,ht9,qak,qal,qam,hpd,hpd2,hps2,hgd,List.length_set,List.length_map])|exact lexT|((try rw[qaa]);omega)
      all_goals exact qmV hT (by omega) ⟨hsl,by simp only[List.length_set];exact hdl⟩)
    ·simp only[go_sem,seval,-List.reduceReplicate,Try.results11]
     repeat' first|assumption|(simp (disch:=first|assumption|omega|(simp;done)|(simp;omega)) only[List.take_of_length_le,qay,qae,qaj,qad];try simp only[go_sem,seval,-List.reduceReplicate,Try.results11])|(with_reducible first|apply And.intro|intro _)|(refine qac ?_;simp only[go_sem,seval,-List.reduceReplicate,Try.results11])|exact lexT|((try rw[qaa]);omega)
     refine qau (E:=Try.env 1) Try.tok Try.follows 1000 1000 [12] (fsts [0,2,3,5,1,4,6,7,8,9,10,11] (.one 12 .done)) (by kernel_rfl) ?_
     simp only[go_sem,seval,-List.reduceReplicate,Try.results11,ht9,qak,qal,qam]
     repeat' first|assumption|(simp (disch:=first|assumption|omega|(simp;done)|(simp;omega)) only[List.take_of_length_le,qay,qae,qaj,qad];try simp only[go_sem,seval,-List.reduceReplicate,Try.results11,ht9,qak,qal,qam])|(with_reducible first|apply And.intro|intro _)|(refine Try.pick_at hb (by omega) ?_;simp only[go_sem,seval,-List.reduceReplicate,Try.results11,ht9,qak,qal,qam])|(refine qag (Try.c_l9Tile _ _ (by omega)) ?_;simp only[go_sem,seval,-List.reduceReplicate,Try.results11,ht9,qak,qal,qam])|(refine qac ?_;simp only[go_sem,seval,-List.reduceReplicate,Try.results11,ht9,qak,qal,qam])|exact lexT|((try rw[qaa]);omega)
     all_goals exact qg1 (qd7 hT hsl hdl) (by omega)
   ·have hj9:j=0:=by omega
    simp only[go_sem,seval,-List.reduceReplicate,Try.results11]
    repeat' first|assumption|(simp (disch:=first|assumption|omega|(simp;done)|(simp;omega)) only[List.take_of_length_le,qay,qae,qaj,qad];try simp only[go_sem,seval,-List.reduceReplicate,Try.results11])|(with_reducible first|apply And.intro|intro _)|(refine qac ?_;simp only[go_sem,seval,-List.reduceReplicate,Try.results11])|exact lexT|((try rw[qaa]);omega)
    refine Try.odd_at hb (by omega) (by omega) fun o qo hqo ho9=>?_
    simp only[go_sem,seval,-List.reduceReplicate,Try.results11]
    repeat' first|assumption|(simp (disch:=first|assumption|omega|(simp;done)|(simp;omega)) only[List.take_of_length_le,qay,qae,qaj,qad];try simp only[go_sem,seval,-List.reduceReplicate,Try.results11])|(with_reducible first|apply And.intro|intro _)|(refine qac ?_;simp only[go_sem,seval,-List.reduceReplicate,Try.results11])|exact lexT|((try rw[qaa]);omega)
    ·refine Try.pick_at hb (by omega) fun i hi=>?_
     simp only[go_sem,seval,-List.reduceReplicate,Try.results11]
     repeat' first|assumption|(simp (disch:=first|assumption|omega|(simp;done)|(simp;omega)) only[List.take_of_length_le,qay,qae,qaj,qad];try simp only[go_sem,seval,-List.reduceReplicate,Try.results11])|(with_reducible first|apply And.intro|intro _)|(refine qac ?_;simp only[go_sem,seval,-List.reduceReplicate,Try.results11])|exact lexT|((try rw[qaa]);omega)
     refine Try.pick_at hb (by omega) fun x3 hx3=>?_
     have hts:=hT.get (i:=i.toNat) (by omega)
     have hTl:=hT.1
     have hsl:(T.getD i.toNat tc0).select.length=3:=hts.1
     have hdl:(T.getD i.toNat tc0).drive.length=8:=hts.2
     generalize ht9:T.getD i.toNat tc0=t at *
     have hi25:i.toNat<25:=by omega
     obtain rfl|rfl|rfl|rfl|rfl|rfl:x3=0∨x3=1∨x3=2∨x3=3∨x3=4∨x3=5:=by omega
     ·simp only[go_sem,seval,-List.reduceReplicate,Try.results11]
      repeat' first|assumption|(simp (disch:=first|assumption|omega|(simp;done)|(simp;omega)) only[List.take_of_length_le,qay,qae,qaj,qad];try simp only[go_sem,seval,-List.reduceReplicate,Try.results11])|(with_reducible first|apply And.intro|intro _)|(refine qac ?_;simp only[go_sem,seval,-List.reduceReplicate,Try.results11])|exact lexT|((try rw[qaa]);omega)
      refine qb5 (r0:=.d (dK ⟨T.drop 1,k.pads⟩)) (H1:=[Try.rd b (qo+1+1)]) ?_ ⟨⟨T.drop 1,k.pads⟩,_,by omega,⟨by simp only[List.length_drop];omega,hpl,fun t ht=>by have:=hT.2 t (List.mem_of_mem_drop ht);exact⟨this.1,by have:=this.2;omega⟩,fun h=>by simp[ho9 h] at *⟩,rfl,rfl⟩
      simp only[go_sem,seval,-List.reduceReplicate]
      rw[List.take_of_length_le (by simp;omega),List.map_drop,List.take_of_length_le (by simp;omega)]
      exact⟨rfl,rfl⟩
     ·simp only[go_sem,seval,-List.reduceReplicate,Try.results11]
      repeat' first|assumption|(simp (disch:=first|assumption|omega|(simp;done)|(simp;omega)) only[List.take_of_length_le,qay,qae,qaj,qad];try simp only[go_sem,seval,-List.reduceReplicate,Try.results11])|(with_reducible first|apply And.intro|intro _)|(refine qac ?_;simp only[go_sem,seval,-List.reduceReplicate,Try.results11])|exact lexT|((try rw[qaa]);omega)
      refine qau (E:=Try.env 1) Try.tok Try.follows 1000 1000 [5,10] (fsts [0,2,4] (.three 1 (.two 3 (.one 5 (.fst 6 (.one 7 (fsts [8,9] (.one 10 .done))))) 5 (.one 3 (.fst 6 (.one 7 (fsts [8,9] (.one 10 .done)))))) 3 (.two 1 (.one 5 (.fst 6 (.one 7 (fsts [8,9] (.one 10 .done))))) 5 (.fst 6 (.two 1 (.one 7 (fsts [8,9] (.one 10 .done))) 7 (.one 1 (fsts [8,9] (.one 10 .done)))))) 5 (.two 1 (.one 3 (.fst 6 (.one 7 (fsts [8,9] (.one 10 .done))))) 3 (.fst 6 (.two 1 (.one 7 (fsts [8,9] (.one 10 .done))) 7 (.one 1 (fsts [8,9] (.one 10 .done)))))))) (by kernel_rfl) ?_
      simp only[go_sem,seval,-List.reduceReplicate,Try.results11,ht9,qak,qal,qam]
      repeat' first|assumption|(simp (disch:=first|assumption|omega|(simp;done)|(simp;omega)) only[List.take_of_length_le,qay,qae,qaj,qad];try simp only[go_sem,seval,-List.reduceReplicate,Try.results11,ht9,qak,qal,qam])|(with_reducible first|apply And.intro|intro _)|(refine Try.pick_at hb (by omega) ?_;simp only[go_sem,seval,-List.reduceReplicate,Try.results11,ht9,qak,qal,qam])|(refine qac ?_;simp only[go_sem,seval,-List.reduceReplicate,Try.results11,ht9,qak,qal,qam])|exact lexT|((try rw[qaa]);omega)
      all_goals (
       refine qfH ?_
       simp only[go_sem,seval,-List.reduceReplicate,Try.results11,ht9,List.length_set]
       first|exact Try.endC2 b (qd7 hT hsl hdl) ⟨_,hpl,rfl⟩ (by omega)|exact⟨by omega,Try.endC2 b (qd7 hT hsl hdl) ⟨_,hpl,rfl⟩ (by omega)⟩)
     ·simp only[go_sem,seval,-List.reduceReplicate,Try.results11]
      repeat' first|assumption|(simp (disch:=first|assumption|omega|(simp;done)|(simp;omega)) only[List.take_of_length_le,qay,qae,qaj,qad];try simp only[go_sem,seval,-List.reduceReplicate,Try.results11])|(with_reducible first|apply And.intro|intro _)|(refine qac ?_;simp only[go_sem,seval,-List.reduceReplicate,Try.results11])|exact lexT|((try rw[qaa]);omega)
      refine qau (E:=Try.env 1) Try.tok Try.follows 1000 1000 [8,12] (fsts [0,2,7] (.three 1 (fsts [3,4] (.three 5 (.two 6 (.one 8 (.fst 9 (.one 10 (.fst 11 (.one 12 .done))))) 8 (.one 6 (.fst 9 (.one 10 (.fst 11 (.one 12 .done)))))) 6 (.two 5 (.one 8 (.fst 9 (.one 10 (.fst 11 (.one 12 .done))))) 8 (.fst 9 (.two 5 (.one 10 (.fst 11 (.one 12 .done))) 10 (.one 5 (.fst 11 (.one 12 .done)))))) 8 (.two 5 (.one 6 (.fst 9 (.one 10 (.fst 11 (.one 12 .done))))) 6 (.fst 9 (.two 5 (.one 10 (.fst 11 (.one 12 .done))) 10 (.one 5 (.fst 11 (.one 12 .done)))))))) 6 (.two 1 (fsts [3,4] (.two 5 (.one 8 (.fst 9 (.one 10 (.fst 11 (.one 12 .done))))) 8 (.fst 9 (.two 5 (.one 10 (.fst 11 (.one 12 .done))) 10 (.one 5 (.fst 11 (.one 12 .done))))))) 8 (.fst 9 (.two 1 (fsts [3,4] (.two 5 (.one 10 (.fst 11 (.one 12 .done))) 10 (.one 5 (.fst 11 (.one 12 .done))))) 10 (.one 1 (fsts [3,4] (.one 5 (.fst 11 (.one 12 .done)))))))) 8 (.two 1 (fsts [3,4] (.two 5 (.one 6 (.fst 9 (.one 10 (.fst 11 (.one 12 .done))))) 6 (.fst 9 (.two 5 (.one 10 (.fst 11 (.one 12 .done))) 10 (.one 5 (.fst 11 (.one 12 .done))))))) 6 (.fst 9 (.two 1 (fsts [3,4] (.two 5 (.one 10 (.fst 11 (.one 12 .done))) 10 (.one 5 (.fst 11 (.one 12 .done))))) 10 (.one 1 (fsts [3,4] (.one 5 (.fst 11 (.one 12 .done)))))))))) (by kernel_rfl) ?_
      simp only[go_sem,seval,-List.reduceReplicate,Try.results11,ht9,qak,qal,qam]
      repeat' first|assumption|(simp (disch:=first|assumption|omega|(simp;done)|(simp;omega)) only[List.take_of_length_le,qay,qae,qaj,qad];try simp only[go_sem,seval,-List.reduceReplicate,Try.results11,ht9,qak,qal,qam])|(with_reducible first|apply And.intro|intro _)|(refine Try.pick_at hb (by omega) ?_;simp only[go_sem,seval,-List.reduceReplicate,Try.results11,ht9,qak,qal,qam])|(refine qac ?_;simp only[go_sem,seval,-List.reduceReplicate,Try.results11,ht9,qak,qal,qam])|exact lexT|((try rw[qaa]);omega)
      all_goals (
       refine qfH ?_
       simp only[go_sem,seval,-List.reduceReplicate,Try.results11,ht9,List.length_set]
       first|exact Try.endC2 b (qfs hT hi25 ht9 (by rw[List.length_set];exact hsl)) ⟨_,hpl,rfl⟩ (by omega)|exact⟨by omega,Try.endC2 b (qfs hT hi25 ht9 (by simp only[List.length_take,List.length_set];omega)) ⟨_,hpl,rfl⟩ (by omega)⟩)
     ·simp only[go_sem,seval,-List.reduceReplicate,Try.results11]
      repeat' first|assumption|(simp (disch:=first|assumption|omega|(simp;done)|(simp;omega)) only[List.take_of_length_le,qay,qae,qaj,qad];try simp only[go_sem,seval,-List.reduceReplicate,Try.results11])|(with_reducible first|apply And.intro|intro _)|(refine qac ?_;simp only[go_sem,seval,-List.reduceReplicate,Try.results11])|exact lexT|((try rw[qaa]);omega)
      refine qau (E:=Try.env 1) Try.tok Try.follows 1000 1000 [8,12] (fsts [0,2,7] (.three 1 (fsts [3,4] (.three 5 (.two 6 (.one 8 (.fst 9 (.one 10 (.fst 11 (.one 12 .done))))) 8 (.one 6 (.fst 9 (.one 10 (.fst 11 (.one 12 .done)))))) 6 (.two 5 (.one 8 (.fst 9 (.one 10 (.fst 11 (.one 12 .done))))) 8 (.fst 9 (.two 5 (.one 10 (.fst 11 (.one 12 .done))) 10 (.one 5 (.fst 11 (.one 12 .done)))))) 8 (.two 5 (.one 6 (.fst 9 (.one 10 (.fst 11 (.one 12 .done))))) 6 (.fst 9 (.two 5 (.one 10 (.fst 11 (.one 12 .done))) 10 (.one 5 (.fst 11 (.one 12 .done)))))))) 6 (.two 1 (fsts [3,4] (.two 5 (.one 8 (.fst 9 (.one 10 (.fst 11 (.one 12 .done))))) 8 (.fst 9 (.two 5 (.one 10 (.fst 11 (.one 12 .done))) 10 (.one 5 (.fst 11 (.one 12 .done))))))) 8 (.fst 9 (.two 1 (fsts [3,4] (.two 5 (.one 10 (.fst 11 (.one 12 .done))) 10 (.one 5 (.fst 11 (.one 12 .done))))) 10 (.one 1 (fsts [3,4] (.one 5 (.fst 11 (.one 12 .done)))))))) 8 (.two 1 (fsts [3,4] (.two 5 (.one 6 (.fst 9 (.one 10 (.fst 11 (.one 12 .done))))) 6 (.fst 9 (.two 5 (.one 10 (.fst 11 (.one 12 .done))) 10 (.one 5 (.fst 11 (.one 12 .done))))))) 6 (.fst 9 (.two 1 (fsts [3,4] (.two 5 (.one 10 (.fst 11 (.one 12 .done))) 10 (.one 5 (.fst 11 (.one 12 .done))))) 10 (.one 1 (fsts [3,4] (.one 5 (.fst 11 (.one 12 .done)))))))))) (by kernel_rfl) ?_
      simp only[go_sem,seval,-List.reduceReplicate,Try.results11,ht9,qak,qal,qam]
      repeat' first|assumption|(simp (disch:=first|assumption|omega|(simp;done)|(simp;omega)) only[List.take_of_length_le,qay,qae,qaj,qad];try simp only[go_sem,seval,-List.reduceReplicate,Try.results11,ht9,qak,qal,qam])|(with_reducible first|apply And.intro|intro _)|(refine Try.pick_at hb (by omega) ?_;simp only[go_sem,seval,-List.reduceReplicate,Try.results11,ht9,qak,qal,qam])|(refine qac ?_;simp only[go_sem,seval,-List.reduceReplicate,Try.results11,ht9,qak,qal,qam])|exact lexT|((try rw[qaa]);omega)
      all_goals (
       refine qfH ?_
       simp only[go_sem,seval,-List.reduceReplicate,Try.results11,ht9,List.length_set]
       first|exact Try.endC2 b (qd6 hT hi25 ht9 (by rw[List.length_set];exact hdl)) ⟨_,hpl,rfl⟩ (by omega)|exact⟨by omega,Try.endC2 b (qd6 hT hi25 ht9 (by simp only[List.length_take,List.length_set];omega)) ⟨_,hpl,rfl⟩ (by omega)⟩)
     ·simp only[go_sem,seval,-List.reduceReplicate,Try.results11]
      repeat' first|assumption|(simp (disch:=first|assumption|omega|(simp;done)|(simp;omega)) only[List.take_of_length_le,qay,qae,qaj,qad];try simp only[go_sem,seval,-List.reduceReplicate,Try.results11])|(with_reducible first|apply And.intro|intro _)|(refine qac ?_;simp only[go_sem,seval,-List.reduceReplicate,Try.results11])|exact lexT|((try rw[qaa]);omega)
      exact Try.endC2 b ⟨_,hT,rfl⟩ ⟨k.pads.set 0 (8,(k.pads.getD 0 (0,false)).2),by rw[List.length_set];exact hpl,by rw[List.map_set]⟩ (by omega)
     ·have h7:=hT.get (i:=7) (by omega)
      have hsl7:(T.getD 7 tc0).select.length=3:=h7.1
      have hdl7:(T.getD 7 tc0).drive.length=8:=h7.2
      generalize ht7:T.getD 7 tc0=t7 at *
      simp only[go_sem,seval,-List.reduceReplicate,Try.results11,ht7,hTl]
      repeat' first|assumption|(simp (disch:=first|assumption|omega|(simp;done)|(simp;omega)) only[List.take_of_length_le,qay,qae,qaj,qad];try simp only[go_sem,seval,-List.reduceReplicate,Try.results11,ht7,hTl])|(with_reducible first|apply And.intro|intro _)|(refine qac ?_;simp only[go_sem,seval,-List.reduceReplicate,Try.results11,ht7,hTl])|exact lexT|((try rw[qaa]);omega)
      all_goals (
       refine qfH ?_
       simp only[go_sem,seval,-List.reduceReplicate,Try.results11,ht9,List.length_set]
       first|exact Try.endC2 b (qd6 hT (by omega) ht7 (by rw[List.length_set];exact hdl7)) ⟨_,hpl,rfl⟩ (by omega)|exact⟨by omega,Try.endC2 b (qd6 hT (by omega) ht7 (by simp only[List.length_take,List.length_set];omega)) ⟨_,hpl,rfl⟩ (by omega)⟩)
    ·exact Try.endC2 b ⟨_,hT,rfl⟩ ⟨_,hpl,rfl⟩ (by omega)
 | none=>
  rw[ho] at hcf
  refine qcm hcf ?_
  simp only[go_sem,seval,-List.reduceReplicate,Try.results11]
  repeat' first|assumption|(simp (disch:=first|assumption|omega|(simp;done)|(simp;omega)) only[List.take_of_length_le,qay,qae,qaj,qad];try simp only[go_sem,seval,-List.reduceReplicate,Try.results11])|(with_reducible first|apply And.intro|intro _)|(refine qcm hem ?_;simp only[go_sem,seval,-List.reduceReplicate,Try.results11])|(refine qac ?_;simp only[go_sem,seval,-List.reduceReplicate,Try.results11])|exact lexT|((try rw[qaa]);omega)
  have hsz:=Tsz.empty
  have hpl:(List.replicate 3 ((15:Int),false)).length=3:=rfl
  generalize List.replicate 25 qcd=T9 at *
  generalize List.replicate 3 ((15:Int),false)=P9 at *
  refine Try.pick_at hb (by omega) fun x1 hx1=>?_
  simp only[go_sem,seval,-List.reduceReplicate,Try.results11]
  repeat' first|assumption|(simp (disch:=first|assumption|omega|(simp;done)|(simp;omega)) only[List.take_of_length_le,qay,qae,qaj,qad];try simp only[go_sem,seval,-List.reduceReplicate,Try.results11])|(with_reducible first|apply And.intro|intro _)|(refine qac ?_;simp only[go_sem,seval,-List.reduceReplicate,Try.results11])|exact lexT|((try rw[qaa]);omega)
  refine qas (E:=Try.env 1) Try.tok (σ:=List Tcfg×Int×Int) (fun s=>[(0,.ptr 0 0),(1,.d (dI n)),(4,.ptr 1 0),(5,.ptr 4 0),(7,.d (dI s.2.1))])
   (fun s=>[Try.rd b s.2.2,.box [.d .nil,.d .nil],.dead 0,.dead 0,.box [.sl 5 0 4 0 25,.sl 6 0 2 0 3],.row 0 4 true (s.1.map fun x=>dTc x),.row 0 2 true (P9.map fun x=>dQ x)]) (fun s=>Tsz s.1∧0≤s.2.1∧s.2.1≤12∧q1≤s.2.2∧s.2.2≤q1+100-6*s.2.1) (fun s=>s.2.1.toNat) [] [] 1000 1000 ?_ ?_
  ·simp only[go_sem,seval,-List.reduceReplicate]
   exact⟨(T9,x1,q1+1),⟨hsz,by simp only;omega,by simp only;omega,by simp only;omega,by simp only;omega⟩,by simp⟩
  ·rintro⟨T,j,q⟩ ⟨hT,hj0,hj1,hq0,hq2⟩
   simp only at hT hj0 hj1 hq0 hq2
   by_cases hlt:0<j
   ·simp only[go_sem,seval,-List.reduceReplicate,Try.results11]
    repeat' first|assumption|(simp (disch:=first|assumption|omega|(simp;done)|(simp;omega)) only[List.take_of_length_le,qay,qae,qaj,qad];try simp only[go_sem,seval,-List.reduceReplicate,Try.results11])|(with_reducible first|apply And.intro|intro _)|(refine qac ?_;simp only[go_sem,seval,-List.reduceReplicate,Try.results11])|exact lexT|((try rw[qaa]);omega)
    refine Try.pick_at hb (by omega) fun i hi=>?_
    simp only[go_sem,seval,-List.reduceReplicate,Try.results11]
    repeat' first|assumption|(simp (disch:=first|assumption|omega|(simp;done)|(simp;omega)) only[List.take_of_length_le,qay,qae,qaj,qad];try simp only[go_sem,seval,-List.reduceReplicate,Try.results11])|(with_reducible first|apply And.intro|intro _)|(refine qac ?_;simp only[go_sem,seval,-List.reduceReplicate,Try.results11])|exact lexT|((try rw[qaa]);omega)
    refine Try.pick_at hb (by omega) fun x3 hx3=>?_
    have hts:=hT.get (i:=i.toNat) (by omega)
    have hTl:=hT.1
    have hsl:(T.getD i.toNat tc0).select.length=3:=hts.1
    have hdl:(T.getD i.toNat tc0).drive.length=8:=hts.2
    generalize ht9:T.getD i.toNat tc0=t at *
    have hi25:i.toNat<25:=by omega
    obtain rfl|rfl|rfl|rfl:x3=0∨x3=1∨x3=2∨x3=3:=by omega
    ·simp only[go_sem,seval,-List.reduceReplicate,Try.results11]
     repeat' first|assumption|(simp (disch:=first|assumption|omega|(simp;done)|(simp;omega)) only[List.take_of_length_le,qay,qae,qaj,qad];try simp only[go_sem,seval,-List.reduceReplicate,Try.results11])|(with_reducible first|apply And.intro|intro _)|(refine qac ?_;simp only[go_sem,seval,-List.reduceReplicate,Try.results11])|exact lexT|((try rw[qaa]);omega)
     refine qau (E:=Try.env 1) Try.tok Try.follows 1000 1000 [4,7] (fsts [0,2,3] (.two 1 (.one 4 (fsts [5,6] (.one 7 .done))) 4 (.one 1 (fsts [5,6] (.one 7 .done))))) (by kernel_rfl) ?_
     simp only[go_sem,seval,-List.reduceReplicate,Try.results11,ht9,qak,qal,qam]
     repeat' first|assumption|(simp (disch:=first|assumption|omega|(simp;done)|(simp;omega)) only[List.take_of_length_le,qay,qae,qaj,qad];try simp only[go_sem,seval,-List.reduceReplicate,Try.results11,ht9,qak,qal,qam])|(with_reducible first|apply And.intro|intro _)|(refine Try.pick_at hb (by omega) ?_;simp only[go_sem,seval,-List.reduceReplicate,Try.results11,ht9,qak,qal,qam])|(refine qag (Try.c_l9Tile _ _ (by omega)) ?_;simp only[go_sem,seval,-List.reduceReplicate,Try.results11,ht9,qak,qal,qam])|(refine qac ?_;simp only[go_sem,seval,-List.reduceReplicate,Try.results11,ht9,qak,qal,qam])|exact lexT|((try rw[qaa]);omega)
     all_goals exact qg1 (qd7 hT hsl hdl) (by omega)
    ·simp only[go_sem,seval,-List.reduceReplicate,Try.results11]
     repeat' first|assumption|(simp (disch:=first|assumption|omega|(simp;done)|(simp;omega)) only[List.take_of_length_le,qay,qae,qaj,qad];try simp only[go_sem,seval,-List.reduceReplicate,Try.results11])|(with_reducible first|apply And.intro|intro _)|(refine qac ?_;simp only[go_sem,seval,-List.reduceReplicate,Try.results11])|exact lexT|((try rw[qaa]);omega)
     refine qau (E:=Try.env 1) Try.tok Try.follows 1000 1000 [7,9,12,16] (fsts [0,2,6,8,11] (.two 1 (fsts [3,4] (.two 5 (.one 7 (.one 9 (.two 10 (.one 12 (.fst 13 (.one 14 (.fst 15 (.one 16 .done))))) 12 (.one 10 (.fst 13 (.one 14 (.fst 15 (.one 16 .done)))))))) 7 (.two 5 (.one 9 (.two 10 (.one 12 (.fst 13 (.one 14 (.fst 15 (.one 16 .done))))) 12 (.one 10 (.fst 13 (.one 14 (.fst 15 (.one 16 .done))))))) 9 (.three 5 (.two 10 (.one 12 (.fst 13 (.one 14 (.fst 15 (.one 16 .done))))) 12 (.one 10 (.fst 13 (.one 14 (.fst 15 (.one 16 .done)))))) 10 (.two 5 (.one 12 (.fst 13 (.one 14 (.fst 15 (.one 16 .done))))) 12 (.fst 13 (.two 5 (.one 14 (.fst 15 (.one 16 .done))) 14 (.one 5 (.fst 15 (.one 16 .done)))))) 12 (.two 5 (.one 10 (.fst 13 (.one 14 (.fst 15 (.one 16 .done))))) 10 (.fst 13 (.two 5 (.one 14 (.fst 15 (.one 16 .done))) 14 (.one 5 (.fst 15 (.one 16 .done)))))))))) 7 (.two 1 (fsts [3,4] (.two 5 (.one 9 (.two 10 (.one 12 (.fst 13 (.one 14 (.fst 15 (.one 16 .done))))) 12 (.one 10 (.fst 13 (.one 14 (.fst 15 (.one 16 .done))))))) 9 (.three 5 (.two 10 (.one 12 (.fst 13 (.one 14 (.fst 15 (.one 16 .done))))) 12 (.one 10 (.fst 13 (.one 14 (.fst 15 (.one 16 .done)))))) 10 (.two 5 (.one 12 (.fst 13 (.one 14 (.fst 15 (.one 16 .done))))) 12 (.fst 13 (.two 5 (.one 14 (.fst 15 (.one 16 .done))) 14 (.one 5 (.fst 15 (.one 16 .done)))))) 12 (.two 5 (.one 10 (.fst 13 (.one 14 (.fst 15 (.one 16 .done))))) 10 (.fst 13 (.two 5 (.one 14 (.fst 15 (.one 16 .done))) 14 (.one 5 (.fst 15 (.one 16 .done))))))))) 9 (.three 1 (fsts [3,4] (.three 5 (.two 10 (.one 12 (.fst 13 (.one 14 (.fst 15 (.one 16 .done))))) 12 (.one 10 (.fst 13 (.one 14 (.fst 15 (.one 16 .done)))))) 10 (.two 5 (.one 12 (.fst 13 (.one 14 (.fst 15 (.one 16 .done))))) 12 (.fst 13 (.two 5 (.one 14 (.fst 15 (.one 16 .done))) 14 (.one 5 (.fst 15 (.one 16 .done)))))) 12 (.two 5 (.one 10 (.fst 13 (.one 14 (.fst 15 (.one 16 .done))))) 10 (.fst 13 (.two 5 (.one 14 (.fst 15 (.one 16 .done))) 14 (.one 5 (.fst 15 (.one 16 .done)))))))) 10 (.two 1 (fsts [3,4] (.two 5 (.one 12 (.fst 13 (.one 14 (.fst 15 (.one 16 .done))))) 12 (.fst 13 (.two 5 (.one 14 (.fst 15 (.one 16 .done))) 14 (.one 5 (.fst 15 (.one 16 .done))))))) 12 (.fst 13 (.two 1 (fsts [3,4] (.two 5 (.one 14 (.fst 15 (.one 16 .done))) 14 (.one 5 (.fst 15 (.one 16 .done))))) 14 (.one 1 (fsts [3,4] (.one 5 (.fst 15 (.one 16 .done)))))))) 12 (.two 1 (fsts [3,4] (.two 5 (.one 10 (.fst 13 (.one 14 (.fst 15 (.one 16 .done))))) 10 (.fst 13 (.two 5 (.one 14 (.fst 15 (.one 16 .done))) 14 (.one 5 (.fst 15 (.one 16 .done))))))) 10 (.fst 13 (.two 1 (fsts [3,4] (.two 5 (.one 14 (.fst 15 (.one 16 .done))) 14 (.one 5 (.fst 15 (.one 16 .done))))) 14 (.one 1 (fsts [3,4] (.one 5 (.fst 15 (.one 16 .done)))))))))))) (by kernel_rfl) ?_
     simp only[go_sem,seval,-List.reduceReplicate,Try.results11,ht9,qak,qal,qam]
     repeat' first|assumption|(simp (disch:=first|assumption|omega|(simp;done)|(simp;omega)) only[List.take_of_length_le,qay,qae,qaj,qad];try simp only[go_sem,seval,-List.reduceReplicate,Try.results11,ht9,qak,qal,qam])|(with_reducible first|apply And.intro|intro _)|(refine Try.pick_at hb (by omega) ?_;simp only[go_sem,seval,-List.reduceReplicate,Try.results11,ht9,qak,qal,qam])|(refine qag (Try.c_l9Tile _ _ (by omega)) ?_;simp only[go_sem,seval,-List.reduceReplicate,Try.results11,ht9,qak,qal,qam])|(refine qac ?_;simp only[go_sem,seval,-List.reduceReplicate,Try.results11,ht9,qak,qal,qam])|exact lexT|((try rw[qaa]);omega)
     all_goals exact qg1 (qfs hT hi25 ht9 (by rw[List.length_set];exact hsl)) (by omega)
    ·simp only[go_sem,seval,-List.reduceReplicate,Try.results11]
     repeat' first|assumption|(simp (disch:=first|assumption|omega|(simp;done)|(simp;omega)) only[List.take_of_length_le,qay,qae,qaj,qad];try simp only[go_sem,seval,-List.reduceReplicate,Try.results11])|(with_reducible first|apply And.intro|intro _)|(refine qac ?_;simp only[go_sem,seval,-List.reduceReplicate,Try.results11])|exact lexT|((try rw[qaa]);omega)
     have hpd:=qj2 hTl hi25 ht9
     have hpd2:=qkL hTl hi25
     have hps2:=qkM hTl hi25
     have hgd:=qf8 hTl hi25
     refine Try.pick_at hb (by omega) fun x4 hx4=>?_
     simp only[go_sem,seval,-List.reduceReplicate,Try.results11,ht9,qak,qal,qam,hpd,hpd2,hps2,hgd,List.length_set,List.length_map]
     repeat' first|assumption|(simp (disch:=first|assumption|omega|(simp;done)|(simp;omega)) only[List.take_of_length_le,qay,qae,qaj,qad];try simp only[go_sem,seval,-List.reduceReplicate,Try.results11,ht9,qak,qal,qam,hpd,hpd2,hps2,hgd,List.length_set,List.length_map])|(with_reducible first|apply And.intro|intro _)|(refine Try.pick_at hb (by omega) ?_;simp only[go_sem,seval,-List.reduceReplicate,Try.results11,ht9,qak,qal,qam,hpd,hpd2,hps2,hgd,List.length_set,List.length_map])|(refine qag (Try.c_l9Tile ⟨t.table,t.select,t.reg,_⟩ _ (by omega)) ?_;simp only[go_sem,seval,-List.reduceReplicate,Try.results11,ht9,qak,qal,qam,hpd,hpd2,hps2,hgd,List.length_set,List.length_map])|(refine qac ?_;simp only[go_sem,seval,-List.reduceReplicate,Try.results11,ht9,qak,qal,qam,hpd,hpd2,hps2,hgd,List.length_set,List.length_map])|exact lexT|((try rw[qaa]);omega)
     refine qau (E:=Try.env 1) Try.tok Try.follows 1000 1000 [8,10] (fsts [0,2,6,7] (.two 1 (fsts [3,4] (.two 5 (.one 8 (.fst 9 (.one 10 .done))) 8 (.one 5 (.fst 9 (.one 10 .done))))) 8 (.one 1 (fsts [3,4] (.one 5 (.fst 9 (.one 10 .done))))))) (by kernel_rfl) ?_
     simp only[go_sem,seval,-List.reduceReplicate,Try.results11,ht9,qak,qal,qam,hpd,hpd2,hps2,hgd,List.length_set,List.length_map]
     repeat' first|assumption|(simp (disch:=first|assumption|omega|(simp;done)|(simp;omega)) only[List.take_of_length_le,qay,qae,qaj,qad];try simp only[go_sem,seval,-List.reduceReplicate,Try.results11,ht9,qak,qal,qam,hpd,hpd2,hps2,hgd,List.length_set,List.length_map])|(with_reducible first|apply And.intro|intro _)|(refine Try.pick_at hb (by omega) ?_;simp only[go_sem,seval,-List.reduceReplicate,Try.results11,ht9,qak,qal,qam,hpd,hpd2,hps2,hgd,List.length_set,List.length_map])|(refine qag (Try.c_l9Tile ⟨t.table,t.select,t.reg,_⟩ _ (by omega)) ?_;simp only[go_sem,seval,-List.reduceReplicate,Try.results11,ht9,qak,qal,qam,hpd,hpd2,hps2,hgd,List.length_set,List.length_map])|(refine qac ?_;simp only[go_sem,seval,-List.reduceReplicate,Try.results11,ht9,qak,qal,qam,hpd,hpd2,hps2,hgd,List.length_set,List.length_map])|exact lexT|((try rw[qaa]);omega)
     all_goals (
      rename_i x5 hx5
      have h5:=Try.c_l9Tile ⟨t.table,t.select,t.reg,t.drive.set x4.toNat x5⟩ i (by omega)
      refine qag h5 ?_
      simp only[go_sem,seval,-List.reduceReplicate,Try.results11,ht9,qak,qal,qam,hpd,hpd2,hps2,hgd,List.length_set,List.length_map]
      repeat' first|assumption|(simp (disch:=first|assumption|omega|(simp;done)|(simp;omega)) only[List.take_of_length_le,qay,qae,qaj,qad];try simp only[go_sem,seval,-List.reduceReplicate,Try.results11,ht9,qak,qal,qam,hpd,hpd2,hps2,hgd,List.length_set,List.length_map])|(with_reducible first|apply And.intro|intro _)|(refine Try.pick_at hb (by omega) ?_;simp only[go_sem,seval,-List.reduceReplicate,Try.results11,ht9,qak,qal,qam,hpd,hpd2,hps2,hgd,List.length_set,List.length_map])|(refine qac ?_;simp only[go_sem,seval,-List.reduceReplicate,Try.results11,ht9,qak,qal,qam,hpd,hpd2,hps2,hgd,List.length_set,List.length_map])|exact lexT|((try rw[qaa]);omega)
      all_goals exact qmV hT (by omega) ⟨hsl,by simp only[List.length_set];exact hdl⟩)
    ·simp only[go_sem,seval,-List.reduceReplicate,Try.results11]
     repeat' first|assumption|(simp (disch:=first|assumption|omega|(simp;done)|(simp;omega)) only[List.take_of_length_le,qay,qae,qaj,qad];try simp only[go_sem,seval,-List.reduceReplicate,Try.results11])|(with_reducible first|apply And.intro|intro _)|(refine qac ?_;simp only[go_sem,seval,-List.reduceReplicate,Try.results11])|exact lexT|((try rw[qaa]);omega)
     refine qau (E:=Try.env 1) Try.tok Try.follows 1000 1000 [12] (fsts [0,2,3,5,1,4,6,7,8,9,10,11] (.one 12 .done)) (by kernel_rfl) ?_
     simp only[go_sem,seval,-List.reduceReplicate,Try.results11,ht9,qak,qal,qam]
     repeat' first|assumption|(simp (disch:=first|assumption|omega|(simp;done)|(simp;omega)) only[List.take_of_length_le,qay,qae,qaj,qad];try simp only[go_sem,seval,-List.reduceReplicate,Try.results11,ht9,qak,qal,qam])|(with_reducible first|apply And.intro|intro _)|(refine Try.pick_at hb (by omega) ?_;simp only[go_sem,seval,-List.reduceReplicate,Try.results11,ht9,qak,qal,qam])|(refine qag (Try.c_l9Tile _ _ (by omega)) ?_;simp only[go_sem,seval,-List.reduceReplicate,Try.results11,ht9,qak,qal,qam])|(refine qac ?_;simp only[go_sem,seval,-List.reduceReplicate,Try.results11,ht9,qak,qal,qam])|exact lexT|((try rw[qaa]);omega)
     all_goals exact qg1 (qd7 hT hsl hdl) (by omega)
   ·have hj9:j=0:=by omega
    simp only[go_sem,seval,-List.reduceReplicate,Try.results11]
    repeat' first|assumption|(simp (disch:=first|assumption|omega|(simp;done)|(simp;omega)) only[List.take_of_length_le,qay,qae,qaj,qad];try simp only[go_sem,seval,-List.reduceReplicate,Try.results11])|(with_reducible first|apply And.intro|intro _)|(refine qac ?_;simp only[go_sem,seval,-List.reduceReplicate,Try.results11])|exact lexT|((try rw[qaa]);omega)
    refine Try.odd_at hb (by omega) (by omega) fun o qo hqo ho9=>?_
    simp only[go_sem,seval,-List.reduceReplicate,Try.results11]
    repeat' first|assumption|(simp (disch:=first|assumption|omega|(simp;done)|(simp;omega)) only[List.take_of_length_le,qay,qae,qaj,qad];try simp only[go_sem,seval,-List.reduceReplicate,Try.results11])|(with_reducible first|apply And.intro|intro _)|(refine qac ?_;simp only[go_sem,seval,-List.reduceReplicate,Try.results11])|exact lexT|((try rw[qaa]);omega)
    ·refine Try.pick_at hb (by omega) fun i hi=>?_
     simp only[go_sem,seval,-List.reduceReplicate,Try.results11]
     repeat' first|assumption|(simp (disch:=first|assumption|omega|(simp;done)|(simp;omega)) only[List.take_of_length_le,qay,qae,qaj,qad];try simp only[go_sem,seval,-List.reduceReplicate,Try.results11])|(with_reducible first|apply And.intro|intro _)|(refine qac ?_;simp only[go_sem,seval,-List.reduceReplicate,Try.results11])|exact lexT|((try rw[qaa]);omega)
     refine Try.pick_at hb (by omega) fun x3 hx3=>?_
     have hts:=hT.get (i:=i.toNat) (by omega)
     have hTl:=hT.1
     have hsl:(T.getD i.toNat tc0).select.length=3:=hts.1
     have hdl:(T.getD i.toNat tc0).drive.length=8:=hts.2
     generalize ht9:T.getD i.toNat tc0=t at *
     have hi25:i.toNat<25:=by omega
     obtain rfl|rfl|rfl|rfl|rfl|rfl:x3=0∨x3=1∨x3=2∨x3=3∨x3=4∨x3=5:=by omega
     ·simp only[go_sem,seval,-List.reduceReplicate,Try.results11]
      repeat' first|assumption|(simp (disch:=first|assumption|omega|(simp;done)|(simp;omega)) only[List.take_of_length_le,qay,qae,qaj,qad];try simp only[go_sem,seval,-List.reduceReplicate,Try.results11])|(with_reducible first|apply And.intro|intro _)|(refine qac ?_;simp only[go_sem,seval,-List.reduceReplicate,Try.results11])|exact lexT|((try rw[qaa]);omega)
      refine qb5 (r0:=.d (dK ⟨T.drop 1,P9⟩)) (H1:=[Try.rd b (qo+1+1)]) ?_ ⟨⟨T.drop 1,P9⟩,_,by omega,⟨by simp only[List.length_drop];omega,hpl,fun t ht=>by have:=hT.2 t (List.mem_of_mem_drop ht);exact⟨this.1,by have:=this.2;omega⟩,fun h=>by simp[ho9 h] at *⟩,rfl,rfl⟩
      simp only[go_sem,seval,-List.reduceReplicate]
      rw[List.take_of_length_le (by simp;omega),List.map_drop,List.take_of_length_le (by simp;omega)]
      exact⟨rfl,rfl⟩
     ·simp only[go_sem,seval,-List.reduceReplicate,Try.results11]
      repeat' first|assumption|(simp (disch:=first|assumption|omega|(simp;done)|(simp;omega)) only[List.take_of_length_le,qay,qae,qaj,qad];try simp only[go_sem,seval,-List.reduceReplicate,Try.results11])|(with_reducible first|apply And.intro|intro _)|(refine qac ?_;simp only[go_sem,seval,-List.reduceReplicate,Try.results11])|exact lexT|((try rw[qaa]);omega)
      refine qau (E:=Try.env 1) Try.tok Try.follows 1000 1000 [5,10] (fsts [0,2,4] (.three 1 (.two 3 (.one 5 (.fst 6 (.one 7 (fsts [8,9] (.one 10 .done))))) 5 (.one 3 (.fst 6 (.one 7 (fsts [8,9] (.one 10 .done)))))) 3 (.two 1 (.one 5 (.fst 6 (.one 7 (fsts [8,9] (.one 10 .done))))) 5 (.fst 6 (.two 1 (.one 7 (fsts [8,9] (.one 10 .done))) 7 (.one 1 (fsts [8,9] (.one 10 .done)))))) 5 (.two 1 (.one 3 (.fst 6 (.one 7 (fsts [8,9] (.one 10 .done))))) 3 (.fst 6 (.two 1 (.one 7 (fsts [8,9] (.one 10 .done))) 7 (.one 1 (fsts [8,9] (.one 10 .done)))))))) (by kernel_rfl) ?_
      simp only[go_sem,seval,-List.reduceReplicate,Try.results11,ht9,qak,qal,qam]
      repeat' first|assumption|(simp (disch:=first|assumption|omega|(simp;done)|(simp;omega)) only[List.take_of_length_le,qay,qae,qaj,qad];try simp only[go_sem,seval,-List.reduceReplicate,Try.results11,ht9,qak,qal,qam])|(with_reducible first|apply And.intro|intro _)|(refine Try.pick_at hb (by omega) ?_;simp only[go_sem,seval,-List.reduceReplicate,Try.results11,ht9,qak,qal,qam])|(refine qac ?_;simp only[go_sem,seval,-List.reduceReplicate,Try.results11,ht9,qak,qal,qam])|exact lexT|((try rw[qaa]);omega)
      all_goals (
       refine qfH ?_
       simp only[go_sem,seval,-List.reduceReplicate,Try.results11,ht9,List.length_set]
       first|exact Try.endC5 b (qd7 hT hsl hdl) ⟨_,hpl,rfl⟩ (by omega)|exact⟨by omega,Try.endC5 b (qd7 hT hsl hdl) ⟨_,hpl,rfl⟩ (by omega)⟩)
     ·simp only[go_sem,seval,-List.reduceReplicate,Try.results11]
      repeat' first|assumption|(simp (disch:=first|assumption|omega|(simp;done)|(simp;omega)) only[List.take_of_length_le,qay,qae,qaj,qad];try simp only[go_sem,seval,-List.reduceReplicate,Try.results11])|(with_reducible first|apply And.intro|intro _)|(refine qac ?_;simp only[go_sem,seval,-List.reduceReplicate,Try.results11])|exact lexT|((try rw[qaa]);omega)
      refine qau (E:=Try.env 1) Try.tok Try.follows 1000 1000 [8,12] (fsts [0,2,7] (.three 1 (fsts [3,4] (.three 5 (.two 6 (.one 8 (.fst 9 (.one 10 (.fst 11 (.one 12 .done))))) 8 (.one 6 (.fst 9 (.one 10 (.fst 11 (.one 12 .done)))))) 6 (.two 5 (.one 8 (.fst 9 (.one 10 (.fst 11 (.one 12 .done))))) 8 (.fst 9 (.two 5 (.one 10 (.fst 11 (.one 12 .done))) 10 (.one 5 (.fst 11 (.one 12 .done)))))) 8 (.two 5 (.one 6 (.fst 9 (.one 10 (.fst 11 (.one 12 .done))))) 6 (.fst 9 (.two 5 (.one 10 (.fst 11 (.one 12 .done))) 10 (.one 5 (.fst 11 (.one 12 .done)))))))) 6 (.two 1 (fsts [3,4] (.two 5 (.one 8 (.fst 9 (.one 10 (.fst 11 (.one 12 .done))))) 8 (.fst 9 (.two 5 (.one 10 (.fst 11 (.one 12 .done))) 10 (.one 5 (.fst 11 (.one 12 .done))))))) 8 (.fst 9 (.two 1 (fsts [3,4] (.two 5 (.one 10 (.fst 11 (.one 12 .done))) 10 (.one 5 (.fst 11 (.one 12 .done))))) 10 (.one 1 (fsts [3,4] (.one 5 (.fst 11 (.one 12 .done)))))))) 8 (.two 1 (fsts [3,4] (.two 5 (.one 6 (.fst 9 (.one 10 (.fst 11 (.one 12 .done))))) 6 (.fst 9 (.two 5 (.one 10 (.fst 11 (.one 12 .done))) 10 (.one 5 (.fst 11 (.one 12 .done))))))) 6 (.fst 9 (.two 1 (fsts [3,4] (.two 5 (.one 10 (.fst 11 (.one 12 .done))) 10 (.one 5 (.fst 11 (.one 12 .done))))) 10 (.one 1 (fsts [3,4] (.one 5 (.fst 11 (.one 12 .done)))))))))) (by kernel_rfl) ?_
      simp only[go_sem,seval,-List.reduceReplicate,Try.results11,ht9,qak,qal,qam]
      repeat' first|assumption|(simp (disch:=first|assumption|omega|(simp;done)|(simp;omega)) only[List.take_of_length_le,qay,qae,qaj,qad];try simp only[go_sem,seval,-List.reduceReplicate,Try.results11,ht9,qak,qal,qam])|(with_reducible first|apply And.intro|intro _)|(refine Try.pick_at hb (by omega) ?_;simp only[go_sem,seval,-List.reduceReplicate,Try.results11,ht9,qak,qal,qam])|(refine qac ?_;simp only[go_sem,seval,-List.reduceReplicate,Try.results11,ht9,qak,qal,qam])|exact lexT|((try rw[qaa]);omega)
      all_goals (
       refine qfH ?_
       simp only[go_sem,seval,-List.reduceReplicate,Try.results11,ht9,List.length_set]
       first|exact Try.endC5 b (qfs hT hi25 ht9 (by rw[List.length_set];exact hsl)) ⟨_,hpl,rfl⟩ (by omega)|exact⟨by omega,Try.endC5 b (qfs hT hi25 ht9 (by simp only[List.length_take,List.length_set];omega)) ⟨_,hpl,rfl⟩ (by omega)⟩)
     ·simp only[go_sem,seval,-List.reduceReplicate,Try.results11]
      repeat' first|assumption|(simp (disch:=first|assumption|omega|(simp;done)|(simp;omega)) only[List.take_of_length_le,qay,qae,qaj,qad];try simp only[go_sem,seval,-List.reduceReplicate,Try.results11])|(with_reducible first|apply And.intro|intro _)|(refine qac ?_;simp only[go_sem,seval,-List.reduceReplicate,Try.results11])|exact lexT|((try rw[qaa]);omega)
      refine qau (E:=Try.env 1) Try.tok Try.follows 1000 1000 [8,12] (fsts [0,2,7] (.three 1 (fsts [3,4] (.three 5 (.two 6 (.one 8 (.fst 9 (.one 10 (.fst 11 (.one 12 .done))))) 8 (.one 6 (.fst 9 (.one 10 (.fst 11 (.one 12 .done)))))) 6 (.two 5 (.one 8 (.fst 9 (.one 10 (.fst 11 (.one 12 .done))))) 8 (.fst 9 (.two 5 (.one 10 (.fst 11 (.one 12 .done))) 10 (.one 5 (.fst 11 (.one 12 .done)))))) 8 (.two 5 (.one 6 (.fst 9 (.one 10 (.fst 11 (.one 12 .done))))) 6 (.fst 9 (.two 5 (.one 10 (.fst 11 (.one 12 .done))) 10 (.one 5 (.fst 11 (.one 12 .done)))))))) 6 (.two 1 (fsts [3,4] (.two 5 (.one 8 (.fst 9 (.one 10 (.fst 11 (.one 12 .done))))) 8 (.fst 9 (.two 5 (.one 10 (.fst 11 (.one 12 .done))) 10 (.one 5 (.fst 11 (.one 12 .done))))))) 8 (.fst 9 (.two 1 (fsts [3,4] (.two 5 (.one 10 (.fst 11 (.one 12 .done))) 10 (.one 5 (.fst 11 (.one 12 .done))))) 10 (.one 1 (fsts [3,4] (.one 5 (.fst 11 (.one 12 .done)))))))) 8 (.two 1 (fsts [3,4] (.two 5 (.one 6 (.fst 9 (.one 10 (.fst 11 (.one 12 .done))))) 6 (.fst 9 (.two 5 (.one 10 (.fst 11 (.one 12 .done))) 10 (.one 5 (.fst 11 (.one 12 .done))))))) 6 (.fst 9 (.two 1 (fsts [3,4] (.two 5 (.one 10 (.fst 11 (.one 12 .done))) 10 (.one 5 (.fst 11 (.one 12 .done))))) 10 (.one 1 (fsts [3,4] (.one 5 (.fst 11 (.one 12 .done)))))))))) (by kernel_rfl) ?_
      simp only[go_sem,seval,-List.reduceReplicate,Try.results11,ht9,qak,qal,qam]
      repeat' first|assumption|(simp (disch:=first|assumption|omega|(simp;done)|(simp;omega)) only[List.take_of_length_le,qay,qae,qaj,qad];try simp only[go_sem,seval,-List.reduceReplicate,Try.results11,ht9,qak,qal,qam])|(with_reducible first|apply And.intro|intro _)|(refine Try.pick_at hb (by omega) ?_;simp only[go_sem,seval,-List.reduceReplicate,Try.results11,ht9,qak,qal,qam])|(refine qac ?_;simp only[go_sem,seval,-List.reduceReplicate,Try.results11,ht9,qak,qal,qam])|exact lexT|((try rw[qaa]);omega)
      all_goals (
       refine qfH ?_
       simp only[go_sem,seval,-List.reduceReplicate,Try.results11,ht9,List.length_set]
       first|exact Try.endC5 b (qd6 hT hi25 ht9 (by rw[List.length_set];exact hdl)) ⟨_,hpl,rfl⟩ (by omega)|exact⟨by omega,Try.endC5 b (qd6 hT hi25 ht9 (by simp only[List.length_take,List.length_set];omega)) ⟨_,hpl,rfl⟩ (by omega)⟩)
     ·simp only[go_sem,seval,-List.reduceReplicate,Try.results11]
      repeat' first|assumption|(simp (disch:=first|assumption|omega|(simp;done)|(simp;omega)) only[List.take_of_length_le,qay,qae,qaj,qad];try simp only[go_sem,seval,-List.reduceReplicate,Try.results11])|(with_reducible first|apply And.intro|intro _)|(refine qac ?_;simp only[go_sem,seval,-List.reduceReplicate,Try.results11])|exact lexT|((try rw[qaa]);omega)
      exact Try.endC5 b ⟨_,hT,rfl⟩ ⟨P9.set 0 (8,(P9.getD 0 (0,false)).2),by rw[List.length_set];exact hpl,by rw[List.map_set]⟩ (by omega)
     ·have h7:=hT.get (i:=7) (by omega)
      have hsl7:(T.getD 7 tc0).select.length=3:=h7.1
      have hdl7:(T.getD 7 tc0).drive.length=8:=h7.2
      generalize ht7:T.getD 7 tc0=t7 at *
      simp only[go_sem,seval,-List.reduceReplicate,Try.results11,ht7,hTl]
      repeat' first|assumption|(simp (disch:=first|assumption|omega|(simp;done)|(simp;omega)) only[List.take_of_length_le,qay,qae,qaj,qad];try simp only[go_sem,seval,-List.reduceReplicate,Try.results11,ht7,hTl])|(with_reducible first|apply And.intro|intro _)|(refine qac ?_;simp only[go_sem,seval,-List.reduceReplicate,Try.results11,ht7,hTl])|exact lexT|((try rw[qaa]);omega)
      all_goals (
       refine qfH ?_
       simp only[go_sem,seval,-List.reduceReplicate,Try.results11,ht9,List.length_set]
       first|exact Try.endC5 b (qd6 hT (by omega) ht7 (by rw[List.length_set];exact hdl7)) ⟨_,hpl,rfl⟩ (by omega)|exact⟨by omega,Try.endC5 b (qd6 hT (by omega) ht7 (by simp only[List.length_take,List.length_set];omega)) ⟨_,hpl,rfl⟩ (by omega)⟩)
    ·exact Try.endC5 b ⟨_,hT,rfl⟩ ⟨_,hpl,rfl⟩ (by omega)
end Go.Proofs
