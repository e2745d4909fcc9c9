/- Contracts, plain definitions and lemmas. Conditions: none; lemmas. -/
import Derived.Test.YteikeianenfhaaaGreatD6
import Derived.Test.YteikeianenfhaaaGreatC9
import Derived.Test.YteikeianenfhaaaGreatC74
set_option maxRecDepth 20000
set_option linter.unusedSimpArgs false
set_option linter.unusedVariables false
set_option maxHeartbeats 2000000
namespace Go.Proofs
open Go Go.VL Tryz
noncomputable def qeD (c:Circ):List Cel:=by
 classical exact if c.Valid then qac c else []
theorem qlc (c:Circ):(qeD c).length<=17:=by
 unfold qeD;split
 ·rename_i h;exact qbD h
 ·simp
theorem qcn {a b c:Int}{n:Nat}:([D.int .i64 a,D.int .i64 b,D.int .i64 c]:List D).getD n (D.int .i64 0)=D.int .i64 (([a,b,c]:List Int).getD n 0):=by
 match n with
 | 0|1|2|_+3=>rfl
theorem Tryz.c_sCells (c:Circ):Pure prog 206 [dC c] (dCes (qeD c)):=by
 have hcv:=c_sCircuitValid c;by_cases hc:c.Valid
 ·have e:qeD c=qac c:=by classical rw[qeD,if_pos hc]
  have hce:=c_l6Cells c hc;rw[decide_eq_true hc] at hcv;rw[e];refine qaA func206 rfl ntmps206 fun ok=>?_
  simp only[go_sem,seval] at ok
  repeat' first|assumption|(simp (disch:=first|assumption|omega|(simp;done)|(simp;omega)) only[go_sem,seval,yaa,qcn])|(with_reducible first|apply And.intro|intro _)|(refine qad hcv ?_)|(refine qc9 hce ?_)|(refine qd6 ?_;simp only[go_sem,seval])|((try rw[qaa]);omega)
 ·have e:qeD c=[]:=by classical rw[qeD,if_neg hc]
  rw[decide_eq_false hc] at hcv;rw[e];refine qaA func206 rfl ntmps206 fun ok=>?_
  simp only[go_sem,seval] at ok
  repeat' first|assumption|(simp (disch:=first|assumption|omega|(simp;done)|(simp;omega)) only[go_sem,seval,yaa,qcn])|(with_reducible first|apply And.intro|intro _)|(refine qad hcv ?_)|(refine qd6 ?_;simp only[go_sem,seval])|((try rw[qaa]);omega)
theorem Tryz.c_l20Place (b:List Int) (p n:Int) (c:Circ) (hb:Bytes b) (hp:0<=p/\p<=1000000) (hn:0<=n/\n<=1000) :
  ICall prog 169 [.ptr 0 0,.d (dC c),.d (dI n)] [rd b p] (fun r H'=>∃ (l:List Int) (q:Int),(p<=q/\q<=p+40)/\(l.length<=20/\∀ x∈l,-1<=x/\x<=25)/\r=.d (dIs l)/\H'=[rd b q]):=by
 have hce:=c_sCells c;have hcl:=qlc c;generalize qeD c=cells at *
 refine qaz (E:=env 1) tok rfl 1000 func169 rfl rfl ntmps169 (by simp) ?_
 repeat' first|assumption|(simp (disch:=first|assumption|omega|(simp;done)|(simp;omega)) only[go_sem,seval,yaa,qcn])|(with_reducible first|apply And.intro|intro _)|(refine qd6 ?_;simp only[go_sem,seval])|((try rw[qaa]);omega)
 refine qai (E:=env 1) tok (σ:=Nat) (fun t=>[(0,.ptr 0 0),(1,.d (dC c)),(2,.d (dI n)),(4,.ptr 1 0),(7,.sl 2 0 1 0 0),(8,.sl 3 t 1 0 t),(9,.d (dI t))])
  (fun t=>[rd b p,.box [.d (dI c.inputs),.d (dIs c.next),.d (dPs c.gates),.d (dIs c.outs)],.row 0 1 true [],.row t 1 true (((List.range t).map fun(j:Nat)=>(j:Int)).map (D.int .i64))]) (fun t=>t<=25) (fun t=>25-t) [] [] 1000 1000 ?_ ?_
 ·simp only[go_sem,seval];exact⟨0,by omega,by simp⟩
 ·intro t ht;have hrs:(List.range (t+1)).map (fun(j:Nat)=>(j:Int))=(List.range t).map (fun(j:Nat)=>(j:Int)) ++ [(t:Int)]:=by rw[List.range_succ,yaI];rfl
  have hql:((List.range t).map fun(j:Nat)=>(j:Int)).length=t:=by simp
  by_cases htt:t<25
  ·generalize (List.range t).map (fun(j:Nat)=>(j:Int))=q at *
   simp only[go_sem,seval]
   repeat' first|assumption|(simp (disch:=first|assumption|omega|(simp;done)|(simp;omega)) only[go_sem,seval,hql,yaa,qcn])|(with_reducible first|apply And.intro|intro _)|(refine qd6 ?_;simp only[go_sem,seval,hql])|((try rw[qaa]);omega)
   refine⟨t+1,by omega,by omega,rfl,rfl,?_⟩;rw[hrs]
  ·obtain rfl:t=25:=by omega
   have hrg : ∀ x∈(List.range 25).map (fun(j:Nat)=>(j:Int)),0<=x/\x<=24:=by decide
   generalize (List.range 25).map (fun(j:Nat)=>(j:Int))=F at *
   simp only[go_sem,seval]
   repeat' first|assumption|(simp (disch:=first|assumption|omega|(simp;done)|(simp;omega)) only[go_sem,seval,hql,yaa,qcn])|(with_reducible first|apply And.intro|intro _)|(refine qad hce ?_)|(refine qd6 ?_;simp only[go_sem,seval,hql])|((try rw[qaa]);omega)
   refine qai (E:=env 1) tok (σ:=Int×Int×List Int×List Int) (fun s=>[(0,.ptr 0 0),(2,.d (dI n)),(7,.sl 2 s.2.2.1.length 1 0 s.2.2.1.length),(8,.d (dIs s.2.2.2)),(10,.d (dI s.1))])
    (fun s=>[rd b s.2.1,.dead 0,.row s.2.2.1.length 1 true (s.2.2.1.map (D.int .i64))]) (fun s=>0<=s.1/\s.2.2.1.length+s.1<=17/\(s.2.2.2.length:Int)=25-s.2.2.1.length/\p<=s.2.1/\s.2.1<=p+s.2.2.1.length/\(∀ x∈s.2.2.1,0<=x/\x<=24)/\∀ x∈s.2.2.2,0<=x/\x<=24) (fun s=>s.1.toNat) [] [] 1000 1000 ?_ ?_
   ·simp only[go_sem,seval];refine⟨((cells.length:Int),p,[],F),⟨by simp only;omega,by simp only[yau];omega,by simp only[yau];omega,by simp only;omega,by simp only[yau];omega,by simp,hrg⟩,⟨rfl,yaa (by omega),rfl⟩,rfl,rfl,rfl⟩
   ·rintro⟨k,q,out,free⟩ hi;simp only at hi;simp only[go_sem,seval];refine⟨fun h1=>?_,fun h1=>?_⟩
    ·repeat' first|assumption|(simp (disch:=first|assumption|omega|(simp;done)|(simp;omega)) only[go_sem,seval,yaa,qcn])|(with_reducible first|apply And.intro|intro _)|(refine qd6 ?_;simp only[go_sem,seval])|((try rw[qaa]);omega)
     refine pick_at hb (by omega) fun x hx=>?_
     repeat' first|assumption|(simp (disch:=first|assumption|omega|(simp;done)|(simp;omega)) only[go_sem,seval,yaa,qcn])|(with_reducible first|apply And.intro|intro _)|(refine qd6 ?_;simp only[go_sem,seval])|((try rw[qaa]);omega)
     refine qbN (n:=1) [4,9] (fsts [1,2,3,5,6,7,8] (.one 0 (.one 4 (.one 9 (.fst 10 .done))))) ?_
     repeat' first|assumption|(simp (disch:=first|assumption|omega|(simp;done)|(simp;omega)) only[go_sem,seval,yaa,qcn])|(with_reducible first|apply And.intro|intro _)|(refine qd6 ?_;simp only[go_sem,seval])|((try rw[qaa]);omega)
     ·rw[yaw];omega
     ·rw[yaw,List.length_drop];omega
     ·refine⟨(k-1,q+1,out ++ [free.getD x.toNat 0],free.take x.toNat++free.drop (x+1).toNat),⟨by simp only;omega,by simp only[yae,yaO];omega,by simp only[yae,yaO,yaw,List.length_drop];omega,by simp only;omega,by simp only[yae,yaO];omega,fun y hy=>?_,fun y hy=>?_⟩,by simp only;omega,⟨by simp,rfl,rfl⟩,rfl,by simp,rfl⟩
      ·rcases List.mem_append.1 hy with h2|h2
       ·exact hi.2.2.2.2.2.1 y h2
       ·obtain rfl:y=free.getD x.toNat 0:=by simpa using h2
        exact hi.2.2.2.2.2.2 _ (qab (by omega))
      ·rcases List.mem_append.1 hy with h2|h2
       ·exact hi.2.2.2.2.2.2 y (yam h2)
       ·exact hi.2.2.2.2.2.2 y (yaJ h2)
    ·have fin : ∀ (l:List Int) (q2:Int) (m:Nat) (A:R) (U:List R),m=l.length->p<=q2->q2<=p+40->l.length<=20->(∀ x∈l,-1<=x/\x<=25)->endI 1 (fun r H'=>∃ (l:List Int) (q:Int),(p<=q/\q<=p+40)/\(l.length<=20/\∀ x∈l,-1<=x/\x<=25)/\r=.d (dIs l)/\H'=[rd b q]) (I.sl 2 m 1 0 l.length) (rd b q2::A::.row m 1 true (l.map (D.int .i64))::U):=by
      intro l q2 m A U hm h3 h4 h5 h6;subst hm;refine qcl (by simp) (by simp[go_sem]) ?_;simp only[go_sem,seval];exact⟨l,q2,⟨h3,h4⟩,⟨h5,h6⟩,rfl,rfl⟩
     have setF : ∀ (q3:Int) (j m:Nat) {w:Nat->Int}{B:R},p<=q3->q3<=p+40->(∀ m,-1<=w m/\w m<=25)->endI 1 (fun r H'=>∃ (l:List Int) (q:Int),(p<=q/\q<=p+40)/\(l.length<=20/\∀ x∈l,-1<=x/\x<=25)/\r=.d (dIs l)/\H'=[rd b q]) (I.sl 2 out.length 1 0 out.length) [rd b q3,.dead 0,.row out.length 1 (DP.own []) ((out.set j (w m)).map (D.int .i64)),B]:=by
      intro q3 j m w B h3 h4 h5;have:=fin (out.set j (w m)) q3 _ (.dead 0) [B] rfl h3 h4 (by rw[yaz];omega) fun y hy=>by
       rcases yaV hy with h|h
       ·have:=hi.2.2.2.2.2.1 y h;omega
       ·rw[h];exact h5 m
      rw[yaz] at this;exact this
     repeat' first|assumption|(simp (disch:=first|assumption|omega|(simp;done)|(simp;omega)) only[go_sem,seval,yaa,qcn])|(with_reducible first|apply And.intro|intro _)|(refine qd6 ?_;simp only[go_sem,seval])|((try rw[qaa]);omega)
     refine odd_at hb (by omega) hn fun o q2 hq2 ho=>?_
     by_cases h0:out.length=0
     ·have hd:decide ((out.length:Int)=0)=true:=decide_eq_true (by omega)
      repeat' first|assumption|(simp (disch:=first|assumption|omega|(simp;done)|(simp;omega)) only[go_sem,seval,hd,yaa,qcn])|(with_reducible first|apply And.intro|intro _)|(refine qd6 ?_;simp only[go_sem,seval,hd])|((try rw[qaa]);omega)
      ·refine pick_at hb (by omega) fun x hx=>?_
       repeat' first|assumption|(simp (disch:=first|assumption|omega|(simp;done)|(simp;omega)) only[go_sem,seval,yaa,qcn])|(with_reducible first|apply And.intro|intro _)|(refine qd6 ?_;simp only[go_sem,seval])|((try rw[qaa]);omega)
       rw[show out.length+1=(out ++ [x]).length by simp];refine fin (out ++ [x]) _ _ _ _ rfl (by omega) (by omega) (by simp;omega) fun y hy=>?_
       rcases List.mem_append.1 hy with h2|h2
       ·have:=hi.2.2.2.2.2.1 y h2;omega
       ·obtain rfl:y=x:=by simpa using h2
        omega
      ·exact fin out q2 _ _ [] rfl (by omega) (by omega) (by omega) fun y hy=>by have:=hi.2.2.2.2.2.1 y hy;omega
     ·have hd:decide ((out.length:Int)=0)=false:=decide_eq_false (by omega)
      repeat' first|assumption|(simp (disch:=first|assumption|omega|(simp;done)|(simp;omega)) only[go_sem,seval,hd,yaa,qcn])|(with_reducible first|apply And.intro|intro _)|(refine qd6 ?_;simp only[go_sem,seval,hd])|((try rw[qaa]);omega)
      ·refine pick_at hb (by omega) fun x hx=>?_
       repeat' first|assumption|(simp (disch:=first|assumption|omega|(simp;done)|(simp;omega)) only[go_sem,seval,hd,yaa,qcn])|(with_reducible first|apply And.intro|intro _)|(refine pick_at hb (by omega) ?_)|(refine qd6 ?_;simp only[go_sem,seval,hd])|((try rw[qaa]);omega)
       ·rename_i x2 hx2;rw[show out.length+1=(out ++ [x2]).length by simp];refine fin (out ++ [x2]) _ _ _ _ rfl (by omega) (by omega) (by simp;omega) fun y hy=>?_
        rcases List.mem_append.1 hy with h2|h2
        ·have:=hi.2.2.2.2.2.1 y h2;omega
        ·obtain rfl:y=x2:=by simpa using h2
         omega
       ·refine qbN (n:=1) [4,10,14] (fsts [0,1,2,3,5,6,9] (.two 4 (.two 7 (.two 8 (.one 10 (.fst 11 (.one 12 (.fst 13 (.one 14 .done))))) 10 (.one 8 (.fst 11 (.one 12 (.fst 13 (.one 14 .done)))))) 10 (.one 7 (.one 8 (.fst 11 (.one 12 (.fst 13 (.one 14 .done))))))) 7 (.two 4 (.two 8 (.one 10 (.fst 11 (.one 12 (.fst 13 (.one 14 .done))))) 10 (.one 8 (.fst 11 (.one 12 (.fst 13 (.one 14 .done)))))) 8 (.one 4 (.one 10 (.fst 11 (.one 12 (.fst 13 (.one 14 .done))))))))) ?_
        repeat' first|assumption|(simp (disch:=first|assumption|omega|(simp;done)|(simp;omega)) only[go_sem,seval,yaa,qcn])|(with_reducible first|apply And.intro|intro _)|(refine pick_at hb (by omega) ?_)|(refine qd6 ?_;simp only[go_sem,seval])|((try rw[qaa]);omega)
        all_goals (
         refine setF (w:=fun m=>([-1,25,out.getD 0 0]:List Int).getD m 0) _ _ _ (by omega) (by omega) ?_;intro m;have h00:=hi.2.2.2.2.2.1 (out.getD 0 0) (qab (by omega));match m with
         | 0=>exact⟨by show -1<=(-1:Int);omega,by show(-1:Int)<=25;omega⟩
         | 1=>exact⟨by show -1<=(25:Int);omega,by show(25:Int)<=25;omega⟩
         | 2=>exact⟨by show -1<=out.getD 0 0;omega,by show out.getD 0 0<=25;omega⟩
         | _+3=>exact⟨by show -1<=(0:Int);omega,by show(0:Int)<=25;omega⟩)
      ·exact fin out q2 _ _ [] rfl (by omega) (by omega) (by omega) fun y hy=>by have:=hi.2.2.2.2.2.1 y hy;omega

theorem Tryz.circ_at1 {A0:R}{b:List Int}(hb:Bytes b) {p n:Int}(hp:0<=p/\p<=100000000) (hn:0<=n/\n<=1000) {T:List R}{K:I->List R->Prop}(hk : ∀ c q,p<=q/\q<=p+200->(c.next.length<=40/\c.gates.length<=40/\c.outs.length<=40/\-1<=c.inputs/\c.inputs<=5)->K (.d (dC c)) (A0::rd b q::T)) :
  ICall prog 66 [.ptr 1 0,.d (dI n)] (A0::rd b p::T) K:=by
 refine qaq (c_l20Circuit b p n hb hp hn) [1] (by simp only[go_sem,seval]) ?_;rintro r0 H1 ⟨c,q,hq,hl,rfl,rfl⟩;have:=hk c q hq hl;simp only[go_sem,seval];simpa using this
theorem Tryz.place_at1 {A0:R}{b:List Int}(hb:Bytes b) {p n:Int}{c:Circ}(hp:0<=p/\p<=1000000) (hn:0<=n/\n<=1000) {T:List R}{K:I->List R->Prop}(hk : ∀ l q,p<=q/\q<=p+40->(l.length<=20/\∀ x∈l,-1<=x/\x<=25)->K (.d (dIs l)) (A0::rd b q::T)) :
  ICall prog 169 [.ptr 1 0,.d (dC c),.d (dI n)] (A0::rd b p::T) K:=by
 refine qaq (c_l20Place b p n c hb hp hn) [1] (by simp only[go_sem,seval]) ?_;rintro r0 H1 ⟨l,q,hq,hl,rfl,rfl⟩;have:=hk l q hq hl;simp only[go_sem,seval];simpa using this
def qqO (x:D):Prop:=∃ (c:Circ) (l:List Int),x=.tup [dC c,dIs l]/\(c.next.length<=40/\c.gates.length<=40/\c.outs.length<=40/\-1<=c.inputs/\c.inputs<=5)/\l.length<=20/\∀ x∈l,-1<=x/\x<=25
theorem Tryz.c_DrawWireLength (code:List Int):PureFE prog 97 [dUs code] qqO:=by
 refine qir (E:=env 0) tok rfl 1000 func97 rfl rfl ntmps97 (by simp) fun ok=>?_
 simp only[go_sem,seval] at ok⊢;have hb:=bytes_of ok.2 2000;refine qnz (c_l20Open code) [] (by simp only[go_sem,seval]) ?_;simp only[go_sem,seval];refine circ_at1 (p:=0) (n:=16) hb (by omega) (by omega) fun c q hq hc=>?_
 repeat' first|assumption|(simp (disch:=first|assumption|omega|(simp;done)|(simp;omega)) only[go_sem,seval])|(with_reducible first|apply And.intro|intro _)|((try rw[qaa]);omega)
 refine qbN (n:=0) [3,4] (fsts [1,2] (.two 0 (.one 3 (.one 4 (.fst 5 .done))) 3 (.one 0 (.one 4 (.fst 5 .done))))) ?_
 repeat' first|assumption|(simp (disch:=first|assumption|omega|(simp;done)|(simp;omega)) only[go_sem,seval])|(with_reducible first|apply And.intro|intro _)|((try rw[qaa]);omega)
 all_goals (
  refine place_at1 (p:=q) (n:=9) hb (by omega) (by omega) fun l q2 hq2 hl=>?_
  repeat' first|assumption|(simp (disch:=first|assumption|omega|(simp;done)|(simp;omega)) only[go_sem,seval])|(with_reducible first|apply And.intro|intro _)|((try rw[qaa]);omega)
  exact⟨_,of_eq_true qnH,c,l,rfl,hc,hl⟩)
theorem Tryz.c_DrawArrivals (code:List Int):PureFE prog 35 [dUs code] qqO:=by
 refine qir (E:=env 0) tok rfl 1000 func35 rfl rfl ntmps35 (by simp) fun ok=>?_
 simp only[go_sem,seval] at ok
 repeat' first|assumption|(simp (disch:=first|assumption|omega|(simp;done)|(simp;omega)) only[go_sem,seval])|(with_reducible first|apply And.intro|intro _)|((try rw[qaa]);omega)
 refine qjV (c_DrawWireLength code) ?_;rintro x ⟨c,l,rfl,hc,hl⟩
 repeat' first|assumption|(simp (disch:=first|assumption|omega|(simp;done)|(simp;omega)) only[go_sem,seval])|(with_reducible first|apply And.intro|intro _)|((try rw[qaa]);omega)
 exact⟨_,of_eq_true qnH,c,l,rfl,hc,hl⟩

theorem qfo {c:Circ}{place:List Int}{list:List (Int×Int)}{routes:List Rt}(h:qaM c place list=some routes):c.Valid/\PlaceOk (qac c).length place/\qmy list/\∃ busy,RoutesOk c (qac c) place (qed list) (c.vars.toNat-1) busy routes:=by
 classical
 rw[qaM] at h;split at h
 ·rename_i hv;obtain⟨busy,hR⟩:=qkn hv.1.1 hv.1.2 (qjm list) h;exact⟨hv.1.1,hv.1.2,hv.2,busy,hR⟩
 ·cases h
theorem qfp {c:Circ}{place:List Int}{list:List (Int×Int)}{routes:List Rt}(h:qaM c place list=some routes):RtsOk routes:=by
 classical
 rw[qaM] at h;split at h
 ·rename_i hv;exact qmv hv.1.1 hv.1.2 (qjm list) h
 ·cases h
end Go.Proofs
