/- Contracts, plain definitions and lemmas. Conditions: none; lemmas. -/
import Derived.Test.YteikeianenfhaaaGreatC78
import Derived.Test.YteikeianenfhaaaGreatC9
import Derived.Test.YteikeianenfhaaaGreatC8
set_option maxRecDepth 20000
set_option linter.unusedSimpArgs false
set_option linter.unusedVariables false
set_option maxHeartbeats 2000000
namespace Go.Proofs
open Go Go.VL Tryz
theorem qn7 {c:Circ}(hc:c.Valid) : ∀ x∈qae c,∀ v∈x.inputs,0<=v/\v<c.vars:=by
 intro x hx v hv;have hf:=hc.first_bd;have hvv:c.vars=c.first+(c.gates.length:Int):=rfl
 rcases List.mem_append.1 hx with h|h
 ·obtain⟨i,hi,rfl⟩:=List.mem_map.1 h;have hi':i<c.next.length:=List.mem_range.1 hi;have hn:=hc.n _ (qac hi':c.next.getD i 0∈c.next);unfold qaX at hn;unfold qaL at hv;split at hv
  ·rw[List.mem_singleton.1 hv];omega
  ·cases hv
 ·obtain⟨l,hl,rfl⟩:=List.mem_map.1 h;obtain⟨m,hm,rfl⟩:=(qc9 hc).each l hl;have:=(qcF hc hm).2.2 v hv;omega
theorem qpK {c:Circ}(hc:c.Valid) {cells:List Cel}{place:List Int}(hp:PlaceOk cells.length place) {rs:List Rt}(h:qcw c cells place qdS=some rs) :
  (∀ r∈rs,0<=r.net/\r.net<c.vars/\0<=r.track/\r.track<=7/\∀ h∈r.hops,0<=h.1/\h.1<=24)/\∀ r∈rs,r.hops.length<=1000:=by
 have hf:=hc.first_bd;have hv:=hc.vars_bd;have hrc:qcw c cells place qdS=(qcI c cells place qdS (c.vars.toNat-1)).map (·.2):=rfl;rw[hrc] at h;obtain⟨⟨busy,out⟩,h1,rfl⟩:=Option.map_eq_some_iff.1 h;have hR:=qgx hc hp free0_ok _ h1;constructor
 ·intro r hr;have e:=hR.each r hr;have e1:=e.net;have e2:=e.track;exact⟨by omega,by omega,by omega,by omega,e.tree.rng⟩
 ·intro r hr;have:=qda (hR.each r hr).tree;omega
noncomputable def qiN (c:Circ):Option Kcfg:=if c.Valid then(qcw c (qae c) (qcm c (qae c)) qdS).map (qhx c (qae c) (qcm c (qae c))) else none
def kz:Kcfg:=⟨[],[]⟩
theorem Tryz.c_sConfigure (c:Circ):Pure prog 50 [dC c] (.tup [dK ((qiN c).getD kz),dB (qiN c).isSome]):=by
 have hcv:=c_sCircuitValid c;unfold qiN;by_cases hc:c.Valid
 ·rw[if_pos hc];rw[decide_eq_true hc] at hcv;have h1:=c_l6Cells c hc;have hcl:=qbQ hc;have hci:=qln hc;have hcx:=qn7 hc;generalize qae c=cells at *
  have h2:=c_l7Place c hc cells (by omega) hci;have hp:=qiJ (c:=c) (cells:=cells) (by omega);generalize qcm c cells=place at *
  have h3:=c_l8Route c hc cells (by omega) hci place hp;cases hro:qcw c cells place qdS with
  | none=>
   rw[hro] at h3;refine qcd (E:=env 0) tok rfl 1000 func50 rfl rfl ntmps50 (by simp) fun ok=>?_
   simp only[go_sem,seval,-List.reduceReplicate] at ok
   repeat' first|assumption|(simp (disch:=first|assumption|omega|(simp;done)|(simp;omega)) only[go_sem,seval,-List.reduceReplicate])|(with_reducible first|apply And.intro|intro _)|(refine qad hcv ?_)|(refine qad h1 ?_)|(refine qbH h2 ?_)|(refine qbH h3 ?_)|((try rw[qaa]);omega)
   all_goals first|rfl|simp[wk2,wkL,wk1,kz]
  | some rs=>
   rw[hro] at h3;obtain⟨hr1,hr2⟩:=qpK hc hp hro;have h4:=c_l9Build c hc cells (by omega) hci place hp hcx rs hr1 hr2;refine qcd (E:=env 0) tok rfl 1000 func50 rfl rfl ntmps50 (by simp) fun ok=>?_
   simp only[go_sem,seval,-List.reduceReplicate] at ok
   repeat' first|assumption|(simp (disch:=first|assumption|omega|(simp;done)|(simp;omega)) only[go_sem,seval,-List.reduceReplicate])|(with_reducible first|apply And.intro|intro _)|(refine qad hcv ?_)|(refine qad h1 ?_)|(refine qbH h2 ?_)|(refine qbH h3 ?_)|(refine qbZ h4 ?_)|((try rw[qaa]);omega)
   all_goals first|rfl|simp[wk2,wkL,wk1]
 ·rw[if_neg hc];rw[decide_eq_false hc] at hcv;refine qcd (E:=env 0) tok rfl 1000 func50 rfl rfl ntmps50 (by simp) fun ok=>?_
  simp only[go_sem,seval,-List.reduceReplicate] at ok
  repeat' first|assumption|(simp (disch:=first|assumption|omega|(simp;done)|(simp;omega)) only[go_sem,seval,-List.reduceReplicate])|(with_reducible first|apply And.intro|intro _)|(refine qad hcv ?_)|((try rw[qaa]);omega)
  all_goals first|rfl|simp[wk2,wkL,wk1,kz]

theorem getD_l3 {a b c:Int}{n:Nat}:([D.int .i64 a,D.int .i64 b,D.int .i64 c]:List D).getD n (D.int .i64 0)=D.int .i64 (([a,b,c]:List Int).getD n 0):=by
 match n with
 | 0|1|2|_+3=>rfl
def Ksh (n:Int) (k:Kcfg):Prop:=k.tiles.length<=25/\k.pads.length=3/\(∀ t∈k.tiles,t.select.length=3/\t.drive.length<=8)/\(n=0->Tsz k.tiles)
theorem Ksh.of {n:Int}{T:List Tcfg}{P:List (Int×Bool)}(h1:Tsz T) (h2:P.length=3):Ksh n ⟨T,P⟩:=
 ⟨by have:=h1.1;simp only;omega,h2,fun t ht=>by have:=h1.2 t ht;exact⟨this.1,by have:=this.2;omega⟩,fun _=>h1⟩

theorem Tryz.circ_atM1 {A:R}{b:List Int}(hb:Bytes b) {p n:Int}(hp:0<=p/\p<=100000000) (hn:0<=n/\n<=1000) {T:List R}{K:I->List R->Prop}(hk : ∀ (c:Circ) (q:Int),(p<=q/\q<=p+200)->(c.next.length<=40/\c.gates.length<=40/\c.outs.length<=40/\-1<=c.inputs/\c.inputs<=5)->K (.d (dC c)) (A::rd b q::T)) :
  ICall prog 66 [.ptr 1 0,.d (dI n)] (A::rd b p::T) K:=by
 refine qao (c_l20Circuit b p n hb hp hn) [1] (by simp only[go_sem,seval]) ?_;rintro r0 H1 ⟨c,q,hq,hl,rfl,rfl⟩;have:=hk c q hq hl;simp only[go_sem,seval];simpa using this
theorem Tryz.bools_atM {b:List Int}(hb:Bytes b) {p n:Int}(hp:0<=p/\p<=100000000) (hn:n<=1000) {T:List R}{K:I->List R->Prop}(hk : ∀ l:List Bool,l.length=n.toNat->K (.d (dBs l)) (rd b (p+(n.toNat:Int))::T)) :
  ICall prog 159 [.ptr 0 0,.d (dI n)] (rd b p::T) K:=by
 refine qao (c_l20Bools b p n hb hp hn) [0] (by simp only[go_sem,seval]) ?_;rintro r0 H1 ⟨l,hl,rfl,rfl⟩;have:=hk l hl;simp only[go_sem,seval];simpa using this
theorem Tryz.c_l20RowsM (b:List Int) (p n:Int) (hb:Bytes b) (hp:0<=p/\p<=10000000) (hn : -1<=n/\n<=8) :
  ICall prog 94 [.ptr 0 0,.d (dI n)] [rd b p] (fun r H'=>∃ (l:List (List Bool)) (q:Int),(p<=q/\q<=p+100)/\(l.length<=11/\∀ x∈l,x.length=n.toNat)/\r=.sl 1 l.length 1 0 l.length/\H'=[rd b q,.row l.length 1 false (l.map fun x=>dBs x)]):=by
 refine qax (E:=env 1) tok rfl 1000 func94 rfl rfl ntmps94 (by simp) ?_;simp only[go_sem,seval];refine pick_at hb (by omega) fun x1 hx1=>?_
 simp only[go_sem,seval];refine qaw (E:=env 1) tok (σ:=List (List Bool)×Int×Int) (fun s=>[(0,.ptr 0 0),(1,.d (dI n)),(5,.sl 1 s.1.length 1 0 s.1.length),(6,.d (dI s.2.1))]) (fun s=>[rd b s.2.2,.row s.1.length 1 false (s.1.map fun x=>dBs x)])
  (fun s=>0<=s.2.1/\s.1.length+s.2.1<=11/\(p+1<=s.2.2/\s.2.2<=p+1+8*s.1.length)/\∀ x∈s.1,x.length=n.toNat) (fun s=>s.2.1.toNat) [] 1000 1000 ?_ ?_ ?_
 ·simp only[go_sem,seval]
 ·simp only[go_sem,seval];exact⟨([],x1,p+1),by simp;omega,by simp⟩
 ·rintro⟨l,k,q⟩ ⟨hk,hl,hq,hx⟩;simp only at hk hl hq hx;simp only[go_sem,seval];refine⟨fun h1=>?_,fun h1=>?_⟩
  ·refine bools_atM hb (by omega) (by omega) fun y hy=>?_
   repeat' first|assumption|(simp (disch:=first|assumption|omega|(simp;done)|(simp;omega)) only[go_sem,seval])|(with_reducible first|apply And.intro|intro _)|((try rw[qaa]);omega)
   refine⟨(l ++ [y],k-1,q+n.toNat),⟨by simp only;omega,by simp;omega,by simp;omega,?_⟩,by simp only;omega,by simp,rfl,by simp,rfl⟩;intro x hxx;rcases List.mem_append.1 hxx with h2|h2
   ·exact hx x h2
   ·rw[List.mem_singleton.1 h2];exact hy
  ·exact qbB ⟨l,q,by omega,⟨by omega,hx⟩,rfl,rfl⟩
theorem Tryz.c_DrawRun (code:List Int):PureFE prog 32 [dUs code] (fun x=>∃ (c:Circ) (l:List (List Bool)),x=.tup [dC c,dBss l]/\l.length<=11/\∀ r∈l,r.length=c.inputs.toNat):=by
 refine qnW (E:=env 0) tok rfl 1000 func32 rfl rfl ntmps32 (by simp) fun ok=>?_
 simp only[go_sem,seval] at ok⊢;have hb:=bytes_of ok.2 2000;refine qpf (c_l20Open code) [] (by simp only[go_sem,seval]) ?_;simp only[go_sem,seval];refine circ_atM1 (p:=0) (n:=0) hb (by omega) (by omega) fun c q hq hc=>?_
 repeat' first|assumption|(simp (disch:=first|assumption|omega|(simp;done)|(simp;omega)) only[go_sem,seval])|(with_reducible first|apply And.intro|intro _)|((try rw[qaa]);omega)
 refine qaR (n:=0) [4,5] (fsts [1,2,3] (.two 0 (.one 4 (.one 5 (.fst 6 .done))) 4 (.one 0 (.one 5 (.fst 6 .done))))) ?_
 repeat' first|assumption|(simp (disch:=first|assumption|omega|(simp;done)|(simp;omega)) only[go_sem,seval])|(with_reducible first|apply And.intro|intro _)|((try rw[qaa]);omega)
 all_goals (
  refine qao (c_l20RowsM _ q c.inputs hb (by omega) (by omega)) [1] (by simp only[go_sem,seval]) ?_;rintro r0 H1 ⟨l,q2,hq2,hl,rfl,rfl⟩
  repeat' first|assumption|(simp (disch:=first|assumption|omega|(simp;done)|(simp;omega)) only[go_sem,seval])|(with_reducible first|apply And.intro|intro _)|((try rw[qaa]);omega)
  exact⟨_,of_eq_true wk_self,c,l,rfl,hl⟩)
end Go.Proofs
