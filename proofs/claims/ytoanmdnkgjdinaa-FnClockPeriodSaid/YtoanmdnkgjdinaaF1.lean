/- Contracts, plain definitions and lemmas. Conditions: none; lemmas. -/
import Derived.Test.YtoanmdnkgjdinaaD4
import Derived.Test.YtoanmdnkgjdinaaC9
import Derived.Test.YtoanmdnkgjdinaaE4
set_option maxRecDepth 20000
set_option linter.unusedVariables false
set_option linter.unusedSimpArgs false
namespace Go.Proofs
open Go Go.VL
noncomputable def qeX (c:Circ):List Cel:=by
 classical exact if c.Valid then qaj c else []
theorem qlA (c:Circ):(qeX c).length≤17:=by
 unfold qeX
 split
 ·rename_i h;exact qbi h
 ·simp
theorem qcE {a b c:Int}{n:Nat}:([D.int .i64 a,D.int .i64 b,D.int .i64 c]:List D).getD n (D.int .i64 0)=D.int .i64 (([a,b,c]:List Int).getD n 0):=by
 match n with
 | 0|1|2|_+3=>rfl
theorem Try.c_sCells (c:Circ):Pure Try.prog 79 [dC c] (dCes (qeX c)):=by
 have hcv:=Try.c_sCircuitValid c
 by_cases hc:c.Valid
 ·have e:qeX c=qaj c:=by classical rw[qeX,if_pos hc]
  have hce:=Try.c_l6Cells c hc
  rw[decide_eq_true hc] at hcv
  rw[e]
  refine qan (E:=Try.env 0) Try.tok rfl 1000 Try.func79 rfl rfl Try.ntmps79 (by simp) fun ok=>?_
  simp only[go_sem,seval] at ok
  simp only[go_sem,seval,Try.results79]
  repeat' first|assumption|(simp (disch:=first|assumption|omega|(simp;done)|(simp;omega)) only[qaa,qac,List.take_of_length_le,qab,qae,qaf,qag,qah,qcE];try simp only[go_sem,seval,Try.results79])|(with_reducible refine And.intro ?_ ?_)|(with_reducible intro _)|(refine qai hcv ?_;simp only[go_sem,seval,Try.results79])|(refine qdo hce ?_;simp only[go_sem,seval,Try.results79])|(refine @Exists.intro I _ (I.d D.nil) ?_;simp only[go_sem,seval,Try.results79])|((try rw[qad]);omega)
 ·have e:qeX c=[]:=by classical rw[qeX,if_neg hc]
  rw[decide_eq_false hc] at hcv
  rw[e]
  refine qan (E:=Try.env 0) Try.tok rfl 1000 Try.func79 rfl rfl Try.ntmps79 (by simp) fun ok=>?_
  simp only[go_sem,seval] at ok
  simp only[go_sem,seval,Try.results79]
  repeat' first|assumption|(simp (disch:=first|assumption|omega|(simp;done)|(simp;omega)) only[qaa,qac,List.take_of_length_le,qab,qae,qaf,qag,qah,qcE];try simp only[go_sem,seval,Try.results79])|(with_reducible refine And.intro ?_ ?_)|(with_reducible intro _)|(refine qai hcv ?_;simp only[go_sem,seval,Try.results79])|(refine @Exists.intro I _ (I.d D.nil) ?_;simp only[go_sem,seval,Try.results79])|((try rw[qad]);omega)
theorem Try.c_l20Place (b:List Int) (p n:Int) (c:Circ) (hb:Try.Bytes b) (hp:0≤p∧p≤1000000) (hn:0≤n∧n≤1000) :
  ICall Try.prog 44 [.ptr 0 0,.d (dC c),.d (dI n)] [Try.rd b p] (fun r H'=>∃ (l:List Int) (q:Int),(p≤q∧q≤p+40)∧(l.length≤20∧∀ x∈l,-1≤x∧x≤25)∧r=.d (dIs l)∧H'=[Try.rd b q]):=by
 have hce:=Try.c_sCells c
 have hcl:=qlA c
 generalize qeX c=cells at *
 refine qaF (E:=Try.env 1) Try.tok rfl 1000 Try.func44 rfl rfl Try.ntmps44 (by simp) ?_
 simp only[go_sem,seval,Try.results44]
 repeat' first|assumption|(simp (disch:=first|assumption|omega|(simp;done)|(simp;omega)) only[qaa,qac,List.take_of_length_le,qab,qae,qaf,qag,qah,qcE];try simp only[go_sem,seval,Try.results44])|(with_reducible refine And.intro ?_ ?_)|(with_reducible intro _)|(refine @Exists.intro I _ (I.d D.nil) ?_;simp only[go_sem,seval,Try.results44])|((try rw[qad]);omega)
 refine qao (E:=Try.env 1) Try.tok (σ:=Nat) (fun t=>[(0,.ptr 0 0),(1,.d (dC c)),(2,.d (dI n)),(4,.ptr 1 0),(7,.sl 2 0 1 0 0),(8,.sl 3 t 1 0 t),(9,.d (dI t))])
  (fun t=>[Try.rd b p,.box [.d (dI c.inputs),.d (dIs c.next),.d (dPs c.gates),.d (dIs c.outs)],.row 0 1 true [],.row t 1 true (((List.range t).map fun(j:Nat)=>(j:Int)).map (D.int .i64))]) (fun t=>t≤25) (fun t=>25-t) [] [] 1000 1000 ?_ ?_
 ·simp only[go_sem,seval]
  exact⟨0,by omega,by simp⟩
 ·intro t ht
  have hrs:(List.range (t+1)).map (fun(j:Nat)=>(j:Int))=(List.range t).map (fun(j:Nat)=>(j:Int)) ++ [(t:Int)]:=by rw[List.range_succ,List.map_append];rfl
  have hql:((List.range t).map fun(j:Nat)=>(j:Int)).length=t:=by simp
  by_cases htt:t<25
  ·generalize (List.range t).map (fun(j:Nat)=>(j:Int))=q at *
   simp only[go_sem,seval,Try.results44]
   repeat' first|assumption|(simp (disch:=first|assumption|omega|(simp;done)|(simp;omega)) only[qaa,qac,List.take_of_length_le,qab,qae,qaf,qag,qah,qcE];try simp only[go_sem,seval,Try.results44,hql])|(with_reducible refine And.intro ?_ ?_)|(with_reducible intro _)|(refine @Exists.intro I _ (I.d D.nil) ?_;simp only[go_sem,seval,Try.results44,hql])|((try rw[qad]);omega)
   refine⟨t+1,by omega,by omega,rfl,rfl,?_⟩
   rw[hrs]
  ·obtain rfl:t=25:=by omega
   have hrg : ∀ x∈(List.range 25).map (fun(j:Nat)=>(j:Int)),0≤x∧x≤24:=by decide
   generalize (List.range 25).map (fun(j:Nat)=>(j:Int))=F at *
   simp only[go_sem,seval,Try.results44]
   repeat' first|assumption|(simp (disch:=first|assumption|omega|(simp;done)|(simp;omega)) only[qaa,qac,List.take_of_length_le,qab,qae,qaf,qag,qah,qcE];try simp only[go_sem,seval,Try.results44,hql])|(with_reducible refine And.intro ?_ ?_)|(with_reducible intro _)|(refine qai hce ?_;simp only[go_sem,seval,Try.results44,hql])|(refine @Exists.intro I _ (I.d D.nil) ?_;simp only[go_sem,seval,Try.results44,hql])|((try rw[qad]);omega)
   refine qao (E:=Try.env 1) Try.tok (σ:=Int×Int×List Int×List Int) (fun s=>[(0,.ptr 0 0),(2,.d (dI n)),(7,.sl 2 s.2.2.1.length 1 0 s.2.2.1.length),(8,.d (dIs s.2.2.2)),(10,.d (dI s.1))])
    (fun s=>[Try.rd b s.2.1,.dead 0,.row s.2.2.1.length 1 true (s.2.2.1.map (D.int .i64))]) (fun s=>0≤s.1∧s.2.2.1.length+s.1≤17∧(s.2.2.2.length:Int)=25-s.2.2.1.length∧p≤s.2.1∧s.2.1≤p+s.2.2.1.length∧(∀ x∈s.2.2.1,0≤x∧x≤24)∧∀ x∈s.2.2.2,0≤x∧x≤24) (fun s=>s.1.toNat) [] [] 1000 1000 ?_ ?_
   ·simp only[go_sem,seval]
    refine⟨((cells.length:Int),p,[],F),⟨by simp only;omega,by simp only[List.length_nil];omega,by simp only[List.length_nil];omega,by simp only;omega,by simp only[List.length_nil];omega,by simp,hrg⟩,⟨rfl,List.take_of_length_le (by omega),rfl⟩,rfl,rfl,rfl⟩
   ·rintro⟨k,q,out,free⟩ hi
    simp only at hi
    simp only[go_sem,seval,Try.results44]
    refine⟨fun h1=>?_,fun h1=>?_⟩
    ·repeat' first|assumption|(simp (disch:=first|assumption|omega|(simp;done)|(simp;omega)) only[qaa,qac,List.take_of_length_le,qab,qae,qaf,qag,qah,qcE];try simp only[go_sem,seval,Try.results44])|(with_reducible refine And.intro ?_ ?_)|(with_reducible intro _)|(refine @Exists.intro I _ (I.d D.nil) ?_;simp only[go_sem,seval,Try.results44])|((try rw[qad]);omega)
     refine Try.pick_at hb (by omega) fun x hx=>?_
     simp only[go_sem,seval,Try.results44]
     repeat' first|assumption|(simp (disch:=first|assumption|omega|(simp;done)|(simp;omega)) only[qaa,qac,List.take_of_length_le,qab,qae,qaf,qag,qah,qcE];try simp only[go_sem,seval,Try.results44])|(with_reducible refine And.intro ?_ ?_)|(with_reducible intro _)|(refine @Exists.intro I _ (I.d D.nil) ?_;simp only[go_sem,seval,Try.results44])|((try rw[qad]);omega)
     refine qaQ (E:=Try.env 1) Try.tok Try.follows 1000 1000 [4,9] (.fst 1 (.fst 2 (.fst 3 (.fst 5 (.fst 6 (.fst 7 (.fst 8 (.one 0 (.one 4 (.one 9 (.fst 10 (.done)))))))))))) (by kernel_rfl) ?_
     simp only[go_sem,seval,Try.results44]
     repeat' first|assumption|(simp (disch:=first|assumption|omega|(simp;done)|(simp;omega)) only[qaa,qac,List.take_of_length_le,qab,qae,qaf,qag,qah,qcE];try simp only[go_sem,seval,Try.results44])|(with_reducible refine And.intro ?_ ?_)|(with_reducible intro _)|(refine @Exists.intro I _ (I.d D.nil) ?_;simp only[go_sem,seval,Try.results44])|((try rw[qad]);omega)
     ·rw[List.length_take];omega
     ·rw[List.length_take,List.length_drop];omega
     ·refine⟨(k-1,q+1,out ++ [free.getD x.toNat 0],free.take x.toNat++free.drop (x+1).toNat),⟨by simp only;omega,by simp only[List.length_append,List.length_singleton];omega,by simp only[List.length_append,List.length_singleton,List.length_take,List.length_drop];omega,by simp only;omega,by simp only[List.length_append,List.length_singleton];omega,fun y hy=>?_,fun y hy=>?_⟩,by simp only;omega,⟨by simp,rfl,rfl⟩,rfl,by simp,rfl⟩
      ·rcases List.mem_append.1 hy with h2|h2
       ·exact hi.2.2.2.2.2.1 y h2
       ·obtain rfl:y=free.getD x.toNat 0:=by simpa using h2
        exact hi.2.2.2.2.2.2 _ (qal (by omega))
      ·rcases List.mem_append.1 hy with h2|h2
       ·exact hi.2.2.2.2.2.2 y (List.mem_of_mem_take h2)
       ·exact hi.2.2.2.2.2.2 y (List.mem_of_mem_drop h2)
    ·have fin : ∀ (l:List Int) (q2:Int) (m:Nat) (A:R) (U:List R),m=l.length→p≤q2→q2≤p+40→l.length≤20→(∀ x∈l,-1≤x∧x≤25)→endI 1 (fun r H'=>∃ (l:List Int) (q:Int),(p≤q∧q≤p+40)∧(l.length≤20∧∀ x∈l,-1≤x∧x≤25)∧r=.d (dIs l)∧H'=[Try.rd b q]) (I.sl 2 m 1 0 l.length) (Try.rd b q2::A::.row m 1 true (l.map (D.int .i64))::U):=by
      intro l q2 m A U hm h3 h4 h5 h6
      subst hm
      refine qcA (by simp) (by simp[go_sem]) ?_
      simp only[go_sem,seval]
      exact⟨l,q2,⟨h3,h4⟩,⟨h5,h6⟩,rfl,rfl⟩
     have setF : ∀ (q3:Int) (j m:Nat) {w:Nat→Int}{B:R},p≤q3→q3≤p+40→(∀ m,-1≤w m∧w m≤25)→endI 1 (fun r H'=>∃ (l:List Int) (q:Int),(p≤q∧q≤p+40)∧(l.length≤20∧∀ x∈l,-1≤x∧x≤25)∧r=.d (dIs l)∧H'=[Try.rd b q]) (I.sl 2 out.length 1 0 out.length) [Try.rd b q3,.dead 0,.row out.length 1 (DP.own []) ((out.set j (w m)).map (D.int .i64)),B]:=by
      intro q3 j m w B h3 h4 h5
      have:=fin (out.set j (w m)) q3 _ (.dead 0) [B] rfl h3 h4 (by rw[List.length_set];omega) fun y hy=>by
       rcases List.mem_or_eq_of_mem_set hy with h|h
       ·have:=hi.2.2.2.2.2.1 y h;omega
       ·rw[h];exact h5 m
      rw[List.length_set] at this
      exact this
     repeat' first|assumption|(simp (disch:=first|assumption|omega|(simp;done)|(simp;omega)) only[qaa,qac,List.take_of_length_le,qab,qae,qaf,qag,qah,qcE];try simp only[go_sem,seval,Try.results44])|(with_reducible refine And.intro ?_ ?_)|(with_reducible intro _)|(refine @Exists.intro I _ (I.d D.nil) ?_;simp only[go_sem,seval,Try.results44])|((try rw[qad]);omega)
     refine Try.odd_at hb (by omega) hn fun o q2 hq2 ho=>?_
     by_cases h0:out.length=0
     ·have hd:decide ((out.length:Int)=0)=true:=decide_eq_true (by omega)
      simp only[go_sem,seval,Try.results44,hd]
      repeat' first|assumption|(simp (disch:=first|assumption|omega|(simp;done)|(simp;omega)) only[qaa,qac,List.take_of_length_le,qab,qae,qaf,qag,qah,qcE];try simp only[go_sem,seval,Try.results44,hd])|(with_reducible refine And.intro ?_ ?_)|(with_reducible intro _)|(refine @Exists.intro I _ (I.d D.nil) ?_;simp only[go_sem,seval,Try.results44,hd])|((try rw[qad]);omega)
      ·refine Try.pick_at hb (by omega) fun x hx=>?_
       simp only[go_sem,seval,Try.results44]
       repeat' first|assumption|(simp (disch:=first|assumption|omega|(simp;done)|(simp;omega)) only[qaa,qac,List.take_of_length_le,qab,qae,qaf,qag,qah,qcE];try simp only[go_sem,seval,Try.results44])|(with_reducible refine And.intro ?_ ?_)|(with_reducible intro _)|(refine @Exists.intro I _ (I.d D.nil) ?_;simp only[go_sem,seval,Try.results44])|((try rw[qad]);omega)
       rw[show out.length+1=(out ++ [x]).length by simp]
       refine fin (out ++ [x]) _ _ _ _ rfl (by omega) (by omega) (by simp;omega) fun y hy=>?_
       rcases List.mem_append.1 hy with h2|h2
       ·have:=hi.2.2.2.2.2.1 y h2;omega
       ·obtain rfl:y=x:=by simpa using h2
        omega
      ·exact fin out q2 _ _ [] rfl (by omega) (by omega) (by omega) fun y hy=>by have:=hi.2.2.2.2.2.1 y hy;omega
     ·have hd:decide ((out.length:Int)=0)=false:=decide_eq_false (by omega)
      simp only[go_sem,seval,Try.results44,hd]
      repeat' first|assumption|(simp (disch:=first|assumption|omega|(simp;done)|(simp;omega)) only[qaa,qac,List.take_of_length_le,qab,qae,qaf,qag,qah,qcE];try simp only[go_sem,seval,Try.results44,hd])|(with_reducible refine And.intro ?_ ?_)|(with_reducible intro _)|(refine @Exists.intro I _ (I.d D.nil) ?_;simp only[go_sem,seval,Try.results44,hd])|((try rw[qad]);omega)
      ·refine Try.pick_at hb (by omega) fun x hx=>?_
       simp only[go_sem,seval,Try.results44,hd]
       repeat' first|assumption|(simp (disch:=first|assumption|omega|(simp;done)|(simp;omega)) only[qaa,qac,List.take_of_length_le,qab,qae,qaf,qag,qah,qcE];try simp only[go_sem,seval,Try.results44,hd])|(with_reducible refine And.intro ?_ ?_)|(with_reducible intro _)|(refine Try.pick_at hb (by omega) ?_;simp only[go_sem,seval,Try.results44,hd])|(refine @Exists.intro I _ (I.d D.nil) ?_;simp only[go_sem,seval,Try.results44,hd])|((try rw[qad]);omega)
       ·rename_i x2 hx2
        rw[show out.length+1=(out ++ [x2]).length by simp]
        refine fin (out ++ [x2]) _ _ _ _ rfl (by omega) (by omega) (by simp;omega) fun y hy=>?_
        rcases List.mem_append.1 hy with h2|h2
        ·have:=hi.2.2.2.2.2.1 y h2;omega
        ·obtain rfl:y=x2:=by simpa using h2
         omega
       ·refine qaQ (E:=Try.env 1) Try.tok Try.follows 1000 1000 [4,10,14] (.fst 0 (.fst 1 (.fst 2 (.fst 3 (.fst 5 (.fst 6 (.fst 9 (.two 4 (.two 7 (.two 8 (.one 10 (.fst 11 (.one 12 (.fst 13 (.one 14 (.done)))))) 10 (.one 8 (.fst 11 (.one 12 (.fst 13 (.one 14 (.done))))))) 10 (.one 7 (.one 8 (.fst 11 (.one 12 (.fst 13 (.one 14 (.done)))))))) 7 (.two 4 (.two 8 (.one 10 (.fst 11 (.one 12 (.fst 13 (.one 14 (.done)))))) 10 (.one 8 (.fst 11 (.one 12 (.fst 13 (.one 14 (.done))))))) 8 (.one 4 (.one 10 (.fst 11 (.one 12 (.fst 13 (.one 14 (.done)))))))))))))))) (by kernel_rfl) ?_
        simp only[go_sem,seval,Try.results44]
        repeat' first|assumption|(simp (disch:=first|assumption|omega|(simp;done)|(simp;omega)) only[qaa,qac,List.take_of_length_le,qab,qae,qaf,qag,qah,qcE];try simp only[go_sem,seval,Try.results44])|(with_reducible refine And.intro ?_ ?_)|(with_reducible intro _)|(refine Try.pick_at hb (by omega) ?_;simp only[go_sem,seval,Try.results44])|(refine @Exists.intro I _ (I.d D.nil) ?_;simp only[go_sem,seval,Try.results44])|((try rw[qad]);omega)
        all_goals (
         refine setF (w:=fun m=>([-1,25,out.getD 0 0]:List Int).getD m 0) _ _ _ (by omega) (by omega) ?_
         intro m
         have h00:=hi.2.2.2.2.2.1 (out.getD 0 0) (qal (by omega))
         match m with
         | 0=>exact⟨by show -1≤(-1:Int);omega,by show(-1:Int)≤25;omega⟩
         | 1=>exact⟨by show -1≤(25:Int);omega,by show(25:Int)≤25;omega⟩
         | 2=>exact⟨by show -1≤out.getD 0 0;omega,by show out.getD 0 0≤25;omega⟩
         | _+3=>exact⟨by show -1≤(0:Int);omega,by show(0:Int)≤25;omega⟩)
      ·exact fin out q2 _ _ [] rfl (by omega) (by omega) (by omega) fun y hy=>by have:=hi.2.2.2.2.2.1 y hy;omega
end Go.Proofs

set_option maxRecDepth 20000
set_option linter.unusedVariables false
set_option linter.unusedSimpArgs false
namespace Go.Proofs
open Go Go.VL
theorem Try.circ_at1 {A0:R}{b:List Int}(hb:Try.Bytes b) {p n:Int}(hp:0≤p∧p≤100000000) (hn:0≤n∧n≤1000) {T:List R}{K:I→List R→Prop}(hk : ∀ c q,p≤q∧q≤p+200→(c.next.length≤40∧c.gates.length≤40∧c.outs.length≤40∧-1≤c.inputs∧c.inputs≤5)→K (.d (dC c)) (A0::Try.rd b q::T)) :
  ICall Try.prog 43 [.ptr 1 0,.d (dI n)] (A0::Try.rd b p::T) K:=by
 refine qar (Try.c_l20Circuit b p n hb hp hn) [1] (by simp only[go_sem,seval]) ?_
 rintro r0 H1 ⟨c,q,hq,hl,rfl,rfl⟩
 have:=hk c q hq hl
 simp only[go_sem,seval]
 simpa using this
theorem Try.place_at1 {A0:R}{b:List Int}(hb:Try.Bytes b) {p n:Int}{c:Circ}(hp:0≤p∧p≤1000000) (hn:0≤n∧n≤1000) {T:List R}{K:I→List R→Prop}(hk : ∀ l q,p≤q∧q≤p+40→(l.length≤20∧∀ x∈l,-1≤x∧x≤25)→K (.d (dIs l)) (A0::Try.rd b q::T)) :
  ICall Try.prog 44 [.ptr 1 0,.d (dC c),.d (dI n)] (A0::Try.rd b p::T) K:=by
 refine qar (Try.c_l20Place b p n c hb hp hn) [1] (by simp only[go_sem,seval]) ?_
 rintro r0 H1 ⟨l,q,hq,hl,rfl,rfl⟩
 have:=hk l q hq hl
 simp only[go_sem,seval]
 simpa using this
theorem Try.pick_at2 {b:List Int}(hb:Try.Bytes b) {p n:Int}(hp:0≤p∧p≤1000000000) {A0 A1:R}{T:List R}{K:I→List R→Prop}(hk : ∀ x,0≤x∧(x<n∨x=0)→K (.d (dI x)) (A0::A1::Try.rd b (p+1)::T)) :
  ICall Try.prog 52 [.ptr 2 0,.d (dI n)] (A0::A1::Try.rd b p::T) K:=by
 refine qar (Try.c_pick b p n hb hp) [2] (by simp only[go_sem,seval]) ?_
 rintro r0 H1 ⟨x,hx,rfl,rfl⟩
 have:=hk x hx
 simp only[go_sem,seval]
 simpa using this
def qoA (x:D):Prop:=∃ (c:Circ) (l:List Int),x=.tup [dC c,dIs l]∧(c.next.length≤40∧c.gates.length≤40∧c.outs.length≤40∧-1≤c.inputs∧c.inputs≤5)∧l.length≤20∧∀ x∈l,-1≤x∧x≤25
theorem Try.c_DrawWireLength (code:List Int):PureFE Try.prog 35 [dUs code] qoA:=by
 refine qe6 (E:=Try.env 0) Try.tok rfl 1000 Try.func35 rfl rfl Try.ntmps35 (by simp) fun ok=>?_
 simp only[go_sem,seval] at ok
 simp only[go_sem,seval,Try.results35]
 have hb:=Try.bytes_of ok.2 2000
 refine qkq (Try.c_l20Open code) [] (by simp only[go_sem,seval]) ?_
 simp only[go_sem,seval,Try.results35]
 refine Try.circ_at1 (p:=0) (n:=16) hb (by omega) (by omega) fun c q hq hc=>?_
 simp only[go_sem,seval,Try.results35]
 repeat' first|assumption|(simp (disch:=first|assumption|omega|(simp;done)|(simp;omega)) only[qaa,qac,List.take_of_length_le,qab];try simp only[go_sem,seval,Try.results35])|(with_reducible refine And.intro ?_ ?_)|(with_reducible intro _)|((try rw[qad]);omega)
 refine qaQ (E:=Try.env 0) Try.tok Try.follows 1000 1000 [3,4] (.fst 1 (.fst 2 (.two 0 (.one 3 (.one 4 (.fst 5 (.done)))) 3 (.one 0 (.one 4 (.fst 5 (.done))))))) (by kernel_rfl) ?_
 simp only[go_sem,seval,Try.results35]
 repeat' first|assumption|(simp (disch:=first|assumption|omega|(simp;done)|(simp;omega)) only[qaa,qac,List.take_of_length_le,qab];try simp only[go_sem,seval,Try.results35])|(with_reducible refine And.intro ?_ ?_)|(with_reducible intro _)|((try rw[qad]);omega)
 all_goals (
  refine Try.place_at1 (p:=q) (n:=9) hb (by omega) (by omega) fun l q2 hq2 hl=>?_
  simp only[go_sem,seval,Try.results35]
  repeat' first|assumption|(simp (disch:=first|assumption|omega|(simp;done)|(simp;omega)) only[qaa,qac,List.take_of_length_le,qab];try simp only[go_sem,seval,Try.results35])|(with_reducible refine And.intro ?_ ?_)|(with_reducible intro _)|((try rw[qad]);omega)
  exact⟨_,of_eq_true qjD,c,l,rfl,hc,hl⟩)
theorem Try.c_DrawRoute (code:List Int):PureFE Try.prog 11 [dUs code] qoA:=by
 refine qe6 (E:=Try.env 0) Try.tok rfl 1000 Try.func11 rfl rfl Try.ntmps11 (by simp) fun ok=>?_
 simp only[go_sem,seval] at ok
 simp only[go_sem,seval,Try.results11]
 repeat' first|assumption|(simp (disch:=first|assumption|omega|(simp;done)|(simp;omega)) only[qaa,qac,List.take_of_length_le,qab];try simp only[go_sem,seval,Try.results11])|(with_reducible refine And.intro ?_ ?_)|(with_reducible intro _)|((try rw[qad]);omega)
 refine qdm (Try.c_DrawWireLength code) ?_
 rintro x ⟨c,l,rfl,hc,hl⟩
 simp only[go_sem,seval,Try.results11]
 repeat' first|assumption|(simp (disch:=first|assumption|omega|(simp;done)|(simp;omega)) only[qaa,qac,List.take_of_length_le,qab];try simp only[go_sem,seval,Try.results11])|(with_reducible refine And.intro ?_ ?_)|(with_reducible intro _)|((try rw[qad]);omega)
 exact⟨_,of_eq_true qjD,c,l,rfl,hc,hl⟩
theorem Try.c_DrawClockPeriod (code:List Int):PureFE Try.prog 32 [dUs code] qoA:=by
 refine qe6 (E:=Try.env 0) Try.tok rfl 1000 Try.func32 rfl rfl Try.ntmps32 (by simp) fun ok=>?_
 simp only[go_sem,seval] at ok
 simp only[go_sem,seval,Try.results32]
 repeat' first|assumption|(simp (disch:=first|assumption|omega|(simp;done)|(simp;omega)) only[qaa,qac,List.take_of_length_le,qab];try simp only[go_sem,seval,Try.results32])|(with_reducible refine And.intro ?_ ?_)|(with_reducible intro _)|((try rw[qad]);omega)
 refine qdm (Try.c_DrawWireLength code) ?_
 rintro x ⟨c,l,rfl,hc,hl⟩
 simp only[go_sem,seval,Try.results32]
 repeat' first|assumption|(simp (disch:=first|assumption|omega|(simp;done)|(simp;omega)) only[qaa,qac,List.take_of_length_le,qab];try simp only[go_sem,seval,Try.results32])|(with_reducible refine And.intro ?_ ?_)|(with_reducible intro _)|((try rw[qad]);omega)
 exact⟨_,of_eq_true qjD,c,l,rfl,hc,hl⟩
theorem Try.c_DrawRouteDelay (code:List Int):PureFE Try.prog 22 [dUs code] (fun x=>∃ (c:Circ) (l:List Int) (n t:Int),x=.tup [dC c,dIs l,dI n,dI t]∧(c.next.length≤40∧c.gates.length≤40∧c.outs.length≤40∧-1≤c.inputs∧c.inputs≤5)∧l.length≤20):=by
 refine qe6 (E:=Try.env 0) Try.tok rfl 1000 Try.func22 rfl rfl Try.ntmps22 (by simp) fun ok=>?_
 simp only[go_sem,seval] at ok
 simp only[go_sem,seval,Try.results22]
 repeat' first|assumption|(simp (disch:=first|assumption|omega|(simp;done)|(simp;omega)) only[qaa,qac,List.take_of_length_le,qab];try simp only[go_sem,seval,Try.results22])|(with_reducible refine And.intro ?_ ?_)|(with_reducible intro _)|((try rw[qad]);omega)
 refine qdm (Try.c_DrawWireLength code) ?_
 rintro x ⟨c,l,rfl,hc,hl⟩
 simp only[go_sem,seval,Try.results22]
 repeat' first|assumption|(simp (disch:=first|assumption|omega|(simp;done)|(simp;omega)) only[qaa,qac,List.take_of_length_le,qab];try simp only[go_sem,seval,Try.results22])|(with_reducible refine And.intro ?_ ?_)|(with_reducible intro _)|((try rw[qad]);omega)
 have hb:=Try.bytes_of ok.2 2000
 refine qkq (Try.c_l20Open code) [] (by simp only[go_sem,seval]) ?_
 simp only[go_sem,seval,Try.results22]
 repeat' first|assumption|(simp (disch:=first|assumption|omega|(simp;done)|(simp;omega)) only[qaa,qac,List.take_of_length_le,qab];try simp only[go_sem,seval,Try.results22])|(with_reducible refine And.intro ?_ ?_)|(with_reducible intro _)|((try rw[qad]);omega)
 refine qaQ (E:=Try.env 0) Try.tok Try.follows 1000 1000 [3,5,7,10] (.fst 1 (.fst 2 (.fst 4 (.fst 6 (.two 0 (.one 3 (.one 5 (.one 7 (.fst 8 (.fst 9 (.one 10 (.fst 11 (.fst 12 (.fst 13 (.done)))))))))) 3 (.two 0 (.one 5 (.one 7 (.fst 8 (.fst 9 (.one 10 (.fst 11 (.fst 12 (.fst 13 (.done))))))))) 5 (.two 0 (.one 7 (.fst 8 (.fst 9 (.one 10 (.fst 11 (.fst 12 (.fst 13 (.done)))))))) 7 (.fst 8 (.fst 9 (.one 0 (.one 10 (.fst 11 (.fst 12 (.fst 13 (.done))))))))))))))) (by kernel_rfl) ?_
 simp only[go_sem,seval,Try.results22]
 repeat' first|assumption|(simp (disch:=first|assumption|omega|(simp;done)|(simp;omega)) only[qaa,qac,List.take_of_length_le,qab];try simp only[go_sem,seval,Try.results22])|(with_reducible refine And.intro ?_ ?_)|(with_reducible intro _)|(refine Try.pick_at2 hb (by omega) ?_;simp only[go_sem,seval,Try.results22])|((try rw[qad]);omega)
 all_goals exact⟨_,of_eq_true qjD,c,l,_,_,rfl,hc,hl.1⟩
end Go.Proofs

set_option maxRecDepth 20000
set_option linter.unusedVariables false
set_option linter.unusedSimpArgs false
namespace Go.Proofs
open Go Go.VL
theorem qcN {c:Circ}{place:List Int}{list:List (Int×Int)}{routes:List Rt}(h:qaI c place list=some routes):c.Valid∧PlaceOk (qaj c).length place∧qmP list∧∃ busy,RoutesOk c (qaj c) place (qet list) (c.vars.toNat-1) busy routes:=by
 classical
 rw[qaI] at h
 split at h
 ·rename_i hv
  obtain⟨busy,hR⟩:=qkN hv.1.1 hv.1.2 (qjP list) h
  exact⟨hv.1.1,hv.1.2,hv.2,busy,hR⟩
 ·cases h
theorem qb4 {c:Circ}{place:List Int}{list:List (Int×Int)}{routes:List Rt}(h:qaI c place list=some routes):RtsOk routes:=by
 classical
 rw[qaI] at h
 split at h
 ·rename_i hv
  exact qmM hv.1.1 hv.1.2 (qjP list) h
 ·cases h
end Go.Proofs
