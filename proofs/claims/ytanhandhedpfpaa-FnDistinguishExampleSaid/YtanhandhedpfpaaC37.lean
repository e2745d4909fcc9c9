/- Contracts: cycles of a circuit and reachable states of counters. Conditions: none; lemmas. -/
import Derived.Test.YtanhandhedpfpaaC23
set_option maxRecDepth 20000
set_option linter.unusedVariables false
set_option linter.unusedSimpArgs false
namespace Go.Proofs
open Go Go.VL
theorem Try.c_bitsOf (x n:Int) (hx:0≤x) (hn:0≤n∧n≤60):Pure Try.prog 26 [dI x,dI n] (dBs (bitsOf x n.toNat)):=by
 refine qau (E:=Try.env 0) Try.tok rfl 1000 Try.func26 rfl rfl Try.ntmps26 (by simp) fun ok=>?_
 simp only[go_sem,seval] at ok
 simp only[go_sem,seval,Try.results26]
 repeat' first|assumption|(simp (disch:=first|assumption|omega|(simp;done)|(simp;omega)) only[qae,qah,List.take_of_length_le,qag];try simp only[go_sem,seval,Try.results26])|(with_reducible first|apply And.intro|intro _)|(refine qai ?_;simp only[go_sem,seval,Try.results26])|exact lexT|((try rw[qaa]);omega)
 refine qbb (E:=Try.env 0) Try.tok (σ:=Nat) (fun i=>[(0,.d (dI x)),(5,.sl 0 0 1 0 n.toNat),(9,.sl 0 0 1 0 n.toNat),(10,.d (dI n.toNat)),(11,.d (dI i))]) (fun i=>[.row 0 1 true ((bitsOf x i++List.replicate (n.toNat-i) false).map D.bool)]) (fun i=>i≤n.toNat) (fun i=>n.toNat-i) [] 1000 1000 ?_ ?_ ?_
 ·simp only[go_sem,seval]
 ·simp only[go_sem,seval]
  exact⟨0,by omega,rfl,by simp[bitsOf]⟩
 ·intro i hi
  have hbl:(bitsOf x i).length=i:=by simp[bitsOf]
  have hq:0≤x/2 ^ i:=Int.ediv_nonneg hx (Int.le_of_lt (Int.pow_pos (by omega)))
  have hlen:(bitsOf x i++List.replicate (n.toNat-i) false).length=n.toNat:=by simp[bitsOf];omega
  have hbs:bitsOf x (i+1)=bitsOf x i ++ [decide (x/2 ^ i%2=1)]:=by rw[bitsOf,List.range_succ,List.map_append];rfl
  by_cases hlt:i<n.toNat
  ·simp only[go_sem,seval,Try.results26]
   repeat' first|assumption|(simp (disch:=first|assumption|omega|(simp;done)|(simp;omega)) only[qae,qah,List.take_of_length_le,qag];try simp only[go_sem,seval,Try.results26])|(with_reducible first|apply And.intro|intro _)|(refine qai ?_;simp only[go_sem,seval,Try.results26])|exact lexT|((try rw[qaa]);omega)
   refine⟨i+1,by omega,by omega,rfl,?_⟩
   rw[qck hbl (by omega),Nat.sub_sub,hbs,show decide (((x/2 ^ i).toNat &&& 1:Nat)=(1:Int))=decide (x/2 ^ i%2=1) from by simp only[land1 hq]]
  ·obtain rfl:i=n.toNat:=by omega
   simp only[go_sem,seval,Try.results26]
   repeat' first|assumption|(simp (disch:=first|assumption|omega|(simp;done)|(simp;omega)) only[qae,qah,List.take_of_length_le,qag];try simp only[go_sem,seval,Try.results26])|(with_reducible first|apply And.intro|intro _)|(refine qai ?_;simp only[go_sem,seval,Try.results26])|exact lexT|((try rw[qaa]);omega)
   simp
theorem or_pow {m i:Nat}(h:m<2 ^ i):m ||| 2 ^ i=m+2 ^ i:=by
 have:=Nat.two_pow_add_eq_or_of_lt h 1
 rw[Nat.mul_one] at this
 rw[Nat.or_comm,←this,Nat.add_comm]
theorem Try.c_inumber (l:List Bool) (h:l.length≤40):Pure Try.prog 27 [dBs l] (dI (numN l l.length)):=by
 refine qau (E:=Try.env 0) Try.tok rfl 1000 Try.func27 rfl rfl Try.ntmps27 (by simp) fun ok=>?_
 simp only[go_sem,seval] at ok
 simp only[go_sem,seval,Try.results27]
 refine qbb (E:=Try.env 0) Try.tok (σ:=Nat) (fun i=>[(0,.d (dBs l)),(3,.d (dI (numN l i))),(6,.d (dBs l)),(7,.d (dI l.length)),(8,.d (dI i))]) (fun _=>[]) (fun i=>i≤l.length) (fun i=>l.length-i) [] 1000 1000 ?_ ?_ ?_
 ·simp only[go_sem,seval]
 ·simp only[go_sem,seval]
  exact⟨0,by omega,rfl,rfl⟩
 ·intro i hi
  have hb:=qhG l i
  have hpp:(2:Int) ^ i≤2 ^ 40:=by
   have:=Nat.pow_le_pow_right (n:=2) (by omega) (show i≤40 by omega)
   have e:((2 ^ i:Nat):Int)=(2:Int) ^ i:=by simp
   omega
  have hp0:(0:Int)<2 ^ i:=Int.pow_pos (by omega)
  have e2:(2:Int) ^ i=((2 ^ i:Nat):Int):=by simp
  have hor:(((numN l i).toNat ||| ((2:Int) ^ i).toNat:Nat):Int)=numN l i+2 ^ i:=by
   rw[e2,Int.toNat_natCast,or_pow (by omega)];omega
  by_cases hlt:i<l.length
  ·have hs:numN l (i+1)=numN l i+if l.getD i false then 2 ^ i else 0:=rfl
   simp only[go_sem,seval,Try.results27,hor]
   repeat' first|assumption|(simp (disch:=first|assumption|omega|(simp;done)|(simp;omega)) only[qae,qah,List.take_of_length_le,qag];try simp only[go_sem,seval,Try.results27,hor])|(with_reducible first|apply And.intro|intro _)|(refine qai ?_;simp only[go_sem,seval,Try.results27,hor])|exact lexT|((try rw[qaa]);omega)
   ·rename_i h1
    exact⟨i+1,by omega,by omega,by rw[hs,if_pos h1],rfl⟩
   ·rename_i h1
    exact⟨i+1,by omega,by omega,by rw[hs,h1];simp,rfl⟩
  ·obtain rfl:i=l.length:=by omega
   simp only[go_sem,seval,Try.results27]
   repeat' first|assumption|(simp (disch:=first|assumption|omega|(simp;done)|(simp;omega)) only[qae,qah,List.take_of_length_le,qag];try simp only[go_sem,seval,Try.results27])|(with_reducible first|apply And.intro|intro _)|(refine qai ?_;simp only[go_sem,seval,Try.results27])|exact lexT|((try rw[qaa]);omega)
theorem Try.c_cycle (c:Circ) (hv:c.Valid) (s x:Int) (hs:0≤s) (hx:0≤x):Pure Try.prog 15 [pC c,dI s,dI x]
  (.tup [dI (numN (qb7 (values c (bitsOf s c.next.length) (bitsOf x c.inputs.toNat)) c.next) c.next.length),dI (numN (qb7 (values c (bitsOf s c.next.length) (bitsOf x c.inputs.toNat)) c.outs) c.outs.length)]):=by
 refine qau (E:=Try.env 0) Try.tok rfl 1000 Try.func15 rfl rfl Try.ntmps15 (by simp) fun ok=>?_
 simp only[go_sem,seval] at ok
 simp only[go_sem,seval,Try.results15]
 have hi0:=hv.i0;have hi1:=hv.i1;have hln:=hv.ln;have hlo:=hv.lo
 have q1:=Try.c_bitsOf s c.next.length hs (by omega)
 have q2:=Try.c_bitsOf x c.inputs hx (by omega)
 rw[Int.toNat_natCast] at q1
 have hl1:(bitsOf s c.next.length).length=c.next.length:=by simp[bitsOf]
 have hl2:(bitsOf x c.inputs.toNat).length=c.inputs.toNat:=by simp[bitsOf]
 have q3:=Try.c_evaluate c hv (bitsOf s c.next.length) (bitsOf x c.inputs.toNat) hl1 (by omega) false
 have hvl:(values c (bitsOf s c.next.length) (bitsOf x c.inputs.toNat)).length=c.vars.toNat:=by
  rw[values,qfk,hl1,hl2];unfold Circ.vars Circ.first;omega
 have hvb:=hv.vars_bd
 have hfb:=hv.first_bd
 generalize values c (bitsOf s c.next.length) (bitsOf x c.inputs.toNat)=vs at *
 have q4:=Try.c_litValues vs c.next (fun l hl=>by have:=hv.n l hl;unfold qbc at this;omega) (by omega)
 have q5:=Try.c_litValues vs c.outs (fun l hl=>by have:=hv.o l hl;unfold qbc at this;omega) (by omega)
 have q6:=Try.c_inumber (qb7 vs c.next) (by rw[qdW];omega)
 have q7:=Try.c_inumber (qb7 vs c.outs) (by rw[qdW];omega)
 rw[qdW] at q6 q7
 refine qax (E:=Try.env 0) Try.tok Try.follows 1000 1000 [] (fsts [0,1,2,3,4,8,9,10,11,5,6,12] (.one 7 (.one 13 (.one 14 (.fst 15 .done))))) (by kernel_rfl) ?_
 simp only[go_sem,seval,Try.results15]
 repeat' first|assumption|(simp (disch:=first|assumption|omega|(simp;done)|(simp;omega)) only[qae,qah,List.take_of_length_le,qag];try simp only[go_sem,seval,Try.results15])|(with_reducible first|apply And.intro|intro _)|(refine qad q1 ?_;simp only[go_sem,seval,Try.results15])|(refine qad q2 ?_;simp only[go_sem,seval,Try.results15])|(refine qad q3 ?_;simp only[go_sem,seval,Try.results15])|(refine qai ?_;simp only[go_sem,seval,Try.results15])|exact lexT|((try rw[qaa]);omega)
 all_goals
  refine qax (E:=Try.env 0) Try.tok Try.follows 1000 1000 [] (fsts [0,1,2,3,7,8,9,10,4,11] (.one 5 (.one 6 (.one 12 (.one 13 (fsts [14,15] .done)))))) (by kernel_rfl) ?_
  simp only[go_sem,seval,Try.results15]
  repeat' first|assumption|(simp (disch:=first|assumption|omega|(simp;done)|(simp;omega)) only[qae,qah,List.take_of_length_le,qag];try simp only[go_sem,seval,Try.results15])|(with_reducible first|apply And.intro|intro _)|(refine qad q4 ?_;simp only[go_sem,seval,Try.results15])|(refine qad q5 ?_;simp only[go_sem,seval,Try.results15])|(refine qad q6 ?_;simp only[go_sem,seval,Try.results15])|(refine qad q7 ?_;simp only[go_sem,seval,Try.results15])|(refine qai ?_;simp only[go_sem,seval,Try.results15])|exact lexT|((try rw[qaa]);omega)
def mpN (m:Nat):List (D×D):=(List.range m).map fun(j:Nat)=>(dI j,D.bool true)
theorem qg9 (k:D) : ∀ (a b:List (D×D)),qbg (a++b) k=(qbg a k).or (qbg b k)
 | [],b=>by simp[qbg]
 | x::r,b=>by
  simp only[List.cons_append,qbg]
  split
  ·rfl
  ·exact qg9 k r b
theorem qid (m:Nat):mpN (m+1)=mpN m ++ [(dI m,.bool true)]:=by rw[mpN,List.range_succ,List.map_append];rfl
theorem qdX : ∀ (m:Nat) (x:Int),qbg (mpN m) (dI x)=if 0≤x∧x<m then some (D.bool true) else none
 | 0,x=>by rw[if_neg (by omega)];rfl
 | m+1,x=>by
  rw[qid,qg9,qdX m x]
  by_cases h:x=m
  ·subst h;rw[if_neg (by omega),if_pos (by omega)];simp[qbg,qcM]
  ·by_cases h2:0≤x∧x<m
   ·rw[if_pos h2,if_pos (by omega)];rfl
   ·rw[if_neg h2,if_neg (by omega)];simp[qbg,qcM,h]
theorem mpN_upd (m:Nat):updD (mpN m) (dI m) (.bool true)=mpN (m+1):=by
 rw[qeE (by rw[qdX,if_neg (by omega)]),qid]
theorem qie (m:Nat):qaJ (.int .i64) (mpN m):=by
 rw[qdq]
 intro e he
 obtain⟨j,_,rfl⟩:=List.mem_map.1 he
 simp[qaS,D.isInt]
def rng (m:Nat):List Int:=(List.range m).map fun(j:Nat)=>(j:Int)
theorem qkh (m:Nat):(rng m).length=m:=by simp[rng]
theorem qmn (m:Nat):rng (m+1)=rng m ++ [(m:Int)]:=by rw[rng,List.range_succ,List.map_append];rfl
theorem qki {m i:Nat}(h:i<m):(rng m).getD i 0=i:=range_map_get h
set_option maxHeartbeats 1000000 in
theorem Try.c_Reachable (c:Circ) (hv:c.Valid) (n N:Nat) (hn:c.next.length=n) (hN:N=2 ^ n) (hi:c.inputs=1)
  (hc : ∀ s x:Nat,s<N→x<2→numN (qb7 (values c (bitsOf s c.next.length) (bitsOf x c.inputs.toNat)) c.next) c.next.length=((s+x)%N:Nat)) :
  Pure Try.prog 9 [dC c] (dIs (rng N)):=by
 have hcy : ∀ s x:Nat,s<N→x<2→∃ o,Pure Try.prog 15 [pC c,dI s,dI x] (.tup [dI ((s+x)%N:Nat),dI o]):=fun s x h1 h2=>⟨_,by
  have:=Try.c_cycle c hv s x (by omega) (by omega)
  rw[hc s x h1 h2] at this
  exact this⟩
 obtain⟨inp,nx,gs,os⟩:=c
 simp only at hi hn
 subst hi
 have hln:=hv.ln
 simp only at hln
 have hNb:1≤N∧N≤8:=by
  subst hN
  have:=Nat.pow_le_pow_right (n:=2) (by omega) (show n≤3 by omega)
  exact⟨Nat.one_le_two_pow,by omega⟩
 clear hc
 refine qau (E:=Try.env 0) Try.tok rfl 1000 Try.func9 rfl rfl Try.ntmps9 (by simp) fun ok=>?_
 simp only[go_sem,seval] at ok
 simp only[go_sem,seval,Try.results9]
 refine qad (Try.c_CircuitValid ⟨1,nx,gs,os⟩) ?_
 rw[decide_eq_true hv]
 simp only[go_sem,seval,Try.results9]
 repeat' first|assumption|(simp (disch:=first|assumption|omega|(simp;done)|(simp;omega)) only[qae,qah,List.take_of_length_le,qag];try simp only[go_sem,seval,Try.results9])|(with_reducible first|apply And.intro|intro _)|(refine qai ?_;simp only[go_sem,seval,Try.results9])|exact lexT|((try rw[qaa]);omega)
 refine qbb (E:=Try.env 0) Try.tok (σ:=Nat) (fun i=>[(1,.ptr 0 0),(3,.sl 1 (min (i+1) N-1) 1 0 (min (i+1) N)),(4,.map 2),(5,.d (dI i))])
  (fun i=>[.box [.d (dI 1),.d (dIs nx),.d (dPs gs),.d (dIs os)],.row (min (i+1) N-1) 1 true ((rng (min (i+1) N)).map (D.int .i64)),.map (mpN (min (i+1) N))]) (fun i=>i≤N) (fun i=>N-i) [] 1000 1000 ?_ ?_ ?_
 ·simp only[go_sem,seval]
 ·simp only[go_sem,seval]
  refine⟨0,by omega,?_⟩
  rw[show min (0+1) N=1 by omega]
  exact⟨⟨⟨rfl,rfl⟩,rfl⟩,⟨rfl,rfl⟩,rfl⟩
 ·intro i hi
  have hrl:=qkh (min (i+1) N)
  by_cases hlt:i<N
  ·have e1:min (i+1) N=i+1:=by omega
   rw[e1] at hrl
   simp only[go_sem,seval,Try.results9,e1]
   repeat' first|assumption|(simp (disch:=first|assumption|omega|(simp;done)|(simp;omega)) only[qae,qah,List.take_of_length_le,qag];try simp only[go_sem,seval,Try.results9,e1])|(with_reducible first|apply And.intro|intro _)|(refine qai ?_;simp only[go_sem,seval,Try.results9,e1])|exact lexT|((try rw[qaa]);omega)
   refine qbb (E:=Try.env 0) Try.tok (σ:=Nat) (fun j=>[(1,.ptr 0 0),(3,.sl 1 (min (i+1+j/2) N-1) 1 0 (min (i+1+j/2) N)),(4,.map 2),(5,.d (dI i)),(23,.d (dI 2)),(24,.d (dI j))])
    (fun j=>[.box [.d (dI 1),.d (dIs nx),.d (dPs gs),.d (dIs os)],.row (min (i+1+j/2) N-1) 1 true ((rng (min (i+1+j/2) N)).map (D.int .i64)),.map (mpN (min (i+1+j/2) N))]) (fun j=>j≤2) (fun j=>2-j) [] 1000 1000 ?_ ?_ ?_
   ·simp only[go_sem,seval]
   ·simp only[go_sem,seval]
    exact⟨0,by omega,⟨⟨by simp;omega,by simp;omega⟩,rfl⟩,⟨by simp;omega,by simp[e1]⟩,by simp[e1]⟩
   ·intro j hj
    obtain rfl|rfl|rfl:j=0∨j=1∨j=2:=by omega
    ·have e2:min (i+1+0/2) N=i+1:=by omega
     have e3:min (i+1+1/2) N=i+1:=by omega
     obtain⟨o,hq⟩:=hcy i 0 hlt (by omega)
     have hg:(rng (i+1)).getD i 0=i:=qki (by omega)
     have hl:=qdX (i+1) (i:Int)
     rw[show(i+0)%N=i by rw[Nat.add_zero,Nat.mod_eq_of_lt hlt]] at hq
     rw[if_pos (by omega)] at hl
     have hk:=qie (i+1)
     simp only[go_sem,seval,Try.results9,e2,hg,hl]
     repeat' first|assumption|(simp (disch:=first|assumption|omega|(simp;done)|(simp;omega)) only[qae,qah,List.take_of_length_le,qag];try simp only[go_sem,seval,Try.results9,e2,hg,hl])|(with_reducible first|apply And.intro|intro _)|(refine qad hq ?_;simp only[go_sem,seval,Try.results9,e2,hg,hl])|(refine qai ?_;simp only[go_sem,seval,Try.results9,e2,hg,hl])|exact lexT|((try rw[qaa]);omega)
     all_goals first
      | omega
      | exact⟨1,by omega,by omega,⟨⟨by omega,by omega⟩,rfl⟩,⟨by omega,by rw[e3]⟩,by rw[e3]⟩
    ·have e2:min (i+1+1/2) N=i+1:=by omega
     obtain⟨o,hq⟩:=hcy i 1 hlt (by omega)
     have hg:(rng (i+1)).getD i 0=i:=qki (by omega)
     have hk:=qie (i+1)
     by_cases hl1:i+1<N
     ·have e3:min (i+1+2/2) N=i+2:=by omega
      have hl:=qdX (i+1) ((i+1:Nat):Int)
      rw[Nat.mod_eq_of_lt hl1] at hq
      rw[if_neg (by omega)] at hl
      have hu:=mpN_upd (i+1)
      have hr:=qmn (i+1)
      simp only[go_sem,seval,Try.results9,e2,hg,hl,hu]
      repeat' first|assumption|(simp (disch:=first|assumption|omega|(simp;done)|(simp;omega)) only[qae,qah,List.take_of_length_le,qag];try simp only[go_sem,seval,Try.results9,e2,hg,hl,hu])|(with_reducible first|apply And.intro|intro _)|(refine qad hq ?_;simp only[go_sem,seval,Try.results9,e2,hg,hl,hu])|(refine qai ?_;simp only[go_sem,seval,Try.results9,e2,hg,hl,hu])|exact lexT|((try rw[qaa]);omega)
      all_goals first
       | omega
       | exact⟨2,by omega,by omega,⟨⟨by omega,by omega⟩,rfl⟩,⟨by omega,by rw[e3,←hr]⟩,by rw[e3]⟩
     ·have e3:min (i+1+2/2) N=i+1:=by omega
      have hl:=qdX (i+1) 0
      rw[show(i+1)%N=0 by rw[show i+1=N by omega,Nat.mod_self]] at hq
      rw[if_pos (by omega)] at hl
      simp only[go_sem,seval,Try.results9,e2,hg,hl]
      repeat' first|assumption|(simp (disch:=first|assumption|omega|(simp;done)|(simp;omega)) only[qae,qah,List.take_of_length_le,qag];try simp only[go_sem,seval,Try.results9,e2,hg,hl])|(with_reducible first|apply And.intro|intro _)|(refine qad hq ?_;simp only[go_sem,seval,Try.results9,e2,hg,hl])|(refine qai ?_;simp only[go_sem,seval,Try.results9,e2,hg,hl])|exact lexT|((try rw[qaa]);omega)
      all_goals first
       | omega
       | exact⟨2,by omega,by omega,⟨⟨by omega,by omega⟩,rfl⟩,⟨by omega,by rw[e3]⟩,by rw[e3]⟩
    ·have e2:min (i+1+2/2) N=min (i+1+1) N:=rfl
     simp only[go_sem,seval,Try.results9,e2]
     repeat' first|assumption|(simp (disch:=first|assumption|omega|(simp;done)|(simp;omega)) only[qae,qah,List.take_of_length_le,qag];try simp only[go_sem,seval,Try.results9,e2])|(with_reducible first|apply And.intro|intro _)|(refine qai ?_;simp only[go_sem,seval,Try.results9,e2])|exact lexT|((try rw[qaa]);omega)
     all_goals first
      | omega
      | exact⟨i+1,by omega,by omega,⟨⟨rfl,rfl⟩,rfl⟩,⟨rfl,rfl⟩,rfl⟩
  ·obtain rfl:i=N:=by omega
   have e1:min (i+1) i=i:=by omega
   simp only[go_sem,seval,Try.results9,e1]
   repeat' first|assumption|(simp (disch:=first|assumption|omega|(simp;done)|(simp;omega)) only[qae,qah,List.take_of_length_le,qag];try simp only[go_sem,seval,Try.results9,e1])|(with_reducible first|apply And.intro|intro _)|(refine qai ?_;simp only[go_sem,seval,Try.results9,e1])|exact lexT|((try rw[qaa]);omega)
   rw[qkh]
def qdY (n N:Nat) (s x:Nat):Bool:=decide (numN (qb7 (values (cnC n) (bitsOf s n) (bitsOf x 1)) (cnC n).next) n=(((s+x)%N:Nat):Int))&&decide (qb7 (values (cnC n) (bitsOf s n) (bitsOf x 1)) (cnC n).next=bitsOf ((s+x)%N:Nat) n) &&
 decide (qb7 (values (cnC n) (bitsOf s n) (bitsOf x 1)) (cnC n).outs=bitsOf s n)&&decide (numN (bitsOf s n) n=s)
theorem qkj : ∀ s,s<2→∀ x,x<2→qdY 1 2 s x=true:=by decide +kernel
theorem qkk : ∀ s,s<4→∀ x,x<2→qdY 2 4 s x=true:=by decide +kernel
theorem qkl : ∀ s,s<8→∀ x,x<2→qdY 3 8 s x=true:=by decide +kernel
structure CnDo (c:Circ) (n N:Nat):Prop where
 hv:c.Valid
 hi:c.inputs=1
 hn:c.next.length=n
 hN:N=2 ^ n
 ho:c.outs.length=n
 hf : ∀ s x:Nat,s<N→x<2→qb7 (values c (bitsOf s n) (bitsOf x 1)) c.next=bitsOf ((s+x)%N:Nat) n∧qb7 (values c (bitsOf s n) (bitsOf x 1)) c.outs=bitsOf s n
 hb : ∀ s:Nat,s<N→numN (bitsOf s n) n=s
theorem cnDo (n:Int) (h:1≤n∧n≤3):CnDo (cnC n) n.toNat (2 ^ n.toNat):=by
 have hv:=(qkg n h).1
 obtain rfl|rfl|rfl:n=1∨n=2∨n=3:=by omega
 ·refine⟨hv,rfl,by decide +kernel,rfl,by decide +kernel,fun s x hs hx=>?_,fun s hs=>?_⟩
  ·have:=qkj s hs x hx
   simp only[qdY,Bool.and_eq_true,decide_eq_true_eq] at this
   exact⟨this.1.1.2,this.1.2⟩
  ·have:=qkj s hs 0 (by omega)
   simp only[qdY,Bool.and_eq_true,decide_eq_true_eq] at this
   exact this.2
 ·refine⟨hv,rfl,by decide +kernel,rfl,by decide +kernel,fun s x hs hx=>?_,fun s hs=>?_⟩
  ·have:=qkk s hs x hx
   simp only[qdY,Bool.and_eq_true,decide_eq_true_eq] at this
   exact⟨this.1.1.2,this.1.2⟩
  ·have:=qkk s hs 0 (by omega)
   simp only[qdY,Bool.and_eq_true,decide_eq_true_eq] at this
   exact this.2
 ·refine⟨hv,rfl,by decide +kernel,rfl,by decide +kernel,fun s x hs hx=>?_,fun s hs=>?_⟩
  ·have:=qkl s hs x hx
   simp only[qdY,Bool.and_eq_true,decide_eq_true_eq] at this
   exact⟨this.1.1.2,this.1.2⟩
  ·have:=qkl s hs 0 (by omega)
   simp only[qdY,Bool.and_eq_true,decide_eq_true_eq] at this
   exact this.2
end Go.Proofs
