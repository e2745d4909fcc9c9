/- Contracts: the search for inputs that tell two circuits apart. Conditions: none; lemmas. -/
import Derived.Test.YtanhandhedpfpaaC37
set_option maxRecDepth 20000
set_option linter.unusedVariables false
set_option linter.unusedSimpArgs false
namespace Go.Proofs
open Go Go.VL
theorem Try.c_CloneB (l:List Bool) (hl:l.length≤1048576):Pure Try.prog 30 [dBs l] (dBs l):=by
 refine qfJ (T:=Try.tyT) Try.tok Try.func30 rfl rfl (by simp[Try.ntmps30]) ?_
 rw[Try.ntmps30]
 refine qgp (E:=Try.env 0) (ks:=[]) (qfT (qnt Try.tok rfl rfl trivial (qj7 (qgp (qgp (qfT (qnt Try.tok rfl rfl ?_ (qme Try.tok rfl rfl ?_ rfl fun b hb=>qmf Try.tok 1000 ?_))))))))
 ·simp only[go_sem,seval]
 ·simp only[go_sem,seval]
 ·simp only[go_sem,seval,Try.results30]
  exact⟨hb,fun h=>by omega⟩
def qdZ (p:List (List Bool)):D:=if p=[] then .nil else dBss p
theorem qiP (p:List (List Bool)):(qdZ p).cellAt 0=qdZ p:=by unfold qdZ;split <;> rfl
theorem qkm (p:List (List Bool)):(qdZ p).one=true:=by unfold qdZ;split <;> rfl
theorem qkn {n:Nat}{k:Nat}{Po:I→List R→Prop}{H:List R}(hk:0<k) (h:Po (.sl H.length 0 k 0 0) (H ++ [.row 0 k false []])):endI n Po (.d .nil) H:=by
 refine⟨_,_,qb3 [(0,k,false)] ⟨rfl,by show 0<1;omega,hk,trivial⟩,rfl,?_⟩
 exact h
theorem Try.c_CloneP (p:List (List Bool)) (hp:p.length≤1000000):ICall Try.prog 29 [.d (qdZ p)] [] (fun r H'=>∃ g',r=.sl 0 g' 1 0 p.length∧H'=[.row g' 1 false (p.map fun x=>dBs x)]):=by
 refine qcY (E:=Try.env 0) Try.tok rfl 1000 Try.func29 rfl rfl Try.ntmps29 (by simp) ?_
 by_cases h:p=[]
 ·subst h
  simp only[qdZ,if_true]
  simp only[go_sem,seval,Try.results29]
  repeat' first|assumption|(simp (disch:=first|assumption|omega|(simp;done)|(simp;omega)) only[qae,qah,List.take_of_length_le,qag];try simp only[go_sem,seval,Try.results29])|(with_reducible first|apply And.intro|intro _)|(refine qai ?_;simp only[go_sem,seval,Try.results29])|exact lexT|((try rw[qaa]);omega)
  ·exact .inl trivial
  ·exact qkn (by decide) ⟨0,rfl,rfl⟩
 ·have hs:scalars (p.map fun x=>dBs x)=false:=by
   cases p with
   | nil=>exact absurd rfl h
   | cons x r=>rfl
  simp only[qdZ,if_neg h]
  simp only[go_sem,seval,Try.results29]
  repeat' first|assumption|(simp (disch:=first|assumption|omega|(simp;done)|(simp;omega)) only[qae,qah,List.take_of_length_le,qag];try simp only[go_sem,seval,Try.results29])|(with_reducible first|apply And.intro|intro _)|(refine qai ?_;simp only[go_sem,seval,Try.results29])|exact lexT|((try rw[qaa]);omega)
  ·exact .inr (by simpa using h)
  ·rw[hs,qjb]
   exact qcj ⟨1,rfl,rfl⟩
def cyN (c:Circ) (s x:Int):Int×Int:=
 (numN (qb7 (values c (bitsOf s c.next.length) (bitsOf x c.inputs.toNat)) c.next) c.next.length,numN (qb7 (values c (bitsOf s c.next.length) (bitsOf x c.inputs.toNat)) c.outs) c.outs.length)
theorem qny (c:Circ) (s x:Int):0≤(cyN c s x).1:=(qhG _ _).1
theorem Try.c_differ (a b:Circ) (ha:a.Valid) (hb:b.Valid) (s:Int×Int) (x:Int) (h1:0≤s.1) (h2:0≤s.2) (hx:0≤x) :
  Pure Try.prog 14 [dP s,dI x,pC a,pC b] (.tup [dP ((cyN a s.1 x).1,(cyN b s.2 x).1),.bool (!decide ((cyN a s.1 x).2=(cyN b s.2 x).2))]):=by
 have q1:=Try.c_cycle a ha s.1 x h1 hx
 have q2:=Try.c_cycle b hb s.2 x h2 hx
 refine qau (E:=Try.env 0) Try.tok rfl 1000 Try.func14 rfl rfl Try.ntmps14 (by simp) fun ok=>?_
 simp only[go_sem,seval] at ok
 simp only[go_sem,seval,Try.results14]
 repeat' first|assumption|(simp (disch:=first|assumption|omega|(simp;done)|(simp;omega)) only[qae,qah,List.take_of_length_le,qag];try simp only[go_sem,seval,Try.results14])|(with_reducible first|apply And.intro|intro _)|(refine qad q1 ?_;simp only[go_sem,seval,Try.results14])|(refine qad q2 ?_;simp only[go_sem,seval,Try.results14])|(refine qai ?_;simp only[go_sem,seval,Try.results14])|exact lexT|((try rw[qaa]);omega)
 all_goals rfl
structure Sr where
 q:List (Int×Int)
 ps:List (List (List Bool))
 res:Option (List (List Bool))
abbrev StT:=Int×Int→Nat→(Int×Int)×Bool
def srIn (st:StT) (n:Nat) (i:Nat) (s:Sr) (x:Nat):Sr:=
 if s.res.isSome=true then s
 else if(st (s.q.getD i (0,0)) x).2=true then⟨s.q,s.ps,some (s.ps.getD i [] ++ [bitsOf x n])⟩
 else if(st (s.q.getD i (0,0)) x).1∈s.q then s
 else⟨s.q ++ [(st (s.q.getD i (0,0)) x).1],s.ps ++ [s.ps.getD i [] ++ [bitsOf x n]],none⟩
def srR (st:StT) (n:Nat) (i:Nat) (s:Sr):Nat→Sr
 | 0=>s
 | x+1=>srIn st n i (srR st n i s x) x
def srN (st:StT) (n:Nat):Nat→Sr
 | 0=>⟨[(0,0)],[[]],none⟩
 | i+1=>srR st n i (srN st n i) (2 ^ n)
theorem qif {st:StT}{n i:Nat}{s:Sr}{p:List (List Bool)}{x:Nat}(h:(srR st n i s x).res=some p) : ∀ k,(srR st n i s (x+k)).res=some p
 | 0=>h
 | k+1=>by
  have:=qif h k
  show(srIn st n i (srR st n i s (x+k)) (x+k)).res=some p
  rw[srIn,if_pos (by rw[this];rfl)]
  exact this
structure SrOk (n:Nat) (s:Sr) (L:Nat):Prop where
 len:s.ps.length=s.q.length
 pos:1≤s.q.length
 ql:s.q.length≤L+1
 pl : ∀ p∈s.ps,p.length≤L
 nn : ∀ x∈s.q,0≤x.1∧0≤x.2
 rl : ∀ p∈s.ps,∀ y∈p,y.length=n
def StOk (st:StT):Prop:=∀ (s:Int×Int) (x:Nat),0≤s.1→0≤s.2→0≤(st s x).1.1∧0≤(st s x).1.2
theorem qig {ps:List (List (List Bool))}{L:Nat}(h : ∀ p∈ps,p.length≤L) (i:Nat):(ps.getD i []).length≤L:=by
 by_cases hi:i<ps.length
 ·exact h _ (qat hi)
 ·simp[List.getD,List.getElem?_eq_none (Nat.le_of_not_lt hi)]
theorem qko {q:List (Int×Int)}(h : ∀ x∈q,0≤x.1∧0≤x.2) (i:Nat):0≤(q.getD i (0,0)).1∧0≤(q.getD i (0,0)).2:=by
 by_cases hi:i<q.length
 ·exact h _ (qat hi)
 ·simp[List.getD,List.getElem?_eq_none (Nat.le_of_not_lt hi)]
theorem qkp {ps:List (List (List Bool))}{n:Nat}(h : ∀ p∈ps,∀ y∈p,y.length=n) (i:Nat) : ∀ y∈ps.getD i [],y.length=n:=by
 by_cases hi:i<ps.length
 ·exact h _ (qat hi)
 ·simp[List.getD,List.getElem?_eq_none (Nat.le_of_not_lt hi)]
theorem srIn_ok {st:StT}(hs:StOk st) {n i:Nat}{s:Sr}{x L:Nat}(h:SrOk n s L):SrOk n (srIn st n i s x) (L+1):=by
 obtain⟨h1,h2,h3,h4,h5,h6⟩:=h
 have e:=qig h4 i
 have f:=qko h5 i
 have g:=hs _ x f.1 f.2
 have r:=qkp h6 i
 have k:SrOk n s (L+1):=⟨h1,h2,by omega,fun p hp=>by have:=h4 p hp;omega,h5,h6⟩
 unfold srIn
 split
 ·exact k
 ·split
  ·exact⟨h1,h2,k.ql,k.pl,h5,h6⟩
  ·split
   ·exact k
   ·refine⟨by simp[h1],by simp,by simp;omega,fun p hp=>?_,fun y hy=>?_,fun p hp=>?_⟩
    ·rcases List.mem_append.1 hp with hp|hp
     ·exact k.pl p hp
     ·obtain rfl:=List.mem_singleton.1 hp
      rw[List.length_append];show _+1≤_;omega
    ·rcases List.mem_append.1 hy with hy|hy
     ·exact h5 y hy
     ·obtain rfl:=List.mem_singleton.1 hy
      exact g
    ·rcases List.mem_append.1 hp with hp|hp
     ·exact h6 p hp
     ·obtain rfl:=List.mem_singleton.1 hp
      intro y hy
      rcases List.mem_append.1 hy with hy|hy
      ·exact r y hy
      ·obtain rfl:=List.mem_singleton.1 hy
       simp[bitsOf]
theorem qkq {st:StT}(hs:StOk st) {n i:Nat}{s:Sr}{L:Nat}(h:SrOk n s L) : ∀ x,SrOk n (srR st n i s x) (L+x)
 | 0=>h
 | x+1=>srIn_ok hs (qkq hs h x)
theorem qnz {st:StT}(hs:StOk st) {n:Nat} : ∀ i,SrOk n (srN st n i) (i*2 ^ n)
 | 0=>⟨rfl,Nat.le_refl _,by simp[srN],fun p hp=>by obtain rfl:=List.mem_singleton.1 hp;simp,fun x hx=>by obtain rfl:=List.mem_singleton.1 hx;simp,fun p hp=>by obtain rfl:=List.mem_singleton.1 hp;simp⟩
 | i+1=>by
  rw[Nat.succ_mul]
  exact qkq hs (qnz hs i) _
theorem srIn_le {st:StT}{n i:Nat}{s:Sr}{x:Nat}:s.q.length≤(srIn st n i s x).q.length:=by
 unfold srIn
 split
 ·exact Nat.le_refl _
 ·split
  ·exact Nat.le_refl _
  ·split
   ·exact Nat.le_refl _
   ·simp
theorem qnA {st:StT}{n i:Nat}{s:Sr} : ∀ x,s.q.length≤(srR st n i s x).q.length
 | 0=>Nat.le_refl _
 | x+1=>Nat.le_trans (qnA x) srIn_le
def qgs (s:Sr):D:=match s.res with
 | some p=>.tup [dBss p,.bool true]
 | none=>.tup [.nil,.bool false]
def mpP (q:List (Int×Int)):List (D×D):=q.map fun s=>(dP s,D.bool true)
theorem qgt (s:Int×Int) : ∀ q:List (Int×Int),qbg (mpP q) (.agg [dI s.1,dI s.2])=if s∈q then some (D.bool true) else none
 | []=>rfl
 | e::r=>by
  have ih:=qgt s r
  show qbg ((dP e,D.bool true)::mpP r) _=_
  rw[qiA,qgZ]
  by_cases h:e=s
  ·subst h;simp
  ·have h2 : ¬ (s.1=e.1∧s.2=e.2):=fun h3=>h (Prod.ext h3.1.symm h3.2.symm)
   rw[decide_eq_false h2]
   simp only[Bool.false_eq_true,if_false,ih,List.mem_cons]
   have h3 : ¬ s=e:=fun h4=>h h4.symm
   simp[h3]
theorem mpP_upd (s:Int×Int) (q:List (Int×Int)) (h:s∉q):updD (mpP q) (.agg [dI s.1,dI s.2]) (.bool true)=mpP (q ++ [s]):=by
 rw[qeE (by rw[qgt,if_neg h]),mpP,mpP,List.map_append]
 rfl
theorem qmo (q:List (Int×Int)) (e:Nat):qaJ (.array 2 e) (mpP q):=by
 rw[qdq]
 intro x hx
 obtain⟨s,_,rfl⟩:=List.mem_map.1 hx
 exact⟨rfl,⟨rfl,rfl,trivial⟩⟩
abbrev cbx (c:Circ):R:=.box [.d (dI c.inputs),.d (dIs c.next),.d (dPs c.gates),.d (dIs c.outs)]
theorem Try.c_search (n:Nat) (hn:n≤4) (g:Nat) (a b:Circ) (hg:(Try.env 2).pf g=.own) (st:StT)
  (hso:StOk st) (hst : ∀ (s:Int×Int) (x:Nat),0≤s.1→0≤s.2→Pure Try.prog g [dP s,dI x,pC a,pC b] (.tup [dP (st s x).1,.bool (st s x).2]))
  (N:Nat) (hN:N≤1000) (hK : ∀ i,i<N→i<(srN st n i).q.length∧(srN st n i).res=none) (hE:(srN st n N).res=none→(srN st n N).q.length=N) :
  ICall Try.prog 16 [.d (dI n),.d (dP (0,0)),.fn g [.ptr 0 0,.ptr 1 0]] [cbx a,cbx b] (fun r H'=>r=.d (qgs (srN st n N))∧H'=[cbx a,cbx b]):=by
 have h2n:1≤2 ^ n∧2 ^ n≤16:=⟨Nat.one_le_two_pow,Nat.pow_le_pow_right (n:=2) (by omega) hn⟩
 refine qcY (E:=Try.env 2) Try.tok rfl 1000 Try.func16 rfl rfl Try.ntmps16 (by simp) ?_
 simp only[go_sem,seval,Try.results16]
 repeat' first|assumption|(simp (disch:=first|assumption|omega|(simp;done)|(simp;omega)) only[qae,qah,List.take_of_length_le,qag];try simp only[go_sem,seval,Try.results16])|(with_reducible first|apply And.intro|intro _)|(refine qai ?_;simp only[go_sem,seval,Try.results16])|exact lexT|((try rw[qaa]);omega)
 refine qcz (E:=Try.env 2) Try.tok (σ:=Nat) (fun i=>[(0,.d (dI n)),(2,.fn g [.ptr 0 0,.ptr 1 0]),(8,.sl 3 ((srN st n i).q.length-1) 2 0 (srN st n i).q.length),(9,.sl 4 ((srN st n i).q.length-1) 1 0 (srN st n i).q.length),(10,.map 5),(11,.d (dI i))])
  (fun i=>[cbx a,cbx b,.box [.d (dI 0),.d (dI 0)],.row ((srN st n i).q.length-1) 2 true ((srN st n i).q.map fun x=>dP x),.row ((srN st n i).q.length-1) 1 false ((srN st n i).ps.map qdZ),.map (mpP (srN st n i).q)])
  (fun i=>i≤N∧(srN st n i).res=none) (fun i=>N-i) [] [] 1000 1000 ?_ ?_
 ·simp only[go_sem,seval]
  refine⟨0,⟨Nat.zero_le _,rfl⟩,?_⟩
  (repeat' with_reducible apply And.intro) <;> first|rfl|trivial|omega
 ·rintro i ⟨hi,hres⟩
  have hok:=qnz hso (n:=n) i
  obtain⟨o1,o2,o3,o4,o5,o6⟩:=hok
  have hib:i*2 ^ n≤16000:=Nat.mul_le_mul (show i≤1000 by omega) h2n.2
  by_cases hlt:i<N
  ·obtain⟨k1,k2⟩:=hK i hlt
   simp only[go_sem,seval,Try.results16]
   repeat' first|assumption|(simp (disch:=first|assumption|omega|(simp;done)|(simp;omega)) only[qae,qah,List.take_of_length_le,qag];try simp only[go_sem,seval,Try.results16])|(with_reducible first|apply And.intro|intro _)|(refine qai ?_;simp only[go_sem,seval,Try.results16])|exact lexT|((try rw[qaa]);omega)
   ·have:((2:Int) ^ n)=((2 ^ n:Nat):Int):=by simp
    rw[this,qaa];omega
   have hM:(2:Int) ^ n=((2 ^ n:Nat):Int):=by simp
   have hle:=fun x=>qnA (st:=st) (n:=n) (i:=i) (s:=srN st n i) x
   have hsk:=fun x=>qkq hso (n:=n) (i:=i) ⟨o1,o2,o3,o4,o5,o6⟩ x
   have hnx:srN st n (i+1)=srR st n i (srN st n i) (2 ^ n):=rfl
   have hsm:=fun x p h k=>qif (st:=st) (n:=n) (i:=i) (s:=srN st n i) (p:=p) (x:=x) h k
   have hst1 : ∀ x,srR st n i (srN st n i) (x+1)=srIn st n i (srR st n i (srN st n i) x) x:=fun _=>rfl
   have hK1:=hK (i+1)
   have hr0:srR st n i (srN st n i) 0=srN st n i:=rfl
   rw[hM]
   generalize hM9:2 ^ n=M at *
   refine qcz (E:=Try.env 2) Try.tok (σ:=Nat) (fun x=>[(0,.d (dI n)),(2,.fn g [.ptr 0 0,.ptr 1 0]),(8,.sl 3 ((srR st n i (srN st n i) x).q.length-1) 2 0 (srR st n i (srN st n i) x).q.length),(9,.sl 4 ((srR st n i (srN st n i) x).q.length-1) 1 0 (srR st n i (srN st n i) x).q.length),(10,.map 5),(11,.d (dI i)),(32,.d (dI M)),(33,.d (dI x))])
    (fun x=>[cbx a,cbx b,.box [.d (dI 0),.d (dI 0)],.row ((srR st n i (srN st n i) x).q.length-1) 2 true ((srR st n i (srN st n i) x).q.map fun x=>dP x),.row ((srR st n i (srN st n i) x).q.length-1) 1 false ((srR st n i (srN st n i) x).ps.map qdZ),.map (mpP (srR st n i (srN st n i) x).q)])
    (fun x=>x≤M∧(srR st n i (srN st n i) x).res=none) (fun x=>M-x) [] [] 1000 1000 ?_ ?_
   ·simp only[go_sem,seval]
    refine⟨0,⟨Nat.zero_le _,hres⟩,?_⟩
    (repeat' with_reducible apply And.intro) <;> first|rfl|trivial|omega
   ·rintro x ⟨hx,hxr⟩
    have hlx:=hle x
    obtain⟨u1,u2,u3,u4,u5,u6⟩:=hsk x
    have hs1:=hst1 x
    have hsm1:=fun p h k=>hsm (x+1) p h k
    by_cases hlt2:x<M
    ·have hnn:=qko u5 i
     have hpl:=qig u4 i
     have hrl:=qkp u6 i
     have hgo:=hso _ x hnn.1 hnn.2
     have hca:=hst _ x hnn.1 hnn.2
     rw[srIn] at hs1
     rw[if_neg (by rw[hxr];simp)] at hs1
     generalize srR st n i (srN st n i) x=t at *
     have gq : ∀ z,(t.q.map fun x=>dP x).getD i z=dP (t.q.getD i (0,0)):=fun z=>getD_lt _ _ _ _ _ (by omega)
     have gp : ∀ z,(t.ps.map qdZ).getD i z=qdZ (t.ps.getD i []):=fun z=>getD_lt _ _ _ _ _ (by omega)
     have hcl:=Try.c_CloneP (t.ps.getD i []) (by omega)
     have hbi:=Try.c_bitsOf x n (by omega) (by omega)
     generalize t.q.getD i (0,0)=A at *
     generalize t.ps.getD i []=p at *
     generalize st A x=B at *
     obtain⟨nx,go⟩:=B
     simp only at hca hs1 hgo
     have hlk:=qgt nx t.q
     have hks:=qmo t.q 3
     have hc1:=qiP p
     have hc2:=qkm p
     have hup:=mpP_upd nx t.q
     cases go with
     | true=>
      rw[if_pos rfl] at hs1
      simp only[go_sem,seval,Try.results16,gq,gp,hg,hc1,hc2]
      repeat' first|assumption|(simp (disch:=first|assumption|omega|(simp;done)|(simp;omega)) only[qae,qah,List.take_of_length_le,qag];try simp only[go_sem,seval,Try.results16,gq,gp,hg,hc1,hc2])|(with_reducible first|apply And.intro|intro _)|(refine qad hca ?_;simp only[go_sem,seval,Try.results16,gq,gp,hg,hc1,hc2])|(refine qai ?_;simp only[go_sem,seval,Try.results16,gq,gp,hg,hc1,hc2])|exact lexT|((try rw[qaa]);omega)
      refine qbk hcl [] (by simp only[go_sem,seval]) ?_
      rintro r0 H1 ⟨g',rfl,rfl⟩
      simp only[go_sem,seval,Try.results16]
      repeat' first|assumption|(simp (disch:=first|assumption|omega|(simp;done)|(simp;omega)) only[qae,qah,List.take_of_length_le,qag];try simp only[go_sem,seval,Try.results16])|(with_reducible first|apply And.intro|intro _)|(refine qad hbi ?_;simp only[go_sem,seval,Try.results16])|(refine qai ?_;simp only[go_sem,seval,Try.results16])|exact lexT|((try rw[qaa]);omega)
      have hP:(srR st n i (srN st n i) (x+1)).res=some (p ++ [bitsOf (x:Int) n]):=by rw[hs1]
      have hf:=hsm1 _ hP (M-(x+1))
      rw[show x+1+(M-(x+1))=M by omega,←hnx] at hf
      have hiN:N=i+1:=by
       by_cases hc:i+1<N
       ·rw[(hK1 hc).2] at hf;cases hf
       ·omega
      have e:qgs (srN st n N)=.tup [dBss (p ++ [bitsOf (x:Int) n]),.bool true]:=by rw[qgs,hiN,hf]
      rw[e]
      have hPl:(p ++ [bitsOf (x:Int) n]).length=p.length+1:=by simp
      have hPb : ∀ y∈p ++ [bitsOf (x:Int) n],y.length≤1048576:=fun y hy=>by
       rcases List.mem_append.1 hy with hy|hy
       ·have:=hrl y hy;omega
       ·obtain rfl:=List.mem_singleton.1 hy
        simp[bitsOf];omega
      generalize p ++ [bitsOf (x:Int) n]=P at *
      refine qcz (E:=Try.env 2) Try.tok (σ:=Nat) (fun k=>[(64,.sl 7 (g'+1) 1 0 (p.length+1)),(65,.d (dI P.length)),(66,.d (dI k)),(16,.sl 9 k 1 0 k)])
       (fun k=>[cbx a,cbx b,.dead 0,.dead t.q.length,.dead t.q.length,.dead 0,.dead 0,.row (g'+1) 1 false (P.map fun x=>dBs x),.dead 0,.row k 1 false ((P.take k).map fun x=>dBs x)])
       (fun k=>k≤P.length) (fun k=>P.length-k) [] [(16,1,false)] 1000 1000 ?_ ?_
      ·simp only[go_sem,seval]
       exact⟨0,by omega,⟨by omega,rfl,rfl⟩,by omega,by omega,rfl,rfl⟩
      ·intro k hk
       by_cases hlt3:k<P.length
       ·have hrow:=Try.c_CloneB (P.getD k []) (hPb _ (qat hlt3))
        have hkl:(P.take k).length=k:=by rw[List.length_take];omega
        simp only[go_sem,seval,Try.results16]
        repeat' first|assumption|(simp (disch:=first|assumption|omega|(simp;done)|(simp;omega)) only[qae,qah,List.take_of_length_le,qag];try simp only[go_sem,seval,Try.results16])|(with_reducible first|apply And.intro|intro _)|(refine qad hrow ?_;simp only[go_sem,seval,Try.results16])|(refine qai ?_;simp only[go_sem,seval,Try.results16])|exact lexT|((try rw[qaa]);omega)
        refine⟨k+1,by omega,by omega,rfl,rfl,?_⟩
        rw[List.take_succ_eq_append_getElem hlt3]
        simp[List.getD,hlt3]
       ·obtain rfl:k=P.length:=by omega
        simp only[go_sem,seval,Try.results16]
        repeat' first|assumption|(simp (disch:=first|assumption|omega|(simp;done)|(simp;omega)) only[qae,qah,List.take_of_length_le,qag];try simp only[go_sem,seval,Try.results16])|(with_reducible first|apply And.intro|intro _)|(refine qai ?_;simp only[go_sem,seval,Try.results16])|exact lexT|((try rw[qaa]);omega)
        refine qh3 (by simp) (by simp only[go_sem,seval]) ?_
        simp only[go_sem,seval]
     | false=>
      rw[if_neg (by simp)] at hs1
      by_cases hmem:nx∈t.q
      ·rw[if_pos hmem] at hs1 hlk
       simp only[go_sem,seval,Try.results16,gq,gp,hg,hc1,hc2,hlk]
       repeat' first|assumption|(simp (disch:=first|assumption|omega|(simp;done)|(simp;omega)) only[qae,qah,List.take_of_length_le,qag];try simp only[go_sem,seval,Try.results16,gq,gp,hg,hc1,hc2,hlk])|(with_reducible first|apply And.intro|intro _)|(refine qad hca ?_;simp only[go_sem,seval,Try.results16,gq,gp,hg,hc1,hc2,hlk])|(refine qai ?_;simp only[go_sem,seval,Try.results16,gq,gp,hg,hc1,hc2,hlk])|exact lexT|((try rw[qaa]);omega)
       refine⟨x+1,⟨by omega,by rw[hs1];exact hxr⟩,by omega,?_⟩
       rw[hs1]
       (repeat' with_reducible apply And.intro) <;> first|rfl|trivial|omega
      ·rw[if_neg hmem] at hs1 hlk
       have hup:=hup hmem
       simp only[go_sem,seval,Try.results16,gq,gp,hg,hc1,hc2,hlk]
       repeat' first|assumption|(simp (disch:=first|assumption|omega|(simp;done)|(simp;omega)) only[qae,qah,List.take_of_length_le,qag];try simp only[go_sem,seval,Try.results16,gq,gp,hg,hc1,hc2,hlk,hup])|(with_reducible first|apply And.intro|intro _)|(refine qad hca ?_;simp only[go_sem,seval,Try.results16,gq,gp,hg,hc1,hc2,hlk,hup])|(refine qai ?_;simp only[go_sem,seval,Try.results16,gq,gp,hg,hc1,hc2,hlk,hup])|exact lexT|((try rw[qaa]);omega)
       refine qbk hcl [] (by simp only[go_sem,seval]) ?_
       rintro r0 H1 ⟨g',rfl,rfl⟩
       simp only[go_sem,seval,Try.results16,hup]
       repeat' first|assumption|(simp (disch:=first|assumption|omega|(simp;done)|(simp;omega)) only[qae,qah,List.take_of_length_le,qag];try simp only[go_sem,seval,Try.results16,hup])|(with_reducible first|apply And.intro|intro _)|(refine qad hbi ?_;simp only[go_sem,seval,Try.results16,hup])|(refine qai ?_;simp only[go_sem,seval,Try.results16,hup])|exact lexT|((try rw[qaa]);omega)
       refine⟨x+1,⟨by omega,by rw[hs1]⟩,by omega,?_⟩
       rw[hs1]
       have e1:(t.q ++ [nx]).length=t.q.length+1:=by simp
       have e2:qdZ (p ++ [bitsOf (x:Int) n])=D.lst 1 (List.map (fun x=>dBs x) (p ++ [bitsOf (x:Int) n])):=by rw[qdZ,if_neg (by simp)]
       simp only[e1,List.map_append,List.map_cons,List.map_nil,e2]
       (repeat' with_reducible apply And.intro) <;> first|rfl|trivial|omega
    ·obtain rfl:x=M:=by omega
     simp only[go_sem,seval,Try.results16]
     repeat' first|assumption|(simp (disch:=first|assumption|omega|(simp;done)|(simp;omega)) only[qae,qah,List.take_of_length_le,qag];try simp only[go_sem,seval,Try.results16])|(with_reducible first|apply And.intro|intro _)|(refine qai ?_;simp only[go_sem,seval,Try.results16])|exact lexT|((try rw[qaa]);omega)
     refine⟨i+1,⟨by omega,by rw[hnx];exact hxr⟩,by omega,?_⟩
     rw[hnx]
     (repeat' with_reducible apply And.intro) <;> first|rfl|trivial|omega
  ·obtain rfl:i=N:=by omega
   have hq:=hE hres
   simp only[go_sem,seval,Try.results16]
   repeat' first|assumption|(simp (disch:=first|assumption|omega|(simp;done)|(simp;omega)) only[qae,qah,List.take_of_length_le,qag];try simp only[go_sem,seval,Try.results16])|(with_reducible first|apply And.intro|intro _)|(refine qai ?_;simp only[go_sem,seval,Try.results16])|exact lexT|((try rw[qaa]);omega)
   have e:qgs (srN st n i)=.tup [.nil,.bool false]:=by rw[qgs,hres]
   rw[e]
   refine qh3 (by simp) (by simp only[go_sem,seval]) ?_
   simp only[go_sem,seval]
def stOf (a b:Circ):StT:=fun s x=>(((cyN a s.1 x).1,(cyN b s.2 x).1),!decide ((cyN a s.1 x).2=(cyN b s.2 x).2))
theorem stOf_ok (a b:Circ):StOk (stOf a b):=fun s x _ _=>⟨qny ..,qny ..⟩
def qfq (s:Sr):D:=match s.res with
 | some p=>.agg [.bool true,dBss p]
 | none=>.agg [.bool false,.nil]
structure DsOk (a b:Circ) (N:Nat):Prop where
 va:a.Valid
 vb:b.Valid
 hi:a.inputs=b.inputs
 ho:a.outs.length=b.outs.length
 hN:N≤1000
 hK : ∀ i,i<N→i<(srN (stOf a b) a.inputs.toNat i).q.length∧(srN (stOf a b) a.inputs.toNat i).res=none
 hE:(srN (stOf a b) a.inputs.toNat N).res=none→(srN (stOf a b) a.inputs.toNat N).q.length=N
theorem Try.c_Distinguish (a b:Circ) (N:Nat) (h:DsOk a b N):PureF Try.prog 5 [dC a,dC b] (qfq (srN (stOf a b) a.inputs.toNat N)):=by
 obtain⟨ha,hb,hi,ho,hN,hK,hE⟩:=h
 have ca:=Try.c_CircuitValid a
 have cb:=Try.c_CircuitValid b
 rw[decide_eq_true ha] at ca
 rw[decide_eq_true hb] at cb
 have hi0:=ha.i0;have hi1:=ha.i1
 have hs:=Try.c_search a.inputs.toNat (by omega) 14 a b rfl (stOf a b) (stOf_ok a b) (fun s x h1 h2=>Try.c_differ a b ha hb s x h1 h2 (by omega)) N hN hK hE
 rw[show((a.inputs.toNat:Nat):Int)=a.inputs by omega] at hs
 generalize srN (stOf a b) a.inputs.toNat N=S at *
 obtain⟨ai,an,ag,ao⟩:=a
 obtain⟨bi,bn,bg,bo⟩:=b
 simp only at hi ho
 subst hi
 refine qjU (E:=Try.env 0) Try.tok rfl 1000 Try.func5 rfl rfl Try.ntmps5 (by simp) fun ok=>?_
 simp only[go_sem,seval] at ok
 simp only[go_sem,seval,Try.results5,ho]
 repeat' first|assumption|(simp (disch:=first|assumption|omega|(simp;done)|(simp;omega)) only[qae,qah,List.take_of_length_le,qag];try simp only[go_sem,seval,Try.results5,ho])|(with_reducible first|apply And.intro|intro _)|(refine qad ca ?_;simp only[go_sem,seval,Try.results5,ho])|(refine qbM (fun _=>cb) ?_;simp only[go_sem,seval,Try.results5,ho])|(refine qai ?_;simp only[go_sem,seval,Try.results5,ho])|exact lexT|((try rw[qaa]);omega)
 refine qbk hs [0,1] (by simp only[go_sem,seval];rfl) ?_
 rintro r0 H1 ⟨rfl,rfl⟩
 cases hr:S.res with
 | none=>
  have e:qfq S=.agg [.bool false,.nil]:=by rw[qfq,hr]
  have e1:qgs S=.tup [.nil,.bool false]:=by rw[qgs,hr]
  rw[e,e1]
  simp only[go_sem,seval,Try.results5]
  repeat' first|assumption|(simp (disch:=first|assumption|omega|(simp;done)|(simp;omega)) only[qae,qah,List.take_of_length_le,qag];try simp only[go_sem,seval,Try.results5])|(with_reducible first|apply And.intro|intro _)|(refine qai ?_;simp only[go_sem,seval,Try.results5])|exact lexT|((try rw[qaa]);omega)
 | some p=>
  have e:qfq S=.agg [.bool true,dBss p]:=by rw[qfq,hr]
  have e1:qgs S=.tup [dBss p,.bool true]:=by rw[qgs,hr]
  rw[e,e1]
  simp only[go_sem,seval,Try.results5]
  repeat' first|assumption|(simp (disch:=first|assumption|omega|(simp;done)|(simp;omega)) only[qae,qah,List.take_of_length_le,qag];try simp only[go_sem,seval,Try.results5])|(with_reducible first|apply And.intro|intro _)|(refine qai ?_;simp only[go_sem,seval,Try.results5])|exact lexT|((try rw[qaa]);omega)
theorem Try.c_SeqEq (a b:Circ) (N:Nat) (h:DsOk a b N):Pure Try.prog 7 [dC a,dC b] (.bool (srN (stOf a b) a.inputs.toNat N).res.isNone):=by
 have hd:=Try.c_Distinguish a b N h
 obtain⟨ha,hb,hi,ho,hN,hK,hE⟩:=h
 have ca:=Try.c_CircuitValid a
 have cb:=Try.c_CircuitValid b
 rw[decide_eq_true ha] at ca
 rw[decide_eq_true hb] at cb
 clear hK hE ha hb
 generalize srN (stOf a b) a.inputs.toNat N=S at *
 obtain⟨ai,an,ag,ao⟩:=a
 obtain⟨bi,bn,bg,bo⟩:=b
 simp only at hi ho
 subst hi
 refine qau (E:=Try.env 0) Try.tok rfl 1000 Try.func7 rfl rfl Try.ntmps7 (by simp) fun ok=>?_
 simp only[go_sem,seval] at ok
 cases hr:S.res with
 | none=>
  have e:qfq S=.agg [.bool false,.nil]:=by rw[qfq,hr]
  rw[e] at hd
  simp only[go_sem,seval,Try.results7,ho]
  repeat' first|assumption|(simp (disch:=first|assumption|omega|(simp;done)|(simp;omega)) only[qae,qah,List.take_of_length_le,qag];try simp only[go_sem,seval,Try.results7,ho])|(with_reducible first|apply And.intro|intro _)|(refine qad ca ?_;simp only[go_sem,seval,Try.results7,ho])|(refine qbM (fun _=>cb) ?_;simp only[go_sem,seval,Try.results7,ho])|(refine qgj hd ?_;simp only[go_sem,seval,Try.results7,ho])|(refine qai ?_;simp only[go_sem,seval,Try.results7,ho])|exact lexT|((try rw[qaa]);omega)
  all_goals rfl
 | some p=>
  have e:qfq S=.agg [.bool true,dBss p]:=by rw[qfq,hr]
  rw[e] at hd
  simp only[go_sem,seval,Try.results7,ho]
  repeat' first|assumption|(simp (disch:=first|assumption|omega|(simp;done)|(simp;omega)) only[qae,qah,List.take_of_length_le,qag];try simp only[go_sem,seval,Try.results7,ho])|(with_reducible first|apply And.intro|intro _)|(refine qad ca ?_;simp only[go_sem,seval,Try.results7,ho])|(refine qbM (fun _=>cb) ?_;simp only[go_sem,seval,Try.results7,ho])|(refine qgj hd ?_;simp only[go_sem,seval,Try.results7,ho])|(refine qai ?_;simp only[go_sem,seval,Try.results7,ho])|exact lexT|((try rw[qaa]);omega)
  all_goals rfl
end Go.Proofs
