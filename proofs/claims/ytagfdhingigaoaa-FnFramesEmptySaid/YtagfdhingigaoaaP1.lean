/- Contracts, plain definitions and lemmas. Conditions: none; lemmas. -/
import Derived.Test.YtagfdhingigaoaaC80
import Derived.Test.YtagfdhingigaoaaC77
import Derived.Test.YtagfdhingigaoaaC52
set_option maxRecDepth 20000
set_option linter.unusedVariables false
set_option linter.unusedSimpArgs false
namespace Go.Proofs
open Go Go.VL
theorem getD_l5 {a b c d e:Int}{n:Nat}:([D.int .i64 a,D.int .i64 b,D.int .i64 c,D.int .i64 d,D.int .i64 e]:List D).getD n (D.int .i64 0)=D.int .i64 (([a,b,c,d,e]:List Int).getD n 0):=by
 match n with
 | 0|1|2|3|4|_+5=>rfl
theorem Try.cfg_at2 {b:List Int}(hb:Try.Bytes b) {p n:Int}(hp:0≤p∧p≤10000000) (hn:0≤n∧n≤1000) {A0 A1:R}{T:List R}{K:I→List R→Prop}(hk : ∀ k q,p≤q∧q≤p+400→Ksh n k→K (.d (dK k)) (A0::A1::Try.rd b q::T)) :
  ICall Try.prog 11 [.ptr 2 0,.d (dI n)] (A0::A1::Try.rd b p::T) K:=by
 refine qaX (Try.c_l20Config b p n hb hp hn) [2] (by simp only[go_sem,seval]) ?_
 rintro r0 H1 ⟨k,q,hq,hl,rfl,rfl⟩
 have:=hk k q hq hl
 simp only[go_sem,seval]
 simpa using this
theorem Try.pick_at2 {b:List Int}(hb:Try.Bytes b) {p n:Int}(hp:0≤p∧p≤1000000000) {A0 A1:R}{T:List R}{K:I→List R→Prop}(hk : ∀ x,0≤x∧(x<n∨x=0)→K (.d (dI x)) (A0::A1::Try.rd b (p+1)::T)) :
  ICall Try.prog 12 [.ptr 2 0,.d (dI n)] (A0::A1::Try.rd b p::T) K:=by
 refine qaX (Try.c_pick b p n hb hp) [2] (by simp only[go_sem,seval]) ?_
 rintro r0 H1 ⟨x,hx,rfl,rfl⟩
 have:=hk x hx
 simp only[go_sem,seval]
 simpa using this
theorem Try.c_DrawDiffFrames (code:List Int):PureFE Try.prog 4 [dUs code] (fun x=>∃ a b:Kcfg,x=.tup [dK a,dK b]∧Ksh 12 a∧Ksh 12 b):=by
 refine qlf (E:=Try.env 0) Try.tok rfl 1000 Try.func4 rfl rfl Try.ntmps4 (by simp) fun ok=>?_
 simp only[go_sem,seval] at ok
 simp only[go_sem,seval,Try.results4]
 have hb:=Try.bytes_of ok.2 2000
 refine qms (Try.c_l20Open code) [] (by simp only[go_sem,seval]) ?_
 simp only[go_sem,seval,Try.results4]
 refine Try.cfg_at2 (p:=0) (n:=12) hb (by omega) (by omega) fun a q hq ha=>?_
 simp only[go_sem,seval,Try.results4]
 repeat' first|assumption|(simp (disch:=first|assumption|omega|(simp;done)|(simp;omega)) only[];try simp only[go_sem,seval,Try.results4])|(with_reducible first|apply And.intro|intro _)|(refine qac ?_;simp only[go_sem,seval,Try.results4])|exact lexT|((try rw[qaa]);omega)
 refine Try.pick_at2 hb (by omega) fun x hx=>?_
 simp only[go_sem,seval,Try.results4]
 repeat' first|assumption|(simp (disch:=first|assumption|omega|(simp;done)|(simp;omega)) only[];try simp only[go_sem,seval,Try.results4])|(with_reducible first|apply And.intro|intro _)|(refine qac ?_;simp only[go_sem,seval,Try.results4])|exact lexT|((try rw[qaa]);omega)
 ·refine qau (E:=Try.env 0) Try.tok Try.follows 1000 1000 [2,3] (.fst 0 (.two 1 (.one 2 (.one 3 .done)) 2 (.one 1 (.one 3 .done)))) (by kernel_rfl) ?_
  simp only[go_sem,seval,Try.results4]
  repeat' first|assumption|(simp (disch:=first|assumption|omega|(simp;done)|(simp;omega)) only[];try simp only[go_sem,seval,Try.results4])|(with_reducible first|apply And.intro|intro _)|(refine qac ?_;simp only[go_sem,seval,Try.results4])|exact lexT|((try rw[qaa]);omega)
  exact⟨_,of_eq_true qmz,_,_,rfl,ha,ha⟩
 ·refine qau (E:=Try.env 0) Try.tok Try.follows 1000 1000 [2,3,4] (.fst 1 (.two 0 (.one 2 (.one 3 (.one 4 .done))) 2 (.one 0 (.one 3 (.one 4 .done))))) (by kernel_rfl) ?_
  simp only[go_sem,seval,Try.results4]
  repeat' first|assumption|(simp (disch:=first|assumption|omega|(simp;done)|(simp;omega)) only[];try simp only[go_sem,seval,Try.results4])|(with_reducible first|apply And.intro|intro _)|(refine qac ?_;simp only[go_sem,seval,Try.results4])|exact lexT|((try rw[qaa]);omega)
  all_goals (
   refine Try.cfg_at2 (p:=q+1) (n:=12) hb (by omega) (by omega) fun b q2 hq2 hb2=>?_
   simp only[go_sem,seval,Try.results4]
   repeat' first|assumption|(simp (disch:=first|assumption|omega|(simp;done)|(simp;omega)) only[];try simp only[go_sem,seval,Try.results4])|(with_reducible first|apply And.intro|intro _)|(refine qac ?_;simp only[go_sem,seval,Try.results4])|exact lexT|((try rw[qaa]);omega)
   exact⟨_,of_eq_true qmz,_,_,rfl,ha,hb2⟩)
end Go.Proofs

set_option maxRecDepth 20000
set_option linter.unusedVariables false
set_option linter.unusedSimpArgs false
namespace Go.Proofs
open Go Go.VL
theorem qii (fs gs:List (Int×Tcfg)) (l:List Tcfg):qd5 l (fs++gs)=qd5 (qd5 l fs) gs:=by
 simp[qd5,List.foldl_append]
theorem qfP {a b:Kcfg}{j:Nat}(hj:j<a.tiles.length) : ∀ n,(qd5 a.tiles (qca a b n)).getD j tc0=if j<n then b.tiles.getD j tc0 else a.tiles.getD j tc0
 | 0=>by simp[qca,qd5]
 | n+1=>by
  have ih:=qfP (b:=b) hj n
  rw[qcj,qii]
  have hl:=qlq (qca a b n) a.tiles
  generalize qd5 a.tiles (qca a b n)=t at *
  unfold qcX
  by_cases he:a.tiles.getD n tc0=b.tiles.getD n tc0
  ·rw[if_pos he]
   show t.getD j tc0=_
   rw[ih]
   by_cases h1:j<n
   ·rw[if_pos h1,if_pos (by omega)]
   ·rw[if_neg h1]
    by_cases h2:j=n
    ·subst h2;rw[if_pos (by omega),he]
    ·rw[if_neg (by omega)]
  ·rw[if_neg he]
   show(t.set ((n:Int)).toNat (b.tiles.getD n tc0)).getD j tc0=_
   rw[show((n:Int)).toNat=n by omega]
   by_cases h2:j=n
   ·subst h2;rw[qad (by omega),if_pos (by omega)]
   ·rw[qhb (Ne.symm h2),ih]
    by_cases h1:j<n
    ·rw[if_pos h1,if_pos (by omega)]
    ·rw[if_neg h1,if_neg (by omega)]
theorem qmW {l m:List Tcfg}(h:l.length=m.length) (hg : ∀ j,j<l.length→l.getD j tc0=m.getD j tc0):l=m:=by
 refine List.ext_getElem h fun k h1 h2=>?_
 have:=hg k h1
 simpa [List.getD,h1,h2] using this
theorem qoz {a b:Kcfg}{i:Nat}(h:a.tiles.getD i tc0=b.tiles.getD i tc0):qca a b (i+1)=qca a b i:=by
 rw[qcj,qcX,if_pos h,List.append_nil]
end Go.Proofs

set_option maxRecDepth 20000
set_option linter.unusedVariables false
set_option linter.unusedSimpArgs false
namespace Go.Proofs
open Go Go.VL
def b01 (b:Bool):Int:=if b then 1 else 0
def encT (t:Tcfg):List Int:=t.table::(t.select++(b01 t.reg::t.drive))
def qcr (l:List Tcfg) (n:Nat):List Int:=(l.take n).flatMap encT
def qdm (l:List (Int×Bool)) (n:Nat):List Int:=(l.take n).flatMap fun p=>[p.1,b01 p.2]
def sumC (l:List Int):Int:=l.foldl (fun s b=>(s*257+b+1)%65521) 1
def encC (k:Kcfg):List Int:=
 let out:=qcr k.tiles k.tiles.length++qdm k.pads k.pads.length
 out ++ [sumC out/256%256,sumC out%256]
theorem Try.c_flag (b:Bool):Pure Try.prog 21 [dB b] (.int .u8 (b01 b)):=by
 refine qat (E:=Try.env 0) Try.tok rfl 1000 Try.func21 rfl rfl Try.ntmps21 (by simp) fun ok=>?_
 simp only[go_sem,seval] at ok
 simp only[go_sem,seval,Try.results21]
 cases b <;> simp[b01]
theorem qmX (l:List Int) (n:Nat):0≤sumC (l.take n)∧sumC (l.take n)<65521:=by
 induction n with
 | zero=>simp[sumC]
 | succ n ih=>
  by_cases h:n<l.length
  ·have e:sumC (l.take (n+1))=(sumC (l.take n)*257+l[n]+1)%65521:=by
    rw[List.take_succ_eq_append_getElem h,sumC,List.foldl_append]
    rfl
   rw[e]
   exact⟨Int.emod_nonneg _ (by decide),Int.emod_lt_of_pos _ (by decide)⟩
  ·rw[List.take_of_length_le (by omega)] at ih ⊢
   exact ih
theorem qmY (l:List Int) {n:Nat}(h:n<l.length):sumC (l.take (n+1))=(sumC (l.take n)*257+l.getD n 0+1)%65521:=by
 rw[List.take_succ_eq_append_getElem h,sumC,List.foldl_append]
 simp[List.getD,h,sumC]
theorem Try.c_checksum (l:List Int) (hl : ∀ x∈l,0≤x∧x≤255) (hn:l.length≤1000000):Pure Try.prog 22 [dUs l] (dI (sumC l)):=by
 refine qat (E:=Try.env 0) Try.tok rfl 1000 Try.func22 rfl rfl Try.ntmps22 (by simp) fun ok=>?_
 simp only[go_sem,seval] at ok
 simp only[go_sem,seval,Try.results22]
 repeat' first|assumption|(simp (disch:=first|assumption|omega|(simp;done)|(simp;omega)) only[List.take_of_length_le,qab];try simp only[go_sem,seval,Try.results22])|(with_reducible first|apply And.intro|intro _)|(refine qac ?_;simp only[go_sem,seval,Try.results22])|exact lexT|((try rw[qaa]);omega)
 refine qaH (E:=Try.env 0) Try.tok (σ:=Nat) (fun i=>[(3,.d (dI (sumC (l.take i)))),(6,.d (dUs l)),(7,.d (dI l.length)),(8,.d (dI i))]) (fun _=>[]) (fun i=>i≤l.length) (fun i=>l.length-i) [] 1000 1000 ?_ ?_ ?_
 ·simp only[go_sem,seval]
 ·simp only[go_sem,seval]
  exact⟨0,by omega,rfl,rfl⟩
 ·intro i hi
  have hs:=qmX l i
  by_cases hlt:i<l.length
  ·have hb:=hl _ (qan hlt:l.getD i 0∈l)
   have hss:=qmY l hlt
   generalize sumC (l.take i)=s at *
   generalize hb9:l.getD i 0=b at *
   simp only[go_sem,seval,Try.results22,hb9]
   repeat' first|assumption|(simp (disch:=first|assumption|omega|(simp;done)|(simp;omega)) only[List.take_of_length_le,qab];try simp only[go_sem,seval,Try.results22,hb9])|(with_reducible first|apply And.intro|intro _)|(refine qac ?_;simp only[go_sem,seval,Try.results22,hb9])|exact lexT|((try rw[qaa]);omega)
   all_goals first|(rw[qaa];omega)|skip
   refine⟨i+1,by omega,by omega,?_,rfl⟩
   rw[hss]
  ·obtain rfl:i=l.length:=by omega
   simp only[go_sem,seval,Try.results22]
   repeat' first|assumption|(simp (disch:=first|assumption|omega|(simp;done)|(simp;omega)) only[List.take_of_length_le,qab];try simp only[go_sem,seval,Try.results22])|(with_reducible first|apply And.intro|intro _)|(refine qac ?_;simp only[go_sem,seval,Try.results22])|exact lexT|((try rw[qaa]);omega)
theorem qg2 {l:List Tcfg}(h : ∀ j,j<l.length→(l.getD j tc0).select.length=3∧(l.getD j tc0).drive.length=8) : ∀ n,(qcr l n).length≤13*n
 | 0=>by simp[qcr]
 | n+1=>by
  have ih:=qg2 h n
  by_cases hn:n<l.length
  ·have:=h n hn
   have e:l.getD n tc0=l[n]:=by simp[List.getD,hn]
   unfold qcr at *
   rw[List.take_succ_eq_append_getElem hn,List.flatMap_append,List.length_append]
   rw[e] at this
   simp only[List.flatMap_cons,List.flatMap_nil,List.append_nil,encT,List.length_cons,List.length_append]
   omega
  ·unfold qcr at *
   rw[List.take_of_length_le (by omega)] at ih ⊢
   omega
theorem qlt {l:List Tcfg}{n:Nat}(h:n<l.length):qcr l (n+1)=qcr l n++encT (l.getD n tc0):=by
 unfold qcr
 rw[List.take_succ_eq_append_getElem h,List.flatMap_append]
 simp[List.getD,h]
theorem qhI {l:List (Int×Bool)}{n:Nat}(h:n<l.length):qdm l (n+1)=qdm l n ++ [(l.getD n (0,false)).1,b01 (l.getD n (0,false)).2]:=by
 unfold qdm
 rw[List.take_succ_eq_append_getElem h,List.flatMap_append]
 simp[List.getD,h]
theorem take_snoc {l:List Int}{j:Nat}(h:j<l.length):l.take (j+1)=l.take j ++ [l.getD j 0]:=by
 rw[List.take_succ_eq_append_getElem h];simp[List.getD,h]
theorem qje {l:List (Int×Bool)}{n:Nat}(h:n≤l.length):(qdm l n).length=2*n:=by
 induction n with
 | zero=>simp[qdm]
 | succ n ih=>
  rw[qhI (by omega),List.length_append,ih (by omega)]
  simp;omega
theorem qpm (b:Bool):0≤b01 b∧b01 b≤1:=by cases b <;> simp[b01]
theorem qkN {k:Kcfg}(hk:k.ok) : ∀ x∈qcr k.tiles 25,0≤x∧x≤255:=by
 intro x hx
 obtain⟨t,ht,hx⟩:=List.mem_flatMap.1 hx
 obtain⟨i,hi,rfl⟩:=qbb tc0 (List.mem_of_mem_take ht)
 have hto:=Tcfg.ok_iff.1 (hk.2.2 i hi)
 generalize k.tiles.getD i tc0=t at *
 obtain⟨⟨a1,a2⟩,_,_,h3,h4⟩:=hto
 unfold encT at hx
 rcases List.mem_cons.1 hx with rfl|hx
 ·omega
 rcases List.mem_append.1 hx with hx|hx
 ·obtain⟨j,hj,rfl⟩:=qbb (0:Int) hx
  have:=h3 j hj
  simp only[qbB,Bool.or_eq_true,Bool.and_eq_true,decide_eq_true_eq] at this
  omega
 rcases List.mem_cons.1 hx with rfl|hx
 ·have:=qpm t.reg;omega
 ·obtain⟨j,hj,rfl⟩:=qbb (0:Int) hx
  have:=h4 j hj
  simp only[qaT,decide_eq_true_eq] at this
  omega
theorem qkO {k:Kcfg}(hk:k.ok) : ∀ x∈qdm k.pads 3,0≤x∧x≤255:=by
 intro x hx
 obtain⟨p,hp,hx⟩:=List.mem_flatMap.1 hx
 obtain⟨i,hi,rfl⟩:=qbb (0,false) (List.mem_of_mem_take hp)
 have:=hk.2.1.2 i hi
 generalize k.pads.getD i (0,false)=p at *
 simp only[qbB,Bool.or_eq_true,Bool.and_eq_true,decide_eq_true_eq] at this
 have h2:=qpm p.2
 simp at hx
 rcases hx with rfl|rfl <;> omega
theorem Try.c_EncodeConfig (k:Kcfg):Pure Try.prog 9 [dK k] (dUs (if k.ok then encC k else [])):=by
 have hc:=Try.c_ConfigValid k
 refine qat (E:=Try.env 0) Try.tok rfl 1000 Try.func9 rfl rfl Try.ntmps9 (by simp) fun ok=>?_
 simp only[go_sem,seval] at ok
 simp only[go_sem,seval,Try.results9]
 repeat' first|assumption|(simp (disch:=first|assumption|omega|(simp;done)|(simp;omega)) only[List.take_of_length_le,qab];try simp only[go_sem,seval,Try.results9])|(with_reducible first|apply And.intro|intro _)|(refine qag hc ?_;simp only[go_sem,seval,Try.results9])|(refine qac ?_;simp only[go_sem,seval,Try.results9])|exact lexT|((try rw[qaa]);omega)
 ·rename_i h
  rw[if_neg (by simpa using h)]
  rfl
 rename_i h
 have hk:k.ok:=by simpa using h
 have hla:k.tiles.length=25:=hk.1
 rw[if_pos hk]
 refine qas (E:=Try.env 0) Try.tok (σ:=Nat) (fun i=>[(1,.ptr 0 0),(3,.sl 1 (qcr k.tiles i).length 1 0 (qcr k.tiles i).length),(17,.d (dTcs k.tiles)),(18,.d (dI k.tiles.length)),(19,.d (dI i))])
  (fun i=>[.box [.d (dTcs k.tiles),.d (dQs k.pads)],.row (qcr k.tiles i).length 1 true ((qcr k.tiles i).map (D.int .u8))]) (fun i=>i≤25) (fun i=>25-i) [] [(3,1,true)] 1000 1000 ?_ ?_
 ·simp only[go_sem,seval]
  exact⟨0,by omega,by simp[qcr]⟩
 ·intro i hi
  by_cases hlt:i<25
  ·have hqs:=qlt (l:=k.tiles) (n:=i) (by omega)
   have hql:=qg2 (l:=k.tiles) (fun j hj=>Kcfg.ok_sizes hk (by omega)) i
   have hto:=Tcfg.ok_iff.1 (hk.2.2 i (by omega))
   have gx:=qae (z:=D.agg [D.int .i64 0,.nil,.bool false,.nil]) (show i<k.tiles.length by omega)
   have hfl:=Try.c_flag (k.tiles.getD i tc0).reg
   generalize qcr k.tiles i=q at *
   generalize k.tiles.getD i tc0=t at *
   obtain⟨t1,t2,t3,t4⟩:=t
   obtain⟨⟨ht1,ht2⟩,hs1,hs2,hs3,hs4⟩:=hto
   simp only at ht1 ht2 hs1 hs2 hs3 hs4 hfl
   have hm1:t1%256=t1:=by omega
   simp only[go_sem,seval,Try.results9,gx,hla,hm1]
   repeat' first|assumption|(simp (disch:=first|assumption|omega|(simp;done)|(simp;omega)) only[List.take_of_length_le,qab];try simp only[go_sem,seval,Try.results9,gx,hla,hm1])|(with_reducible first|apply And.intro|intro _)|(refine qac ?_;simp only[go_sem,seval,Try.results9,gx,hla,hm1])|exact lexT|((try rw[qaa]);omega)
   refine qas (E:=Try.env 0) Try.tok (σ:=Nat) (fun j=>[(1,.ptr 0 0),(3,.sl 1 (q++t1::t2.take j).length 1 0 (q++t1::t2.take j).length),(5,.ptr 2 0),(17,.d (dTcs k.tiles)),(18,.d (dI 25)),(19,.d (dI i)),(30,.d (dIs t2)),(31,.d (dI t2.length)),(32,.d (dI j))])
    (fun j=>[.box [.d (dTcs k.tiles),.d (dQs k.pads)],.row (q++t1::t2.take j).length 1 true ((q++t1::t2.take j).map (D.int .u8)),.box [.d (dI t1),.d (dIs t2),.d (dB t3),.d (dIs t4)]]) (fun j=>j≤3) (fun j=>3-j) [] [] 1000 1000 ?_ ?_
   ·simp only[go_sem,seval]
    exact⟨0,by omega,by simp⟩
   ·intro j hj
    by_cases hlj:j<3
    ·have htk:=take_snoc (l:=t2) (j:=j) (by omega)
     have hsj:=hs3 j (by omega)
     simp only[qbB,Bool.or_eq_true,Bool.and_eq_true,decide_eq_true_eq] at hsj
     generalize hv9:t2.getD j 0=v at *
     have hm9:v%256=v:=by omega
     simp only[go_sem,seval,Try.results9,hv9,hs1,hm9]
     repeat' first|assumption|(simp (disch:=first|assumption|omega|(simp;done)|(simp;omega)) only[List.take_of_length_le,qab];try simp only[go_sem,seval,Try.results9,hv9,hs1,hm9])|(with_reducible first|apply And.intro|intro _)|(refine qac ?_;simp only[go_sem,seval,Try.results9,hv9,hs1,hm9])|exact lexT|((try rw[qaa]);omega)
     ·have:(t2.take j).length≤3:=by rw[List.length_take];omega
      omega
     ·have e1:(t2.take j).length=j:=by rw[List.length_take];omega
      have e2:(t2.take (j+1)).length=j+1:=by rw[List.length_take];omega
      refine⟨j+1,by omega,by omega,⟨by rw[e1,e2];omega,rfl⟩,by rw[e1,e2];omega,?_⟩
      rw[htk];simp
    ·obtain rfl:j=3:=by omega
     simp only[go_sem,seval,Try.results9,hs1]
     repeat' first|assumption|(simp (disch:=first|assumption|omega|(simp;done)|(simp;omega)) only[List.take_of_length_le,qab];try simp only[go_sem,seval,Try.results9,hs1])|(with_reducible first|apply And.intro|intro _)|(refine qag hfl ?_;simp only[go_sem,seval,Try.results9,hs1])|(refine qac ?_;simp only[go_sem,seval,Try.results9,hs1])|exact lexT|((try rw[qaa]);omega)
     refine qas (E:=Try.env 0) Try.tok (σ:=Nat) (fun j=>[(1,.ptr 0 0),(3,.sl 1 (q.length+5+j) 1 0 (q.length+5+j)),(17,.d (dTcs k.tiles)),(18,.d (dI 25)),(19,.d (dI i)),(49,.d (dIs t4)),(50,.d (dI t4.length)),(51,.d (dI j))])
      (fun j=>[.box [.d (dTcs k.tiles),.d (dQs k.pads)],.row (q.length+5+j) 1 true ((q++t1::t2 ++ [b01 t3]++t4.take j).map (D.int .u8))]) (fun j=>j≤8) (fun j=>8-j) [] [] 1000 1000 ?_ ?_
     ·simp only[go_sem,seval]
      exact⟨0,by omega,by simp⟩
     ·intro j hj
      by_cases hlj:j<8
      ·have htk:=take_snoc (l:=t4) (j:=j) (by omega)
       have hsj:=hs4 j (by omega)
       simp only[qaT,decide_eq_true_eq] at hsj
       generalize hv9:t4.getD j 0=v at *
       have htl:(t4.take j).length=j:=by rw[List.length_take];omega
       have hm9:v%256=v:=by omega
       simp only[go_sem,seval,Try.results9,hv9,hs2,hs1,htl,hm9]
       repeat' first|assumption|(simp (disch:=first|assumption|omega|(simp;done)|(simp;omega)) only[List.take_of_length_le,qab];try simp only[go_sem,seval,Try.results9,hv9,hs2,hs1,htl,hm9])|(with_reducible first|apply And.intro|intro _)|(refine qac ?_;simp only[go_sem,seval,Try.results9,hv9,hs2,hs1,htl,hm9])|exact lexT|((try rw[qaa]);omega)
       ·refine⟨j+1,by omega,by omega,⟨by omega,rfl⟩,by omega,?_⟩
        rw[htk];simp
      ·obtain rfl:j=8:=by omega
       have htl:t4.take 8=t4:=List.take_of_length_le (by omega)
       simp only[go_sem,seval,Try.results9,hs2,htl]
       repeat' first|assumption|(simp (disch:=first|assumption|omega|(simp;done)|(simp;omega)) only[List.take_of_length_le,qab];try simp only[go_sem,seval,Try.results9,hs2,htl])|(with_reducible first|apply And.intro|intro _)|(refine qac ?_;simp only[go_sem,seval,Try.results9,hs2,htl])|exact lexT|((try rw[qaa]);omega)
       refine⟨i+1,by omega,by omega,⟨?_,rfl⟩,?_,?_⟩
       ·rw[hqs];simp[encT];omega
       ·rw[hqs];simp[encT];omega
       ·rw[hqs];simp[encT]
  ·obtain rfl:i=25:=by omega
   have hql:=qg2 (l:=k.tiles) (fun j hj=>Kcfg.ok_sizes hk (by omega)) 25
   have hpl:=hk.2.1.1
   have hqb:=qkN hk
   have hcd:encC k=(qcr k.tiles 25++qdm k.pads 3) ++ [sumC (qcr k.tiles 25++qdm k.pads 3)/256%256,sumC (qcr k.tiles 25++qdm k.pads 3)%256]:=by
    unfold encC;rw[hla,hpl]
   have hpt:=fun j (hj:j<3)=>hk.2.1.2 j (by omega)
   generalize qcr k.tiles 25=q at *
   simp only[go_sem,seval,Try.results9]
   repeat' first|assumption|(simp (disch:=first|assumption|omega|(simp;done)|(simp;omega)) only[List.take_of_length_le,qab];try simp only[go_sem,seval,Try.results9])|(with_reducible first|apply And.intro|intro _)|(refine qac ?_;simp only[go_sem,seval,Try.results9])|exact lexT|((try rw[qaa]);omega)
   refine qas (E:=Try.env 0) Try.tok (σ:=Nat) (fun j=>[(3,.sl 1 (q.length+j) 1 0 (q.length+2*j)),(63,.d (dQs k.pads)),(64,.d (dI k.pads.length)),(65,.d (dI j))])
    (fun j=>[.box [.d (dTcs k.tiles),.d (dQs k.pads)],.row (q.length+j) 1 true ((q++qdm k.pads j).map (D.int .u8))]) (fun j=>j≤3) (fun j=>3-j) [] [] 1000 1000 ?_ ?_
   ·simp only[go_sem,seval]
    exact⟨0,by omega,by simp[qdm]⟩
   ·intro j hj
    have hel:=qje (l:=k.pads) (n:=j) (by omega)
    by_cases hlj:j<3
    ·have hes:=qhI (l:=k.pads) (n:=j) (by omega)
     have gy:=qaj (z:=D.agg [D.int .i64 0,.bool false]) (show j<k.pads.length by omega)
     have hsj:=hpt j hlj
     have hfl:=Try.c_flag (k.pads.getD j (0,false)).2
     generalize k.pads.getD j (0,false)=p at *
     obtain⟨p1,p2⟩:=p
     simp only[qbB,Bool.or_eq_true,Bool.and_eq_true,decide_eq_true_eq] at hsj
     have hm9:p1%256=p1:=by omega
     simp only[go_sem,seval,Try.results9,gy,hpl,hel,hm9]
     repeat' first|assumption|(simp (disch:=first|assumption|omega|(simp;done)|(simp;omega)) only[List.take_of_length_le,qab];try simp only[go_sem,seval,Try.results9,gy,hpl,hel,hm9])|(with_reducible first|apply And.intro|intro _)|(refine qac ?_;simp only[go_sem,seval,Try.results9,gy,hpl,hel,hm9])|exact lexT|((try rw[qaa]);omega)
     refine qau (E:=Try.env 0) Try.tok Try.follows 1000 1000 [8] (fsts [0,1,4,2,3,5] (.one 6 (.one 7 (.one 8 (.fst 9 .done))))) (by kernel_rfl) ?_
     simp only[go_sem,seval,Try.results9,gy,hpl,hel,hm9]
     repeat' first|assumption|(simp (disch:=first|assumption|omega|(simp;done)|(simp;omega)) only[List.take_of_length_le,qab];try simp only[go_sem,seval,Try.results9,gy,hpl,hel,hm9])|(with_reducible first|apply And.intro|intro _)|(refine qag hfl ?_;simp only[go_sem,seval,Try.results9,gy,hpl,hel,hm9])|(refine qac ?_;simp only[go_sem,seval,Try.results9,gy,hpl,hel,hm9])|exact lexT|((try rw[qaa]);omega)
     exact⟨j+1,by omega,by omega,⟨⟨by omega,by omega⟩,rfl⟩,by omega,by rw[hes];simp⟩
    ·obtain rfl:j=3:=by omega
     have hbd : ∀ x∈q++qdm k.pads 3,0≤x∧x≤255:=fun x hx=>by
      rcases List.mem_append.1 hx with h|h
      ·exact hqb x h
      ·exact qkO hk x h
     have hck:=Try.c_checksum (q++qdm k.pads 3) hbd (by simp[hel];omega)
     have hsb:=qmX (q++qdm k.pads 3) (q++qdm k.pads 3).length
     rw[List.take_length] at hsb
     simp only[go_sem,seval,Try.results9,hpl,hel]
     repeat' first|assumption|(simp (disch:=first|assumption|omega|(simp;done)|(simp;omega)) only[List.take_of_length_le,qab];try simp only[go_sem,seval,Try.results9,hpl,hel])|(with_reducible first|apply And.intro|intro _)|(refine qag hck ?_;simp only[go_sem,seval,Try.results9,hpl,hel])|(refine qac ?_;simp only[go_sem,seval,Try.results9,hpl,hel])|exact lexT|((try rw[qaa]);omega)
     rw[hcd]
     simp
end Go.Proofs
