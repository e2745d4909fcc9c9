/- What frames, differences and broken wires mean. Conditions: none; lemmas. -/
import Derived.Test.YtbnocdngcmimaaaC54
set_option maxRecDepth 20000
set_option linter.unusedVariables false
set_option linter.unusedSimpArgs false
namespace Go.Proofs
open Go Go.VL
def qcU (fs:List (Int×Tcfg)) (i:Int) (w:Tcfg):Tcfg:=fs.foldl (fun w f=>if f.1=i then f.2 else w) w
theorem qmw (fs:List (Int×Tcfg)) (i:Int) (w:Tcfg) {j:Nat}(h:j<fs.length) :
  qcU (fs.take (j+1)) i w=if(fs.getD j (0,tc0)).1=i then(fs.getD j (0,tc0)).2 else qcU (fs.take j) i w:=by
 rw[List.take_succ_eq_append_getElem h,qcU,List.foldl_append]
 simp[List.getD,h,qcU]
theorem qbA : ∀ (fs:List (Int×Tcfg)) (l:List Tcfg) {i:Nat},(∀ p∈fs,0≤p.1)→i<l.length→(qax l fs).getD i tc0=qcU fs i (l.getD i tc0)
 | [],l,i,_,_=>rfl
 | p::fs,l,i,h,hi=>by
  have hp:=h p (List.mem_cons_self ..)
  show(qax (l.set p.1.toNat p.2) fs).getD i tc0=qcU fs i (if p.1=(i:Int) then p.2 else l.getD i tc0)
  rw[qbA fs _ (fun q hq=>h q (List.mem_cons_of_mem _ hq)) (by rw[List.length_set];exact hi)]
  by_cases hpi:p.1=(i:Int)
  ·rw[if_pos hpi,show p.1.toNat=i by omega,qaa hi]
  ·rw[if_neg hpi,qch (by omega)]
theorem qjg (fs gs:List (Int×Tcfg)) (l:List Tcfg):qax l (fs++gs)=qax (qax l fs) gs:=by
 simp[qax,List.foldl_append]
theorem qeI {a b:Kcfg}{n:Nat} : ∀ p∈qaP a b n,0≤p.1:=by
 intro p hp
 obtain⟨i,_,rfl⟩:=qhW hp
 exact Int.natCast_nonneg _
theorem qgH {a b:Kcfg}{j:Nat}(hj:j<a.tiles.length) : ∀ n,(qax a.tiles (qaP a b n)).getD j tc0=if j<n then b.tiles.getD j tc0 else a.tiles.getD j tc0
 | 0=>by simp[qaP,qax]
 | n+1=>by
  have ih:=qgH (b:=b) hj n
  rw[qb8,qjg]
  have hl:=qaI (qaP a b n) a.tiles
  generalize qax a.tiles (qaP a b n)=t at *
  unfold qcB
  by_cases he:a.tiles.getD n tc0=b.tiles.getD n tc0
  ·rw[if_pos he]
   show t.getD j tc0=_
   rw[ih]
   by_cases h1:j<n
   ·rw[if_pos h1,if_pos (by omega)]
   ·rw[if_neg h1]
    by_cases h2:j=n
    ·subst h2;rw[if_pos (by omega),he]
    ·rw[if_neg (by omega)]
  ·rw[if_neg he]
   show(t.set ((n:Int)).toNat (b.tiles.getD n tc0)).getD j tc0=_
   rw[show((n:Int)).toNat=n by omega]
   by_cases h2:j=n
   ·subst h2;rw[qaa (by omega),if_pos (by omega)]
   ·rw[qch (Ne.symm h2),ih]
    by_cases h1:j<n
    ·rw[if_pos h1,if_pos (by omega)]
    ·rw[if_neg h1,if_neg (by omega)]
theorem qfW {l m:List Tcfg}(h:l.length=m.length) (hg : ∀ j,j<l.length→l.getD j tc0=m.getD j tc0):l=m:=by
 refine List.ext_getElem h fun k h1 h2=>?_
 have:=hg k h1
 simpa [List.getD,h1,h2] using this
theorem qe8 {a b:Kcfg}(ha:a.tiles.length=25) (hb:b.tiles.length=25):qax a.tiles (qaP a b 25)=b.tiles:=by
 refine qfW (by rw[qaI];omega) fun j hj=>?_
 rw[qaI] at hj
 rw[qgH hj,if_pos (by omega)]
theorem qk2 {a b:Kcfg}(ha:a.ok) (hb:b.ok):qeF a (qbL a b) b.pads=b:=by
 have hf:qnZ (qaP a b 25):=fun j hj=>qeX hb (Nat.le_refl _) _ (qao hj)
 have e:qbL a b=qaP a b 25:=if_pos ⟨ha,hb⟩
 rw[e]
 unfold qeF
 rw[if_pos ⟨ha,hb.2.1,hf⟩,qe8 ha.1 hb.1]
theorem qkk (a b:Kcfg) (n:Nat) : ∀ m,∃ r,qaP a b (n+m)=qaP a b n++r
 | 0=>⟨[],by simp⟩
 | m+1=>by
  obtain⟨r,h⟩:=qkk a b n m
  exact⟨r++qcB a b (n+m),by rw[show n+(m+1)=(n+m)+1 by omega,qb8,h,List.append_assoc]⟩
theorem qjh {a b:Kcfg}{i:Nat}(hi:i<25) (h:a.tiles.getD i tc0≠b.tiles.getD i tc0) :
  (qaP a b (i+1)).length=(qaP a b i).length+1∧(qaP a b i).length<(qaP a b 25).length∧(qaP a b 25).getD (qaP a b i).length (0,tc0)=((i:Int),b.tiles.getD i tc0):=by
 have e1:qcB a b i=[((i:Int),b.tiles.getD i tc0)]:=if_neg h
 obtain⟨r,hr⟩:=qkk a b (i+1) (25-(i+1))
 rw[show i+1+(25-(i+1))=25 by omega] at hr
 have e2:=qb8 a b i
 rw[e1] at e2
 rw[hr,e2]
 refine⟨by simp,by simp,?_⟩
 simp[List.getD]
theorem qpJ {a b:Kcfg}{i:Nat}(h:a.tiles.getD i tc0=b.tiles.getD i tc0):qaP a b (i+1)=qaP a b i:=by
 rw[qb8,qcB,if_pos h,List.append_nil]
theorem qh3 : ∀ (ds:List (Int×Int)) (l:List Tcfg),(∀ d∈ds,((l.getD d.1.toNat tc0).drive).getD d.2.toNat 0=0)→qaV l ds=l
 | [],l,_=>rfl
 | d::r,l,h=>by
  have hd:=h d (List.mem_cons_self ..)
  have e:setW l d.1.toNat d.2.toNat 0=l:=by
   refine qfW qg3 fun j hj=>?_
   rw[qjf]
   by_cases hc:j=d.1.toNat∧j<l.length
   ·rw[if_pos hc,←hc.1]
    rw[←hc.1] at hd
    have e2:(l.getD j tc0).drive.set d.2.toNat 0=(l.getD j tc0).drive:=by
     refine List.ext_getElem (by simp) fun k h1 h2=>?_
     rw[List.getElem_set]
     split
     ·rename_i hk
      subst hk
      have e3:=List.getElem_eq_getD (h:=h2) (0:Int)
      rw[hd] at e3
      exact e3.symm
     ·rfl
    rw[e2]
   ·rw[if_neg hc]
  show qaV (setW l d.1.toNat d.2.toNat 0) r=l
  rw[e]
  exact qh3 r l fun q hq=>h q (List.mem_cons_of_mem _ hq)
def brk (ds:List (Int×Int)) (i t w:Int):Int:=ds.foldl (fun w d=>if d.1=i∧d.2=t then 0 else w) w
theorem qpK (ds:List (Int×Int)) (i t w:Int) {j:Nat}(h:j<ds.length) :
  brk (ds.take (j+1)) i t w=if(ds.getD j (0,0)).1=i∧(ds.getD j (0,0)).2=t then 0 else brk (ds.take j) i t w:=by
 rw[List.take_succ_eq_append_getElem h,brk,List.foldl_append]
 simp[List.getD,h,brk]
theorem qcs : ∀ (ds:List (Int×Int)) (l:List Tcfg) {i t:Nat},(∀ d∈ds,0≤d.1∧0≤d.2)→i<l.length→t<(l.getD i tc0).drive.length→
  ((qaV l ds).getD i tc0).drive.getD t 0=brk ds i t ((l.getD i tc0).drive.getD t 0)
 | [],l,i,t,_,_,_=>rfl
 | d::r,l,i,t,h,hi,ht=>by
  have hd:=h d (List.mem_cons_self ..)
  show((qaV (setW l d.1.toNat d.2.toNat 0) r).getD i tc0).drive.getD t 0=brk r i t (if d.1=(i:Int)∧d.2=(t:Int) then 0 else(l.getD i tc0).drive.getD t 0)
  have hg:=qjf (l:=l) (a:=d.1.toNat) (b:=d.2.toNat) (v:=0) i
  by_cases hc:i=d.1.toNat
  ·rw[if_pos ⟨hc,hi⟩,←hc] at hg
   rw[qcs r _ (fun q hq=>h q (List.mem_cons_of_mem _ hq)) (by rw[qg3];exact hi) (by rw[←hc,hg];simpa using ht),←hc,hg]
   by_cases h2:d.2.toNat=t
   ·rw[if_pos ⟨by omega,by omega⟩,h2]
    simp only[qaa ht]
   ·rw[if_neg (by omega)]
    simp only[qch h2]
  ·rw[if_neg (by omega)] at hg
   rw[qcs r _ (fun q hq=>h q (List.mem_cons_of_mem _ hq)) (by rw[qg3];exact hi) (by rw[hg];exact ht),hg,if_neg (by omega)]
theorem qeJ {fs:List (Int×Tcfg)}(h : ∀ p∈fs,0≤p.1) : ∀ p∈er fs,0≤p.1:=by
 intro p hp
 obtain⟨q,hq,rfl⟩:=List.mem_map.1 hp
 exact h q hq
theorem qcM : ∀ (fs:List (Int×Tcfg)) {i:Int}{w:Tcfg},(∀ p∈fs,p.1≠i)→qcU fs i w=w
 | [],_,_,_=>rfl
 | p::fs,i,w,h=>by
  show qcU fs i (if p.1=i then p.2 else w)=w
  rw[if_neg (h p (List.mem_cons_self ..)),qcM fs fun q hq=>h q (List.mem_cons_of_mem _ hq)]
theorem qlS {a b:Kcfg}{n t:Nat}(h:a.tiles.getD t tc0=b.tiles.getD t tc0) : ∀ p∈qaP a b n,p.1≠(t:Int):=by
 intro p hp
 obtain⟨i,_,hi⟩:=List.mem_flatMap.1 hp
 unfold qcB at hi
 split at hi
 ·simp at hi
 ·rename_i h2
  obtain rfl:p=_:=by simpa using hi
  intro e
  simp only at e
  obtain rfl:i=t:=by omega
  exact h2 h
theorem qmx {a:Kcfg}{fs:List (Int×Tcfg)}{t:Nat}(ht:t<a.tiles.length) (h0 : ∀ p∈fs,0≤p.1) (h : ∀ p∈fs,p.1≠(t:Int)) : ∀ c∈steps a fs,c.tiles.getD t tc0=a.tiles.getD t tc0:=by
 intro c hc
 have h1 : ∀ p∈er fs,p.1≠(t:Int):=by
  intro p hp
  obtain⟨q,hq,rfl⟩:=List.mem_map.1 hp
  exact h q hq
 rcases List.mem_append.1 hc with hc|hc
 ·obtain⟨j,_,rfl⟩:=List.mem_map.1 hc
  show(qax a.tiles _).getD t tc0=_
  rw[qbA _ _ (qbO (qeJ h0)) ht,qcM _ (qbO h1)]
 ·obtain⟨j,_,rfl⟩:=List.mem_map.1 hc
  show(qax (qax a.tiles _) _).getD t tc0=_
  rw[qbA _ _ (qbO h0) (by rw[qaI];exact ht),qcM _ (qbO h),qbA _ _ (qeJ h0) ht,qcM _ h1]
theorem qgI {l:List Kcfg}{p:List (Int×Bool)}{P:List Tcfg→Prop}(hl : ∀ c∈l,P c.tiles) : ∀ c∈qcC l p,P c.tiles:=by
 intro c hc
 by_cases hn:l=[]
 ·subst hn;simp[qcC] at hc
 rcases List.mem_or_eq_of_mem_set hc with h3|h3
 ·exact hl c h3
 ·have:=List.length_pos_iff.2 hn
  have:=hl _ (qao (by omega):l.getD (l.length-1) k0∈l)
  rw[h3]
  exact this
theorem qkl {a b:Kcfg}{t:Nat}(ht:t<a.tiles.length) (h:a.tiles.getD t tc0=b.tiles.getD t tc0) : ∀ c∈qbg a b,c.tiles.getD t tc0=a.tiles.getD t tc0:=by
 unfold qbg
 split
 ·refine qgI (P:=fun T=>T.getD t tc0=a.tiles.getD t tc0) ?_
  split
  ·intro c hc
   obtain rfl:c=a:=by simpa using hc
   rfl
  ·exact qmx ht qeI (qlS h)
 ·intro c hc;simp at hc
theorem qgJ {a b:Kcfg}(h : ¬ (a.ok∧b.ok)):qbg a b=[]:=if_neg h
theorem qgK (l:List Kcfg) (p:List (Int×Bool)):(qcC l p).length=l.length:=by simp[qcC]
theorem qeK {a b:Kcfg}(h:a.ok∧b.ok):(qbg a b).length=max 1 (2*(qaP a b 25).length):=by
 unfold qbg
 rw[if_pos h,qgK]
 by_cases h2:qaP a b 25=[]
 ·rw[if_pos h2,h2];rfl
 ·rw[if_neg h2,qdR]
  have:=List.length_pos_iff.2 h2
  omega
theorem qji {l:List Kcfg}{p:List (Int×Bool)}(h:0<l.length):(qcC l p).getD (l.length-1) k0=⟨(l.getD (l.length-1) k0).tiles,p⟩:=by
 unfold qcC
 rw[qaa (by omega)]
theorem qh4 : ∀ (fs:List (Int×Tcfg)) {i:Int}{w w':Tcfg},(∃ p∈fs,p.1=i)→qcU fs i w=qcU fs i w'
 | [],_,_,_,h=>by obtain⟨p,hp,_⟩:=h;simp at hp
 | p::fs,i,w,w',h=>by
  show qcU fs i (if p.1=i then p.2 else w)=qcU fs i (if p.1=i then p.2 else w')
  by_cases hp:p.1=i
  ·rw[if_pos hp,if_pos hp]
  ·rw[if_neg hp,if_neg hp]
   obtain⟨q,hq,e⟩:=h
   rcases List.mem_cons.1 hq with rfl|hq
   ·exact absurd e hp
   ·exact qh4 fs ⟨q,hq,e⟩
theorem qkm {a b:Kcfg}(h:a.ok∧b.ok):(qbg a b).getD ((qbg a b).length-1) k0=b:=by
 have hlen:=qeK h
 have e:(if qaP a b 25=[] then [a] else steps a (qaP a b 25)).length=(qbg a b).length:=by
  unfold qbg;rw[if_pos h,qgK]
 have hb : ∀ T,T=b.tiles→(⟨T,b.pads⟩:Kcfg)=b:=by rintro _ rfl;rfl
 unfold qbg at *
 rw[if_pos h] at *
 rw[←e,qji (by omega)]
 refine hb _ ?_
 have hap:=qe8 (a:=a) (b:=b) h.1.1 h.2.1
 by_cases h2:qaP a b 25=[]
 ·rw[if_pos h2]
  rw[h2] at hap
  exact hap
 ·rw[if_neg h2,qdR]
  have hp:=List.length_pos_iff.2 h2
  generalize hfs:qaP a b 25=fs at *
  have e3:(steps a fs).getD (2*fs.length-1) k0=⟨qax (qax a.tiles (er fs)) fs,a.pads⟩:=by
   unfold steps
   rw[List.getD,List.getElem?_append_right (by rw[qbz];omega),qbz]
   simp only[qbf,List.getElem?_map,List.getElem?_range (show 2*fs.length-1-fs.length<fs.length by omega)]
   simp only[Option.map_some,Option.getD_some]
   rw[List.take_of_length_le (by omega)]
  rw[e3]
  show qax (qax a.tiles (er fs)) fs=b.tiles
  refine qfW (by rw[qaI,qaI,h.1.1,h.2.1]) fun j hj=>?_
  rw[qaI,qaI] at hj
  have hnn : ∀ p∈fs,0≤p.1:=by rw[←hfs];exact qeI
  have hg:(qax a.tiles fs).getD j tc0=b.tiles.getD j tc0:=by rw[hap]
  rw[qbA _ _ hnn hj] at hg
  rw[qbA _ _ hnn (by rw[qaI];exact hj),←hg]
  by_cases he:a.tiles.getD j tc0=b.tiles.getD j tc0
  ·have hne : ∀ p∈fs,p.1≠(j:Int):=by rw[←hfs];exact qlS he
   have hne2 : ∀ p∈er fs,p.1≠(j:Int):=by
    intro p hp
    obtain⟨q,hq,rfl⟩:=List.mem_map.1 hp
    exact hne q hq
   rw[qcM _ hne,qcM _ hne,qbA _ _ (qeJ hnn) hj,qcM _ hne2]
  ·have hmem:((j:Int),b.tiles.getD j tc0)∈fs:=by
    rw[←hfs]
    obtain⟨_,h5,h6⟩:=qjh (a:=a) (b:=b) (i:=j) (by have:=h.1.1;omega) he
    rw[←h6]
    exact qao h5
   exact qh4 fs ⟨_,hmem,rfl⟩
end Go.Proofs
