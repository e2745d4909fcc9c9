/- Contracts, plain definitions and lemmas. Conditions: none; lemmas. -/
import Derived.Test.YteikeianenfhaaaGreatC10
import Derived.Test.YteikeianenfhaaaGreatC13
import Derived.Test.YteikeianenfhaaaGreatC7
set_option maxRecDepth 20000
set_option linter.unusedSimpArgs false
set_option linter.unusedVariables false
set_option maxHeartbeats 2000000
namespace Go.Proofs
open Go Go.VL
abbrev dQ (p:Int×Bool):D:=.agg [dI p.1,dB p.2]
abbrev dTcs (l:List Tcfg):D:=.lst 4 (l.map fun x=>dTc x)
abbrev dQs (l:List (Int×Bool)):D:=.lst 2 (l.map fun x=>dQ x)
structure Kcfg where
 tiles:List Tcfg
 pads:List (Int×Bool)
noncomputable instance:DecidableEq Kcfg:=fun _ _=>Classical.propDecidable _
abbrev dK (k:Kcfg):D:=.agg [dTcs k.tiles,dQs k.pads]
def tc0:Tcfg:=⟨0,[],false,[]⟩
abbrev dFp (p:Int×Tcfg):D:=dFr p.1 p.2
theorem qaB {l:List Tcfg}{i:Nat}{z:D}(h:i<l.length):(l.map fun x=>dTc x).getD i z=dTc (l.getD i tc0):=getD_lt _ _ _ _ _ h
theorem qaq {l:List (Int×Bool)}{i:Nat}{z:D}(h:i<l.length):(l.map fun x=>dQ x).getD i z=dQ (l.getD i (0,false)):=getD_lt _ _ _ _ _ h
theorem getD_fp {l:List (Int×Tcfg)}{i:Nat}{z:D}(h:i<l.length):(l.map fun x=>dFp x).getD i z=dFp (l.getD i (0,tc0)):=getD_lt _ _ _ _ _ h
@[go_sem] theorem scalars_q {l:List (Int×Bool)}:scalars (l.map fun x=>dQ x)=true:=by induction l with|nil=>rfl|cons x r ih=>simp[scalars,D.cells,D.scalar,ih]

theorem qah {α : Type}{l:List α}{i:Nat}{x z : α}(h:i<l.length):(l.set i x).getD i z=x:=by simp[List.getD,h]
theorem qaA {α : Type}{l:List α}{i j:Nat}{x z : α}(h:i≠j):(l.set i x).getD j z=l.getD j z:=by simp[List.getD,List.getElem?_set,h]

inductive Used (c:Circ):Nat->Prop where
 | root {j:Nat}{l:Int}:l∈c.outs++c.next->l/2=c.first+(j:Int)->Used c j
 | op {i j:Nat}{l:Int}:i<c.gates.length->Used c i->(l=(c.gates.getD i (0,0)).1∨l=(c.gates.getD i (0,0)).2)->l/2=c.first+(j:Int)->Used c j
theorem qmV {first r:Int}{u:List Bool}{j:Nat}(hj:j<u.length):(mrk first u r).getD j false=true↔u.getD j false=true∨r/2=first+(j:Int):=by
 unfold mrk;split
 ·by_cases e:(r/2-first).toNat=j
  ·rw[e,qah hj];simp only[true_iff];right;omega
  ·rw[qaA e];constructor
   ·exact .inl
   ·rintro(h|h)
    ·exact h
    ·omega
 ·constructor
  ·exact .inl
  ·rintro(h|h)
   ·exact h
   ·omega
theorem qkA {first:Int}{l:List Int}{u:List Bool}{j:Nat}(hj:j<u.length) : ∀ k,(mrkN first l u k).getD j false=true↔u.getD j false=true∨∃ i,i<k/\(l.getD i 0)/2=first+(j:Int)
 | 0=>by
  constructor
  ·exact .inl
  ·rintro(h|⟨i,hi,-⟩)
   ·exact h
   ·omega
 | k+1=>by
  rw[mrkN,qmV (by rw[qky];exact hj),qkA hj k];constructor
  ·rintro((h|⟨i,hi,h⟩)|h)
   ·exact .inl h
   ·exact .inr ⟨i,by omega,h⟩
   ·exact .inr ⟨k,by omega,h⟩
  ·rintro(h|⟨i,hi,h⟩)
   ·exact .inl (.inl h)
   ·by_cases e:i=k
    ·subst e;exact .inr h
    ·exact .inl (.inr ⟨i,by omega,h⟩)
theorem qgg {c:Circ}{u:List Bool}{i j:Nat}(hj:j<u.length):(usdI c u i 2).getD j false=true↔u.getD j false=true∨u.getD i false=true/\((c.gates.getD i (0,0)).1/2=c.first+(j:Int)∨(c.gates.getD i (0,0)).2/2=c.first+(j:Int)):=by
 have e:usdI c u i 2=if u.getD i false then mrk c.first (mrk c.first u (c.gates.getD i (0,0)).1) (c.gates.getD i (0,0)).2 else u:=rfl
 rw[e];split
 ·rename_i h;rw[qmV (by rw[qkx];exact hj),qmV hj,h];simp only[true_and,or_assoc]
 ·rename_i h;constructor
  ·exact .inl
  ·rintro(h2|⟨h2,-⟩)
   ·exact h2
   ·exact absurd h2 h
theorem qiB {c:Circ}{j:Nat}(hj:j<c.gates.length) {k:Nat} : ∀ d,(usdN c k).getD j false=true->(usdN c (k+d)).getD j false=true
 | 0,h=>h
 | d+1,h=>by
  have ih:=qiB hj d h;rw[<-yaF,usdN,qgg (by rw[qfj];exact hj)];exact .inl ih
theorem qlz {c:Circ}(hv:c.Valid) {i:Nat}(hi:i<c.gates.length) : ∀ d,c.gates.length-1-i+d<=c.gates.length->((usdN c (c.gates.length-1-i+d)).getD i false=true↔(usdN c (c.gates.length-1-i)).getD i false=true)
 | 0,_=>Iff.rfl
 | d+1,h=>by
  rw[<-yaF,usdN,qgg (by rw[qfj];exact hi),qlz hv hi d (by omega)];have hg:=hv.g (c.gates.length-1-(c.gates.length-1-i+d)) (by omega);unfold qaK at hg;constructor
  ·rintro(h2|⟨-,h2|h2⟩)
   ·exact h2
   ·omega
   ·omega
  ·exact .inl
theorem qkB {c:Circ}(hv:c.Valid) {j:Nat}(hj:j<c.gates.length):(usdN c c.gates.length).getD j false=true↔Used c j:=by
 have base : ∀ {j:Nat},j<c.gates.length->((usdN c 0).getD j false=true↔∃ l∈c.outs++c.next,l/2=c.first+(j:Int)):=by
  intro j hj;rw[usdN,qkA (by simpa using hj)];have e:(List.replicate c.gates.length false).getD j false=false:=by
   rw[List.getD_eq_getElem?_getD,List.getElem?_replicate];split <;> rfl
  rw[e];constructor
  ·rintro(h|⟨i,hi,h⟩)
   ·cases h
   ·exact⟨_,qac hi,h⟩
  ·rintro⟨l,hl,h⟩;obtain⟨i,hi,rfl⟩:=qaE (0:Int) hl;exact .inr ⟨i,hi,h⟩
 constructor
 ·have key : ∀ k,k<=c.gates.length->∀ j,j<c.gates.length->(usdN c k).getD j false=true->Used c j:=by
   intro k;induction k with
   | zero=>
    intro _ j hj h;obtain⟨l,hl,e⟩:=(base hj).1 h;exact .root hl e
   | succ k ih=>
    intro hk j hj h;rw[usdN,qgg (by rw[qfj];exact hj)] at h;rcases h with h|⟨h1,h2|h2⟩
    ·exact ih (by omega) j hj h
    ·exact .op (i:=c.gates.length-1-k) (by omega) (ih (by omega) _ (by omega) h1) (.inl rfl) h2
    ·exact .op (i:=c.gates.length-1-k) (by omega) (ih (by omega) _ (by omega) h1) (.inr rfl) h2
  exact key _ (yad _) j hj
 ·intro h;induction h with
  | root hl e=>
   have:=qiB hj c.gates.length ((base hj).2 ⟨_,hl,e⟩)
   rwa [yaV] at this
  | @op i j l hi hu hl e ih=>
   have h1:=ih hi;have h2:=(qlz hv hi (i+1) (by omega)).1 (by rw[show c.gates.length-1-i+(i+1)=c.gates.length by omega];exact h1);have h3:(usdN c (c.gates.length-1-i+1)).getD j false=true:=by
    rw[usdN,qgg (by rw[qfj];exact hj),show c.gates.length-1-(c.gates.length-1-i)=i by omega];refine .inr ⟨h2,?_⟩;rcases hl with rfl|rfl
    ·exact .inl e
    ·exact .inr e
   have:=qiB hj i h3
   rwa [show c.gates.length-1-i+1+i=c.gates.length by omega] at this
def runG (v:List Bool) (g:List (Int×Int)):List Bool:=g.foldl (fun v p=>v ++ [litV v p.1&&litV v p.2]) v
theorem qfk (v:List Bool) (g:List (Int×Int)) (p:Int×Int):runG v (g ++ [p])=runG v g ++ [litV (runG v g) p.1&&litV (runG v g) p.2]:=by simp[runG]
theorem qgh (v:List Bool) : ∀ (h g:List (Int×Int)),∃ r,runG v (g++h)=runG v g++r
 | [],g=>⟨[],by simp⟩
 | p::h,g=>by
  obtain⟨r,e⟩:=qgh v h (g ++ [p]);refine⟨(litV (runG v g) p.1&&litV (runG v g) p.2)::r,?_⟩;rw[yaq] at e;rw[show g++p::h=g++([p]++h) from rfl,e,qfk,yaq];rfl
theorem qer : ∀ (g:List (Int×Int)) (v:List Bool),(runG v g).length=v.length+g.length
 | [],v=>rfl
 | p::g,v=>by
  show(runG (v ++ [_]) g).length=_
  rw[qer g];simp;omega
theorem qlA (c:Circ) (st ins:List Bool) : ∀ i,i<=c.gates.length->qcW c st ins i=runG (false::(ins++st)) (c.gates.take i)
 | 0,_=>rfl
 | i+1,h=>by
  have e:c.gates.take (i+1)=c.gates.take i ++ [c.gates.getD i (0,0)]:=by
   rw[yal (by omega)];simp[List.getD,show i<c.gates.length by omega]
  rw[e,qfk,qcW,qlA c st ins i (by omega)]
theorem qjJ (c:Circ) (st ins:List Bool):values c st ins=runG (false::(ins++st)) c.gates:=by
 rw[values,qlA c st ins _ (yad _),yav]
theorem qkC {v:List Bool}{g h:List (Int×Int)}{l:Int}(h0:0<=l) (hl:l<2*((v.length+g.length:Nat):Int)):litV (runG v (g++h)) l=litV (runG v g) l:=by
 obtain⟨r,e⟩:=qgh v h g;rw[e];exact qkv h0 (by rw[qer];exact hl)
theorem qiC {v:List Bool}{x:Int}(h:0<=x):litV v (flip x) = !litV v x:=by
 unfold flip litV;split
 ·rename_i h2;rw[show(x+1)/2=x/2 by omega,decide_eq_true (by omega),decide_eq_false (by omega)];cases v.getD (x/2).toNat false <;> rfl
 ·rename_i h2;rw[show(x-1)/2=x/2 by omega,decide_eq_false (by omega),decide_eq_true (by omega)];cases v.getD (x/2).toNat false <;> rfl
structure GN (first:Nat) (g:List (Int×Int)):Prop where
 nf : ∀ i,i<g.length->2<=(g.getD i (0,0)).1/\(g.getD i (0,0)).1/2<(g.getD i (0,0)).2/2/\(g.getD i (0,0)).2<2*((first:Int)+(i:Int))
 nd : ∀ i j,i<g.length->j<g.length->g.getD i (0,0)=g.getD j (0,0)->i=j
theorem GN.nil {first:Nat}:GN first []:=⟨fun i h=>by simp at h,fun i j h=>by simp at h⟩
theorem qbQ {α : Type}{l:List α}{x z : α}:(l ++ [x]).getD l.length z=x:=by simp[List.getD]
theorem GN.push {first:Nat}{g:List (Int×Int)}(h:GN first g) {p:Int×Int}(h1:2<=p.1) (h2:p.1/2<p.2/2) (h3:p.2<2*((first:Int)+(g.length:Int))) (h4:p∉g):GN first (g ++ [p]):=by
 refine⟨fun i hi=>?_,fun i j hi hj e=>?_⟩
 ·rw[yae,yaK] at hi;by_cases e:i=g.length
  ·subst e;rw[qbQ];exact⟨h1,h2,h3⟩
  ·rw[qae (by omega)];exact h.nf i (by omega)
 ·rw[yae,yaK] at hi hj;by_cases ei:i=g.length
  ·by_cases ej:j=g.length
   ·omega
   ·subst ei;rw[qbQ,qae (by omega)] at e;exact absurd (by rw[e];exact qac (by omega)) h4
  ·by_cases ej:j=g.length
   ·subst ej;rw[qbQ,qae (by omega)] at e;exact absurd (by rw[<-e];exact qac (by omega)) h4
   ·rw[qae (by omega),qae (by omega)] at e;exact h.nd i j (by omega) (by omega) e
theorem runG_at {v:List Bool}{first:Nat}{g:List (Int×Int)}(hl:v.length=first) {i:Nat}(hi:i<g.length) (h:0<=(g.getD i (0,0)).1/\(g.getD i (0,0)).1<2*((first:Int)+(i:Int))/\0<=(g.getD i (0,0)).2/\(g.getD i (0,0)).2<2*((first:Int)+(i:Int))) :
  (runG v g).getD (first+i) false=(litV (runG v g) (g.getD i (0,0)).1&&litV (runG v g) (g.getD i (0,0)).2):=by
 have e:g=g.take i++([g.getD i (0,0)]++g.drop (i+1)):=by
  have h1:g.getD i (0,0)=g[i]:=by simp[List.getD,hi]
  rw[h1,List.singleton_append,<-yaN hi,List.take_append_drop]
 have htl:(g.take i).length=i:=by simp;omega
 generalize hp:g.getD i (0,0)=p at *
 rw[e];rw[qkC (g:=g.take i) h.1 (by rw[hl,htl];omega),qkC (g:=g.take i) h.2.2.1 (by rw[hl,htl];omega),<-yaq];obtain⟨r,e2⟩:=qgh v (g.drop (i+1)) (g.take i ++ [p]);rw[e2,qfk,yaq,List.getD_eq_getElem?_getD,List.getElem?_append_right (by rw[qer,hl,htl];exact yad _),qer,hl,htl,Nat.sub_self];rfl
theorem qs4 {v:List Bool}{first:Nat}{g:List (Int×Int)}(hl:v.length=first) (hf:1<=first) (h0:v.getD 0 false=false) (hg:GN first g) {x y:Int}(hx:0<=x/\x<2*((first:Int)+(g.length:Int))) (hy:0<=y/\y<2*((first:Int)+(g.length:Int))) :
  GN first (andG first g x y).1/\litV (runG v (andG first g x y).1) (andG first g x y).2=(litV (runG v g) x&&litV (runG v g) y)/\
  ∃ t,(andG first g x y).1=g++t:=by
 have hlo:lo2 x y=x/\hi2 x y=y∨lo2 x y=y/\hi2 x y=x:=by unfold lo2 hi2;split <;> simp
 have hle:lo2 x y<=hi2 x y:=by unfold lo2 hi2;split <;> omega
 have hsw:(litV (runG v g) x&&litV (runG v g) y)=(litV (runG v g) (lo2 x y)&&litV (runG v g) (hi2 x y)):=by
  rcases hlo with⟨e1,e2⟩|⟨e1,e2⟩ <;> rw[e1,e2]
  rw[Bool.and_comm]
 rw[hsw];have ha:0<=lo2 x y/\lo2 x y<2*((first:Int)+(g.length:Int)):=by rcases hlo with⟨e1,e2⟩|⟨e1,e2⟩ <;> rw[e1] <;> assumption
 have hb:0<=hi2 x y/\hi2 x y<2*((first:Int)+(g.length:Int)):=by rcases hlo with⟨e1,e2⟩|⟨e1,e2⟩ <;> rw[e2] <;> assumption
 unfold andG;generalize lo2 x y=a at *
 generalize hi2 x y=b at *
 have hz:litV (runG v g) 0=false:=by
  have:(runG v g).getD 0 false=false:=by
   obtain⟨r,e⟩:=qgh v g [];rw[List.nil_append] at e;rw[e,show runG v []=v from rfl,qae (by omega),h0]
  unfold litV;rw[show((0:Int)/2).toNat=0 by rfl,this];rfl
 have hone:litV (runG v g) 1=true:=by
  have:=qiC (v:=runG v g) (x:=0) (by omega);rw[hz] at this;exact this
 by_cases h1:a=0∨a=flip b
 ·rw[if_pos h1];refine⟨hg,?_,[],by simp⟩;simp only;rw[hz];rcases h1 with rfl|rfl
  ·rw[hz];rfl
  ·rw[qiC hb.1];cases litV (runG v g) b <;> rfl
 ·rw[if_neg h1];by_cases h2:a=1∨a=b
  ·rw[if_pos h2];refine⟨hg,?_,[],by simp⟩;simp only;rcases h2 with rfl|rfl
   ·rw[hone,ybi]
   ·rw[Bool.and_self]
  ·rw[if_neg h2];by_cases h3:(a,b)∈g
   ·rw[if_pos h3];refine⟨hg,?_,[],by simp⟩;simp only;have hi:=qix h3;have hp:g.getD (idx2 g (a,b)) (0,0)=(a,b):=by
     have:=List.findIdx_getElem (xs:=g) (p:=fun q=>decide (q=(a,b))) (w:=hi);simp only[decide_eq_true_eq] at this;simp[List.getD,hi];exact this
    generalize idx2 g (a,b)=k at *
    have hn:=hg.nf k hi;have:=runG_at (g:=g) hl hi (by omega);rw[hp] at this;unfold litV at this ⊢;rw[show(2*((first:Int)+(k:Int))/2).toNat=first+k by omega,this,show decide (2*((first:Int)+(k:Int))%2=1)=false from decide_eq_false (by omega)];cases(_&&_) <;> rfl
   ·rw[if_neg h3];have hfl:a<b/\a/2<b/2:=by
     unfold flip at h1;split at h1 <;> omega
    refine⟨hg.push (p:=(a,b)) (by simp only;omega) hfl.2 hb.2 h3,?_,[(a,b)],rfl⟩;simp only;rw[qfk];have hrl:(runG v g).length=first+g.length:=by rw[qer,hl]
    unfold litV;rw[show(2*((first:Int)+(g.length:Int))/2).toNat=(runG v g).length by omega,qbQ,show decide (2*((first:Int)+(g.length:Int))%2=1)=false from decide_eq_false (by omega)];cases(_&&_) <;> rfl
end Go.Proofs
