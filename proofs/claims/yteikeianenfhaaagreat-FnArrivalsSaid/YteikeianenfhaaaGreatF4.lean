/- Contracts, plain definitions and lemmas. Conditions: none; lemmas. -/
import Derived.Test.YteikeianenfhaaaGreatC13
import Derived.Test.YteikeianenfhaaaGreatF1
import Derived.Test.YteikeianenfhaaaGreatC74
import Derived.Test.YteikeianenfhaaaGreatC62
set_option maxRecDepth 20000
set_option linter.unusedVariables false
set_option linter.unusedSimpArgs false
set_option maxHeartbeats 2000000
namespace Go.Proofs
open Go Go.VL Tryz
noncomputable def arrL (c:Circ) (place:List Int):List Int:=match qaM c place [] with
 | none=>[]
 | some rs=>qbK c (qac c) place rs
theorem arrO_wk (c:Circ) (place:List Int):WK (arrO c place) (dIs (arrL c place)):=by
 unfold arrO arrL;cases qaM c place [] with
 | none=>exact .nil (by omega)
 | some rs=>exact .refl _
theorem Tryz.c_sArrivals (c:Circ) (place:List Int):Pure prog 38 [dC c,dIs place] (dIs (arrL c place)):=by
 unfold arrL;have hS:=c_sRoute c place;cases hra:qaM c place [] with
 | none=>
  rw[hra] at hS;have hS:PureF prog 99 [dC c,dIs place] (.tup [dRts [],dB false]):=hS;show Pure _ _ _ (dIs [])
  refine qaA func38 rfl ntmps38 fun ok=>?_
  simp only[go_sem,seval,-List.reduceReplicate] at ok
  repeat' first|assumption|(simp (disch:=first|assumption|omega|(simp;done)|(simp;omega)) only[go_sem,seval,-List.reduceReplicate])|(with_reducible first|apply And.intro|intro _)|(refine qbU hS ?_)|((try rw[qaa]);omega)
 | some rs=>
  rw[hra] at hS;have hS:PureF prog 99 [dC c,dIs place] (.tup [dRts rs,dB true]):=hS;show Pure _ _ _ (dIs (qbK c (qac c) place rs))
  have hro:=qfp hra;obtain⟨hv,hp,-,busy,hRo⟩:=qfo hra;have hce:=c_l6Cells c hv;have har:=c_l22Arrivals c hv place hp rs hro;refine qaA func38 rfl ntmps38 fun ok=>?_
  simp only[go_sem,seval,-List.reduceReplicate] at ok
  repeat' first|assumption|(simp (disch:=first|assumption|omega|(simp;done)|(simp;omega)) only[go_sem,seval,-List.reduceReplicate])|(with_reducible first|apply And.intro|intro _)|(refine qbU hS ?_)|(refine qad hce ?_)|(refine qc9 har ?_)|((try rw[qaa]);omega)
  refine qbN (n:=0) [] (fsts [3,4,0,1] (.one 2 (.one 5 (.fst 6 .done)))) ?_
  repeat' first|assumption|(simp (disch:=first|assumption|omega|(simp;done)|(simp;omega)) only[go_sem,seval,-List.reduceReplicate])|(with_reducible first|apply And.intro|intro _)|(refine qad hce ?_)|(refine qc9 har ?_)|((try rw[qaa]);omega)
end Go.Proofs

set_option linter.unusedVariables false
set_option linter.unusedSimpArgs false
namespace Go.VL
theorem qhX {cells:List Cel}{place:List Int}{rs:List Rt}{N:Nat}{v i:Nat} : ∀ k,i<=k->(∀ m,i<=m->m<k->(cells.getD m ce0).net.toNat≠v)->(arrT cells place rs N k).getD v 0=(arrT cells place rs N i).getD v 0
 | 0,h,_=>by
         obtain rfl:i=0:=by omega
         rfl
 | k+1,h,hm=>by
  by_cases e:i=k+1
  ·subst e;rfl
  ·have ih:=qhX (cells:=cells) (place:=place) (rs:=rs) (N:=N) (v:=v) (i:=i) k (by omega) fun m h1 h2=>hm m h1 (by omega)
   have hne:=hm k (by omega) (by omega);rw[arrT];split
   ·exact ih
   ·rw[List.getD_eq_getElem?_getD,List.getElem?_set_ne hne,<-List.getD_eq_getElem?_getD];exact ih
theorem qmA {a b:List Int}{rs:List Rt}{tile:Int}{nets:List Int}(h : ∀ n∈nets,a.getD n.toNat 0=b.getD n.toNat 0):latT a rs nets tile=latT b rs nets tile:=by
 have key : ∀ (l:List Int) (t:Int),(∀ n∈l,a.getD n.toNat 0=b.getD n.toNat 0)->l.foldl (fun t n=>max t (a.getD n.toNat 0+qa9 rs n tile)) t=l.foldl (fun t n=>max t (b.getD n.toNat 0+qa9 rs n tile)) t:=by
  intro l;induction l with
  | nil=>exact fun _ _=>rfl
  | cons n l ih=>
   intro t hl;rw[yan,yan,hl n (by simp)];exact ih _ fun m hm=>hl m (by simp[hm])
 exact key nets 0 h
theorem latT_ge {a:List Int}{rs:List Rt}{tile:Int}{nets:List Int}:(0<=latT a rs nets tile)/\∀ n∈nets,a.getD n.toNat 0+qa9 rs n tile<=latT a rs nets tile:=by
 have key : ∀ (l:List Int) (t:Int),t<=l.foldl (fun t n=>max t (a.getD n.toNat 0+qa9 rs n tile)) t/\∀ n∈l,a.getD n.toNat 0+qa9 rs n tile<=l.foldl (fun t n=>max t (a.getD n.toNat 0+qa9 rs n tile)) t:=by
  intro l;induction l with
  | nil=>exact fun t=>⟨Int.le_refl _,fun n hn=>by simp at hn⟩
  | cons n l ih=>
   intro t;rw[yan];obtain⟨h1,h2⟩:=ih (max t (a.getD n.toNat 0+qa9 rs n tile));refine⟨by omega,fun m hm=>?_⟩;rcases List.mem_cons.1 hm with rfl|h
   ·omega
   ·exact h2 m h
 exact key nets 0
theorem latT_le {a:List Int}{rs:List Rt}{tile b:Int}{nets:List Int}(hb:0<=b) (h : ∀ n∈nets,a.getD n.toNat 0+qa9 rs n tile<=b):latT a rs nets tile<=b:=by
 have key : ∀ (l:List Int) (t:Int),t<=b->(∀ n∈l,a.getD n.toNat 0+qa9 rs n tile<=b)->l.foldl (fun t n=>max t (a.getD n.toNat 0+qa9 rs n tile)) t<=b:=by
  intro l;induction l with
  | nil=>exact fun t h _=>h
  | cons n l ih=>
   intro t ht hl;rw[yan];have:=hl n (by simp);exact ih _ (by omega) fun m hm=>hl m (by simp[hm])
 exact key nets 0 hb h
theorem qld {c:Circ}{i:Nat}(h:i<c.next.length):(qac c).getD i ce0=qa4 c i:=by
 unfold qac;rw[List.getD_eq_getElem?_getD,List.getElem?_append_left (by simp;exact h)];simp[h]
theorem qod (c:Circ) (i:Nat):(qa4 c i).reg=true:=by unfold qa4;split <;> rfl
theorem qfU {c:Circ}{i:Nat}(h1:c.next.length<=i) (h2:i<(qac c).length) : ∃ l∈qcw c,(qac c).getD i ce0=qaW l:=by
 have hl:(qac c).length=c.next.length+(qcw c).length:=by simp[qac]
 refine⟨(qcw c).getD (i-c.next.length) ⟨0,[],0⟩,qab (by omega),?_⟩;unfold qac;rw[List.getD_eq_getElem?_getD,List.getElem?_append_right (by simp;exact h1)];simp[List.getD,show i-c.next.length<(qcw c).length by omega]
theorem qhY {c:Circ}{i:Nat}(h:i<(qac c).length):((qac c).getD i ce0).reg=true↔i<c.next.length:=by
 by_cases hi:i<c.next.length
 ·rw[qld hi,qod];simp[hi]
 ·obtain⟨l,-,e⟩:=qfU (by omega) h;rw[e];simp[qaW,hi]
theorem qlT {c:Circ}(hc:c.Valid) {place:List Int}{rs:List Rt}{j:Nat}(hj:j<(qac c).length) (hr:((qac c).getD j ce0).reg=false) :
  (qbK c (qac c) place rs).getD ((qac c).getD j ce0).net.toNat 0=latT (qbK c (qac c) place rs) rs ((qac c).getD j ce0).inputs (place.getD j 0)+3:=by
 have ha:=qiH hc;have hn:=qcT hc;have hin:=hc.i0;have hlt : ∀ i m,i<m->m<(qac c).length->((qac c).getD i ce0).net<((qac c).getD m ce0).net:=fun i m h1 h2=>by
  have:=List.pairwise_iff_getElem.1 ha i m (by omega) h2 h1;simpa [List.getD,show i<(qac c).length by omega,h2] using this
 have hnj:=hn _ (qab hj:(qac c).getD j ce0∈qac c);have hjl : ¬ j<c.next.length:=fun h=>by rw[(qhY hj).2 h] at hr;cases hr
 obtain⟨l,hl,e⟩:=qfU (by omega) hj;obtain⟨g,hg,rfl⟩:=(qcz hc).each l hl;have hb:=qcy hc hg;have hup : ∀ m,j<m->m<(qac c).length->((qac c).getD m ce0).net.toNat≠((qac c).getD j ce0).net.toNat:=fun m h1 h2=>by
  have h3:=hlt j m h1 h2;omega
 have e1:(qbK c (qac c) place rs).getD ((qac c).getD j ce0).net.toNat 0=(arrT (qac c) place rs c.vars.toNat (j+1)).getD ((qac c).getD j ce0).net.toNat 0:=
  qhX _ (by omega) fun m h1 h2=>hup m (by omega) h2
 have e2:(arrT (qac c) place rs c.vars.toNat (j+1)).getD ((qac c).getD j ce0).net.toNat 0=latT (arrT (qac c) place rs c.vars.toNat j) rs ((qac c).getD j ce0).inputs (place.getD j 0)+3:=by
  rw[arrT,if_neg (by rw[hr];simp),qdd (by rw[qeO];omega),if_pos rfl]
 rw[e1,e2];congr 1;refine qmA fun n hn2=>?_
 have hnb:n<((qac c).getD j ce0).net/\1<=n:=by
  rw[e] at hn2 ⊢;have:=hb.2.2 n hn2;exact⟨by show n<c.first+(g:Int);omega,this.1⟩
 refine(qhX _ (by omega) fun m h1 h2=>?_).symm;by_cases e3:m=j
 ·subst e3;omega
 ·have:=hlt j m (by omega) h2;omega
theorem qpU {c:Circ}{i:Nat}(h:qdN c i∈qcw c) : ∃ j,j<(qac c).length/\(qac c).getD j ce0=qaW (qdN c i):=by
 have:qaW (qdN c i)∈qac c:=List.mem_append_right _ (List.mem_map.2 ⟨_,h,rfl⟩);obtain⟨j,hj,e⟩:=qbg ce0 this;exact⟨j,hj,e⟩
end Go.VL

set_option maxRecDepth 20000
set_option linter.unusedVariables false
set_option linter.unusedSimpArgs false
namespace Go.Proofs
open Go Go.VL
noncomputable def qfV (c:Circ):Int:=c.roots.foldl (fun m l=>max m ((arrC c).getD (l/2).toNat 0)) 0
theorem qiM (c:Circ) : ∀ (l:List Int) (m:Int),0<=m/\m<=1000+c.gates.length->0<=l.foldl (fun m l=>max m ((arrC c).getD (l/2).toNat 0)) m/\l.foldl (fun m l=>max m ((arrC c).getD (l/2).toNat 0)) m<=1000+c.gates.length:=by
 intro l;induction l with
 | nil=>exact fun m h=>h
 | cons x l ih=>
  intro m h;have:=qfH c (qaF c) c.gates.length (x/2).toNat;rw[yan];refine ih _ ?_;rw[show(arrC c).getD (x/2).toNat 0=(qaG c (qaF c) c.gates.length).2.getD (x/2).toNat 0 from rfl];omega
theorem qoe {c:Circ}{l:Int}:l∈c.roots↔l∈c.outs++c.next:=by
 simp only[Circ.roots,yao];exact Or.comm
theorem Tryz.c_MappedDepth (c:Circ) (hv:c.Valid):Pure prog 41 [dC c] (dI (qfV c)):=by
 have hcv:=c_CircuitValid c;rw[decide_eq_true hv] at hcv;have hb:=c_bestCuts c hv;have hln:=hv.ln;have hlo:=hv.lo;have hlg:=hv.lg;have hvb:=hv.vars_bd;have hfb:=hv.first_bd;have hvv:c.vars=c.first+(c.gates.length:Int):=rfl
 have hrt:=c_roots c (by omega);refine qaA func41 rfl ntmps41 fun ok=>?_
 simp only[go_sem,seval,-List.reduceReplicate] at ok
 repeat' first|assumption|(simp (disch:=first|assumption|omega|(simp;done)|(simp;omega)) only[go_sem,seval,-List.reduceReplicate,yaa])|(with_reducible first|apply And.intro|intro _)|(refine qad hcv ?_)|exact lexT|((try rw[qaa]);omega)
 refine qaq hb [0] (by simp only[go_sem,seval,-List.reduceReplicate]) ?_;rintro r0 H1 ⟨rfl,rfl⟩
 repeat' first|assumption|(simp (disch:=first|assumption|omega|(simp;done)|(simp;omega)) only[go_sem,seval,-List.reduceReplicate,yaa])|(with_reducible first|apply And.intro|intro _)|(refine qad hrt ?_)|exact lexT|((try rw[qaa]);omega)
 have hrl:c.roots.length<=1000:=by simp only[Circ.roots,yae];omega
 have hro:=hv.roots;have hal:=qpH c;have hab:=fun v=>qfH c (qaF c) c.gates.length v
 have had:(qaG c (qaF c) c.gates.length).2=arrC c:=rfl;rw[had] at hab;have hdt:=fun i=>qiM c (c.roots.take i) 0 (by omega)
 have hdd:qfV c=c.roots.foldl (fun m l=>max m ((arrC c).getD (l/2).toNat 0)) 0:=rfl;rw[hdd];generalize c.roots=R0 at *
 refine qaI (E:=env 0) tok (σ:=Nat) (fun i=>[(4,.d (dIs (arrC c))),(5,.d (dI ((R0.take i).foldl (fun m l=>max m ((arrC c).getD (l/2).toNat 0)) 0))),(15,.d (dIs R0)),(16,.d (dI R0.length)),(17,.d (dI i))]) (fun _=>[]) (fun i=>i<=R0.length) (fun i=>R0.length-i) [] 1000 1000 ?_ ?_ ?_
 ·simp only[go_sem,seval,-List.reduceReplicate]
 ·simp only[go_sem,seval,-List.reduceReplicate];exact⟨0,by omega,rfl,rfl⟩
 ·intro i hi;have hdi:=hdt i;by_cases hit:i<R0.length
  ·have hls:=qaw (f:=fun(m l:Int)=>max m ((arrC c).getD (l/2).toNat 0)) (b:=0) (0:Int) hit;have hxo:=hro _ (qab hit:R0.getD i 0∈R0);unfold qa6 at hxo;generalize hx9:R0.getD i 0=x at *
   have hax:=hab (x/2).toNat;generalize (R0.take i).foldl (fun m l=>max m ((arrC c).getD (l/2).toNat 0)) 0=w at *
   have hr:=qae (y:=2) hxo.1;simp only[go_sem,seval,-List.reduceReplicate,hx9]
   repeat' first|assumption|(simp (disch:=first|assumption|omega|(simp;done)|(simp;omega)) only[go_sem,seval,-List.reduceReplicate,hx9,hr,yaa])|(with_reducible first|apply And.intro|intro _)|exact lexT|((try rw[qaa]);omega)
   exact⟨i+1,by omega,by omega,hls.symm,rfl⟩
  ·obtain rfl:i=R0.length:=by omega
   rw[yaq]
   repeat' first|assumption|(simp (disch:=first|assumption|omega|(simp;done)|(simp;omega)) only[go_sem,seval,-List.reduceReplicate,yaa])|(with_reducible first|apply And.intro|intro _)|exact lexT|((try rw[qaa]);omega)
end Go.Proofs

set_option linter.unusedVariables false
set_option linter.unusedSimpArgs false
namespace Go.VL
def qdh (rs:List Rt):Int:=rs.foldl (fun m r=>max m (r.hops.length:Int)) 0
theorem qgT (rs:List Rt):0<=qdh rs/\∀ r∈rs,(r.hops.length:Int)<=qdh rs:=by
 have key : ∀ (l:List Rt) (m:Int),m<=l.foldl (fun m r=>max m (r.hops.length:Int)) m/\∀ r∈l,(r.hops.length:Int)<=l.foldl (fun m r=>max m (r.hops.length:Int)) m:=by
  intro l;induction l with
  | nil=>exact fun m=>⟨Int.le_refl _,fun r h=>by simp at h⟩
  | cons x l ih=>
   intro m;rw[yan];obtain⟨h1,h2⟩:=ih (max m (x.hops.length:Int));refine⟨by omega,fun r hr=>?_⟩;rcases List.mem_cons.1 hr with rfl|h
   ·omega
   ·exact h2 r h
 exact key rs 0
theorem qmB {rs:List Rt}(hr:RtsOk rs) (net t:Int):qa9 rs net t<=qdh rs:=by
 have hl:=qgT rs;by_cases h : ∃ r∈rs,r.net=net
 ·obtain⟨r,hm,rfl⟩:=h;rw[qfS hr.nd r hm];have:=qfR r.hops r.hops.length t;have:=hl.2 r hm;omega
 ·rw[qgl fun r hm e=>h ⟨r,hm,e⟩];exact hl.1
theorem qof {c:Circ}(hc:c.Valid) {i:Nat}(h:i<c.gates.length):1<=(arrC c).getD (c.first.toNat+i) 0/\∀ z∈(qa8 c).getD (c.first.toNat+i) [],(arrC c).getD z.toNat 0+1<=(arrC c).getD (c.first.toNat+i) 0:=by
 have hg:=qiw (c:=c) (cuts:=qaF c) h;have hb:=qcy hc h;have hf:=hc.first_bd;have e1:(arrC c).getD (c.first.toNat+i) 0=1+qbC (qaG c (qaF c) i).2 ((qa8 c).getD (c.first.toNat+i) []):=by
  rw[arrC,qa8,hg.2,hg.1]
 have key : ∀ (arr:List Int) (l:List Int) (t:Int),t<=l.foldl (fun t v=>max t (arr.getD v.toNat 0)) t/\∀ z∈l,arr.getD z.toNat 0<=l.foldl (fun t v=>max t (arr.getD v.toNat 0)) t:=by
  intro arr l;induction l with
  | nil=>exact fun t=>⟨Int.le_refl _,fun z h=>by simp at h⟩
  | cons x l ih=>
   intro t;rw[yan];obtain⟨h1,h2⟩:=ih (max t (arr.getD x.toNat 0));refine⟨by omega,fun z hz=>?_⟩;rcases List.mem_cons.1 hz with rfl|h
   ·omega
   ·exact h2 z h
 obtain⟨k1,k2⟩:=key (qaG c (qaF c) i).2 ((qa8 c).getD (c.first.toNat+i) []) 0;have e2:qbC (qaG c (qaF c) i).2 ((qa8 c).getD (c.first.toNat+i) [])=((qa8 c).getD (c.first.toNat+i) []).foldl (fun t v=>max t ((qaG c (qaF c) i).2.getD v.toNat 0)) 0:=rfl;rw[e1,e2];refine⟨by omega,fun z hz=>?_⟩;have hz2:=hb.2.2 z hz;have:=(qj4 (c:=c) (cuts:=qaF c) (i:=i) (n:=c.gates.length) (by omega) (v:=z.toNat) (by omega)).2;have h3:=k2 z hz;rw[arrC,this];omega
theorem qlU {c:Circ}(hc:c.Valid) {place:List Int}{rs:List Rt}{v:Nat}(hv:(v:Int)<c.first):(qbK c (qac c) place rs).getD v 0=0:=by
 have hn:=qcT hc;have hfd:c.first=1+c.inputs+(c.next.length:Int):=rfl
 have key : ∀ i,i<=(qac c).length->(arrT (qac c) place rs c.vars.toNat i).getD v 0=0:=by
  intro i;induction i with
  | zero=>
   intro _;rw[arrT,List.getD_eq_getElem?_getD,List.getElem?_replicate];split <;> rfl
  | succ i ih=>
   intro hi;have h1:=ih (by omega);rw[arrT];split
   ·exact h1
   ·rename_i hr;have hge:c.next.length<=i:=by
     have:=(qhY (c:=c) (i:=i) (by omega));rcases Nat.lt_or_ge i c.next.length with h|h
     ·exact absurd (this.2 h) hr
     ·exact h
    obtain⟨l,hl,e⟩:=qfU hge (by omega);obtain⟨g,hg,rfl⟩:=(qcz hc).each l hl;have hne:((qac c).getD i ce0).net.toNat≠v:=by
     rw[e];show(c.first+(g:Int)).toNat≠v
     omega
    rw[List.getD_eq_getElem?_getD,List.getElem?_set_ne hne,<-List.getD_eq_getElem?_getD];exact h1
 exact key _ (yad _)
theorem qku {c:Circ}(hc:c.Valid) {place:List Int}{rs:List Rt}(hr:RtsOk rs) : ∀ n i:Nat,i<n->i<c.gates.length->qdN c i∈qcw c->(qbK c (qac c) place rs).getD (c.first.toNat+i) 0<=(arrC c).getD (c.first.toNat+i) 0*(3+qdh rs)
 | 0,i,h,_,_=>by omega
 | n+1,i,hi,hg,hl=>by
  have hf:=hc.first_bd;have hL:=(qgT rs).1;obtain⟨j,hj,e⟩:=qpU hl;have ha:=qlT hc (place:=place) (rs:=rs) hj (by rw[e];rfl);rw[e] at ha;have e2:(qaW (qdN c i)).net.toNat=c.first.toNat+i:=by
   show(c.first+(i:Int)).toNat=_
   omega
  rw[e2] at ha;have e3:(qaW (qdN c i)).inputs=(qa8 c).getD (c.first.toNat+i) []:=rfl;rw[e3] at ha;obtain⟨a1,a2⟩:=qof hc hg;generalize hw:(arrC c).getD (c.first.toNat+i) 0=w at *
  have hmul:w*(3+qdh rs)=(w-1)*(3+qdh rs)+(3+qdh rs):=by rw[Int.sub_mul];omega
  have hnn:0<=(w-1)*(3+qdh rs):=Int.mul_nonneg (by omega) (by omega);have hle:latT (qbK c (qac c) place rs) rs ((qa8 c).getD (c.first.toNat+i) []) (place.getD j 0)<=(w-1)*(3+qdh rs)+qdh rs:=by
   refine latT_le (by omega) fun z hz=>?_
   have hz2:=(qcy hc hg).2.2 z hz;have hz3:=a2 z hz;have hh:=qmB hr z (place.getD j 0);have hA:(qbK c (qac c) place rs).getD z.toNat 0<=(w-1)*(3+qdh rs):=by
    by_cases hzf:z<c.first
    ·rw[qlU hc (by omega)];exact hnn
    ·have ez:z.toNat=c.first.toNat+(z-c.first).toNat:=by omega
     have ih:=qku hc (place:=place) hr n (z-c.first).toNat (by omega) (by omega) (by
      rw[qlM hc (by omega)];right;exact⟨_,hl,by rw[show c.first+((z-c.first).toNat:Int)=z by omega];exact hz⟩)
     rw[<-ez] at ih;exact Int.le_trans ih (Int.mul_le_mul_of_nonneg_right (by omega) (by omega))
   omega
  omega
end Go.VL

set_option maxRecDepth 20000
set_option linter.unusedVariables false
set_option linter.unusedSimpArgs false
namespace Go.Proofs
open Go Go.VL
theorem Tryz.c_VarCountV (c:Circ) (h:c.Valid):Pure prog 44 [dC c] (dI c.vars):=by
 have hcv:=c_CircuitValid c;rw[decide_eq_true h] at hcv;have:=h.vars_bd;have:=h.first_bd;have:=h.i0;have:=h.i1;refine qaA func44 rfl ntmps44 fun ok=>?_
 simp only[go_sem,seval,-List.reduceReplicate] at ok
 repeat' first|assumption|(simp (disch:=first|assumption|omega|(simp;done)|(simp;omega)) only[go_sem,seval,-List.reduceReplicate])|(with_reducible first|apply And.intro|intro _)|(refine qad hcv ?_)|(refine qad (c_vars c (by omega)) ?_)|((try rw[qaa]);omega)
end Go.Proofs
