/- Part 7: arithmetic, comparisons, lengths, parts of slices; all reading operations in one function. Conditions: none; lemmas. -/
import Derived.Test.YtanhandhedpfpaaVM1
import Derived.Laws.BytesString
import Derived.MapKept
import Derived.Laws.MakeOwn
import Derived.Laws.CopyOwn
set_option linter.unusedVariables false
set_option linter.unusedSimpArgs false
namespace Go.VL
variable {P:Program}{S:Nat→Prop}{φ : List (List Nat)}{H:List R}{w:World}{T:Nat→Option TI}
def optI (o:Option I) (dflt:Int):Option Int:=
 match o with
 | none=>some dflt
 | some (.d x)=>some x.toInt
 | _=>none
def optC:Option I→Prop
 | none=>True
 | some (.d x)=>x.isInt .i64
 | _=>False
def slD (k:Nat) (xd:D) (l h:Int):D:=
 match xd with
 | .nil=>.nil
 | xd=>.lst k ((xd.elems.drop l.toNat).take (h-l).toNat)
def qdL (T:Nat→Option TI) (H:List R) (t:Nat) (x:I) (lo hi mx:Option I):Option (Prop×I):=
 match T t,mx with
 | some ti,none=>
  match ti.ty with
  | .slice e=>
   match T e with
   | some ei=>
    match x with
    | .d xd=>
     match optI lo 0,optI hi xd.elems.length with
     | some l,some h=>some (xd.isLst ei.size∧optC lo∧optC hi∧0<ei.size∧0≤l∧l≤h∧h≤xd.elems.length,.d (slD ei.size xd l h))
     | _,_=>none
    | .sl i g k l0 n=>
     match H[i]? with
     | some (.row g' k' _ _)=>
      match optI lo 0,optI hi n with
      | some l,some h=>some (g=g'∧k=k'∧k=ei.size∧optC lo∧optC hi∧0≤l∧l≤h∧h≤n,.sl i g k (l0+l.toNat) (h-l).toNat)
      | _,_=>none
     | _=>none
    | _=>none
   | none=>none
  | _=>none
 | _,_=>none
def qgz (ov:Option Value) (dflt r:Int):Prop:=
 match ov with
 | none=>r=dflt
 | some v=>v=.int .i64 r
theorem qcp {t e:Nat}{ti ei:TI}(ht:TIOK P t ti) (he:TIOK P e ei) (hy:ti.ty=.slice e) (a:Option Addr) (len cap:Nat) (hlc:len≤cap) (lo hi:Option Value) {l h:Int}
  (hlo:qgz lo 0 l) (hhi:qgz hi len h) (h0:0≤l) (h1:l≤h) (h2:h≤len) (w:World) :
  (Instr.sliceAt t (.slice a len cap) lo hi none).run P w=.ok (.slice (if cap=l.toNat then a else a.map (·.add (l.toNat*ei.size))) (h-l).toNat (cap-l.toNat)) w:=by
 have hu:=ht.und_slice hy
 have e1:(Instr.sliceBounds true len cap lo hi none).run P w=.ok (l.toNat,h.toNat,cap) w:=by
  have hhc:h≤cap:=by omega
  have hb:(match hi with|none=>(pure len:Sem Nat)|some v=>Instr.sliceBound v cap .sliceAcap).run P w=.ok h.toNat w:=by
   cases hi with
   | none=>simp only[qgz] at hhi;subst hhi;simp
   | some v=>simp only[qgz] at hhi;subst hhi;simp[Instr.sliceBound,asIntOf,show 0≤h by omega,hhc]
  have ha:(match lo with|none=>(pure 0:Sem Nat)|some v=>Instr.sliceBound v h.toNat .sliceB).run P w=.ok l.toNat w:=by
   cases lo with
   | none=>simp only[qgz] at hlo;subst hlo;simp
   | some v=>simp only[qgz] at hlo;subst hlo;simp[Instr.sliceBound,asIntOf,h0];omega
  cases hi <;> cases lo <;> simp_all[Instr.sliceBounds]
 have e2:(Instr.slice t (.slice a len cap) lo hi none).run P w=.ok (.slice (if cap=l.toNat then a else a.map (·.add (l.toNat*ei.size))) (h-l).toNat (cap-l.toNat)) w:=by
  simp only[Instr.slice,Sem.run_bind,run_underlying hu,Result.andThen_ok,e1,he.run_sizeOf,Sem.run_pure]
  congr 2
  omega
 simp only[Instr.sliceAt,Sem.run_bind,run_underlying hu,Result.andThen_ok]
 exact e2
theorem FZ.sub {k:Nat}{x:D}{v:Value}(h:FZ S w x v) (hx:x.isLst k) (hk:0<k) {l m:Nat}(hm:l+m≤x.elems.length) :
  ∃ a cap,v=.slice a x.elems.length cap∧x.elems.length≤cap∧FZ S w (.lst k ((x.elems.drop l).take m)) (.slice (if cap=l then a else a.map (·.add (l*k))) m (cap-l)):=by
 cases h <;> simp[D.isLst] at hx
 ·refine⟨none,0,rfl,Nat.le_refl _,?_⟩
  simp[D.elems] at hm
  obtain⟨rfl,rfl⟩:=hm
  simp only[D.elems,List.drop_nil,List.take_nil]
  exact .lst0 hk
 ·rename_i k' a cap hk'
  refine⟨a,cap,rfl,Nat.zero_le _,?_⟩
  simp[D.elems] at hm
  obtain⟨rfl,rfl⟩:=hm
  simp only[D.elems,List.drop_nil,List.take_nil]
  exact .lst0 hk
 ·rename_i k' L b off cap f hk' he h1 hn hlim hS hc hf
  replace hx:=hx.symm
  subst hx
  refine⟨_,cap,rfl,hn,?_⟩
  simp only[D.elems] at hm ⊢
  have hlen:((L.drop l).take m).length=m:=by simp;omega
  by_cases hm0:m=0
  ·subst hm0
   simp only[List.take_zero]
   exact .lst0 hk
  ·have hcl : ¬ cap=l:=by omega
   rw[if_neg hcl]
   simp only[Option.map_some,Addr.add_lit]
   have hmemE : ∀ x∈(L.drop l).take m,x∈L:=fun x hx=>List.mem_of_mem_drop (List.mem_of_mem_take hx)
   have hfl:=flat_length he
   have hfl':=flat_length (fun x hx=>he x (hmemE x hx))
   have hidx : ∀ j,j<(flat ((L.drop l).take m)).length→l*k+j<(flat L).length∧(flat ((L.drop l).take m)).getD j .nil=(flat L).getD (l*k+j) .nil:=by
    intro j hj
    rw[hfl',hlen] at hj
    have hm2:=Nat.mul_le_mul_right k hm
    rw[Nat.add_mul] at hm2
    refine⟨by omega,?_⟩
    have hq:j/k<m:=Nat.div_lt_of_lt_mul (by rw[Nat.mul_comm];exact hj)
    have hr:j%k<k:=Nat.mod_lt _ hk
    have hj':j=(j/k)*k+j%k:=by rw[Nat.mul_comm];exact(Nat.div_add_mod j k).symm
    have e1:=qaF (fun x hx=>he x (hmemE x hx)) (i:=j/k) (by omega) hr .nil
    have e2:=qaF he (i:=l+j/k) (by omega) hr .nil
    rw[←hj'] at e1
    rw[Nat.add_mul,Nat.add_assoc,←hj'] at e2
    rw[e1,e2]
    congr 2
    rw[getD_take _ _ _ _ hq,getD_drop]
   have:=FZ.lst (S:=S) (w:=w) (k:=k) (l:=(L.drop l).take m) (b:=b) (off:=off+l*k) (cap:=cap-l) (fun j=>f (l*k+j)) hk (fun x hx=>he x (hmemE x hx)) ?_ (by omega) (by omega) hS ?_ ?_
   ·rw[hlen] at this
    exact this
   ·intro c hc'
    obtain⟨x,hx,hcx⟩:=qaY.1 hc'
    exact h1 c (qaY.2 ⟨x,hmemE x hx,hcx⟩)
   ·intro j hj
    rw[Nat.add_assoc]
    exact hc _ (hidx j hj).1
   ·intro j hj
    rw[(hidx j hj).2]
    exact hf _ (hidx j hj).1
theorem qeB {o:Option I}{ov:Option Value}(hv : ∀ x,o=some x→∃ v,ov=some v∧V S φ H w x v) (hn:o=none→ov=none) {dflt r:Int}(h:optI o dflt=some r) (hc:optC o) :
  qgz ov dflt r:=by
 cases o with
 | none=>
  rw[hn rfl]
  simpa [optI,qgz] using h.symm
 | some x=>
  obtain⟨v,rfl,hx⟩:=hv x rfl
  cases x <;> simp[optI] at h
  subst h
  exact(hx.fz.int_inv hc).2.1
theorem qgA (hT:TOK P T) {t:Nat}{x:I}{lo hi mx:Option I}{vx:Value}{vlo vhi vmx:Option Value}(hx:V S φ H w x vx)
  (hlo : ∀ x,lo=some x→∃ v,vlo=some v∧V S φ H w x v) (hlo':lo=none→vlo=none) (hhi : ∀ x,hi=some x→∃ v,vhi=some v∧V S φ H w x v) (hhi':hi=none→vhi=none) (hmx:mx=none→vmx=none)
  {vc:Prop}{y:I}(h:qdL T H t x lo hi mx=some (vc,y)) (hvc:vc) :
  ∃ v,V S φ H w y v∧∀ w2,(Instr.sliceAt t vx vlo vhi vmx).run P w2=.ok v w2:=by
 unfold qdL at h
 split at h
 ·rename_i ti hti
  obtain rfl:=hmx rfl
  have ht:=hT _ _ hti
  split at h
  ·rename_i e hy
   split at h
   ·rename_i ei hei
    have he:=hT _ _ hei
    split at h
    ·rename_i xd
     split at h
     ·rename_i l hh hl1 hh1
      simp only[Option.some.injEq,Prod.mk.injEq] at h
      obtain⟨rfl,rfl⟩:=h
      obtain⟨hl,hc1,hc2,hk,h0,h1,h2⟩:=hvc
      have v1:=qeB hlo hlo' hl1 hc1
      have v2:=qeB hhi hhi' hh1 hc2
      by_cases hnil:xd=.nil
      ·subst hnil
       have hxz:=hx.fz
       cases hxz
       have hl0:l=0:=by simp only[D.elems,List.length_nil] at h2;omega
       have hh0:hh=0:=by simp only[D.elems,List.length_nil] at h2;omega
       subst hl0
       subst hh0
       refine⟨.slice none 0 0,.d .nil,fun w2=>?_⟩
       rw[qcp ht he hy none 0 0 (Nat.le_refl _) vlo vhi v1 v2 h0 h1 (Int.le_refl _) w2]
       rfl
      obtain⟨a,cap,rfl,hcap,hz⟩:=hx.fz.sub hl hk (l:=l.toNat) (m:=(hh-l).toNat) (by omega)
      have hsd:slD ei.size xd l hh=.lst ei.size ((xd.elems.drop l.toNat).take (hh-l).toNat):=by
       cases xd <;> first|rfl|exact absurd rfl hnil
      rw[hsd]
      exact⟨_,.d hz,fun w2=>qcp ht he hy a _ cap hcap vlo vhi v1 v2 h0 h1 h2 w2⟩
     ·simp at h
    ·rename_i i g k l0 n
     split at h
     ·rename_i g' k' dp L hroot
      split at h
      ·rename_i l hh hl1 hh1
       simp only[Option.some.injEq,Prod.mk.injEq] at h
       obtain⟨rfl,rfl⟩:=h
       obtain⟨rfl,rfl,rfl,hc1,hc2,h0,h1,h2⟩:=hvc
       have v1:=qeB hlo hlo' hl1 hc1
       have v2:=qeB hhi hhi' hh1 hc2
       cases hx with
       | sl hlt hg hrel ho=>
        obtain⟨hsl,hle⟩:=hrel dp L hroot
        rcases hsl with⟨hfp,rfl,rfl,rfl⟩|⟨b,rest,cap,arr,ty,a,hfp,rfl,hn,hc,hlim,hb,hfit⟩
        ·have hl0:l=0:=by omega
         have hh0:hh=0:=by omega
         subst hl0
         subst hh0
         refine⟨.slice none 0 0,.sl hlt hg (fun dp' L' hL'=>⟨.inl ⟨hfp,rfl,rfl,rfl⟩,by simp⟩) rfl,fun w2=>?_⟩
         rw[qcp ht he hy none 0 0 (Nat.le_refl _) vlo vhi v1 v2 h0 h1 h2 w2]
         rfl
        ·refine⟨.slice (if cap=l.toNat then a else a.map (·.add (l.toNat*ei.size))) (hh-l).toNat (cap-l.toNat),.sl hlt hg (fun dp' L' hL'=>⟨.inr ⟨b,rest,cap-l.toNat,arr,ty,_,hfp,rfl,by omega,by omega,by omega,hb,?_⟩,?_⟩) rfl,fun w2=>qcp ht he hy a _ cap hn vlo vhi v1 v2 h0 h1 h2 w2⟩
         ·intro hor
          by_cases hcl:cap=l.toNat
          ·rcases hor with hor|hor
           ·omega
           ·have hl0:l0=0:=by omega
            obtain⟨ha,hfit'⟩:=hfit (.inr hl0)
            rw[if_pos hcl,ha]
            subst hl0
            have:l.toNat=0:=by omega
            rw[this]
            exact⟨by simp,by simp;omega⟩
          ·obtain⟨ha,hfit'⟩:=hfit (by omega)
           rw[if_neg hcl,ha]
           simp only[Option.map_some,Addr.add_lit]
           refine⟨by rw[Nat.add_mul],?_⟩
           have:(l0+l.toNat)*ei.size+(cap-l.toNat)*ei.size=l0*ei.size+cap*ei.size:=by
            rw[←Nat.add_mul,←Nat.add_mul]
            congr 1
            omega
           omega
         ·rw[hroot] at hL'
          simp at hL'
          obtain⟨_,rfl⟩:=hL'
          omega
      ·simp at h
     ·simp at h
    ·simp at h
   ·simp at h
  ·simp at h
 ·simp at h
def qev:Option TI→Bool
 | some ⟨.int .i64,_,_,_⟩=>true
 | _=>false
def qdh (T:Nat→Option TI):Nat→List (Nat×Nat)→Prop
 | _,[]=>True
 | j,(o,t)::r=>o=j∧qev (T t)=true∧qdh T (j+1) r
def intCells:List D→Prop
 | []=>True
 | x::r=>x.isInt .i64∧intCells r
def qbF:List D→List D→Bool
 | x::r,y::s=>decide (x.toInt=y.toInt)&&qbF r s
 | _,_=>true
def scOk:Option TI→D→D→Prop
 | some ⟨.int .i64,_,_,_⟩,x,y=>x.isInt .i64∧y.isInt .i64
 | some ⟨.bool,_,_,_⟩,x,y=>x.isBool∧y.isBool
 | _,_,_=>False
def scEq:Option TI→D→D→Bool
 | some ⟨.bool,_,_,_⟩,x,y=>x.toBool == y.toBool
 | _,x,y=>decide (x.toInt=y.toInt)
def qcG (T:Nat→Option TI):Nat→List (Nat×Nat)→List D→List D→Prop
 | _,[],_,_=>True
 | j,(o,t)::r,x::xs,y::ys=>o=j∧scOk (T t) x y∧qcG T (j+1) r xs ys
 | _,_::_,_,_=>False
def qdM (T:Nat→Option TI):List (Nat×Nat)→List D→List D→Bool
 | (_,t)::r,x::xs,y::ys=>scEq (T t) x y&&qdM T r xs ys
 | _,_,_=>true
def remV (x y:Int):Int:=x.tmod y
theorem qag {x y:Int}(h:0≤x):remV x y=x%y:=Int.tmod_eq_emod_of_nonneg h
theorem remV_bd (x:Int) {y:Int}(h:0<y):(0≤x→0≤remV x y∧remV x y<y)∧(x<0→x≤remV x y∧remV x y≤0∧-y<remV x y):=by
 refine⟨fun h0=>?_,fun h0=>?_⟩
 ·rw[qag h0];exact⟨Int.emod_nonneg _ (by omega),Int.emod_lt_of_pos _ h⟩
 ·obtain⟨z,rfl⟩ : ∃ z,x = -z:=⟨-x,by omega⟩
  unfold remV
  rw[Int.neg_tmod,Int.tmod_eq_emod_of_nonneg (by omega)]
  have h1:=Int.emod_nonneg z (show y≠0 by omega)
  have h2:=Int.emod_lt_of_pos z h
  have h3:z%y≤z:=by
   rw[Int.emod_def]
   have:=Int.mul_nonneg (show 0≤y by omega) (Int.ediv_nonneg (show 0≤z by omega) (show 0≤y by omega))
   omega
  omega
def sBin (T:Nat→Option TI) (H:List R) (op:BinOp) (t:Nat) (x y:I):Option (Prop×I):=
 match T t with
 | some ti=>
  match ti.ty,x,y with
  | .int k,.d x,.d y=>
   match op with
   | .add=>some (x.isInt k∧y.isInt k∧InK k (x.toInt+y.toInt),.d (.int k (x.toInt+y.toInt)))
   | .sub=>some (x.isInt k∧y.isInt k∧InK k (x.toInt-y.toInt),.d (.int k (x.toInt-y.toInt)))
   | .mul=>some (x.isInt k∧y.isInt k∧InK k (x.toInt*y.toInt),.d (.int k (x.toInt*y.toInt)))
   | .quo=>some (x.isInt k∧y.isInt k∧0≤x.toInt∧0<y.toInt,.d (.int k (x.toInt/y.toInt)))
   | .rem=>some (x.isInt k∧y.isInt k∧0<y.toInt,.d (.int k (remV x.toInt y.toInt)))
   | .and=>some (x.isInt k∧y.isInt k∧0≤x.toInt∧0≤y.toInt,.d (.int k ((x.toInt.toNat &&& y.toInt.toNat:Nat):Int)))
   | .or=>some (x.isInt k∧y.isInt k∧0≤x.toInt∧0≤y.toInt,.d (.int k ((x.toInt.toNat ||| y.toInt.toNat:Nat):Int)))
   | .xor=>some (x.isInt k∧y.isInt k∧0≤x.toInt∧0≤y.toInt,.d (.int k ((x.toInt.toNat ^^^ y.toInt.toNat:Nat):Int)))
   | .shl=>some (x.isInt k∧y.isCnt∧0≤y.toInt∧y.toInt≤k.bits∧InK k (x.toInt*2 ^ y.toInt.toNat),.d (.int k (x.toInt*2 ^ y.toInt.toNat)))
   | .shr=>some (x.isInt k∧y.isCnt∧0≤y.toInt∧y.toInt≤k.bits,.d (.int k (x.toInt/2 ^ y.toInt.toNat)))
   | .eql=>some (x.isInt k∧y.isInt k,.d (.bool (decide (x.toInt=y.toInt))))
   | .neq=>some (x.isInt k∧y.isInt k,.d (.bool (!decide (x.toInt=y.toInt))))
   | .lss=>some (x.isInt k∧y.isInt k,.d (.bool (decide (x.toInt<y.toInt))))
   | .leq=>some (x.isInt k∧y.isInt k,.d (.bool (decide (x.toInt≤y.toInt))))
   | .gtr=>some (x.isInt k∧y.isInt k,.d (.bool (decide (y.toInt<x.toInt))))
   | .geq=>some (x.isInt k∧y.isInt k,.d (.bool (decide (y.toInt≤x.toInt))))
   | _=>none
  | .bool,.d x,.d y=>
   match op with
   | .eql=>some (x.isBool∧y.isBool,.d (.bool (x.toBool == y.toBool)))
   | .neq=>some (x.isBool∧y.isBool,.d (.bool (!(x.toBool == y.toBool))))
   | _=>none
  | .slice _,.d x,.d .nil=>
   match op with
   | .eql=>some (x.isSl∧(x=.nil∨x.elems≠[]),.d (.bool x.isNil))
   | .neq=>some (x.isSl∧(x=.nil∨x.elems≠[]),.d (.bool (!x.isNil)))
   | _=>none
  | .slice _,.sl i g k lo n,.d .nil=>
   match H[i]? with
   | some (.row g' k' _ _)=>
    match op with
    | .eql=>some (g=g'∧k=k'∧0<n,.d (.bool false))
    | .neq=>some (g=g'∧k=k'∧0<n,.d (.bool true))
    | _=>none
   | _=>none
  | .struct fs,.d (.agg cs),.d (.agg ds)=>
   match op with
   | .eql=>some (cs.length=fs.length∧ds.length=fs.length∧qcG T 0 fs cs ds,.d (.bool (qdM T fs cs ds)))
   | .neq=>some (cs.length=fs.length∧ds.length=fs.length∧qcG T 0 fs cs ds,.d (.bool (!(qdM T fs cs ds))))
   | _=>none
  | .string,.d (.raw (.string a)),.d (.raw (.string b))=>
   match op with
   | .eql=>some (True,.d (.bool (a.toList == b.toList)))
   | .neq=>some (True,.d (.bool (!(a.toList == b.toList))))
   | _=>none
  | _,_,_=>none
 | none=>none
theorem qaz : ∀ {l:List D},intCells l→∀ j,j<l.length→(l.getD j .nil).isInt .i64
 | [],_,j,h=>by simp at h
 | x::r,hc,0,_=>hc.1
 | x::r,hc,j+1,h=>qaz hc.2 j (by simpa using h)
theorem qeN (hT:TOK P T) : ∀ {l:List Field}{j:Nat},qdh T j (l.map fun f=>(f.offset,f.type))→qf2 P l j=true∧∀ f∈l,∃ ti,TIOK P f.type ti∧ti.ty=.int .i64
 | [],j,_=>⟨rfl,by simp⟩
 | f::r,j,h=>by
  simp only[List.map_cons,qdh] at h
  obtain⟨h1,h2,h3⟩:=h
  obtain⟨i1,i2⟩:=qeN hT h3
  obtain⟨ti,ht,hty⟩ : ∃ ti,T f.type=some ti∧ti.ty=.int .i64:=by
   cases e:T f.type with
   | none=>rw[e] at h2;simp[qev] at h2
   | some ti=>
    rw[e] at h2
    refine⟨ti,rfl,?_⟩
    obtain⟨ty,a,b,c⟩:=ti
    cases ty with
    | int k=>cases k <;> first|rfl|simp[qev] at h2
    | _=>simp[qev] at h2
  have hu:=(hT _ _ ht).und_int hty
  refine⟨by simp only[qf2,h1,beq_self_eq_true,hu,i1,Bool.and_self],fun g hg=>?_⟩
  rcases List.mem_cons.1 hg with rfl|hg
  ·exact⟨ti,hT _ _ ht,hty⟩
  ·exact i2 g hg
theorem qdN {vs us:Array Value}{cs ds:List D}(hv:cs.length=vs.size) (hu:ds.length=us.size) (fv : ∀ j,j<cs.length→FZ S w (cs.getD j .nil) (vs.getD j undef)) (fu : ∀ j,j<ds.length→FZ S w (ds.getD j .nil) (us.getD j undef))
  (ic : intCells cs) (id : intCells ds) (d : Nat) (w2 : World) : ∀ (l : List Field) (j : Nat), qf2 P l j = true → (∀ f ∈ l, f.name ≠ "_") → (∀ f ∈ l, ∃ ti, TIOK P f.type ti ∧ ti.ty = .int .i64) → j + l.length = cs.length → j + l.length = ds.length →
  (Op.eqFields (d+1) vs us l).run P w2=.ok (qbF (cs.drop j) (ds.drop j)) w2
 | [],j,_,_,_,h1,h2=>by
  simp only[List.length_nil,Nat.add_zero] at h1 h2
  rw[List.drop_eq_nil_of_le (by omega),List.drop_eq_nil_of_le (by omega)]
  rfl
 | f::r,j,hfl,hnm,hti,h1,h2=>by
  simp only[List.length_cons] at h1 h2
  simp only[qf2,Bool.and_eq_true,beq_iff_eq] at hfl
  obtain⟨⟨ho,_⟩,hr⟩:=hfl
  obtain⟨ti,ht,hty⟩:=hti f (by simp)
  have hag:ti.ty.agg=false:=by rw[hty];rfl
  have ih:=qdN hv hu fv fu ic id d w2 r (j+1) hr (fun g hg=>hnm g (by simp[hg])) (fun g hg=>hti g (by simp[hg])) (by omega) (by omega)
  have xv:=fv j (by omega)
  have yv:=fu j (by omega)
  obtain⟨_,ev,kx⟩:=xv.int_inv (qaz ic j (by omega))
  obtain⟨_,eu,ky⟩:=yv.int_inv (qaz id j (by omega))
  have e1:cs.drop j=cs.getD j .nil::cs.drop (j+1):=by
   rw[List.drop_eq_getElem_cons (by omega),List.getD_eq_getElem?_getD,List.getElem?_eq_getElem (by omega)];rfl
  have e2:ds.drop j=ds.getD j .nil::ds.drop (j+1):=by
   rw[List.drop_eq_getElem_cons (by omega),List.getD_eq_getElem?_getD,List.getElem?_eq_getElem (by omega)];rfl
  rw[e1,e2]
  subst ho
  simp only[Op.eqFields,hnm f (by simp),ne_eq,not_false_eq_true,if_true,Sem.run_bind,qay ht hag (show f.offset<vs.size by omega),qay ht hag (show f.offset<us.size by omega),Result.andThen_ok,ev,eu,
   run_equalIn_int w2 d f.type .i64 .i64 _ _ (ht.und_int hty)]
  simp only[qbF]
  by_cases hq:(cs.getD f.offset .nil).toInt=(ds.getD f.offset .nil).toInt
  ·simp only[hq,beq_self_eq_true,Bool.not_true,Bool.false_eq_true,if_false,decide_true,Bool.true_and]
   exact ih
  ·simp only[beq_eq_false_iff_ne.2 hq,Bool.not_false,if_true,Sem.run_pure,decide_eq_false hq,Bool.false_and]
theorem qhM {o:Option TI}{x y:D}(h:scOk o x y) : ∃ ti,o=some ti∧((ti.ty=.int .i64∧x.isInt .i64∧y.isInt .i64∧scEq o x y=decide (x.toInt=y.toInt))∨(ti.ty=.bool∧x.isBool∧y.isBool∧scEq o x y=(x.toBool == y.toBool))):=by
 unfold scOk at h
 split at h
 ·exact⟨_,rfl,.inl ⟨rfl,h.1,h.2,rfl⟩⟩
 ·exact⟨_,rfl,.inr ⟨rfl,h.1,h.2,rfl⟩⟩
 ·exact h.elim
theorem qfD (hT:TOK P T) : ∀ {l:List Field}{j:Nat}{cs ds:List D},qcG T j (l.map fun f=>(f.offset,f.type)) cs ds→qf2 P l j=true
 | [],j,_,_,_=>rfl
 | f::r,j,[],_,h=>by simp[qcG] at h
 | f::r,j,_::_,[],h=>by simp[qcG] at h
 | f::r,j,x::xs,y::ys,h=>by
  simp only[List.map_cons,qcG] at h
  obtain⟨h1,h2,h3⟩:=h
  have ih:=qfD hT h3
  obtain⟨ti,ht,h4⟩:=qhM h2
  rcases h4 with⟨hty,-⟩|⟨hty,-⟩
  ·have hu:=(hT _ _ ht).und_int hty
   simp only[qf2,h1,beq_self_eq_true,hu,ih,Bool.and_self]
  ·have hu:=(hT _ _ ht).und_bool hty
   simp only[qf2,h1,beq_self_eq_true,hu,ih,Bool.and_self]
theorem qei (hT:TOK P T) {vs us:Array Value}{cs ds:List D}(hv:cs.length=vs.size) (hu:ds.length=us.size) (fv : ∀ j,j<cs.length→FZ S w (cs.getD j .nil) (vs.getD j undef)) (fu : ∀ j,j<ds.length→FZ S w (ds.getD j .nil) (us.getD j undef))
  (d : Nat) (w2 : World) : ∀ (l : List Field) (j : Nat), qcG T j (l.map fun f => (f.offset, f.type)) (cs.drop j) (ds.drop j) → (∀ f ∈ l, f.name ≠ "_") → j + l.length = cs.length → j + l.length = ds.length →
  (Op.eqFields (d+1) vs us l).run P w2=.ok (qdM T (l.map fun f=>(f.offset,f.type)) (cs.drop j) (ds.drop j)) w2
 | [],j,_,_,h1,h2=>rfl
 | f::r,j,hsc,hnm,h1,h2=>by
  simp only[List.length_cons] at h1 h2
  have e1:cs.drop j=cs.getD j .nil::cs.drop (j+1):=by
   rw[List.drop_eq_getElem_cons (by omega),List.getD_eq_getElem?_getD,List.getElem?_eq_getElem (by omega)];rfl
  have e2:ds.drop j=ds.getD j .nil::ds.drop (j+1):=by
   rw[List.drop_eq_getElem_cons (by omega),List.getD_eq_getElem?_getD,List.getElem?_eq_getElem (by omega)];rfl
  rw[e1,e2] at hsc ⊢
  simp only[List.map_cons,qcG] at hsc
  obtain⟨ho,hc,hr⟩:=hsc
  have ih:=qei hT hv hu fv fu d w2 r (j+1) hr (fun g hg=>hnm g (by simp[hg])) (by omega) (by omega)
  have xv:=fv j (by omega)
  have yv:=fu j (by omega)
  obtain⟨ti,htt,h4⟩:=qhM hc
  have ht:=hT _ _ htt
  subst ho
  simp only[List.map_cons,qdM]
  rcases h4 with⟨hty,hx,hy,he⟩|⟨hty,hx,hy,he⟩
  ·have hag:ti.ty.agg=false:=by rw[hty];rfl
   obtain⟨_,ev,kx⟩:=xv.int_inv hx
   obtain⟨_,eu,ky⟩:=yv.int_inv hy
   rw[he]
   simp only[Op.eqFields,hnm f (by simp),ne_eq,not_false_eq_true,if_true,Sem.run_bind,qay ht hag (show f.offset<vs.size by omega),qay ht hag (show f.offset<us.size by omega),Result.andThen_ok,ev,eu,
    run_equalIn_int w2 d f.type .i64 .i64 _ _ (ht.und_int hty)]
   by_cases hq:(cs.getD f.offset .nil).toInt=(ds.getD f.offset .nil).toInt
   ·simp only[hq,beq_self_eq_true,Bool.not_true,Bool.false_eq_true,if_false,decide_true,Bool.true_and]
    exact ih
   ·simp only[beq_eq_false_iff_ne.2 hq,Bool.not_false,if_true,Sem.run_pure,decide_eq_false hq,Bool.false_and]
  ·have hag:ti.ty.agg=false:=by rw[hty];rfl
   obtain⟨_,ev⟩:=xv.bool_inv hx
   obtain⟨_,eu⟩:=yv.bool_inv hy
   have heq : ∀ (a b:Bool),(Op.equalIn (d+1) f.type (.bool a) (.bool b)).run P w2=.ok (a == b) w2:=fun a b=>by simp[Op.equalIn,run_underlying (ht.und_bool hty)]
   rw[he]
   simp only[Op.eqFields,hnm f (by simp),ne_eq,not_false_eq_true,if_true,Sem.run_bind,qay ht hag (show f.offset<vs.size by omega),qay ht hag (show f.offset<us.size by omega),Result.andThen_ok,ev,eu,heq]
   cases hq:(cs.getD f.offset .nil).toBool == (ds.getD f.offset .nil).toBool with
   | true=>
    simp only[Bool.not_true,Bool.false_eq_true,if_false,Bool.true_and]
    exact ih
   | false=>simp only[Bool.not_false,if_true,Sem.run_pure,Bool.false_and]
theorem wrap_in {k:IntKind}{n:Int}(h:InK k n):k.wrap n=n:=by
 obtain⟨h1,h2⟩:=h
 cases k <;> simp[IntKind.min,IntKind.max,IntKind.wrap,IntKind.bits,IntKind.signed] at * <;> omega
theorem qhf {k:IntKind}{n:Int}(h0:0≤n) (h1:n≤k.max):InK k n:=by
 refine⟨?_,h1⟩
 cases k <;> simp[IntKind.min,IntKind.bits,IntKind.signed] <;> omega
theorem qc0 {k:IntKind}{n:Nat}(h:(n:Int)≤k.max):InK k n:=qhf (by omega) h
theorem qf3 (k:IntKind) : ∃ m:Nat,k.max=2 ^ m-1∧m≤k.bits:=by
 cases k
 ·exact⟨7,rfl,by decide⟩
 ·exact⟨15,rfl,by decide⟩
 ·exact⟨31,rfl,by decide⟩
 ·exact⟨63,rfl,by decide⟩
 ·exact⟨8,rfl,by decide⟩
 ·exact⟨16,rfl,by decide⟩
 ·exact⟨32,rfl,by decide⟩
 ·exact⟨64,rfl,by decide⟩
theorem qby {b:Nat}{x:Int}(h0:0≤x) (h1:x.toNat<2 ^ b):(BitVec.ofInt b x).toNat=x.toNat:=by
 obtain⟨n,rfl⟩:=Int.eq_ofNat_of_zero_le h0
 simp only[Int.toNat_natCast] at h1 ⊢
 simp[Nat.mod_eq_of_lt h1]
theorem qaV {m:Nat}{x k:Int}(h:x≤k) (hk:k=2 ^ m-1):x.toNat<2 ^ m:=by
 have h1:(0:Int)<2 ^ m:=Int.pow_pos (by decide)
 have h2:((2 ^ m:Nat):Int)=(2:Int) ^ m:=by simp
 omega
theorem qk3 {k:IntKind}{x y:Int}(hx:InK k x) (hy:InK k y) (hx0:0≤x) (hy0:0≤y):bits .and k x y=((x.toNat &&& y.toNat:Nat):Int):=by
 obtain⟨m,hm,hb⟩:=qf3 k
 have a1:=qaV hx.2 hm
 have a2:=qaV hy.2 hm
 have hp:2 ^ m≤2 ^ k.bits:=Nat.pow_le_pow_right (by decide) hb
 simp only[bits,BitVec.toNat_and]
 rw[qby hx0 (by omega),qby hy0 (by omega)]
 have:x.toNat &&& y.toNat<2 ^ m:=Nat.and_lt_two_pow _ a2
 refine wrap_in (qc0 ?_)
 have h2:((2 ^ m:Nat):Int)=(2:Int) ^ m:=by simp
 omega
theorem bits_or {k:IntKind}{x y:Int}(hx:InK k x) (hy:InK k y) (hx0:0≤x) (hy0:0≤y):bits .or k x y=((x.toNat ||| y.toNat:Nat):Int):=by
 obtain⟨m,hm,hb⟩:=qf3 k
 have a1:=qaV hx.2 hm
 have a2:=qaV hy.2 hm
 have hp:2 ^ m≤2 ^ k.bits:=Nat.pow_le_pow_right (by decide) hb
 simp only[bits,BitVec.toNat_or]
 rw[qby hx0 (by omega),qby hy0 (by omega)]
 have:x.toNat ||| y.toNat<2 ^ m:=Nat.or_lt_two_pow a1 a2
 refine wrap_in (qc0 ?_)
 have h2:((2 ^ m:Nat):Int)=(2:Int) ^ m:=by simp
 omega
theorem qk4 {k:IntKind}{x y:Int}(hx:InK k x) (hy:InK k y) (hx0:0≤x) (hy0:0≤y):bits .xor k x y=((x.toNat ^^^ y.toNat:Nat):Int):=by
 obtain⟨m,hm,hb⟩:=qf3 k
 have a1:=qaV hx.2 hm
 have a2:=qaV hy.2 hm
 have hp:2 ^ m≤2 ^ k.bits:=Nat.pow_le_pow_right (by decide) hb
 simp only[bits,BitVec.toNat_xor]
 rw[qby hx0 (by omega),qby hy0 (by omega)]
 have:x.toNat ^^^ y.toNat<2 ^ m:=Nat.xor_lt_two_pow a1 a2
 refine wrap_in (qc0 ?_)
 have h2:((2 ^ m:Nat):Int)=(2:Int) ^ m:=by simp
 omega
theorem qdn {k:IntKind}{x y:Nat}(hx:InK k x) (hy:InK k y):InK k ((x &&& y:Nat):Int)∧InK k ((x ||| y:Nat):Int)∧InK k ((x ^^^ y:Nat):Int):=by
 obtain⟨m,hm,hb⟩:=qf3 k
 have a1:=qaV hx.2 hm
 have a2:=qaV hy.2 hm
 simp only[Int.toNat_natCast] at a1 a2
 have h2:((2 ^ m:Nat):Int)=(2:Int) ^ m:=by simp
 have b1:x &&& y<2 ^ m:=Nat.and_lt_two_pow _ a2
 have b2:x ||| y<2 ^ m:=Nat.or_lt_two_pow a1 a2
 have b3:x ^^^ y<2 ^ m:=Nat.xor_lt_two_pow a1 a2
 exact⟨qc0 (by omega),qc0 (by omega),qc0 (by omega)⟩
theorem qaC {k:IntKind}{op:BinOp}{t:Nat}{xo yo:Operand}{a b:Int}(ha:InK k a) (hb:InK k b) {w2:World}{r:Value}(h:(binOp op t (.int k a) (.int k b)).run P w2=.ok r w2) :
  (do eqGuard op t xo yo (.int k a) (.int k b);binOp op t (.int k a) (.int k b):Sem Value).run P w2=.ok r w2:=by
 simp only[eqGuard_at_int,Sem.run_bind,Sem.run_pure,Result.andThen_ok,h]
theorem run_equalIn_slice_nil {t e:Nat}(hu:P.underlying t=some (.slice e)) (d:Nat) (a:Option Addr) (n cap:Nat) (w2:World):(Op.equalIn (d+1) t (.slice a n cap) (.slice none 0 0)).run P w2=.ok a.isNone w2:=by
 cases a <;> simp[Op.equalIn,run_underlying hu]
theorem run_eql_slice_nil' {t e:Nat}(hu:P.underlying t=some (.slice e)) (a:Option Addr) (n cap:Nat) (w2:World):(binOp .eql t (.slice a n cap) (.slice none 0 0)).run P w2=.ok (.bool a.isNone) w2:=by
 have:(Op.equal t (.slice a n cap) (.slice none 0 0)).run P w2=.ok a.isNone w2:=run_equalIn_slice_nil hu 9999 a n cap w2
 simp only[binOp,Sem.run_bind,this,Result.andThen_ok,Sem.run_pure]
theorem run_neq_slice_nil' {t e:Nat}(hu:P.underlying t=some (.slice e)) (a:Option Addr) (n cap:Nat) (w2:World):(binOp .neq t (.slice a n cap) (.slice none 0 0)).run P w2=.ok (.bool (!a.isNone)) w2:=by
 have:(Op.equal t (.slice a n cap) (.slice none 0 0)).run P w2=.ok a.isNone w2:=run_equalIn_slice_nil hu 9999 a n cap w2
 simp only[binOp,Sem.run_bind,this,Result.andThen_ok,Sem.run_pure]
set_option maxHeartbeats 1000000 in
theorem qij (hT:TOK P T) {op:BinOp}{t:Nat}{x y:I}{xo yo:Operand}{vx vy:Value}(hx:V S φ H w x vx) (hy:V S φ H w y vy) {vc:Prop}{z:I}
  (h:sBin T H op t x y=some (vc,z)) (hvc:vc) :
  ∃ v,V S φ H w z v∧∀ w2,(do eqGuard op t xo yo vx vy;binOp op t vx vy:Sem Value).run P w2=.ok v w2:=by
 unfold sBin at h
 split at h
 ·rename_i ti hti
  have ht:=hT _ _ hti
  split at h
  ·rename_i k x y hk
   have hxz:=hx.fz
   have hyz:=hy.fz
   cases op <;> simp only[Option.some.injEq,Prod.mk.injEq,reduceCtorEq] at h <;> obtain⟨rfl,rfl⟩:=h
   case add=>
    obtain⟨_,rfl,kx⟩:=hxz.int_inv hvc.1
    obtain⟨_,rfl,ky⟩:=hyz.int_inv hvc.2.1
    exact⟨_,.d (.int hvc.2.2),fun w2=>qaC kx ky (by simp[binOp_add,Op.intArith,wrap_in hvc.2.2])⟩
   case sub=>
    obtain⟨_,rfl,kx⟩:=hxz.int_inv hvc.1
    obtain⟨_,rfl,ky⟩:=hyz.int_inv hvc.2.1
    exact⟨_,.d (.int hvc.2.2),fun w2=>qaC kx ky (by simp[binOp_sub,Op.intArith,wrap_in hvc.2.2])⟩
   case mul=>
    obtain⟨_,rfl,kx⟩:=hxz.int_inv hvc.1
    obtain⟨_,rfl,ky⟩:=hyz.int_inv hvc.2.1
    exact⟨_,.d (.int hvc.2.2),fun w2=>qaC kx ky (by simp[binOp_mul,Op.intArith,wrap_in hvc.2.2])⟩
   case quo=>
    obtain⟨_,rfl,kx⟩:=hxz.int_inv hvc.1
    obtain⟨_,rfl,ky⟩:=hyz.int_inv hvc.2.1
    obtain⟨_,_,h0,h1⟩:=hvc
    have hin:InK k (x.toInt/y.toInt):=qhf (Int.ediv_nonneg h0 (by omega)) (Int.le_trans (Int.ediv_le_self _ h0) kx.2)
    refine⟨_,.d (.int hin),fun w2=>qaC kx ky ?_⟩
    simp only[binOp_quo,Op.intDiv]
    rw[if_neg (by omega),Int.tdiv_eq_ediv_of_nonneg h0,wrap_in hin]
    rfl
   case rem=>
    obtain⟨_,rfl,kx⟩:=hxz.int_inv hvc.1
    obtain⟨_,rfl,ky⟩:=hyz.int_inv hvc.2.1
    obtain⟨_,_,h1⟩:=hvc
    have hin:InK k (remV x.toInt y.toInt):=by
     have hb:=remV_bd x.toInt h1
     have hy:=ky.2
     have hx:=kx
     unfold InK at hx ⊢
     by_cases h0:0≤x.toInt
     ·have:=hb.1 h0
      have:=hx.1
      have hm:k.min≤0:=by cases k <;> decide
      omega
     ·have:=hb.2 (by omega)
      omega
    refine⟨_,.d (.int hin),fun w2=>qaC kx ky ?_⟩
    simp only[binOp_rem,Op.intDiv]
    rw[if_neg (by omega)]
    rfl
   case and=>
    obtain⟨_,rfl,kx⟩:=hxz.int_inv hvc.1
    obtain⟨_,rfl,ky⟩:=hyz.int_inv hvc.2.1
    obtain⟨_,_,h0,h1⟩:=hvc
    obtain⟨m,hm⟩:=Int.eq_ofNat_of_zero_le h0
    obtain⟨n,hn⟩:=Int.eq_ofNat_of_zero_le h1
    have hin:=qdn (k:=k) (x:=m) (y:=n) (hm▸kx) (hn▸ky)
    refine⟨_,.d (.int (by rw[hm,hn];simpa using hin.1)),fun w2=>qaC kx ky ?_⟩
    simp only[binOp_and,intBits_and,qk3 kx ky h0 h1,Sem.run_pure]
   case or=>
    obtain⟨_,rfl,kx⟩:=hxz.int_inv hvc.1
    obtain⟨_,rfl,ky⟩:=hyz.int_inv hvc.2.1
    obtain⟨_,_,h0,h1⟩:=hvc
    obtain⟨m,hm⟩:=Int.eq_ofNat_of_zero_le h0
    obtain⟨n,hn⟩:=Int.eq_ofNat_of_zero_le h1
    have hin:=qdn (k:=k) (x:=m) (y:=n) (hm▸kx) (hn▸ky)
    refine⟨_,.d (.int (by rw[hm,hn];simpa using hin.2.1)),fun w2=>qaC kx ky ?_⟩
    simp only[binOp_or,intBits_or,bits_or kx ky h0 h1,Sem.run_pure]
   case xor=>
    obtain⟨_,rfl,kx⟩:=hxz.int_inv hvc.1
    obtain⟨_,rfl,ky⟩:=hyz.int_inv hvc.2.1
    obtain⟨_,_,h0,h1⟩:=hvc
    obtain⟨m,hm⟩:=Int.eq_ofNat_of_zero_le h0
    obtain⟨n,hn⟩:=Int.eq_ofNat_of_zero_le h1
    have hin:=qdn (k:=k) (x:=m) (y:=n) (hm▸kx) (hn▸ky)
    refine⟨_,.d (.int (by rw[hm,hn];simpa using hin.2.2)),fun w2=>qaC kx ky ?_⟩
    simp only[binOp_xor,intBits_xor,qk4 kx ky h0 h1,Sem.run_pure]
   case shl=>
    obtain⟨_,rfl,kx⟩:=hxz.int_inv hvc.1
    obtain⟨_,hk'⟩:=D.cnt_int hvc.2.1
    obtain⟨_,rfl,ky⟩:=hyz.int_inv hk'
    obtain⟨_,_,h0,h1,hin⟩:=hvc
    refine⟨_,.d (.int hin),fun w2=>?_⟩
    simp only[eqGuard_at_int,Sem.run_bind,Sem.run_pure,Result.andThen_ok,binOp_shl,shift_shl k _ _ _ h0 h1,wrap_in hin]
   case shr=>
    obtain⟨_,rfl,kx⟩:=hxz.int_inv hvc.1
    obtain⟨_,hk'⟩:=D.cnt_int hvc.2.1
    obtain⟨_,rfl,ky⟩:=hyz.int_inv hk'
    obtain⟨_,_,h0,h1⟩:=hvc
    have hp:(0:Int)<2 ^ y.toInt.toNat:=Int.pow_pos (by decide)
    have hin:InK k (x.toInt/2 ^ y.toInt.toNat):=by
     by_cases hx0:0≤x.toInt
     ·exact qhf (Int.ediv_nonneg hx0 (by omega)) (Int.le_trans (Int.ediv_le_self _ hx0) kx.2)
     ·refine⟨Int.le_trans kx.1 ?_,?_⟩
      ·have h2:=Int.le_ediv_iff_mul_le (a:=x.toInt) (b:=x.toInt) hp
       rw[h2]
       have:x.toInt*2 ^ y.toInt.toNat≤x.toInt*1:=Int.mul_le_mul_of_nonpos_left (by omega) (by omega)
       omega
      ·have:x.toInt/2 ^ y.toInt.toNat<0:=Int.ediv_neg_of_neg_of_pos (by omega) hp
       have:0≤k.max:=by cases k <;> simp[IntKind.max,IntKind.bits,IntKind.signed]
       omega
    refine⟨_,.d (.int hin),fun w2=>?_⟩
    simp only[eqGuard_at_int,Sem.run_bind,Sem.run_pure,Result.andThen_ok,binOp_shr,shift_shr k _ _ _ h0 h1]
   all_goals
    obtain⟨_,rfl,kx⟩:=hxz.int_inv hvc.1
    obtain⟨_,rfl,ky⟩:=hyz.int_inv hvc.2
    refine⟨_,.d .bool,fun w2=>qaC kx ky ?_⟩
    simp only[binOp_eql,binOp_neq,binOp_lss,binOp_leq,binOp_gtr,binOp_geq,Sem.run_pure]
    all_goals first|rfl|(congr 2;done)|(congr 2;rw[Bool.eq_iff_iff];simp)
  ·rename_i x y hk
   cases op <;> simp only[Option.some.injEq,Prod.mk.injEq,reduceCtorEq] at h <;> obtain⟨rfl,rfl⟩:=h
   all_goals
    obtain⟨_,rfl⟩:=hx.fz.bool_inv hvc.1
    obtain⟨_,rfl⟩:=hy.fz.bool_inv hvc.2
    refine⟨_,.d .bool,fun w2=>?_⟩
    simp only[eqGuard_at_bool,Sem.run_bind,Sem.run_pure,Result.andThen_ok,run_eql_bool w2 t _ _ (ht.und_bool hk),run_neq_bool w2 t _ _ (ht.und_bool hk)]
  ·rename_i e x hk
   have hu:=ht.und_slice hk
   have hyz:=hy.fz
   cases hyz
   have key : ∀ (vcx:x.isSl∧(x=.nil∨x.elems≠[])),∃ a n cap,vx=.slice a n cap∧a.isNone=x.isNil:=by
    rintro⟨h1,h2⟩
    have hxz:=hx.fz
    cases hxz <;> simp[D.isSl] at h1
    ·exact⟨_,_,_,rfl,rfl⟩
    ·simp[D.elems] at h2
    ·exact⟨_,_,_,rfl,rfl⟩
   cases op <;> simp only[Option.some.injEq,Prod.mk.injEq,reduceCtorEq] at h <;> obtain⟨rfl,rfl⟩:=h
   all_goals
    obtain⟨a,n,cap,rfl,hn⟩:=key hvc
    refine⟨_,.d .bool,fun w2=>?_⟩
    rw[←hn]
    simp only[eqGuard_at_slice,Sem.run_bind,Sem.run_pure,Result.andThen_ok,run_eql_slice_nil' hu,run_neq_slice_nil' hu]
  ·rename_i e i g k lo n hk
   have hu:=ht.und_slice hk
   have hyz:=hy.fz
   cases hyz
   split at h
   ·rename_i g' k' dp l hroot
    cases hx with
    | sl hlt hg hrel ho=>
     have key:(g=g'∧k=k'∧0<n)→∃ a n cap,vx=.slice (some a) n cap:=by
      rintro⟨rfl,rfl,hn0⟩
      obtain⟨hsl,hle⟩:=hrel dp l hroot
      rcases hsl with⟨_,_,rfl,_⟩|⟨b,rest,cap,arr,ty,a,hfp,rfl,hn,hc,hlim,hb,hfit⟩
      ·omega
      ·obtain⟨rfl,_⟩:=hfit (.inl (by omega))
       exact⟨_,_,_,rfl⟩
     cases op <;> simp only[Option.some.injEq,Prod.mk.injEq,reduceCtorEq] at h <;> obtain⟨rfl,rfl⟩:=h
     all_goals
      obtain⟨a,n,cap,rfl⟩:=key hvc
      refine⟨_,.d .bool,fun w2=>?_⟩
      simp only[eqGuard_at_slice,Sem.run_bind,Sem.run_pure,Result.andThen_ok,run_eql_slice_nil' hu,run_neq_slice_nil' hu]
      rfl
   ·simp at h
  ·rename_i fs cs ds hk
   obtain⟨fields,hu,hfs⟩:=ht.und_struct hk
   have hxz:=hx.fz
   have hyz:=hy.fz
   have hq:=ht.eqs
   have key:(cs.length=fs.length∧ds.length=fs.length∧qcG T 0 fs cs ds)→∃ vs us,vx=.agg vs∧vy=.agg us∧P.stoodInHeld t=false∧P.eqGuardType P.depth t=false∧
     ∀ w2,(Op.equalIn 10000 t (.agg vs) (.agg us)).run P w2=.ok (qdM T fs cs ds) w2:=by
    rintro⟨q1,q2,q3⟩
    cases hxz with
    | agg hl ho hf=>
     rename_i vs
     cases hyz with
     | agg hl2 ho2 hf2=>
      rename_i us
      rw[hfs] at q3
      have r1:=qfD hT q3
      simp only[qi4,hu,r1,Bool.not_true,Bool.false_or,Bool.and_eq_true,Bool.not_eq_true',List.all_eq_true,decide_eq_true_eq] at hq
      obtain⟨s1,s2,s3⟩:=hq
      have hfo:P.fieldsOf t=fields:=by simp only[Program.fieldsOf,hu]
      have hlen:fields.toList.length=fs.length:=by rw[hfs];simp
      refine⟨vs,us,rfl,rfl,s1,s2,fun w2=>?_⟩
      rw[run_equalIn_agg w2 9999 t vs us (by rw[hfo];exact hu) s1,hfo]
      rw[hfs]
      exact qei hT hl hl2 hf hf2 9998 w2 fields.toList 0 q3 s3 (by omega) (by omega)
   cases op <;> simp only[Option.some.injEq,Prod.mk.injEq,reduceCtorEq] at h <;> obtain⟨rfl,rfl⟩:=h
   all_goals
    obtain⟨vs,us,rfl,rfl,s1,s2,hrun⟩:=key hvc
    refine⟨_,.d .bool,fun w2=>?_⟩
    simp only[Sem.run_bind,run_eqGuard_agg w2 _ t xo yo vs us s2,Result.andThen_ok,run_eql_struct,run_neq_struct,hrun]
  ·rename_i a b hk
   have hxz:=hx.fz
   have hyz:=hy.fz
   cases hxz
   cases hyz
   cases op <;> simp only[Option.some.injEq,Prod.mk.injEq,reduceCtorEq] at h <;> obtain⟨rfl,rfl⟩:=h
   all_goals
    refine⟨_,.d .bool,fun w2=>?_⟩
    simp[eqGuard,binOp,Op.stringOp]
  ·simp at h
 ·simp at h
end Go.VL
namespace Go.VL
variable {P:Program}{S:Nat→Prop}{φ : List (List Nat)}{H:List R}{w:World}{T:Nat→Option TI}
def setCells:List I→Nat→List I→List I
 | cs,_,[]=>cs
 | cs,off,x::r=>setCells (cs.set off x) (off+1) r
def qaR (ti:TI) (x:I):Option (Prop×List I):=
 match ti.ty.agg,x with
 | true,.d xd=>some (xd.cells.length=ti.size∧xd.one=false∧(∀ n,xd≠.tup n),(qab xd 0 ti.size).map .d)
 | true,.agg cs=>some (cs.length=ti.size,cs)
 | false,.d xd=>some (ti.size=1∧xd.one=true,[.d xd])
 | false,.sl i g k lo n=>some (ti.size=1,[.sl i g k lo n])
 | false,.ptr i off=>some (ti.size=1,[.ptr i off])
 | false,.map i=>some (ti.size=1,[.map i])
 | false,.fn f caps=>some (ti.size=1,[.fn f caps])
 | _,_=>none
theorem qaW {ti:TI}{x:I}{vx:Value}(hx:V S φ H w x vx) {vc:Prop}{cs:List I}(h:qaR ti x=some (vc,cs)) (hvc:vc) :
  cs.length=ti.size∧vx.cells.size=ti.size∧∀ j,j<ti.size→(vx.cells.getD j undef).oneCell'=true∧V S φ H w (cs.getD j .junk) (vx.cells.getD j undef):=by
 unfold qaR at h
 split at h
 ·rename_i xd hagg
  simp only[Option.some.injEq,Prod.mk.injEq] at h
  obtain⟨rfl,rfl⟩:=h
  obtain⟨hl,hone,htup⟩:=hvc
  have hz:=hx.fz
  cases hz <;> simp[D.one] at hone
  ·rename_i cs vs hl' h1 hj
   simp only[D.cells] at hl
   refine⟨by simp[qaf],by simp[Value.cells,←hl',hl],fun j hj'=>?_⟩
   have hjl:j<(qab (D.agg cs) 0 ti.size).length:=by rw[qaf];exact hj'
   have e:((qab (D.agg cs) 0 ti.size).map I.d).getD j .junk=.d (cs.getD j .nil):=by
    have:=qap (D.agg cs) 0 ti.size j hj'
    simp only[List.getD,List.getElem?_map,List.getElem?_eq_getElem hjl,Option.map_some,Option.getD_some] at this ⊢
    rw[this]
    simp[D.cellAt]
   rw[e]
   have hz:=hj j (by omega)
   exact⟨hz.one (h1 _ (getD_mem (by omega))),.d hz⟩
  ·exact absurd rfl (htup _)
 ·rename_i cs' hagg
  simp only[Option.some.injEq,Prod.mk.injEq] at h
  obtain⟨rfl,rfl⟩:=h
  cases hx with
  | @agg _ vs hl h1 hj=>exact⟨hvc,by simp[Value.cells,←hl,hvc],fun j hj'=>⟨h1 j (by omega),hj j (by omega)⟩⟩
 all_goals simp only[Option.some.injEq,Prod.mk.injEq,reduceCtorEq] at h
 all_goals obtain⟨rfl,rfl⟩:=h
 ·rename_i xd hagg
  obtain⟨h1,h2⟩:=hvc
  have ho:=hx.fz.one h2
  have hc:vx.cells = #[vx]:=by cases vx <;> first|rfl|simp[Value.oneCell'] at ho
  refine⟨by simp[h1],by simp[hc,h1],fun j hj=>?_⟩
  obtain rfl:j=0:=by omega
  rw[hc]
  exact⟨ho,hx⟩
 all_goals
  have ho:vx.oneCell'=true:=by cases hx <;> first|assumption|rfl
  have hc:vx.cells = #[vx]:=by cases vx <;> first|rfl|simp[Value.oneCell'] at ho
  refine⟨by simp[hvc],by simp[hc,hvc],fun j hj=>?_⟩
  obtain rfl:j=0:=by omega
  rw[hc]
  exact⟨ho,hx⟩
def qcH (T:Nat→Option TI) (fs:List (Nat×Nat)):List I→List (Nat×I)→Option (Prop×List I)
 | cs,[]=>some (True,cs)
 | cs,(i,x)::rest=>
  match fs[i]? with
  | some (off,ft)=>
   match T ft with
   | some fi=>
    match qaR fi x with
    | some (vc,xs)=>
     match qcH T fs (setCells cs off xs) rest with
     | some (vc',r)=>some (vc∧off+fi.size≤cs.length∧vc',r)
     | none=>none
    | none=>none
   | none=>none
  | none=>none
 
def qaG (fr:Fr):List (Nat×Operand)→List (Nat×I)
 | []=>[]
 | (i,x)::r=>(i,evx fr x)::qaG fr r
def qaL (fr:Fr):List (Nat×Operand)→Prop
 | []=>True
 | (i,x)::r=>evc fr x∧qaL fr r
def arrF (n e sz:Nat):List (Nat×Nat):=(List.range n).map fun i=>(i*sz,e)
theorem qhN (n e sz i:Nat):(arrF n e sz)[i]?=if i<n then some (i*sz,e) else none:=by
 simp only[arrF,List.getElem?_map]
 by_cases h:i<n
 ·simp[h]
 ·simp[h]
def qdO (T:Nat→Option TI) (t:Nat) (parts:List (Nat×I)):Option (Prop×I):=
 match T t with
 | some ti=>
  match ti.ty with
  | .array n e=>
   match T e with
   | some ei=>
    match qcH T (arrF n e ei.size) ((qab ti.zero 0 ti.size).map .d) parts with
    | some (vc,cs)=>some (vc∧qa1 cs,mkAgg cs)
    | none=>none
   | none=>none
  | .struct fs=>
   match qcH T fs ((qab ti.zero 0 ti.size).map .d) parts with
   | some (vc,cs)=>some (vc∧qa1 cs∧fs.all (fun f=>(T f.2).isSome)=true,mkAgg cs)
   | none=>none
  | _=>none
 | none=>none
theorem qbp (cs:List I) (off:Nat) (xs:List I):(setCells cs off xs).length=cs.length:=by
 induction xs generalizing cs off with
 | nil=>rfl
 | cons x r ih=>simp[setCells,ih]
theorem qdP (cs:List I) (off:Nat) (xs:List I) (h:off+xs.length≤cs.length) (j:Nat) :
  (setCells cs off xs).getD j .junk=if off≤j∧j<off+xs.length then xs.getD (j-off) .junk else cs.getD j .junk:=by
 induction xs generalizing cs off with
 | nil=>simp[setCells];omega
 | cons x r ih=>
  simp only[List.length_cons] at h ⊢
  simp only[setCells]
  rw[ih _ _ (by simp;omega)]
  by_cases h1:off+1≤j∧j<off+1+r.length
  ·rw[if_pos h1,if_pos (by omega)]
   rw[show j-off=(j-(off+1))+1 by omega]
   simp[List.getD]
  ·rw[if_neg h1]
   by_cases h2:j=off
   ·subst h2
    rw[if_pos (by omega)]
    simp[List.getD,show j<cs.length by omega]
   ·rw[if_neg (by omega)]
    simp[List.getD,List.getElem?_set,Ne.symm h2]
theorem foldl_set (vs:List Value) (off:Nat) (arr:Array Value) (n0:Nat) (h:off+n0+vs.length≤arr.size) :
  ((vs.zipIdx n0).foldl (fun cs (cj:Value×Nat)=>cs.setIfInBounds (off+cj.2) cj.1) arr).size=arr.size∧
  ∀ j,((vs.zipIdx n0).foldl (fun cs (cj:Value×Nat)=>cs.setIfInBounds (off+cj.2) cj.1) arr).getD j undef=if off+n0≤j∧j<off+n0+vs.length then vs.getD (j-(off+n0)) undef else arr.getD j undef:=by
 induction vs generalizing arr n0 with
 | nil=>simp;omega
 | cons v r ih=>
  simp only[List.length_cons] at h ⊢
  simp only[List.zipIdx_cons,List.foldl_cons]
  obtain⟨h1,h2⟩:=ih (arr.setIfInBounds (off+n0) v) (n0+1) (by simp;omega)
  refine⟨by rw[h1];simp,fun j=>?_⟩
  rw[h2]
  by_cases h3:off+(n0+1)≤j∧j<off+(n0+1)+r.length
  ·rw[if_pos h3,if_pos (by omega),show j-(off+n0)=(j-(off+(n0+1)))+1 by omega]
   simp[List.getD]
  ·rw[if_neg h3]
   by_cases h4:j=off+n0
   ·subst h4
    rw[if_pos (by omega)]
    simp[List.getD,Array.getD,show off+n0<arr.size by omega]
   ·rw[if_neg (by omega)]
    simp[Array.getD_eq_getD_getElem?,Array.getElem?_setIfInBounds,Ne.symm h4]
theorem qd2 (vs:Array Value) (off:Nat) (arr:Array Value) (h:off+vs.size≤arr.size) :
  (vs.zipIdx.foldl (fun cs (c,j)=>cs.setIfInBounds (off+j) c) arr).size=arr.size∧
  ∀ j,(vs.zipIdx.foldl (fun cs (c,j)=>cs.setIfInBounds (off+j) c) arr).getD j undef=if off≤j∧j<off+vs.size then vs.getD (j-off) undef else arr.getD j undef:=by
 have:=foldl_set vs.toList off arr 0 (by simpa using h)
 simp only[Nat.add_zero,Array.length_toList] at this
 rw[←Array.foldl_toList,Array.toList_zipIdx]
 simpa [List.getD,Array.getD_eq_getD_getElem?] using this
def CellsOK (S:Nat→Prop) (φ : List (List Nat)) (H:List R) (w:World) (cs:List I) (arr:Array Value):Prop:=
 arr.size=cs.length∧∀ j,j<cs.length→(arr.getD j undef).oneCell'=true∧V S φ H w (cs.getD j .junk) (arr.getD j undef)
theorem qdo (hT:TOK P T) {fs:List (Nat×Nat)}(place:Nat→Option (Nat×Nat)) (hpl : ∀ i off ft fi,fs[i]?=some (off,ft)→T ft=some fi→place i=some (off,fi.size)) :
  ∀ (parts:List (Nat×I)) (vps:List (Nat×Value)),parts.length=vps.length→(∀ (j i:Nat) (x:I),parts[j]?=some (i,x)→∃ v:Value,vps[j]?=some (i,v)∧V S φ H w x v)→
  ∀ (cs:List I) (arr:Array Value),CellsOK S φ H w cs arr→∀ {vc:Prop}{r:List I},qcH T fs cs parts=some (vc,r)→vc→∃ arr',Instr.fill place arr vps=some arr'∧CellsOK S φ H w r arr'
 | [],[],_,_,cs,arr,hok,vc,r,h,hvc=>by
  simp[qcH] at h
  obtain⟨_,rfl⟩:=h
  exact⟨arr,rfl,hok⟩
 | [],_::_,hl,_,_,_,_,_,_,_,_=>by simp at hl
 | _::_,[],hl,_,_,_,_,_,_,_,_=>by simp at hl
 | (i,x)::rest,(i',v)::vrest,hl,hv,cs,arr,hok,vc,r,h,hvc=>by
  simp only[qcH] at h
  split at h
  ·rename_i off ft hfs
   split at h
   ·rename_i fi hfi
    split at h
    ·rename_i vc1 xs hc
     split at h
     ·rename_i vc2 r' hr
      simp only[Option.some.injEq,Prod.mk.injEq] at h
      obtain⟨rfl,rfl⟩:=h
      obtain⟨hvc1,hfit,hvc2⟩:=hvc
      obtain⟨v0,he,hx⟩:=hv 0 i x rfl
      simp only[List.getElem?_cons_zero,Option.some.injEq,Prod.mk.injEq] at he
      obtain⟨rfl,rfl⟩:=he
      obtain⟨h1,h2,h3⟩:=qaW hx hc hvc1
      obtain⟨hsz,hcell⟩:=hok
      obtain⟨f1,f2⟩:=qd2 v.cells off arr (by omega)
      have:=qdo hT place hpl rest vrest (by simpa using hl) (fun j i x hj=>hv (j+1) i x (by simpa using hj)) (setCells cs off xs)
       (v.cells.zipIdx.foldl (fun cs (c,j)=>cs.setIfInBounds (off+j) c) arr) ⟨by rw[f1,qbp];exact hsz,?_⟩ hr hvc2
      ·obtain⟨arr',ha,hok'⟩:=this
       refine⟨arr',?_,hok'⟩
       simp only[Instr.fill,hpl i' off ft fi hfs hfi]
       rw[if_neg (by simp;omega)]
       exact ha
      ·intro j hj
       rw[qbp] at hj
       rw[f2,qdP cs off xs (by omega)]
       by_cases hin:off≤j∧j<off+xs.length
       ·rw[if_pos hin,if_pos (by omega)]
        exact h3 _ (by omega)
       ·rw[if_neg hin,if_neg (by omega)]
        exact hcell j hj
     ·simp at h
    ·simp at h
   ·simp at h
  ·simp at h
theorem qd3 {t:Nat}{ti:TI}(ht:TIOK P t ti):CellsOK S φ H w ((qab ti.zero 0 ti.size).map .d) (qac ti.zero).cells:=by
 have hc:=ht.const
 have hs:=ht.size
 have hz:FZ S w ti.zero (qac ti.zero):=qd1 hc
 generalize hzz:ti.zero=z at *
 cases z with
 | agg cs=>
  simp only[qac,Value.cells,D.cells] at hs ⊢
  refine⟨by simp[qaf,←hs],fun j hj=>?_⟩
  simp only[List.length_map,qaf] at hj
  have hjl:j<(qab (D.agg cs) 0 ti.size).length:=by rw[qaf];exact hj
  have e:((qab (D.agg cs) 0 ti.size).map I.d).getD j .junk=.d (cs.getD j .nil):=by
   have:=qap (D.agg cs) 0 ti.size j hj
   simp only[List.getD,List.getElem?_map,List.getElem?_eq_getElem hjl,Option.map_some,Option.getD_some] at this ⊢
   rw[this]
   simp[D.cellAt]
  rw[e]
  cases hz with
  | agg hl h1 hj'=>
   have:=hj' j (by omega)
   exact⟨this.one (h1 _ (getD_mem (by omega))),.d this⟩
 | _=>
  first
   | (simp[qdF,qcL] at hc;done)
   | (
     simp only[D.cells,List.length_cons,List.length_nil] at hs
     have ho:=hz.one rfl
     have hcell : ∀ v:Value,v.oneCell'=true→v.cells = #[v]:=fun v hv=>by cases v <;> first|rfl|simp[Value.oneCell'] at hv
     rw[hcell _ ho,←hs]
     refine⟨by simp[qab],fun j hj=>?_⟩
     simp[qab] at hj
     subst hj
     exact⟨ho,.d hz⟩)
theorem CellsOK.agg {cs:List I}{arr:Array Value}(h:CellsOK S φ H w cs arr) (h1:qa1 cs):V S φ H w (mkAgg cs) (.agg arr):=by
 have:=V.mkAgg (S:=S) (φ:=φ) (H:=H) (w:=w) (cs:=cs) (n:=cs.length) (f:=fun j=>arr.getD j undef) rfl h1 (fun j hj=>(h.2 j hj).1) (fun j hj=>(h.2 j hj).2)
 have e:((List.range cs.length).map fun j=>arr.getD j undef).toArray=arr:=by
  apply Array.ext
  ·simp[h.1]
  ·intro i h1 h2
   simp[Array.getD,h2]
 rwa [e] at this
theorem qf4 {α β : Type}(l:List α) (f : α→Sem β) (g : α→β) (h : ∀ x∈l,∀ w:World,(f x).run P w=.ok (g x) w) (w:World):(l.mapM f).run P w=.ok (l.map g) w:=by
 induction l with
 | nil=>simp
 | cons x r ih=>
  simp only[List.mapM_cons,Sem.run_bind,h x (by simp),Result.andThen_ok,ih (fun y hy=>h y (List.mem_cons_of_mem _ hy)),Sem.run_pure,List.map_cons]
theorem qk5 {α β : Type}(l:Array α) (f : α→Sem β) (g : α→β) (h : ∀ x∈l,∀ w:World,(f x).run P w=.ok (g x) w) (w:World):(l.mapM f).run P w=.ok (l.map g) w:=by
 rw[Array.mapM_eq_mapM_toList,Sem.run_map,qf4 l.toList f g (fun x hx=>h x (by simpa using hx))]
 simp only[Result.andThen_ok]
 rw[←Array.toList_map]
theorem qgB (hT:TOK P T) {t:Nat}{parts:List (Nat×I)}{vps:List (Nat×Value)}(hl:parts.length=vps.length)
  (hv : ∀ (j i:Nat) (x:I),parts[j]?=some (i,x)→∃ v:Value,vps[j]?=some (i,v)∧V S φ H w x v) {vc:Prop}{y:I}(h:qdO T t parts=some (vc,y)) (hvc:vc) :
  ∃ v,V S φ H w y v∧∀ w2,(Instr.build t vps.toArray).run P w2=.ok v w2:=by
 unfold qdO at h
 split at h
 ·rename_i ti hti
  have ht:=hT _ _ hti
  split at h
  ·rename_i n e hy
   split at h
   ·rename_i ei hei
    split at h
    ·rename_i vc' cs hf
     simp only[Option.some.injEq,Prod.mk.injEq] at h
     obtain⟨rfl,rfl⟩:=h
     obtain⟨hvc1,hone⟩:=hvc
     obtain⟨arr,hfill,hok⟩:=qdo hT (fun i=>some (i*ei.size,ei.size)) (by
      intro i off ft fi h1 h2
      rw[qhN] at h1
      split at h1
      ·simp only[Option.some.injEq,Prod.mk.injEq] at h1
       obtain⟨rfl,rfl⟩:=h1
       rw[hei] at h2
       obtain rfl:=Option.some.inj h2
       rfl
      ·simp at h1) parts vps hl hv _ _ (qd3 ht) hf hvc1
     refine⟨.agg arr,hok.agg hone,fun w2=>?_⟩
     simp only[Instr.build,Sem.run_bind,ht.run_zero,Result.andThen_ok,run_underlying (ht.und_array hy),(hT _ _ hei).run_sizeOf,List.toList_toArray,hfill,Sem.run_pure]
    ·simp at h
   ·simp at h
  ·rename_i fs hy
   obtain⟨fields,hu,rfl⟩:=ht.und_struct hy
   split at h
   ·rename_i vc' cs hf
    simp only[Option.some.injEq,Prod.mk.injEq] at h
    obtain⟨rfl,rfl⟩:=h
    obtain⟨hvc1,hone,hall⟩:=hvc
    have hm : ∀ w2:World,(fields.mapM fun f=>do pure (f.offset,←sizeOf f.type):Sem (Array (Nat×Nat))).run P w2=.ok (fields.map fun f=>(f.offset,((T f.type).map TI.size).getD 0)) w2:=by
     intro w2
     refine qk5 _ _ _ (fun f hf=>?_) w2
     intro w2
     simp only[List.all_eq_true,List.mem_map,Option.isSome_iff_exists] at hall
     obtain⟨fi,hfi⟩:=hall (f.offset,f.type) ⟨f,by simpa using hf,rfl⟩
     simp[(hT _ _ hfi).run_sizeOf,hfi]
    obtain⟨arr,hfill,hok⟩:=qdo hT (fun i=>(fields.map fun f=>(f.offset,((T f.type).map TI.size).getD 0))[i]?) (by
     intro i off ft fi h1 h2
     simp only[List.getElem?_map,Option.map_eq_some_iff] at h1
     obtain⟨fd,hfd,he⟩:=h1
     simp only[Prod.mk.injEq] at he
     obtain⟨rfl,rfl⟩:=he
     have hfd':fields[i]?=some fd:=by simpa using hfd
     simp[hfd',h2]) parts vps hl hv _ _ (qd3 ht) hf hvc1
    refine⟨.agg arr,hok.agg hone,fun w2=>?_⟩
    simp only[Instr.build,Sem.run_bind,ht.run_zero,Result.andThen_ok,run_underlying hu,hm,List.toList_toArray,hfill,Sem.run_pure]
   ·simp at h
  ·simp at h
 ·simp at h
def sLen (T:Nat→Option TI) (H:List R) (t:Nat) (x:I):Option (Prop×I):=
 match T t with
 | some ti=>
  match ti.ty with
  | .slice _=>
   match x with
   | .d xd=>some (xd.isSl,.d (.int .i64 (xd.elems.length:Nat)))
   | .sl i g k lo n=>
    match H[i]? with
    | some (.row g' k' _ _)=>some (g=g'∧k=k',.d (.int .i64 (n:Nat)))
    | _=>none
   | _=>none
  | .array n _=>some (InK .i64 n,.d (.int .i64 (n:Nat)))
  | _=>none
 | none=>none
theorem qeO {n:Nat}(h:n≤lim):InK .i64 (n:Int):=by
 unfold lim at h
 refine⟨?_,?_⟩ <;> simp[IntKind.min,IntKind.max,IntKind.bits,IntKind.signed] <;> omega
theorem qik (hT:TOK P T) {t ty:Nat}{x:I}{vx:Value}(hx:V S φ H w x vx) {vc:Prop}{y:I}(h:sLen T H t x=some (vc,y)) (hvc:vc) :
  ∃ v,V S φ H w y v∧∀ w2,(Builtin.len_ #[t] ty #[vx]).run P w2=.ok v w2:=by
 unfold sLen at h
 split at h
 ·rename_i ti hti
  have ht:=hT _ _ hti
  split at h
  ·rename_i e hy
   have hu:=ht.und_slice hy
   split at h
   ·simp only[Option.some.injEq,Prod.mk.injEq] at h
    obtain⟨rfl,rfl⟩:=h
    obtain⟨a,cap,rfl,hlim⟩:=hx.fz.slice_inv hvc
    exact⟨_,.d (.int (qeO hlim)),fun w2=>by simp[Builtin.len_,run_underlying hu,goInt]⟩
   ·rename_i i g k lo n
    split at h
    ·rename_i g' k' dp l hroot
     simp only[Option.some.injEq,Prod.mk.injEq] at h
     obtain⟨rfl,rfl⟩:=h
     obtain⟨rfl,rfl⟩:=hvc
     cases hx with
     | sl hlt hg hrel ho=>
      obtain⟨hsl,hle⟩:=hrel dp l hroot
      rcases hsl with⟨hfp,rfl,rfl,rfl⟩|⟨b,rest,cap,arr,ty,a,hfp,rfl,hn,hc,hlim,hb,hfit⟩
      ·exact⟨_,.d (.int (qeO (Nat.zero_le _))),fun w2=>by simp[Builtin.len_,run_underlying hu,goInt]⟩
      ·exact⟨_,.d (.int (qeO hlim)),fun w2=>by simp[Builtin.len_,run_underlying hu,goInt]⟩
    ·simp at h
   ·simp at h
  ·rename_i n e hy
   have hu:=ht.und_array hy
   simp only[Option.some.injEq,Prod.mk.injEq] at h
   obtain⟨rfl,rfl⟩:=h
   exact⟨_,.d (.int hvc),fun w2=>by simp[Builtin.len_,run_underlying hu,goInt]⟩
  ·simp at h
 ·simp at h
def sCap (T:Nat→Option TI) (t:Nat) (x:I):Option (Prop×I):=
 match T t with
 | some ti=>
  match ti.ty,x with
  | .slice _,.d .nil=>some (True,.d (.int .i64 0))
  | _,_=>none
 | none=>none
theorem qil (hT:TOK P T) {t ty:Nat}{x:I}{vx:Value}(hx:V S φ H w x vx) {vc:Prop}{y:I}(h:sCap T t x=some (vc,y)) (hvc:vc) :
  ∃ v,V S φ H w y v∧∀ w2,(Builtin.cap_ #[t] ty #[vx]).run P w2=.ok v w2:=by
 unfold sCap at h
 split at h
 ·rename_i ti hti
  have ht:=hT _ _ hti
  split at h
  ·rename_i e hy
   have hu:=ht.und_slice hy
   simp only[Option.some.injEq,Prod.mk.injEq] at h
   obtain⟨rfl,rfl⟩:=h
   have hxz:=hx.fz
   cases hxz
   exact⟨_,.d (.int (qeO (n:=0) (Nat.zero_le _))),fun w2=>by simp[Builtin.cap_,run_underlying hu,goInt]⟩
  ·simp at h
 ·simp at h
def usOf:D→List Int
 | .lst _ l=>l.map D.toInt
 | _=>[]
def isUs:D→Prop
 | .nil=>True
 | .lst k l=>k=1∧l=(l.map D.toInt).map (D.int .u8)
 | _=>False
def bsOf (l:List Int):ByteArray:=l.foldl (fun r n=>r.push (UInt8.ofNat n.toNat)) ByteArray.empty
def qhO (T:Nat→Option TI) (e:Nat) (x:D):Option (Prop×I):=
 match T e with
 | some ei=>
  match ei.ty with
  | .int .u8=>some (isUs x,.d (.raw (.string (bsOf (usOf x)))))
  | _=>none
 | none=>none
def cvC (k:IntKind) (n:Int):Prop:=match k with
 | .u8=>True
 | k=>InK k n
def cvV (k:IntKind) (n:Int):Int:=match k with
 | .u8=>n%256
 | _=>n
theorem cv_in {k:IntKind}{n:Int}(h:cvC k n):InK k (cvV k n):=by
 cases k
 case u8=>simp only[cvV,InK,IntKind.min,IntKind.max,IntKind.bits,IntKind.signed];simp;omega
 all_goals exact h
theorem cv_wrap {k:IntKind}{n:Int}(h:cvC k n):k.wrap n=cvV k n:=by
 cases k
 case u8=>simp[cvV,IntKind.wrap,IntKind.bits,IntKind.signed]
 all_goals exact wrap_in h
def qf5 (T:Nat→Option TI) (src dst:Nat) (x:I):Option (Prop×I):=
 match T src,T dst,x with
 | some si,some di,.d xd=>
  match si.ty,di.ty with
  | .int k,.int k'=>some (xd.isInt k∧cvC k' xd.toInt,.d (.int k' (cvV k' xd.toInt)))
  | .slice e,.string=>qhO T e xd
  | _,_=>none
 | _,_,_=>none
def strT:Option TI→Bool
 | some ⟨.string,_,_,_⟩=>true
 | _=>false
theorem qgC : ∀ l:List Int,flat (l.map (D.int .u8))=l.map (D.int .u8)
 | []=>rfl
 | x::r=>by
  have ih:=qgC r
  unfold flat at ih ⊢
  rw[List.map_cons,List.flatMap_cons,ih]
  rfl
theorem qhg {x:D}{v:Value}(hx:FZ S w x v) (h:isUs x) {w2:World}(ha:Agree w w2) : ∃ a n c,v=.slice a n c∧(Conv.bytesToString v).run P w2=.ok (.string (bsOf (usOf x))) w2:=by
 cases hx with
 | nil=>exact⟨_,_,_,rfl,by simp[Conv.bytesToString,usOf,bsOf]⟩
 | @lst0 k a cap hk=>
  refine⟨_,_,_,rfl,?_⟩
  cases a with
  | none=>simp[Conv.bytesToString,usOf,bsOf]
  | some a=>
   have:=run_bytesToString (P:=P) w2 a 0 cap [] (by simp[loadCells,loadCellsFrom])
   exact this
 | @lst k l b off cap f hk he h1 hn hlim hS hc hf=>
  refine⟨_,_,_,rfl,?_⟩
  obtain⟨rfl,hl⟩:=h
  generalize hns:l.map D.toInt=ns at *
  subst hl
  rw[qgC] at hc hf
  have hfn : ∀ j,j<(ns.map (D.int .u8)).length→f j=.int .u8 (ns.getD j 0):=fun j hj=>by
   have:=hf j hj
   have e:(ns.map (D.int .u8)).getD j .nil=.int .u8 (ns.getD j 0):=by
    have hj2:j<ns.length:=by simpa using hj
    simp[List.getD,hj2]
   rw[e] at this
   generalize f j=y at this
   cases this
   rfl
  have hrun:(loadCells ⟨b,off,none⟩ (ns.map (D.int .u8)).length).run P w2=.ok (ns.map (Value.int .u8)).toArray w2:=by
   rw[run_loadCells w2 ⟨b,off,none⟩ _ (fun j=>.int .u8 (ns.getD j 0)) (fun j hj=>by
    rw[Addr.add_lit]
    have:=hc j hj
    rw[hfn j hj] at this
    exact ha.cell this)]
   congr 2
   refine List.ext_getElem (by simp) fun j h1 h2=>?_
   have hj2:j<ns.length:=by simpa using h2
   simp[List.getD,hj2]
  have:=run_bytesToString (P:=P) w2 ⟨b,off,none⟩ _ cap ns hrun
  rw[this]
  show _=Result.ok (Value.string (bsOf ((ns.map (D.int .u8)).map D.toInt))) w2
  rw[hns]
  rfl
 | _=>exact h.elim
theorem qhh (hT:TOK P T) {src dst:Nat}{x:I}{vx:Value}(hx:V S φ H w x vx) {vc:Prop}{y:I}(h:qf5 T src dst x=some (vc,y)) (hvc:vc) :
  ∃ v,V S φ H w y v∧∀ w2,(strT (T dst)=true→Agree w w2)→(convert src dst vx).run P w2=.ok v w2:=by
 unfold qf5 at h
 split at h
 ·rename_i si di xd hsi hdi
  split at h
  ·rename_i k k' hk hk'
   simp only[Option.some.injEq,Prod.mk.injEq] at h
   obtain⟨rfl,rfl⟩:=h
   obtain⟨_,rfl,_⟩:=hx.fz.int_inv hvc.1
   refine⟨_,.d (.int (cv_in hvc.2)),fun w2 _=>?_⟩
   simp only[convert,Sem.run_bind,run_underlying ((hT _ _ hsi).und_int hk),run_underlying ((hT _ _ hdi).und_int hk'),Result.andThen_ok,Conv.intToInt,Sem.run_pure,cv_wrap hvc.2]
  ·rename_i e hk hk'
   unfold qhO at h
   split at h
   ·rename_i ei hei
    split at h
    ·rename_i hek
     simp only[Option.some.injEq,Prod.mk.injEq] at h
     obtain⟨rfl,rfl⟩:=h
     refine⟨_,.d (.raw rfl),fun w2 ha=>?_⟩
     have hag:=ha (by rw[hdi];obtain⟨ty,sz,b,z⟩:=di;simp only at hk';subst hk';rfl)
     obtain⟨a,n,c,rfl,hr⟩:=qhg (P:=P) hx.fz hvc hag
     rw[run_convert_bytes_string w2 src dst e a n c ((hT _ _ hsi).und_slice hk) ((hT _ _ hei).und_int hek) ((hT _ _ hdi).und_string hk')]
     exact hr
    ·simp at h
   ·simp at h
  ·simp at h
 ·simp at h
def sUn (op:UnOp) (x:I):Option (Prop×I):=
 match op,x with
 | .not,.d xd=>some (xd.isBool,.d (.bool (!xd.toBool)))
 | .neg,.d xd=>some (xd.isInt .i64∧InK .i64 (- xd.toInt),.d (.int .i64 (- xd.toInt)))
 | _,_=>none
theorem qi5 {op:UnOp}{x:I}{vx:Value}(hx:V S φ H w x vx) {vc:Prop}{y:I}(h:sUn op x=some (vc,y)) (hvc:vc) :
  ∃ v,V S φ H w y v∧∀ w2,(Op.unary op vx).run P w2=.ok v w2:=by
 unfold sUn at h
 split at h
 ·simp only[Option.some.injEq,Prod.mk.injEq] at h
  obtain⟨rfl,rfl⟩:=h
  obtain⟨_,rfl⟩:=hx.fz.bool_inv hvc
  exact⟨_,.d .bool,fun w2=>by simp[Op.unary]⟩
 ·simp only[Option.some.injEq,Prod.mk.injEq] at h
  obtain⟨rfl,rfl⟩:=h
  obtain⟨_,rfl,_⟩:=hx.fz.int_inv hvc.1
  refine⟨_,.d (.int hvc.2),fun w2=>?_⟩
  simp only[Op.unary,Op.intArith,Sem.run_pure,Int.zero_sub,wrap_in hvc.2]
 ·simp at h
def sMM (b:Builtin) (x y:I):Option (Prop×I):=
 match b,x,y with
 | .min,.d x,.d y=>some (x.isInt .i64∧y.isInt .i64,.d (.int .i64 (if y.toInt<x.toInt then y.toInt else x.toInt)))
 | .max,.d x,.d y=>some (x.isInt .i64∧y.isInt .i64,.d (.int .i64 (if x.toInt<y.toInt then y.toInt else x.toInt)))
 | _,_,_=>none
theorem qgD {b:Builtin}{x y:I}{vx vy:Value}(hx:V S φ H w x vx) (hy:V S φ H w y vy) {vc:Prop}{z:I}(h:sMM b x y=some (vc,z)) (hvc:vc) (ts:Array TypeId) (ty:TypeId) :
  ∃ v,V S φ H w z v∧∀ (cs:Array Bool) w2,(builtin b ts ty cs #[vx,vy]).run P w2=.ok (.value v) w2:=by
 unfold sMM at h
 split at h
 all_goals simp only[Option.some.injEq,Prod.mk.injEq,reduceCtorEq] at h
 all_goals
  obtain⟨rfl,rfl⟩:=h
  obtain⟨_,rfl,k1⟩:=hx.fz.int_inv hvc.1
  obtain⟨_,rfl,k2⟩:=hy.fz.int_inv hvc.2
  refine⟨_,.d (.int (by split <;> assumption)),fun cs w2=>?_⟩
  simp[builtin,run_min_int2,run_max_int2]
def qbG (x:I) (j:Nat):Option (Prop×I):=
 match x with
 | .tup vs=>some (j<vs.length,vs.getD j .junk)
 | .d xd=>some (xd.isTup xd.tupLen∧j<xd.tupLen,.d (xd.tupAt j))
 | _=>none
theorem qfw {x:I}{j:Nat}{vx:Value}(hx:V S φ H w x vx) {vc:Prop}{z:I}(h:qbG x j=some (vc,z)) (hvc:vc) :
  ∃ v,V S φ H w z v∧∀ w2,(Instr.extract vx j).run P w2=.ok v w2:=by
 unfold qbG at h
 split at h
 ·simp only[Option.some.injEq,Prod.mk.injEq] at h
  obtain⟨rfl,rfl⟩:=h
  cases hx with
  | @tup _ vs hl hj=>
   refine⟨_,hj j hvc,fun w2=>?_⟩
   simp[Instr.extract,Array.getD,show j<vs.size by omega,Array.getElem?_eq_getElem (show j<vs.size by omega)]
 ·rename_i xd
  simp only[Option.some.injEq,Prod.mk.injEq] at h
  obtain⟨rfl,rfl⟩:=h
  have hz:=hx.fz
  cases hz <;> simp[D.isTup,D.tupLen] at hvc
  rename_i xs vs hl hj
  refine⟨_,.d (hj j hvc),fun w2=>?_⟩
  simp[Instr.extract,Array.getD,show j<vs.size by omega,Array.getElem?_eq_getElem (show j<vs.size by omega)]
 ·simp at h
def qhi (c a b:I) (ca cb:Prop):Option (Prop×I):=
 match c,a,b with
 | .d c,.d a,.d b=>some (c.isBool∧(c.toBool=true→ca∧a.isBool)∧(c.toBool=false→cb∧b.isBool),.d (.bool (if c.toBool=true then a.toBool else b.toBool)))
 | _,_,_=>none
def sNil (H:List R) (x:I):Option (Prop×I):=
 match x with
 | .d xd=>some (xd.isPtr,.d xd)
 | .ptr i off=>
  match H[i]? with
  | some (.box _)=>some (True,.ptr i off)
  | _=>none
 | .eptr i g k idx off z=>
  match H[i]? with
  | some (.row g' k' _ _)=>some (g'=g∧k'=k,.eptr i g k idx off z)
  | _=>none
 | _=>none
theorem qim {x:I}{vx:Value}(hx:V S φ H w x vx) {vc:Prop}{z:I}(h:sNil H x=some (vc,z)) (hvc:vc):V S φ H w z vx∧∃ a,vx=.pointer (some a):=by
 unfold sNil at h
 split at h
 ·simp only[Option.some.injEq,Prod.mk.injEq] at h
  obtain⟨rfl,rfl⟩:=h
  obtain⟨b,off,rfl,_⟩:=hx.fz.ptr_inv hvc
  exact⟨hx,_,rfl⟩
 ·split at h
  ·rename_i cs hroot
   simp only[Option.some.injEq,Prod.mk.injEq] at h
   obtain⟨rfl,rfl⟩:=h
   cases hx with
   | ptr hlt hrel ho=>
    obtain⟨b,hb,rfl⟩:=hrel cs hroot
    exact⟨.ptr hlt hrel ho,_,rfl⟩
  ·simp at h
 ·split at h
  ·rename_i hroot
   simp only[Option.some.injEq,Prod.mk.injEq] at h
   obtain⟨rfl,rfl⟩:=h
   obtain⟨rfl,rfl⟩:=hvc
   cases hx with
   | eptr hlt hg hrel ho=>
    obtain⟨b,rest,hb,rfl⟩:=hrel _ _ hroot
    exact⟨.eptr hlt hg hrel ho,_,rfl⟩
  ·simp at h
 ·simp at h
def qcM:D→D→Bool
 | .int _ a,.int _ b=>decide (a=b)
 | .agg as,.agg bs=>qbF as bs
 | _,_=>false
def qb8 (T:Nat→Option TI):Ty→Prop
 | .int _=>True
 | .struct fs=>qdh T 0 fs
 | .array _ e=>qev (T e)=true
 | _=>False
def qaS:Ty→D→Prop
 | .int k,x=>x.isInt k
 | .struct fs,.agg cs=>cs.length=fs.length∧intCells cs
 | .array n _,.agg cs=>cs.length=n∧intCells cs
 | _,_=>False
def qaJ (ty:Ty):List (D×D)→Prop
 | []=>True
 | x::r=>qaS ty x.1∧qaJ ty r
def qdp:List (D×D)→D→Nat→Option (Nat×D)
 | [],_,_=>none
 | x::r,k,i=>if qcM k x.1=true then some (i,x.2) else qdp r k (i+1)
def qbg:List (D×D)→D→Option D
 | [],_=>none
 | x::r,k=>if qcM k x.1=true then some x.2 else qbg r k
def updD:List (D×D)→D→D→List (D×D)
 | [],k,v=>[(k,v)]
 | x::r,k,v=>if qcM k x.1=true then(k,v)::r else x::updD r k v
theorem qdq {ty:Ty} : ∀ {es:List (D×D)},qaJ ty es↔∀ e∈es,qaS ty e.1
 | []=>by simp[qaJ]
 | x::r=>by simp[qaJ,qdq (es:=r)]
theorem qi6 (k:D) : ∀ (es:List (D×D)) (i:Nat),(qdp es k i).map (·.2)=qbg es k
 | [],_=>rfl
 | x::r,i=>by
  simp only[qdp,qbg]
  split
  ·rfl
  ·exact qi6 k r (i+1)
theorem qf6 (hT:TOK P T) {t:Nat}(h:qev (T t)=true) : ∃ ti,TIOK P t ti∧ti.ty=.int .i64:=by
 cases e:T t with
 | none=>rw[e] at h;simp[qev] at h
 | some ti=>
  rw[e] at h
  refine⟨ti,hT _ _ e,?_⟩
  obtain⟨ty,a,b,c⟩:=ti
  cases ty with
  | int k=>cases k <;> first|rfl|simp[qev] at h
  | _=>simp[qev] at h
theorem qeP {e:Nat}{ti:TI}(ht:TIOK P e ti) (hty:ti.ty=.int .i64) (hsz:ti.size=1) {t n:Nat}(hu:P.underlying t=some (.array n e)) {vs us:Array Value}{cs ds:List D}(hv:cs.length=vs.size) (hud:ds.length=us.size)
  (hn:cs.length=n) (hn2:ds.length=n) (fv : ∀ S w,∀ j,j<cs.length→FZ S w (cs.getD j .nil) (vs.getD j undef)) (fu : ∀ S w,∀ j,j<ds.length→FZ S w (ds.getD j .nil) (us.getD j undef))
  (ic:intCells cs) (id:intCells ds) (w2:World) (d:Nat):(Op.equalIn (d+2) t (.agg vs) (.agg us)).run P w2=.ok (qbF cs ds) w2:=by
 have hag:ti.ty.agg=false:=by rw[hty];rfl
 have main : ∀ (m j:Nat),j+m=n→
   (forIn (List.range' j m) ((none,()):Option Bool×Unit) (fun i r=>(do
    let a←part e vs (i*1)
    let b←part e us (i*1)
    let q←Op.equalIn (d+1) e a b
    if(!q)=true then pure (ForInStep.done (some false,())) else pure (ForInStep.yield (none,())):Sem (ForInStep (Option Bool×Unit))))).run P w2 =
   .ok (if qbF (cs.drop j) (ds.drop j)=true then(none,()) else(some false,())) w2:=by
  intro m
  induction m with
  | zero=>
   intro j hj
   rw[List.drop_eq_nil_of_le (by omega),List.drop_eq_nil_of_le (by omega)]
   simp[qbF]
  | succ m ih=>
   intro j hj
   have e1:cs.drop j=cs.getD j .nil::cs.drop (j+1):=by
    rw[List.drop_eq_getElem_cons (by omega),List.getD_eq_getElem?_getD,List.getElem?_eq_getElem (by omega)];rfl
   have e2:ds.drop j=ds.getD j .nil::ds.drop (j+1):=by
    rw[List.drop_eq_getElem_cons (by omega),List.getD_eq_getElem?_getD,List.getElem?_eq_getElem (by omega)];rfl
   obtain⟨_,ev,kx⟩:=(fv (fun _=>True) w2 j (by omega)).int_inv (qaz ic j (by omega))
   obtain⟨_,eu,ky⟩:=(fu (fun _=>True) w2 j (by omega)).int_inv (qaz id j (by omega))
   have ih:=ih (j+1) (by omega)
   rw[e1,e2]
   simp only[List.range'_succ,List.forIn_cons,Nat.mul_one,Sem.run_bind,qay ht hag (show j<vs.size by omega),qay ht hag (show j<us.size by omega),Result.andThen_ok,ev,eu,run_equalIn_int w2 d e .i64 .i64 _ _ (ht.und_int hty)]
   simp only[qbF]
   by_cases hq:(cs.getD j .nil).toInt=(ds.getD j .nil).toInt
   ·simp only[hq,beq_self_eq_true,Bool.not_true,Bool.false_eq_true,if_false,decide_true,Bool.true_and,Sem.run_pure,Result.andThen_ok]
    simpa only[Nat.mul_one] using ih
   ·simp only[beq_eq_false_iff_ne.2 hq,Bool.not_false,if_true,Sem.run_pure,decide_eq_false hq,Bool.false_and,Result.andThen_ok,Bool.false_eq_true,if_false]
 have:=main n 0 (by omega)
 simp only[List.drop_zero] at this
 rw[Op.equalIn]
 simp only[Sem.run_bind,run_underlying hu,Result.andThen_ok,ht.run_sizeOf,hsz]
 simp only[Std.Legacy.Range.forIn_eq_forIn_range',Std.Legacy.Range.size,Nat.sub_zero,Nat.add_one_sub_one,Nat.div_one]
 rw[this]
 cases qbF cs ds <;> simp[Result.andThen]
theorem TIOK.size_one {t:Nat}{ti:TI}(ht:TIOK P t ti) (h:ti.ty.agg=false):ti.size=1:=by
 have h1:=ht.size
 have h2:=ht.agg
 rw[h] at h2
 revert h1 h2
 cases ti.zero <;> simp[D.cells] <;> omega
theorem key_eq (hT:TOK P T) {kt:Nat}{ti:TI}(ht:TIOK P kt ti) (hk:qb8 T ti.ty) {x y:D}{v u:Value}(hx:qaS ti.ty x) (hy:qaS ti.ty y) (fx : ∀ S w,FZ S w x v) (fy : ∀ S w,FZ S w y u) (w2:World) :
  (Op.equal kt v u).run P w2=.ok (qcM x y) w2:=by
 obtain⟨ty,sz,by',z⟩:=ti
 simp only at hk hx hy
 have g1:=fx (fun _=>True) w2
 have g2:=fy (fun _=>True) w2
 cases ty with
 | int k=>
  simp only[qaS] at hx hy
  obtain⟨e1,rfl,_⟩:=g1.int_inv hx
  obtain⟨e2,rfl,_⟩:=g2.int_inv hy
  rw[e1,e2]
  have:=run_equalIn_int (P:=P) w2 9999 kt k k x.toInt y.toInt (ht.und_int rfl)
  simp only[Op.equal,Op.maxDepth,this,qcM,D.toInt]
  congr 1
 | struct fs=>
  simp only[qb8] at hk
  obtain⟨fields,hu,hfs⟩:=ht.und_struct rfl
  have hq:=ht.eqs
  cases x <;> simp only[qaS] at hx
  cases y <;> simp only[qaS] at hy
  rename_i cs ds
  cases v with
  | agg vs=>
   cases u with
   | agg us=>
    have c1:cs.length=vs.size∧∀ S w,∀ j,j<cs.length→FZ S w (cs.getD j .nil) (vs.getD j undef):=
     ⟨by cases g1;assumption,fun S w=>by have:=fx S w;cases this;assumption⟩
    have c2:ds.length=us.size∧∀ S w,∀ j,j<ds.length→FZ S w (ds.getD j .nil) (us.getD j undef):=
     ⟨by cases g2;assumption,fun S w=>by have:=fy S w;cases this;assumption⟩
    subst hfs
    obtain⟨r1,r2⟩:=qeN hT hk
    simp only[qi4,hu,r1,Bool.not_true,Bool.false_or,Bool.and_eq_true,Bool.not_eq_true',List.all_eq_true,decide_eq_true_eq] at hq
    obtain⟨s1,s2,s3⟩:=hq
    have hfo:P.fieldsOf kt=fields:=by simp only[Program.fieldsOf,hu]
    have l1:=hx.1
    have l2:=hy.1
    simp only[List.length_map] at l1 l2
    simp only[Op.equal,Op.maxDepth]
    rw[run_equalIn_agg w2 9999 kt vs us (by rw[hfo];exact hu) s1,hfo]
    have:=qdN (P:=P) (S:=fun _=>True) (w:=w2) c1.1 c2.1 (c1.2 _ _) (c2.2 _ _) hx.2 hy.2 9998 w2 fields.toList 0 r1 s3 r2 (by omega) (by omega)
    simpa [qcM] using this
   | _=>cases g2
  | _=>cases g1
 | array n e=>
  simp only[qb8] at hk
  obtain⟨ei,he,hei⟩:=qf6 hT hk
  have hu:=ht.und_array (n:=n) (e:=e) rfl
  cases x <;> simp only[qaS] at hx
  cases y <;> simp only[qaS] at hy
  rename_i cs ds
  cases v with
  | agg vs=>
   cases u with
   | agg us=>
    have c1:cs.length=vs.size∧∀ S w,∀ j,j<cs.length→FZ S w (cs.getD j .nil) (vs.getD j undef):=
     ⟨by cases g1;assumption,fun S w=>by have:=fx S w;cases this;assumption⟩
    have c2:ds.length=us.size∧∀ S w,∀ j,j<ds.length→FZ S w (ds.getD j .nil) (us.getD j undef):=
     ⟨by cases g2;assumption,fun S w=>by have:=fy S w;cases this;assumption⟩
    exact qeP he hei (he.size_one (by rw[hei];rfl)) hu c1.1 c2.1 hx.1 hy.1 c1.2 c2.2 hx.2 hy.2 w2 9998
   | _=>cases g2
  | _=>cases g1
 | _=>simp only[qb8] at hk
theorem qcB (hT:TOK P T) {kt:Nat}{ti:TI}(ht:TIOK P kt ti) (hk:qb8 T ti.ty) {x:D}{v:Value}(hx:qaS ti.ty x) (fx : ∀ S w,FZ S w x v) (em:Bool) (w2:World):(Instr.checkKey em 10000 kt v).run P w2=.ok () w2:=by
 obtain⟨ty,sz,by',z⟩:=ti
 simp only at hk hx
 have g1:=fx (fun _=>True) w2
 have one : ∀ (t:Nat) (n:Int) (hu:P.underlying t=some (.int .i64)),(Instr.checkKey em 9999 t (.int .i64 n)).run P w2=.ok () w2:=by
  intro t n hu
  rw[Instr.checkKey]
  simp[run_underlying hu,Result.andThen]
 cases ty with
 | int k=>
  simp only[qaS] at hx
  obtain⟨e1,rfl,_⟩:=g1.int_inv hx
  rw[Instr.checkKey]
  simp[run_underlying (ht.und_int rfl),Result.andThen]
 | struct fs=>
  simp only[qb8] at hk
  obtain⟨fields,hu,hfs⟩:=ht.und_struct rfl
  cases x <;> simp only[qaS] at hx
  rename_i cs
  cases v with
  | agg vs=>
   have c1:cs.length=vs.size∧∀ j,j<cs.length→FZ (fun _=>True) w2 (cs.getD j .nil) (vs.getD j undef):=by cases g1;exact⟨by assumption,by assumption⟩
   subst hfs
   rw[Instr.checkKey]
   simp only[Sem.run_bind,run_underlying hu,Result.andThen_ok]
   rw[←Array.forIn_toList]
   have hlen:=hx.1
   simp only[List.length_map] at hlen
   have main : ∀ (l:List Field) (j:Nat),qdh T j (l.map fun f=>(f.offset,f.type))→j+l.length=cs.length→
     (forIn l PUnit.unit fun f (_:PUnit)=>(do
                            if f.name ≠ "_" then Instr.checkKey em 9999 f.type (← part f.type vs f.offset) else pure PUnit.unit
                            pure (ForInStep.yield PUnit.unit):Sem (ForInStep PUnit))).run P w2=.ok PUnit.unit w2:=by
    intro l
    induction l with
    | nil=>intro j _ _;simp
    | cons f r ih=>
     intro j ha hj
     simp only[List.map_cons,qdh] at ha
     simp only[List.length_cons] at hj
     obtain⟨ho,h2,h3⟩:=ha
     obtain⟨fi,hf,hfi⟩:=qf6 hT h2
     subst ho
     obtain⟨_,ev,_⟩:=(c1.2 f.offset (by omega)).int_inv (qaz hx.2 _ (by omega))
     have ih:=ih _ h3 (by omega)
     have hp:=qay hf (by rw[hfi];rfl) (show f.offset<vs.size by omega) w2
     rw[ev] at hp
     simp only[List.forIn_cons,Sem.run_bind]
     by_cases hn : f.name = "_"
     ·simp only[hn,ne_eq,not_true_eq_false,if_false,Sem.run_pure,Result.andThen_ok]
      exact ih
     ·simp only[hn,ne_eq,not_false_eq_true,if_true,Sem.run_bind,hp,Result.andThen_ok,one f.type _ (hf.und_int hfi),Sem.run_pure]
      exact ih
   have:=main fields.toList 0 hk (by omega)
   simp[Result.andThen] at this ⊢
   rw[this]
  | _=>cases g1
 | array n e=>
  simp only[qb8] at hk
  obtain⟨ei,he,hei⟩:=qf6 hT hk
  have hu:=ht.und_array (n:=n) (e:=e) rfl
  cases x <;> simp only[qaS] at hx
  rename_i cs
  cases v with
  | agg vs=>
   have c1:cs.length=vs.size∧∀ j,j<cs.length→FZ (fun _=>True) w2 (cs.getD j .nil) (vs.getD j undef):=by cases g1;exact⟨by assumption,by assumption⟩
   rw[Instr.checkKey]
   simp only[Sem.run_bind,run_underlying hu,Result.andThen_ok]
   simp only[Std.Legacy.Range.forIn_eq_forIn_range',Std.Legacy.Range.size,Nat.sub_zero,Nat.add_one_sub_one,Nat.div_one]
   have hag:ei.ty.agg=false:=by rw[hei];rfl
   have main : ∀ (m j:Nat),j+m=n→
     (forIn (List.range' j m) PUnit.unit fun i (_:PUnit)=>(do
                                    Instr.checkKey em 9999 e (←part e vs (i*(←sizeOf e)))
                                    pure (ForInStep.yield PUnit.unit):Sem (ForInStep PUnit))).run P w2=.ok PUnit.unit w2:=by
    intro m
    induction m with
    | zero=>intro j _;simp
    | succ m ih=>
     intro j hj
     have hl:=hx.1
     obtain⟨_,ev,_⟩:=(c1.2 j (by omega)).int_inv (qaz hx.2 _ (by omega))
     have hp:=qay he hag (show j<vs.size by omega) w2
     rw[ev] at hp
     simp only[List.range'_succ,List.forIn_cons,Sem.run_bind,he.run_sizeOf,he.size_one hag,Nat.mul_one,hp,Result.andThen_ok,one e _ (he.und_int hei),Sem.run_pure]
     simpa only[Sem.run_bind,he.run_sizeOf,he.size_one hag,Nat.mul_one] using ih (j+1) (by omega)
   have:=main n 0 (by omega)
   simp[Result.andThen] at this ⊢
   rw[this]
  | _=>cases g1
 | _=>simp only[qb8] at hk
theorem qcN (hT:TOK P T) {kt:Nat}{ti:TI}(ht:TIOK P kt ti) (hk:qb8 T ti.ty) {x:D}{v:Value}(hx:qaS ti.ty x) (fx : ∀ S w,FZ S w x v) {es:List (D×D)}{l:List MapEntry}(hr:qeG es l) (ha:qaJ ti.ty es) :
  ∃ r,(∀ w2,(Instr.findKey kt v l).run P w2=.ok r w2)∧match qdp es x 0 with|none=>r=none|some (i,d)=>∃ u,r=some (i,u)∧∀ S w,FZ S w d u:=by
 have ask : ∀ (es:List (D×D)) (l:List MapEntry) (i:Nat),qeG es l→qaJ ti.ty es→
   ∃ r,(∀ w2,(Instr.findAsking kt v l i).run P w2=.ok r w2)∧match qdp es x i with|none=>r=none|some (i,d)=>∃ u,r=some (i,u)∧∀ S w,FZ S w d u:=by
  intro es
  induction es with
  | nil=>
   intro l i hr _
   cases l with
   | nil=>exact⟨none,fun w2=>by simp[Instr.findAsking],rfl⟩
   | cons e l=>exact hr.elim
  | cons y es ih=>
   intro l i hr ha
   cases l with
   | nil=>exact hr.elim
   | cons e l=>
    obtain⟨⟨h1,h2⟩,hr⟩:=hr
    have hq:=key_eq hT ht hk hx ha.1 fx h1
    obtain⟨r,i1,i2⟩:=ih l (i+1) hr ha.2
    simp only[Instr.findAsking,Sem.run_bind,hq,Result.andThen_ok,qdp]
    by_cases hb:qcM x y.1=true
    ·simp only[hb,if_true]
     exact⟨_,fun w2=>by simp,_,rfl,h2⟩
    ·simp only[hb,if_false,Bool.false_eq_true]
     exact⟨r,i1,i2⟩
 have hi:(∃ k,ti.ty=.int k)∨∃ d,P.underlying kt=some d∧∀ w u,Instr.sameNow d w u=none:=by
  obtain⟨ty,sz,by',z⟩:=ti
  cases ty with
  | int k=>exact .inl ⟨k,rfl⟩
  | struct fs=>
   obtain⟨fields,hu,_⟩:=ht.und_struct rfl
   exact .inr ⟨_,hu,fun _ _=>rfl⟩
  | array n e=>exact .inr ⟨_,ht.und_array rfl,fun _ _=>rfl⟩
  | _=>simp only[qb8] at hk
 rcases hi with⟨k,hk'⟩|⟨d,hu,hd⟩
 ·have hu:=ht.und_int hk'
  rw[hk'] at hx
  have now : ∀ (es:List (D×D)) (l:List MapEntry) (i:Nat),qeG es l→qaJ ti.ty es→
    ∃ r,Instr.findNow (.int k) v l i=some r∧match qdp es x i with|none=>r=none|some (i,d)=>∃ u,r=some (i,u)∧∀ S w,FZ S w d u:=by
   intro es
   induction es with
   | nil=>
    intro l i hr _
    cases l with
    | nil=>exact⟨none,rfl,rfl⟩
    | cons e l=>exact hr.elim
   | cons y es ih=>
    intro l i hr ha
    cases l with
    | nil=>exact hr.elim
    | cons e l=>
     obtain⟨⟨h1,h2⟩,hr⟩:=hr
     have hy:=ha.1
     rw[hk'] at hy
     simp only[qaS] at hx hy
     obtain⟨e1,hv,_⟩:=(fx (fun _=>True) default).int_inv hx
     obtain⟨e2,hu2,_⟩:=(h1 (fun _=>True) default).int_inv hy
     obtain⟨r,i1,i2⟩:=ih l (i+1) hr ha.2
     have hs:Instr.sameNow (.int k) v e.key=some (qcM x y.1):=by
      rw[hv,hu2,e1,e2]
      simp only[Instr.sameNow,if_true,qcM,D.toInt]
      congr 1
     simp only[Instr.findNow,hs,qdp]
     by_cases hb:qcM x y.1=true
     ·simp only[hb,if_true]
      exact⟨_,rfl,_,rfl,h2⟩
     ·simp only[Bool.not_eq_true] at hb
      simp only[hb,if_false,Bool.false_eq_true]
      exact⟨r,i1,i2⟩
  obtain⟨r,r1,r2⟩:=now es l 0 hr ha
  exact⟨r,fun w2=>by simp[Instr.findKey,run_underlying hu,Result.andThen,r1],r2⟩
 ·obtain⟨r,r1,r2⟩:=ask es l 0 hr ha
  refine⟨r,fun w2=>?_,r2⟩
  have r1:=r1 w2
  cases l with
  | nil=>
   simp only[Instr.findAsking,Sem.run_pure] at r1
   simpa [Instr.findKey,run_underlying hu,Result.andThen,Instr.findNow] using r1
  | cons e l=>simpa [Instr.findKey,run_underlying hu,Result.andThen,Instr.findNow,hd] using r1
theorem qi7 {ty:Ty}{x:D}{v:Value}(hx:qaS ty x) (h:FZ S w x v) : ∀ S' w',FZ S' w' x v:=by
 intro S' w'
 cases ty with
 | int k=>
  simp only[qaS] at hx
  obtain⟨e1,rfl,hk⟩:=h.int_inv hx
  rw[e1];exact .int hk
 | struct fs=>
  cases x <;> simp only[qaS] at hx
  cases h with
  | agg hl h1 hf=>
   refine .agg hl h1 fun j hj=>?_
   have ic:=qaz hx.2 j hj
   obtain⟨e1,e2,hk⟩:=(hf j hj).int_inv ic
   rw[e1,e2];exact .int hk
 | array n e=>
  cases x <;> simp only[qaS] at hx
  cases h with
  | agg hl h1 hf=>
   refine .agg hl h1 fun j hj=>?_
   have ic:=qaz hx.2 j hj
   obtain⟨e1,e2,hk⟩:=(hf j hj).int_inv ic
   rw[e1,e2];exact .int hk
 | _=>simp only[qaS] at hx
def qcO (T:Nat→Option TI) (H:List R) (t:Nat) (m k:I) (ok:Bool):Option (Prop×I):=
 match T t,m,k with
 | some ⟨.map kt et,_,_,_⟩,.map i,.d kd=>
  match H[i]?,T kt,T et with
  | some (.map es),some kti,some eti=>some (qb8 T kti.ty∧qaS kti.ty kd∧qaJ kti.ty es,
    if ok=true then .d (.tup [(qbg es kd).getD eti.zero,.bool (qbg es kd).isSome]) else .d ((qbg es kd).getD eti.zero))
  | _,_,_=>none
 | _,_,_=>none
theorem TIOK.und_map {t:Nat}{ti:TI}(ht:TIOK P t ti) {k e:Nat}(hy:ti.ty=.map k e):P.underlying t=some (.map k e):=by
 obtain⟨i,d,_,_,_,_,hu,hd⟩:=ht.ex
 rw[hy] at hd
 cases d <;> simp only[tyOf,Ty.map.injEq,reduceCtorEq] at hd
 obtain⟨rfl,rfl⟩:=hd
 exact hu
theorem tup2 {x y:D}{v u:Value}(h1:FZ S w x v) (h2:FZ S w y u):FZ S w (.tup [x,y]) (.tuple #[v,u]):=by
 refine .tup rfl fun j hj=>?_
 match j,hj with
 | 0,_=>exact h1
 | 1,_=>exact h2
theorem qf7 (hT:TOK P T) (s:Sim S φ H w) {t:Nat}{m k:I}{vm vk:Value}(hm:V S φ H w m vm) (hk:V S φ H w k vk) {ok:Bool}{vc:Prop}{y:I}(h:qcO T H t m k ok=some (vc,y)) (hvc:vc) :
  ∃ v,V S φ H w y v∧∀ w2,Agree w w2→(Instr.lookup t vm vk ok).run P w2=.ok v w2:=by
 unfold qcO at h
 split at h
 ·rename_i kt et a1 a2 a3 i kd hti
  split at h
  ·rename_i es kti eti hi hkt het
   simp only[Option.some.injEq,Prod.mk.injEq] at h
   obtain⟨rfl,rfl⟩:=h
   obtain⟨q1,q2,q3⟩:=hvc
   have hu:=(hT _ _ hti).und_map rfl
   have hkk:=hT _ _ hkt
   have hee:=hT _ _ het
   cases hm with
   | map hlt hrel h1=>
    obtain⟨b,hfp,rfl⟩:=hrel es hi
    obtain⟨b',ents,clock,hfp',hb,hr⟩:=s.rel i _ hi
    rw[hfp] at hfp'
    simp only[List.cons.injEq,and_true] at hfp'
    subst hfp'
    have hlt:=s.lt b ⟨i,by rw[hfp];simp⟩
    have fk:=qi7 q2 hk.fz
    obtain⟨r,r1,r2⟩:=qcN hT hkk q1 q2 fk hr q3
    have hD:=qi6 kd es 0
    have zero : ∀ S w,FZ S w eti.zero (qac eti.zero):=fun S w=>qd1 hee.const
    have hc:=fun w2=>qcB hT hkk q1 q2 fk ents.isEmpty w2
    cases hfi:qdp es kd 0 with
    | none=>
     rw[hfi] at hD r2
     simp only[Option.map_none] at hD
     subst r2
     rw[←hD]
     have hrun : ∀ w2,Agree w w2→(Instr.lookup t (.map (some b)) vk ok).run P w2=.ok (if ok=true then .tuple #[qac eti.zero,.bool false] else qac eti.zero) w2:=by
      intro w2 ha
      have hb2:w2.heap[b]?=some (.map ents clock):=(ha b hlt).trans hb
      simp only[Instr.lookup,Sem.run_bind,run_underlying hu,Result.andThen_ok,MapKept.run_getObj_map hb2,hc,r1,hee.run_zero,Sem.run_pure]
     cases ok with
     | false=>
      simp only[Bool.false_eq_true,if_false,Option.getD_none] at hrun ⊢
      exact⟨_,.d (zero S w),hrun⟩
     | true=>
      simp only[if_true,Option.getD_none,Option.isSome_none] at hrun ⊢
      exact⟨_,.d (tup2 (zero S w) .bool),hrun⟩
    | some p=>
     obtain⟨j,d⟩:=p
     rw[hfi] at hD r2
     simp only[Option.map_some] at hD
     obtain⟨u,rfl,hu2⟩:=r2
     rw[←hD]
     have hrun : ∀ w2,Agree w w2→(Instr.lookup t (.map (some b)) vk ok).run P w2=.ok (if ok=true then .tuple #[u,.bool true] else u) w2:=by
      intro w2 ha
      have hb2:w2.heap[b]?=some (.map ents clock):=(ha b hlt).trans hb
      simp only[Instr.lookup,Sem.run_bind,run_underlying hu,Result.andThen_ok,MapKept.run_getObj_map hb2,hc,r1,Sem.run_pure]
     cases ok with
     | false=>
      simp only[Bool.false_eq_true,if_false,Option.getD_some] at hrun ⊢
      exact⟨_,.d (hu2 S w),hrun⟩
     | true=>
      simp only[if_true,Option.getD_some,Option.isSome_some] at hrun ⊢
      exact⟨_,.d (tup2 (hu2 S w) .bool),hrun⟩
  ·simp at h
 ·simp at h
end Go.VL
namespace Go.VL
variable {P:Program}{S:Nat→Prop}{φ : List (List Nat)}{H:List R}{w:World}{T:Nat→Option TI}{fr:Fr}{a:Act}
def andC (c:Prop):Option (Prop×I)→Option (Prop×I)
 | some (vc,x)=>some (c∧vc,x)
 | none=>none
def optE (fr:Fr):Option Operand→Option I
 | some o=>some (evx fr o)
 | none=>none
def qd4 (fr:Fr):Option Operand→Prop
 | some o=>evc fr o
 | none=>True
def evs (fr:Fr):List Operand→List I
 | []=>[]
 | o::r=>evx fr o::evs fr r
def evcs (fr:Fr):List Operand→Prop
 | []=>True
 | o::r=>evc fr o∧evcs fr r
def mkFn (f:Nat) (caps:List I):I:=
 match allD caps with
 | some ds=>.d (.fn f ds)
 | none=>.fn f caps
def qgE (T:Nat→Option TI) (fr:Fr) (H:List R) (b:Builtin) (args:List Operand) (tys:List TypeId):Option (Prop×I):=
 match b,args,tys with
 | .len,[x],[t]=>andC (evc fr x) (sLen T H t (evx fr x))
 | .cap,[x],[t]=>andC (evc fr x) (sCap T t (evx fr x))
 | .min,[x,y],_=>andC (evc fr x∧evc fr y) (sMM .min (evx fr x) (evx fr y))
 | .max,[x,y],_=>andC (evc fr x∧evc fr y) (sMM .max (evx fr x) (evx fr y))
 | _,_,_=>none
def sopP (T:Nat→Option TI) (fr:Fr) (H:List R):Op→Option (Prop×I)
 | .move x=>some (evc fr x,evx fr x)
 | .assign x=>some (evc fr x,evx fr x)
 | .pick c x y=>andC (evc fr c) (qhi (evx fr c) (evx fr x) (evx fr y) (evc fr x) (evc fr y))
 | .build t parts=>andC (qaL fr parts.toList) (qdO T t (qaG fr parts.toList))
 | .load t p=>andC (evc fr p) (qdl T H t (evx fr p))
 | .nilCheck x=>andC (evc fr x) (sNil H (evx fr x))
 | .binOp op t x y _=>andC (evc fr x∧evc fr y) (sBin T H op t (evx fr x) (evx fr y))
 | .unOp op _ x=>andC (evc fr x) (sUn op (evx fr x))
 | .convert s d x=>andC (evc fr x) (qf5 T s d (evx fr x))
 | .makeFunc (.func f) first caps=>
  match first.toList with
  | []=>some (evcs fr caps.toList,mkFn f (evs fr caps.toList))
  | _=>none
 | .slice t x lo hi mx=>andC (evc fr x∧qd4 fr lo∧qd4 fr hi) (qdL T H t (evx fr x) (optE fr lo) (optE fr hi) (optE fr mx))
 | .fieldAddr s x f=>andC (evc fr x) (qa8 T H s (evx fr x) f)
 | .field s x f=>andC (evc fr x) (qdJ T s (evx fr x) f)
 | .indexAddr t x ix=>andC (evc fr x∧evc fr ix) (qa9 T H t (evx fr x) (evx fr ix))
 | .index t x ix=>andC (evc fr x∧evc fr ix) (qdK T t (evx fr x) (evx fr ix))
 | .extract x j=>andC (evc fr x) (qbG (evx fr x) j)
 | .lookup t x ix ok=>andC (evc fr x∧evc fr ix) (qcO T H t (evx fr x) (evx fr ix) ok)
 | .call { callee:=.builtin b,args,argTypes }=>qgE T fr H b args.toList argTypes.toList
 | _=>none
theorem qaI {c:Prop}{o:Option (Prop×I)}{vc:Prop}{x:I}(h:andC c o=some (vc,x)) (hvc:vc):c∧∃ vc',o=some (vc',x)∧vc':=by
 cases o with
 | none=>simp[andC] at h
 | some p=>
  obtain⟨vc',x'⟩:=p
  simp only[andC,Option.some.injEq,Prod.mk.injEq] at h
  obtain⟨rfl,rfl⟩:=h
  exact⟨hvc.1,vc',rfl,hvc.2⟩
theorem FrR.evx (h:FrR S φ H w fr a) (o:Operand) (hc:evc fr o):V S φ H w (evx fr o) (a.eval o):=by
 have hv:=h.ev o
 unfold VL.evx
 unfold evc at hc
 generalize VL.ev fr o=y at *
 cases y with
 | cond e x=>
  cases hv with
  | cond hv _=>exact hv hc
 | _=>exact hv
theorem qcP (h:FrR S φ H w fr a) : ∀ (l:List Operand),evcs fr l→(evs fr l).length=l.length∧∀ j,j<l.length→V S φ H w ((evs fr l).getD j .junk) ((l.map a.eval).toArray.getD j undef)
 | [],_=>⟨rfl,fun j hj=>by simp at hj⟩
 | o::r,hc=>by
  obtain⟨h1,h2⟩:=qcP h r hc.2
  refine⟨by simp[evs,h1],fun j hj=>?_⟩
  cases j with
  | zero=>simpa [evs,List.getD,Array.getD] using h.evx o hc.1
  | succ j=>
   have:=h2 j (by simpa using hj)
   simpa [evs,List.getD,Array.getD_eq_getD_getElem?] using this
theorem V.mkFn {f:Nat}{cs:List I}{vs:Array Value}(hl:cs.length=vs.size) (h : ∀ j,j<cs.length→V S φ H w (cs.getD j .junk) (vs.getD j undef)):V S φ H w (mkFn f cs) (.func (.func f) #[] vs):=by
 unfold VL.mkFn
 split
 ·rename_i ds hds
  obtain⟨hl',hd⟩:=qeJ hds
  refine .d (.fn (by omega) fun j hj=>?_)
  have:=h j (by omega)
  rw[hd j (by omega)] at this
  exact this.fz
 ·exact .fn hl h
theorem qcq (h:FrR S φ H w fr a) : ∀ (l:List (Nat×Operand)),qaL fr l→(qaG fr l).length=(l.map fun(i,x)=>(i,a.eval x)).length∧
  ∀ (j i:Nat) (x:I),(qaG fr l)[j]?=some (i,x)→∃ v:Value,(l.map fun(i,x)=>(i,a.eval x))[j]?=some (i,v)∧V S φ H w x v
 | [],_=>⟨rfl,fun j i x hj=>by simp[qaG] at hj⟩
 | (i0,o)::r,hc=>by
  obtain⟨h1,h2⟩:=qcq h r hc.2
  refine⟨by simp[qaG,h1],fun j i x hj=>?_⟩
  cases j with
  | zero=>
   simp only[qaG,List.getElem?_cons_zero,Option.some.injEq,Prod.mk.injEq] at hj
   obtain⟨rfl,rfl⟩:=hj
   exact⟨_,rfl,h.evx o hc.1⟩
  | succ j=>
   simp only[qaG,List.getElem?_cons_succ] at hj
   obtain⟨v,hv,hx⟩:=h2 j i x hj
   exact⟨v,by simpa using hv,hx⟩
theorem qfE (h:FrR S φ H w fr a) {o:Option Operand}(hc:qd4 fr o):(∀ x,optE fr o=some x→∃ v,o.map a.eval=some v∧V S φ H w x v)∧(optE fr o=none→o.map a.eval=none):=by
 cases o with
 | none=>exact⟨fun x hx=>by simp[optE] at hx,fun _=>rfl⟩
 | some o=>exact⟨fun x hx=>by simp only[optE,Option.some.injEq] at hx;subst hx;exact⟨_,rfl,h.evx o hc⟩,fun hx=>by simp[optE] at hx⟩
theorem arr1 {α : Type}{xs:Array α}{x : α}(h:xs.toList=[x]):xs = #[x]:=by rw[←Array.toArray_toList (xs:=xs),h]
theorem arr2 {α : Type}{xs:Array α}{x y : α}(h:xs.toList=[x,y]):xs = #[x,y]:=by rw[←Array.toArray_toList (xs:=xs),h]
def qa5:Op→Bool
 | .load _ _=>true
 | .lookup _ _ _ _=>true
 | _=>false
def strO (T:Nat→Option TI):Op→Bool
 | .convert _ d _=>strT (T d)
 | _=>false
set_option maxHeartbeats 1000000 in
theorem qbi (hT:TOK P T) (s:Sim S φ H w) (hf:FrR S φ H w fr a) {o:Oper}{vc:Prop}{x:I}(h:sopP T fr H o.op=some (vc,x)) (hvc:vc) :
  ∃ v,V S φ H w x v∧∀ w2,(qa5 o.op=true∨strO T o.op=true→Agree w w2)→(execOp a.eval o).run P w2=.ok (.value v) w2:=by
 obtain⟨dst,op,ty,pos,after,guard⟩:=o
 simp only at h
 cases op with
 | move y=>
  simp only[sopP,Option.some.injEq,Prod.mk.injEq] at h
  obtain⟨rfl,rfl⟩:=h
  exact⟨_,hf.evx y hvc,fun w2 _=>by simp[execOp]⟩
 | assign y=>
  simp only[sopP,Option.some.injEq,Prod.mk.injEq] at h
  obtain⟨rfl,rfl⟩:=h
  exact⟨_,hf.evx y hvc,fun w2 _=>by simp[execOp]⟩
 | pick c y z=>
  obtain⟨hc,vc',h,hvc⟩:=qaI h hvc
  unfold qhi at h
  split at h
  ·rename_i xc xa xb ec ea eb
   simp only[Option.some.injEq,Prod.mk.injEq] at h
   obtain⟨rfl,rfl⟩:=h
   have hcv:=hf.evx c hc
   rw[ec] at hcv
   obtain⟨_,hcv⟩:=hcv.fz.bool_inv hvc.1
   cases hb:xc.toBool with
   | true=>
    rw[hb] at hcv
    have hav:=hf.evx y (hvc.2.1 hb).1
    rw[ea] at hav
    obtain⟨_,hav⟩:=hav.fz.bool_inv (hvc.2.1 hb).2
    exact⟨.bool xa.toBool,.d (by simp only[if_true];exact .bool),fun w2 _=>by simp[execOp,hcv,asBool,hav]⟩
   | false=>
    rw[hb] at hcv
    have hav:=hf.evx z (hvc.2.2 hb).1
    rw[eb] at hav
    obtain⟨_,hav⟩:=hav.fz.bool_inv (hvc.2.2 hb).2
    exact⟨.bool xb.toBool,.d (by simp only[Bool.false_eq_true,if_false];exact .bool),fun w2 _=>by simp[execOp,hcv,asBool,hav]⟩
  ·simp at h
 | build t parts=>
  obtain⟨hc,vc',h,hvc⟩:=qaI h hvc
  obtain⟨h1,h2⟩:=qcq hf parts.toList hc
  obtain⟨v,hv,hr⟩:=qgB hT h1 h2 h hvc
  refine⟨v,hv,fun w2 hw2=>?_⟩
  have e:(parts.map fun(i,x)=>(i,a.eval x))=(parts.toList.map fun(i,x)=>(i,a.eval x)).toArray:=by
   rw[←Array.toList_map,Array.toArray_toList]
  have:=hr w2
  rw[←e] at this
  simp[execOp,this]
 | load t p=>
  obtain⟨hc,vc',h,hvc⟩:=qaI h hvc
  obtain⟨v,hv,hr⟩:=qeL hT s (hf.evx p hc) h hvc
  exact⟨v,hv,fun w2 hw2=>by simp[execOp,hr w2 (hw2 (.inl rfl))]⟩
 | nilCheck y=>
  obtain⟨hc,vc',h,hvc⟩:=qaI h hvc
  obtain⟨hv,ad,hr⟩:=qim (hf.evx y hc) h hvc
  exact⟨_,hv,fun w2 hw2=>by simp[execOp,hr]⟩
 | binOp op t y z yt=>
  obtain⟨hc,vc',h,hvc⟩:=qaI h hvc
  obtain⟨v,hv,hr⟩:=qij hT (xo:=y) (yo:=z) (hf.evx y hc.1) (hf.evx z hc.2) h hvc
  refine⟨v,hv,fun w2 hw2=>?_⟩
  have:=hr w2
  simp only[Sem.run_bind] at this
  simp only[execOp,Sem.run_bind,this,Result.andThen_ok,Sem.run_pure]
 | unOp op t y=>
  obtain⟨hc,vc',h,hvc⟩:=qaI h hvc
  obtain⟨v,hv,hr⟩:=qi5 (P:=P) (hf.evx y hc) h hvc
  exact⟨v,hv,fun w2 hw2=>by simp[execOp,hr w2]⟩
 | convert s d y=>
  obtain⟨hc,vc',h,hvc⟩:=qaI h hvc
  obtain⟨v,hv,hr⟩:=qhh hT (hf.evx y hc) h hvc
  exact⟨v,hv,fun w2 hw2=>by simp[execOp,hr w2 fun h=>hw2 (.inr h)]⟩
 | makeFunc fn first caps=>
  cases fn with
  | func f=>
   simp only[sopP] at h
   split at h
   ·rename_i hfirst
    simp only[Option.some.injEq,Prod.mk.injEq] at h
    obtain⟨rfl,rfl⟩:=h
    obtain⟨h1,h2⟩:=qcP hf caps.toList hvc
    have e:caps.map a.eval=(caps.toList.map a.eval).toArray:=by rw[←Array.toList_map,Array.toArray_toList]
    have ef:first = #[]:=by rw[←Array.toArray_toList (xs:=first),hfirst]
    refine⟨_,V.mkFn (vs:=caps.map a.eval) (by rw[h1];simp) (fun j hj=>?_),fun w2 _=>by simp[execOp,Instr.makeFunc,ef]⟩
    rw[e]
    exact h2 j (by rw[h1] at hj;exact hj)
   ·simp at h
  | _=>simp[sopP] at h
 | slice t y lo hi mx=>
  obtain⟨⟨hc,hc1,hc2⟩,vc',h,hvc⟩:=qaI h hvc
  obtain⟨l1,l2⟩:=qfE hf hc1
  obtain⟨m1,m2⟩:=qfE hf hc2
  have hm:optE fr mx=none→mx.map a.eval=none:=by cases mx <;> simp[optE]
  obtain⟨v,hv,hr⟩:=qgA hT (hf.evx y hc) l1 l2 m1 m2 hm h hvc
  exact⟨v,hv,fun w2 hw2=>by simp[execOp,hr w2]⟩
 | fieldAddr t y f=>
  obtain⟨hc,vc',h,hvc⟩:=qaI h hvc
  obtain⟨v,hv,hr⟩:=qet hT (hf.evx y hc) h hvc
  exact⟨v,hv,fun w2 hw2=>by simp[execOp,hr w2]⟩
 | field t y f=>
  obtain⟨hc,vc',h,hvc⟩:=qaI h hvc
  obtain⟨v,hv,hr⟩:=qgx hT (hf.evx y hc) h hvc
  exact⟨v,hv,fun w2 hw2=>by simp[execOp,hr w2]⟩
 | indexAddr t y z=>
  obtain⟨hc,vc',h,hvc⟩:=qaI h hvc
  obtain⟨v,hv,hr⟩:=qeu hT (hf.evx y hc.1) (hf.evx z hc.2) h hvc
  exact⟨v,hv,fun w2 hw2=>by simp[execOp,hr w2]⟩
 | index t y z=>
  obtain⟨hc,vc',h,hvc⟩:=qaI h hvc
  obtain⟨v,hv,hr⟩:=qgy hT (hf.evx y hc.1) (hf.evx z hc.2) h hvc
  exact⟨v,hv,fun w2 hw2=>by simp[execOp,hr w2]⟩
 | extract y j=>
  obtain⟨hc,vc',h,hvc⟩:=qaI h hvc
  obtain⟨v,hv,hr⟩:=qfw (P:=P) (hf.evx y hc) h hvc
  exact⟨v,hv,fun w2 hw2=>by simp[execOp,hr w2]⟩
 | lookup t y z ok=>
  obtain⟨hc,vc',h,hvc⟩:=qaI h hvc
  obtain⟨v,hv,hr⟩:=qf7 hT s (hf.evx y hc.1) (hf.evx z hc.2) h hvc
  exact⟨v,hv,fun w2 hw2=>by simp[execOp,hr w2 (hw2 (.inl rfl))]⟩
 | call c=>
  obtain⟨callee,args,tys⟩:=c
  cases callee with
  | builtin b=>
   simp only[sopP,qgE] at h
   split at h
   ·rename_i y t ha hta
    obtain⟨hc,vc',h,hvc⟩:=qaI h hvc
    obtain⟨v,hv,hr⟩:=qik (ty:=ty) hT (hf.evx y hc) h hvc
    rw[arr1 ha,arr1 hta]
    exact⟨v,hv,fun w2 hw2=>by simp[execOp,resolve,invoke,builtin,hr w2]⟩
   ·rename_i y t ha hta
    obtain⟨hc,vc',h,hvc⟩:=qaI h hvc
    obtain⟨v,hv,hr⟩:=qil (ty:=ty) hT (hf.evx y hc) h hvc
    rw[arr1 ha,arr1 hta]
    exact⟨v,hv,fun w2 hw2=>by simp[execOp,resolve,invoke,builtin,hr w2]⟩
   ·rename_i y z ha
    obtain⟨hc,vc',h,hvc⟩:=qaI h hvc
    obtain⟨v,hv,hr⟩:=qgD (P:=P) (hf.evx y hc.1) (hf.evx z hc.2) h hvc tys ty
    refine⟨v,hv,fun w2 hw2=>?_⟩
    rw[arr2 ha]
    simp only[execOp,resolve,invoke,Sem.run_bind,Sem.run_pure,Result.andThen_ok,List.map_toArray,List.map_cons,List.map_nil]
    exact hr _ w2
   ·rename_i y z ha
    obtain⟨hc,vc',h,hvc⟩:=qaI h hvc
    obtain⟨v,hv,hr⟩:=qgD (P:=P) (hf.evx y hc.1) (hf.evx z hc.2) h hvc tys ty
    refine⟨v,hv,fun w2 hw2=>?_⟩
    rw[arr2 ha]
    simp only[execOp,resolve,invoke,Sem.run_bind,Sem.run_pure,Result.andThen_ok,List.map_toArray,List.map_cons,List.map_nil]
    exact hr _ w2
   ·simp at h
  | _=>simp[sopP] at h
 | _=>simp[sopP] at h
end Go.VL
namespace Go.VL
variable {P:Program}{S:Nat→Prop}{φ : List (List Nat)}{H:List R}{w:World}{T:Nat→Option TI}{fr:Fr}{a:Act}
def qb9 (S:Nat→Prop) (φ : List (List Nat)) (H:List R) (w:World) (r:Result Next) (x:I) (H':List R):Prop:=
 ∃ v w' φ',(r=.ok (.value v) w'∨(r=.ok .skip w'∧v=undef))∧Sim S φ' H' w'∧Tr H.length S φ H w S φ' H' w'∧Ext S φ w S φ' w'∧V S φ' H' w' x v
theorem qcQ (s:Sim S φ H w) (o:Obj):Upd φ w H.length [w.heap.size] (w.alloc o):=
 ⟨rfl,rfl,rfl,by simp,fun b hb _=>heap_alloc_old w o hb,by simp,fun b hb=>by simp at hb;subst hb;exact⟨.inr (Nat.le_refl _),by simp⟩⟩
theorem qdi (s:Sim S φ H w) (o:Obj):Upd φ w H.length [w.heap.size] (w.drew.alloc o):=
 ⟨rfl,rfl,rfl,by simp,fun b hb _=>heap_alloc_old w.drew o hb,by simp,fun b hb=>by simp at hb;subst hb;exact⟨.inr (Nat.le_refl _),by simp⟩⟩
theorem qbH (s:Sim S φ H w) (fp:List Nat):(φ ++ [fp]).getD H.length []=fp:=by
 rw[qcK,s.len,if_pos rfl]
theorem qf8 (H:List R) (r:R):(H ++ [r])[H.length]?=some r:=by simp
theorem qi8 (s:Sim S φ H w) {cs:List I}{arr:Array Value}(h:CellsOK S φ H w cs arr) (ty:TypeId) :
  ∃ φ',Sim S φ' (H ++ [.box cs]) (w.alloc (.cells arr ty))∧Tr H.length S φ H w S φ' (H ++ [.box cs]) (w.alloc (.cells arr ty))∧Ext S φ w S φ' (w.alloc (.cells arr ty))∧
   V S φ' (H ++ [.box cs]) (w.alloc (.cells arr ty)) (.ptr H.length 0) (.pointer (some ⟨w.heap.size,0,none⟩)):=by
 obtain⟨h1,h2,h3⟩:=s.push (r':=.box cs) (qcQ s (.cells arr ty)) (fun t=>⟨w.heap.size,arr,ty,rfl,heap_alloc_new w _,h.1,fun j hj=>⟨(h.2 j hj).1,(h.2 j hj).2.tr t⟩⟩)
 refine⟨_,h1,h2,h3,.ptr (by simp) (fun cs' hcs=>⟨w.heap.size,qbH s _,rfl⟩) rfl⟩
theorem qeQ (s:Sim S φ H w) {k:Nat}{dp:DP}{l:List D}{arr:Array Value}{cap:Nat}(hk:0<k) (he : ∀ x∈l,x.cells.length=k) (h1 : ∀ c∈flat l,c.one=true)
  (hlim:l.length≤lim) (hn:l.length≤cap) (hcap:cap≤maxLen) (hsz:cap*k≤arr.size) (ty:TypeId) {w1:World}(u:Upd φ w H.length [w.heap.size] w1) (hb:w1.heap[w.heap.size]?=some (.cells arr ty (0,0)))
  (hr:RowRel S φ H w k dp (flat l) arr []) :
  ∃ φ',Sim S φ' (H ++ [.row 0 k dp l]) w1∧Tr H.length S φ H w S φ' (H ++ [.row 0 k dp l]) w1∧Ext S φ w S φ' w1∧
   V S φ' (H ++ [.row 0 k dp l]) w1 (.sl H.length 0 k 0 l.length) (.slice (some ⟨w.heap.size,0,none⟩) l.length cap):=by
 have hm:=Nat.mul_le_mul_right k hn
 obtain⟨g1,g2,g3⟩:=s.push (r':=.row 0 k dp l) u (fun t=>⟨hk,he,h1,hlim,.inr ⟨w.heap.size,[],arr,ty,rfl,hb,by omega,hr.keep t (by simp)⟩⟩)
 refine⟨_,g1,g2,g3,.sl (by simp) (by simp) (fun dp' l' hl'=>?_) rfl⟩
 rw[qf8] at hl'
 simp at hl'
 obtain⟨rfl,rfl⟩:=hl'
 exact⟨.inr ⟨w.heap.size,[],cap,arr,ty,_,qbH s _,rfl,hn,hcap,hlim,hb,fun _=>⟨by simp,by omega⟩⟩,by simp⟩
theorem qf9 (s:Sim S φ H w) {k:Nat}(dp:DP) (hk:0<k) :
  ∃ φ',Sim S φ' (H ++ [.row 0 k dp []]) w∧Tr H.length S φ H w S φ' (H ++ [.row 0 k dp []]) w∧Ext S φ w S φ' w∧
   V S φ' (H ++ [.row 0 k dp []]) w (.sl H.length 0 k 0 0) (.slice none 0 0):=by
 obtain⟨g1,g2,g3⟩:=s.push (w':=w) (r':=.row 0 k dp []) (fp':=[]) ⟨rfl,rfl,rfl,Nat.le_refl _,fun _ _ _=>rfl,by simp,by simp⟩ (fun t=>⟨hk,by simp,by simp[flat],Nat.zero_le _,.inl ⟨rfl,rfl⟩⟩)
 refine⟨_,g1,g2,g3,.sl (by simp) (by simp) (fun dp' l' hl'=>⟨.inl ⟨qbH s _,rfl,rfl,rfl⟩,by simp⟩) rfl⟩
def sBox (T:Nat→Option TI) (H:List R) (e:Nat) (x:I):Option (Prop×I×List R):=
 match T e with
 | some ti=>
  match qaR ti x with
  | some (vc,cs)=>some (vc,.ptr H.length 0,H ++ [.box cs])
  | none=>none
 | none=>none
theorem qin (s:Sim S φ H w) {e:Nat}{x:I}{vx:Value}(hx:V S φ H w x vx) {vc:Prop}{y:I}{H':List R}(h:sBox T H e x=some (vc,y,H')) (hvc:vc) :
  qb9 S φ H w (((do pure (.value (←Instr.box e vx)):Sem Next)).run P w) y H':=by
 unfold sBox at h
 split at h
 ·rename_i ti hti
  split at h
  ·rename_i vc' cs hc
   simp only[Option.some.injEq,Prod.mk.injEq] at h
   obtain⟨rfl,rfl,rfl⟩:=h
   obtain⟨h1,h2,h3⟩:=qaW hx hc hvc
   obtain⟨φ',a1,a2,a3,a4⟩:=qi8 s (cs:=cs) (arr:=vx.cells) ⟨by omega,fun j hj=>h3 j (by omega)⟩ e
   exact⟨_,_,φ',.inl (by simp[Instr.box,newVar,newRow]),a1,a2,a3,a4⟩
  ·simp at h
 ·simp at h
def qeR (T:Nat→Option TI) (H:List R) (e:Nat):Option (Prop×I×List R):=
 match T e with
 | some ti=>some (True,.ptr H.length 0,H ++ [.box ((qab ti.zero 0 ti.size).map .d)])
 | none=>none
theorem qgF (hT:TOK P T) (s:Sim S φ H w) {e:Nat}{vc:Prop}{y:I}{H':List R}(h:qeR T H e=some (vc,y,H')) (hvc:vc) :
  qb9 S φ H w (((do pure (.value (←Instr.alloc e true (.tuple #[]))):Sem Next)).run P w) y H':=by
 unfold qeR at h
 split at h
 ·rename_i ti hti
  simp only[Option.some.injEq,Prod.mk.injEq] at h
  obtain⟨rfl,rfl,rfl⟩:=h
  have ht:=hT _ _ hti
  obtain⟨φ',a1,a2,a3,a4⟩:=qi8 s (qd3 (S:=S) (φ:=φ) (H:=H) (w:=w) ht) e
  exact⟨_,_,φ',.inl (by simp[Instr.alloc,newVar,newRow,ht.run_zero]),a1,a2,a3,a4⟩
 ·simp at h
def qaM (size:Nat):Nat→List (Nat×I)→Option (Prop×List D)
 | _,[]=>some (True,[])
 | i,(j,.d x)::r=>
  match qaM size (i+1) r with
  | some (vc,l)=>some (j=i∧x.cells.length=size∧x.notTup∧vc,x::l)
  | none=>none
 | _,_::_=>none
def scalars:List D→Bool
 | []=>true
 | x::r=>x.cells.all D.scalar&&scalars r
def sLit (T:Nat→Option TI) (H:List R) (t len:Nat) (parts:List (Nat×I)):Option (Prop×I×List R):=
 match T t with
 | some ti=>
  match ti.ty with
  | .slice e=>
   match T e with
   | some ei=>
    match qaM ei.size 0 parts with
    | some (vc,l)=>some (vc∧l.length=len∧0<ei.size∧len*ei.size≤1000,.sl H.length 0 ei.size 0 l.length,H ++ [.row 0 ei.size (.ofB (scalars l)) l])
    | none=>none
   | none=>none
  | _=>none
 | none=>none
theorem qk6 {x:D}{v:Value}(h:FZ S w x v) (ht:x.notTup):v.cells.size=x.cells.length∧(∀ c∈x.cells,c.one=true)∧∀ j,j<x.cells.length→FZ S w (x.cells.getD j .nil) (v.cells.getD j undef):=by
 cases h <;> simp[D.notTup] at ht
 case agg cs vs hl h1 hj=>exact⟨by simp[Value.cells,D.cells,hl],h1,hj⟩
 case raw hv=>
  have hc:v.cells = #[v]:=by cases v <;> first|rfl|simp[qiZ] at hv
  rw[hc]
  exact⟨rfl,by simp[D.cells,D.one],fun j hj=>by simp[D.cells] at hj;subst hj;exact .raw hv⟩
 all_goals
  refine⟨rfl,by simp[D.cells,D.one],fun j hj=>?_⟩
  simp[D.cells] at hj
  subst hj
  simp only[D.cells,Value.cells]
  first
   | exact .int (by assumption)
   | exact .bool
   | exact .nil
   | exact .lst0 (by assumption)
   | exact .lst _ (by assumption) (by assumption) (by assumption) (by assumption) (by assumption) (by assumption) (by assumption) (by assumption)
   | exact .ptr _ (by assumption) (by assumption) (by assumption) (by assumption)
   | exact .fn (by assumption) (by assumption)
theorem qbI {l:List D}(h:scalars l=true) : ∀ c∈flat l,c.scalar=true:=by
 induction l with
 | nil=>simp[flat]
 | cons x r ih=>
  simp only[scalars,Bool.and_eq_true,List.all_eq_true] at h
  intro c hc
  simp only[flat,List.flatMap_cons,List.mem_append] at hc
  rcases hc with hc|hc
  ·exact h.1 c hc
  ·exact ih h.2 c hc
theorem qgG {x:D}{v:Value}(h:FZ S w x v) (hx:x.scalar=true):OW w x v []:=by
 cases h <;> simp[D.scalar] at hx
 ·exact .int (by assumption)
 ·exact .bool
 ·exact .raw (by assumption)
 ·exact .nil
theorem qej {k:Nat}{l:List D}{arr:Array Value}(b:Bool) (hd:b=true→∀ c∈l,c.scalar=true) (h : ∀ j,j<l.length→FZ S w (l.getD j .nil) (arr.getD j undef)):RowRel S φ H w k (.ofB b) l arr []:=by
 cases b with
 | false=>exact⟨rfl,h⟩
 | true=>
  refine⟨fun _=>[],by simp,by simp,fun j hj=>qgG (h j hj) (hd rfl _ (getD_mem hj))⟩
theorem qhP {size:Nat}(hs:0<size) : ∀ (parts:List (Nat×I)) (vps:List (Nat×Value)) (i:Nat),parts.length=vps.length→(∀ (j i:Nat) (x:I),parts[j]?=some (i,x)→∃ v:Value,vps[j]?=some (i,v)∧V S φ H w x v)→
  ∀ {vc:Prop}{l:List D},qaM size i parts=some (vc,l)→vc→∀ (done:List D) (arr:Array Value),done.length=i*size→done.length+l.length*size≤arr.size→
  (∀ j,j<done.length→FZ S w (done.getD j .nil) (arr.getD j undef))→
  ∃ arr',Instr.fill (fun i=>some (i*size,size)) arr vps=some arr'∧arr'.size=arr.size∧(∀ x∈l,x.cells.length=size)∧(∀ c∈flat l,c.one=true)∧
   ∀ j,j<(done++flat l).length→FZ S w ((done++flat l).getD j .nil) (arr'.getD j undef)
 | [],[],i,_,_,vc,l,h,hvc,done,arr,hd,hfit,hfz=>by
  simp only[qaM,Option.some.injEq,Prod.mk.injEq] at h
  obtain⟨_,rfl⟩:=h
  exact⟨arr,rfl,rfl,by simp,by simp[flat],by simpa [flat] using hfz⟩
 | [],_::_,_,hl,_,_,_,_,_,_,_,_,_,_=>by simp at hl
 | _::_,[],_,hl,_,_,_,_,_,_,_,_,_,_=>by simp at hl
 | (j0,y)::rest,(j1,v)::vrest,i,hl,hv,vc,l,h,hvc,done,arr,hd,hfit,hfz=>by
  cases y with
  | d x=>
   simp only[qaM] at h
   split at h
   ·rename_i vc' l' hr
    simp only[Option.some.injEq,Prod.mk.injEq] at h
    obtain⟨rfl,rfl⟩:=h
    obtain⟨rfl,hxs,hnt,hvc'⟩:=hvc
    obtain⟨v0,hv0,hx⟩:=hv 0 j0 (.d x) rfl
    simp only[List.getElem?_cons_zero,Option.some.injEq,Prod.mk.injEq] at hv0
    obtain⟨rfl,rfl⟩:=hv0
    obtain⟨c1,c2,c3⟩:=qk6 hx.fz hnt
    simp only[List.length_cons,Nat.add_mul,Nat.one_mul] at hfit
    obtain⟨f1,f2⟩:=qd2 v.cells (j1*size) arr (by omega)
    have hlen1:(done++x.cells).length=(j1+1)*size:=by rw[List.length_append,hd,hxs,Nat.add_mul];omega
    obtain⟨arr',e1,e2,e3,e4,e5⟩:=qhP hs rest vrest (j1+1) (by simpa using hl) (fun j i x hj=>hv (j+1) i x (by simpa using hj)) hr hvc' (done++x.cells)
     (v.cells.zipIdx.foldl (fun cs (c,j)=>cs.setIfInBounds (j1*size+j) c) arr) hlen1 (by rw[List.length_append,f1];omega) (by
      intro j hj
      rw[f2]
      by_cases hjd:j<done.length
      ·rw[if_neg (by omega)]
       have:(done++x.cells).getD j .nil=done.getD j .nil:=by simp[List.getD,List.getElem?_append_left hjd]
       rw[this]
       exact hfz j hjd
      ·rw[List.length_append] at hj
       rw[if_pos (by omega)]
       have:(done++x.cells).getD j .nil=x.cells.getD (j-j1*size) .nil:=by simp[List.getD,List.getElem?_append_right (Nat.le_of_not_lt hjd),hd]
       rw[this]
       exact c3 _ (by omega))
    refine⟨arr',?_,by rw[e2,f1],?_,?_,?_⟩
    ·simp only[Instr.fill]
     rw[if_neg (by simp;omega)]
     exact e1
    ·intro z hz
     rcases List.mem_cons.1 hz with rfl|hz
     ·exact hxs
     ·exact e3 z hz
    ·intro c hc
     simp only[flat,List.flatMap_cons,List.mem_append] at hc
     rcases hc with hc|hc
     ·exact c2 c hc
     ·exact e4 c hc
    ·have:done++flat (x::l')=done++x.cells++flat l':=by simp[flat]
     rw[this]
     exact e5
   ·simp at h
  | _=>simp[qaM] at h
end Go.VL
namespace Go.VL
variable {P:Program}{S:Nat→Prop}{φ : List (List Nat)}{H:List R}{w:World}{T:Nat→Option TI}{fr:Fr}{a:Act}
theorem qio (hT:TOK P T) (s:Sim S φ H w) {t len:Nat}{parts:List (Nat×I)}{vps:List (Nat×Value)}(hl:parts.length=vps.length)
  (hv : ∀ (j i:Nat) (x:I),parts[j]?=some (i,x)→∃ v:Value,vps[j]?=some (i,v)∧V S φ H w x v) {vc:Prop}{y:I}{H':List R}(h:sLit T H t len parts=some (vc,y,H')) (hvc:vc) :
  qb9 S φ H w ((do pure (.value (←Instr.buildSlice t len vps.toArray)):Sem Next).run P w) y H':=by
 unfold sLit at h
 split at h
 ·rename_i ti hti
  have ht:=hT _ _ hti
  split at h
  ·rename_i e hy
   split at h
   ·rename_i ei hei
    have he:=hT _ _ hei
    split at h
    ·rename_i vc' l hp
     simp only[Option.some.injEq,Prod.mk.injEq] at h
     obtain⟨rfl,rfl,rfl⟩:=h
     obtain⟨hvc',hlen,hs,hsmall⟩:=hvc
     have hu:=ht.und_slice hy
     obtain⟨zc,hzc⟩ : ∃ zc:Array Value,zc=(if len*ei.size=0 then #[] else(qac ei.zero).cells):=⟨_,rfl⟩
     obtain⟨arr',f1,f2,f3,f4,f5⟩:=qhP (S:=S) (φ:=φ) (H:=H) (w:=w) hs parts vps 0 hl hv hp hvc' [] ((Array.range (len*ei.size)).map (zc[· % zc.size]!)) (by simp) (by simp[hlen]) (by simp)
     simp only[List.nil_append] at f5
     have hb:=heap_alloc_new w (.cells arr' e)
     have hlim:l.length≤lim:=by
      have:len*1≤len*ei.size:=Nat.mul_le_mul_left _ hs
      unfold lim
      omega
     obtain⟨φ',a1,a2,a3,a4⟩:=qeQ s (cap:=l.length) (dp:=.ofB (scalars l)) hs f3 f4 hlim (Nat.le_refl _) (by unfold lim at hlim;unfold maxLen;omega) (by rw[f2];simp[hlen]) e (qcQ s _) hb
      (qej _ (fun hd=>qbI hd) f5)
     refine⟨_,_,φ',.inl ?_,a1,a2,a3,a4⟩
     have hrun:(Instr.buildSlice t len vps.toArray).run P w=.ok (.slice (some ⟨w.heap.size,0,none⟩) l.length l.length) (w.alloc (.cells arr' e)):=by
      simp only[Instr.buildSlice,Sem.run_bind,run_underlying hu,Result.andThen_ok,he.run_sizeOf]
      rw[if_neg (by omega)]
      by_cases h0:len*ei.size=0
      ·rw[if_pos h0] at hzc ⊢
       subst hzc
       simp only[Sem.run_bind,Sem.run_pure,Result.andThen_ok,List.toList_toArray,f1,newRow,run_newObj,hlen]
       rfl
      ·rw[if_neg h0] at hzc ⊢
       subst hzc
       simp only[Sem.run_bind,Sem.run_pure,Result.andThen_ok,he.run_zero,List.toList_toArray,f1,newRow,run_newObj,hlen]
       rfl
     simp only[Sem.run_bind,hrun,Result.andThen_ok,Sem.run_pure]
    ·simp at h
   ·simp at h
  ·simp at h
 ·simp at h
def qgH (T:Nat→Option TI) (H:List R) (t:Nat) (l c:I):Option (Prop×I×List R):=
 match T t,l,c with
 | some ti,.d l,.d c=>
  match ti.ty with
  | .slice e=>
   match T e with
   | some ei=>some (l.isInt .i64∧c.isInt .i64∧0≤l.toInt∧l.toInt≤c.toInt∧(ei.bytes:Int)*c.toInt≤281474976710656∧0<ei.bytes∧0<ei.size,
     .sl H.length 0 ei.size 0 l.toInt.toNat,H ++ [.row 0 ei.size (.own []) (List.replicate l.toInt.toNat ei.zero)])
   | none=>none
  | _=>none
 | _,_,_=>none
theorem qk7 {x:D}(h:qcL x=true):OW w x (val1 x) []:=by
 cases x <;> simp[qcL] at h
 ·exact .int h
 ·exact .bool
 ·exact .raw h
 ·exact .nil
theorem qfx (n:Nat) (z:D) (k:Nat) (hz:z.cells.length=k) (hk:0<k) (j:Nat) (hj:j<n*k):(flat (List.replicate n z)).getD j .nil=z.cells.getD (j%k) .nil:=by
 have hq:j/k<n:=Nat.div_lt_of_lt_mul (by rw[Nat.mul_comm];exact hj)
 have hr:j%k<k:=Nat.mod_lt _ hk
 have e:=qaF (l:=List.replicate n z) (k:=k) (fun x hx=>by rw[List.eq_of_mem_replicate hx];exact hz) (i:=j/k) (by simpa using hq) hr .nil
 have hj':(j/k)*k+j%k=j:=by rw[Nat.mul_comm];exact Nat.div_add_mod j k
 rw[hj'] at e
 rw[e]
 congr 2
 simp[List.getD,hq]
theorem qca {t:Nat}{ti:TI}(ht:TIOK P t ti) {j:Nat}(hj:j<ti.size):qcL (ti.zero.cells.getD j .nil)=true∧(qac ti.zero).cells.getD j undef=val1 (ti.zero.cells.getD j .nil)∧(qac ti.zero).cells.size=ti.size:=by
 have hc:=ht.const
 have hs:=ht.size
 generalize ti.zero=z at *
 cases z with
 | agg cs=>
  simp only[qdF,List.all_eq_true] at hc
  simp only[D.cells] at hs
  refine⟨hc _ (getD_mem (by show j<cs.length;omega)),?_,by simp[qac,Value.cells,hs]⟩
  simp[qac,Value.cells,D.cells,Array.getD,List.getD,hs,hj]
 | _=>
  first
   | (simp[qdF,qcL] at hc;done)
   | (
     simp only[D.cells,List.length_cons,List.length_nil] at hs
     obtain rfl:j=0:=by omega
     have hcell : ∀ v:Value,v.oneCell'=true→v.cells = #[v]:=fun v hv=>by cases v <;> first|rfl|simp[Value.oneCell'] at hv
     have ho:=(qd1 (S:=fun _=>False) (w:=default) hc).one rfl
     rw[hcell _ ho]
     exact⟨hc,rfl,by simp[hs]⟩)
theorem qhj (hT:TOK P T) (s:Sim S φ H w) {t:Nat}{l c:I}{vl vc':Value}(hl:V S φ H w l vl) (hc:V S φ H w c vc') {vc:Prop}{y:I}{H':List R}(h:qgH T H t l c=some (vc,y,H')) (hvc:vc) :
  qb9 S φ H w ((do pure (.value (←Instr.makeSlice t vl vc')):Sem Next).run P w) y H':=by
 unfold qgH at h
 split at h
 ·rename_i ti l c hti
  have ht:=hT _ _ hti
  split at h
  ·rename_i e hy
   split at h
   ·rename_i ei hei
    have he:=hT _ _ hei
    simp only[Option.some.injEq,Prod.mk.injEq] at h
    obtain⟨rfl,rfl,rfl⟩:=h
    obtain⟨il,ic,h0,h1,hb,hb0,hs0⟩:=hvc
    obtain⟨_,rfl,kl⟩:=hl.fz.int_inv il
    obtain⟨_,rfl,kc⟩:=hc.fz.int_inv ic
    obtain⟨i,d,i1,i2,i3,i4,i5,i6⟩:=he.ex
    have hr:=run_make (P:=P) w t e i (qac ei.zero) (ht.und_slice hy) i1 i4 .i64 .i64 l.toInt c.toInt h0 h1 (by rw[i3];exact hb) (by have:=kc.2;simpa using this)
    have hbl:=heap_alloc_new w (.cells (madeCells (qac ei.zero).cells (c.toInt.toNat*i.size)) e)
    have hcl:c.toInt.toNat≤lim:=by
     have h2:(ei.bytes:Int)*c.toInt≥1*c.toInt:=Int.mul_le_mul_of_nonneg_right (by omega) (by omega)
     unfold lim
     omega
    have hzs:=(qca he hs0).2.2
    have hmul:l.toInt.toNat*ei.size≤c.toInt.toNat*ei.size:=Nat.mul_le_mul_right _ (by omega)
    have he' : ∀ x∈List.replicate l.toInt.toNat ei.zero,x.cells.length=ei.size:=fun x hx=>by rw[List.eq_of_mem_replicate hx];exact he.size
    have hfl:=flat_length he'
    simp only[List.length_replicate] at hfl
    have hcell : ∀ j,j<l.toInt.toNat*ei.size→(madeCells (qac ei.zero).cells (c.toInt.toNat*i.size)).getD j undef=val1 (ei.zero.cells.getD (j%ei.size) .nil):=by
     intro j hj
     have:=(qca he (Nat.mod_lt j hs0)).2.1
     rw[←this]
     have hm:j%(qac ei.zero).cells.size<(qac ei.zero).cells.size:=Nat.mod_lt _ (by omega)
     rw[hzs] at hm
     simp[madeCells,Array.getD,i2,show j<c.toInt.toNat*ei.size by omega,hzs,hm]
    obtain⟨φ',a1,a2,a3,a4⟩:=qeQ s (k:=ei.size) (l:=List.replicate l.toInt.toNat ei.zero) (cap:=c.toInt.toNat) (dp:=.own []) hs0 he'
     (by
      intro c hc
      obtain⟨x,hx,hcx⟩:=qaY.1 hc
      rw[List.eq_of_mem_replicate hx] at hcx
      obtain⟨j,hj,rfl⟩:=List.getElem_of_mem hcx
      rw[qak _ _ _ .nil]
      exact qfC (qca he (by rw[←he.size];exact hj)).1)
     (by simp;omega) (by simp;omega) (by unfold lim at hcl;unfold maxLen;omega) (by simp[madeCells,i2]) e (qcQ s _) hbl
     ⟨fun _=>[],by simp,by simp,fun j hj=>by
      rw[hfl] at hj
      rw[qfx _ _ _ he.size hs0 _ hj,hcell j hj]
      exact qk7 (qca he (Nat.mod_lt j hs0)).1⟩
    simp only[List.length_replicate] at a4
    exact⟨_,_,φ',.inl (by simp[hr]),a1,a2,a3,a4⟩
   ·simp at h
  ·simp at h
 ·simp at h
def setD:List D→Nat→List D→List D
 | cs,_,[]=>cs
 | cs,off,x::r=>setD (cs.set off x) (off+1) r
def cellsD (ti:TI) (x:I):Option (Prop×List D):=
 match ti.ty.agg,x with
 | true,.d xd=>some (xd.cells.length=ti.size∧xd.one=false∧(∀ n,xd≠.tup n),qab xd 0 ti.size)
 | false,.d xd=>some (ti.size=1∧xd.one=true,[xd])
 | _,_=>none
theorem qd5 (s:Sim S φ H w) {i b:Nat}{rest:List Nat}(hfp : φ.getD i []=b::rest) (cs:Array Value):Upd φ w i (b::rest) (w.setRow b cs):=
 ⟨rfl,rfl,rfl,by simp,fun b' hb hn=>setRow_other w b b' cs (fun e=>hn (by rw[hfp,e];simp)),hfp▸s.nd i,fun b' hb=>⟨.inl (by rw[hfp];exact hb),by simpa using s.lt b' ⟨i,by rw[hfp];exact hb⟩⟩⟩
def stored' (cur:Array Value) (o:Nat) (vs:List Value):Array Value:=(cur.toList.take o++vs++cur.toList.drop (o+vs.length)).toArray
theorem qbj (cur:Array Value) (o:Nat) (vs:List Value) (h:o+vs.length≤cur.size):(stored' cur o vs).size=cur.size:=by
 simp[stored'];omega
theorem qaN (cur:Array Value) (o:Nat) (vs:List Value) (h:o+vs.length≤cur.size) (j:Nat):(stored' cur o vs).getD j undef=if o≤j∧j<o+vs.length then vs.getD (j-o) undef else cur.getD j undef:=by
 simp only[stored',Array.getD_eq_getD_getElem?,List.getElem?_toArray]
 by_cases h1:j<o
 ·rw[if_neg (by omega),List.append_assoc,List.getElem?_append_left (by simp;omega)]
  simp[h1]
 ·by_cases h2:j<o+vs.length
  ·rw[if_pos (by omega),List.getElem?_append_left (by simp;omega),List.getElem?_append_right (by simp;omega)]
   have:min o cur.size=o:=by omega
   simp[this,List.getD]
  ·rw[if_neg (by omega),List.getElem?_append_right (by simp;omega)]
   have:min o cur.size=o:=by omega
   simp only[List.length_append,List.length_take,Array.length_toList,this,List.getElem?_drop,Array.getElem?_toList]
   congr 2
   omega
theorem qek {t:Nat}{ti:TI}(ht:TIOK P t ti) {b o:Nat}{cur:Array Value}{ty:TypeId}{w:World}(hb:w.heap[b]?=some (.cells cur ty (0,0))) {v:Value}(hv:v.cells.size=ti.size)
  (hfit:o+ti.size≤cur.size) (h1 : ∀ j,j<ti.size→(v.cells.getD j undef).oneCell'=true) :
  (storeVar t ⟨b,o,none⟩ v).run P w=.ok () (w.setRow b (stored' cur o v.cells.toList)):=by
 have:=run_storeCells_at P b o ty v.cells.toList 0 cur w hb (by simp;omega) (by
  intro u hu
  obtain⟨j,hj,rfl⟩:=List.getElem_of_mem hu
  have:=h1 j (by simpa [hv] using hj)
  simpa [Array.getD,show j<v.cells.size by simpa using hj] using this)
 simp only[Nat.add_zero] at this
 simp only[storeVar,Sem.run_bind,ht.run_sizeOf,Result.andThen_ok]
 rw[if_neg (by omega)]
 simpa [stored'] using this
theorem qdr (cs:List D) (off:Nat) (xs:List D):(setD cs off xs).length=cs.length:=by
 induction xs generalizing cs off with
 | nil=>rfl
 | cons x r ih=>simp[setD,ih]
theorem qeS (cs:List D) (off:Nat) (xs:List D) (h:off+xs.length≤cs.length) (j:Nat) :
  (setD cs off xs).getD j .nil=if off≤j∧j<off+xs.length then xs.getD (j-off) .nil else cs.getD j .nil:=by
 induction xs generalizing cs off with
 | nil=>simp[setD];omega
 | cons x r ih=>
  simp only[List.length_cons] at h ⊢
  simp only[setD]
  rw[ih _ _ (by simp;omega)]
  by_cases h1:off+1≤j∧j<off+1+r.length
  ·rw[if_pos h1,if_pos (by omega)]
   rw[show j-off=(j-(off+1))+1 by omega]
   simp[List.getD]
  ·rw[if_neg h1]
   by_cases h2:j=off
   ·subst h2
    rw[if_pos (by omega)]
    simp[List.getD,show j<cs.length by omega]
   ·rw[if_neg (by omega)]
    simp[List.getD,List.getElem?_set,Ne.symm h2]
theorem qga {k:Nat}{l:List D}(he : ∀ x∈l,x.cells.length=k) (hk:0<k) {idx:Nat}(hi:idx<l.length) {y:D}(hy:y.cells.length=k) (j:Nat) (hj:j<l.length*k) :
  (flat (l.set idx y)).getD j .nil=if j/k=idx then y.cells.getD (j%k) .nil else(flat l).getD j .nil:=by
 have hq:j/k<l.length:=Nat.div_lt_of_lt_mul (by rw[Nat.mul_comm];exact hj)
 have hr:j%k<k:=Nat.mod_lt _ hk
 have hj':(j/k)*k+j%k=j:=by rw[Nat.mul_comm];exact Nat.div_add_mod j k
 have he' : ∀ x∈l.set idx y,x.cells.length=k:=fun x hx=>by
  rcases List.mem_or_eq_of_mem_set hx with h|h
  ·exact he x h
  ·rw[h];exact hy
 have e1:=qaF he' (i:=j/k) (by simpa using hq) hr .nil
 have e2:=qaF he (i:=j/k) hq hr .nil
 rw[hj'] at e1 e2
 rw[e1,e2]
 by_cases h:j/k=idx
 ·rw[if_pos h,h]
  simp[List.getD,hi]
 ·rw[if_neg h]
  simp[List.getD,List.getElem?_set,Ne.symm h]
end Go.VL
namespace Go.VL
variable {P:Program}{S:Nat→Prop}{φ : List (List Nat)}{H:List R}{w:World}{T:Nat→Option TI}{fr:Fr}{a:Act}
theorem qcR {ti:TI}{x:I}{vx:Value}(hx:V S φ H w x vx) {vc:Prop}{xs:List D}(h:cellsD ti x=some (vc,xs)) (hvc:vc) :
  xs.length=ti.size∧vx.cells.size=ti.size∧∀ j,j<ti.size→(xs.getD j .nil).one=true∧FZ S w (xs.getD j .nil) (vx.cells.getD j undef):=by
 unfold cellsD at h
 split at h
 ·rename_i xd hagg
  simp only[Option.some.injEq,Prod.mk.injEq] at h
  obtain⟨rfl,rfl⟩:=h
  obtain⟨hl,hone,htup⟩:=hvc
  have hz:=hx.fz
  cases hz <;> simp[D.one] at hone
  ·rename_i cs vs hl' h1 hj
   simp only[D.cells] at hl
   refine⟨qaf _ _ _,by simp[Value.cells,←hl',hl],fun j hj'=>?_⟩
   rw[qap _ _ _ _ hj',Nat.zero_add]
   exact⟨h1 _ (getD_mem (by omega)),hj j (by omega)⟩
  ·exact absurd rfl (htup _)
 ·rename_i xd hagg
  simp only[Option.some.injEq,Prod.mk.injEq] at h
  obtain⟨rfl,rfl⟩:=h
  obtain⟨h1,h2⟩:=hvc
  have ho:=hx.fz.one h2
  have hc:vx.cells = #[vx]:=by cases vx <;> first|rfl|simp[Value.oneCell'] at ho
  refine⟨by simp[h1],by simp[hc,h1],fun j hj=>?_⟩
  obtain rfl:j=0:=by omega
  rw[hc]
  exact⟨h2,hx.fz⟩
 ·simp at h
theorem qhk (s:Sim S φ H w) {i g k:Nat}{dp dp':DP}{l l':List D}(hi:H[i]?=some (.row g k dp l)) {b:Nat}{rest rest':List Nat}{cur:Array Value}{ty:TypeId}
  (hfp : φ.getD i []=b::rest) (hb:w.heap[b]?=some (.cells cur ty (0,0))) {arr':Array Value}(hsz:arr'.size=cur.size) (he : ∀ x∈l',x.cells.length=k) (h1 : ∀ c∈flat l',c.one=true)
  (hlen:l'.length=l.length) (hsub:rest'.Sublist rest) (hr:RowRel S φ H w k dp' (flat l') arr' rest') :
  ∃ φ',Sim S φ' (H.set i (.row g k dp' l')) (w.setRow b arr')∧Tr H.length S φ H w S φ' (H.set i (.row g k dp' l')) (w.setRow b arr')∧Ext S φ w S φ' (w.setRow b arr'):=by
 have hlt:i<H.length:=(List.getElem?_eq_some_iff.1 hi).1
 have hgetD:H.getD i (.dead 0)=.row g k dp l:=by simp[List.getD,hi]
 obtain⟨hk,_,_,hlim,hrel⟩:=s.rel i _ hi
 have hnd:=s.nd i
 rw[hfp] at hnd
 have hu:Upd φ w i (b::rest') (w.setRow b arr'):=
  ⟨rfl,rfl,rfl,by simp,fun b' hb hn=>setRow_other w b b' arr' (fun e=>hn (by rw[hfp,e];simp)),(hsub.cons_cons b).nodup hnd,fun b' hb'=>by
   have hm:b'∈φ.getD i []:=by rw[hfp];exact(hsub.cons_cons b).mem hb'
   exact⟨.inl hm,by simpa using s.lt b' ⟨i,hm⟩⟩⟩
 obtain⟨q1,q2,q3⟩:=s.update hlt hu (r':=.row g k dp' l') (by rw[hgetD];exact Nat.le_refl _) (by
   intro g' k' dp'' l'' he'
   simp at he'
   obtain⟨rfl,rfl,rfl,rfl⟩:=he'
   refine .inr ⟨dp,l,hi,by rw[hfp];rfl,by omega,fun b' rest' arr ty' e1 e2=>?_⟩
   rw[hfp] at e1
   simp at e1
   obtain⟨rfl,rfl⟩:=e1
   rw[hb] at e2
   simp at e2
   obtain⟨rfl,rfl⟩:=e2
   exact⟨arr',ty,setRow_heap w b cur arr' ty (0,0) hb,by omega⟩) (by simp) (by simp) (by simp) (by
   intro t
   refine⟨hk,he,h1,by omega,.inr ⟨b,rest',arr',ty,rfl,setRow_heap w b cur arr' ty (0,0) hb,?_,hr.keep t ?_⟩⟩
   ·rcases hrel with⟨e,_⟩|⟨b',rest',arr,ty',e,hb',hsz',_⟩
    ·rw[hfp] at e;simp at e
    ·rw[hfp] at e
     simp at e
     obtain⟨rfl,rfl⟩:=e
     rw[hb] at hb'
     simp at hb'
     obtain⟨rfl,rfl⟩:=hb'
     rw[hlen]
     omega
   ·intro b' hb'
    refine setRow_other w b b' arr' ?_
    intro e
    subst e
    exact(List.nodup_cons.1 hnd).1 (hsub.mem hb'))
 exact⟨_,q1,q2,q3⟩
theorem qi9 (s:Sim S φ H w) {i:Nat}{cs cs':List I}(hi:H[i]?=some (.box cs)) {b:Nat}{cur arr':Array Value}{ty:TypeId}(hfp : φ.getD i []=[b]) (hb:w.heap[b]?=some (.cells cur ty (0,0)))
  (h:CellsOK S φ H w cs' arr') :
  ∃ φ',Sim S φ' (H.set i (.box cs')) (w.setRow b arr')∧Tr H.length S φ H w S φ' (H.set i (.box cs')) (w.setRow b arr')∧Ext S φ w S φ' (w.setRow b arr'):=by
 have hlt:i<H.length:=(List.getElem?_eq_some_iff.1 hi).1
 have hgetD:H.getD i (.dead 0)=.box cs:=by simp[List.getD,hi]
 obtain⟨q1,q2,q3⟩:=s.update hlt (qd5 s hfp arr') (r':=.box cs') (by rw[hgetD];exact Nat.le_refl _) (by simp) (fun cs'' e=>⟨cs,hi,hfp.symm⟩) (by simp) (by simp)
  (fun t=>⟨b,arr',ty,rfl,setRow_heap w b cur arr' ty (0,0) hb,h.1,fun j hj=>⟨(h.2 j hj).1,(h.2 j hj).2.tr t⟩⟩)
 exact⟨_,q1,q2,q3⟩
theorem qds {F G:Nat→List Nat}(h : ∀ j,(G j).Sublist (F j)) : ∀ (l:List Nat),(l.flatMap G).Sublist (l.flatMap F)
 | []=>by simp
 | x::r=>by simpa using (h x).append (qds h r)
theorem qd6 {k:Nat}{dp:DP}{l l':List D}{cur arr':Array Value}{rest:List Nat}(h:RowRel S φ H w k dp l cur rest) (hl:l'.length=l.length)
  (hcell : ∀ j,j<l.length→(arr'.getD j undef=cur.getD j undef∧l'.getD j .nil=l.getD j .nil)∨
   ((dp.o=true→(l.getD j .nil).scalar=true∧(l'.getD j .nil).scalar=true)∧FZ S w (l'.getD j .nil) (arr'.getD j undef))):RowRel S φ H w k dp l' arr' rest:=by
 cases dp with
 | fz=>
  refine⟨h.1,fun j hj=>?_⟩
  rw[hl] at hj
  rcases hcell j hj with⟨e1,e2⟩|⟨_,hz⟩
  ·rw[e1,e2];exact h.2 j hj
  ·exact hz
 | own hs=>
  obtain⟨F,rfl,hw,hF⟩:=h
  refine⟨F,by rw[hl],by rw[hl];exact hw,fun j hj=>?_⟩
  rw[hl] at hj
  rcases hcell j hj with⟨e1,e2⟩|⟨hss,hz⟩
  ·rw[e1,e2];exact hF j hj
  ·obtain⟨hs,hs'⟩:=hss rfl
   obtain⟨e0,e,_⟩:=qbx (hF j hj) hs
   rw[e,e0]
   exact qgG hz hs'
def qaX:I→D
 | .d c=>c
 | _=>.lst 1 []
def holeI:I→Option I
 | .d _=>none
 | x=>some x
def qgI:I→Prop
 | .d c=>c.scalar=true
 | _=>True
def qbw:List I→Prop
 | []=>True
 | x::r=>qgI x∧qbw r
def qaw (idx:Nat):Nat→List I→List (Nat×Nat×I)
 | _,[]=>[]
 | o,.d _::r=>qaw idx (o+1) r
 | o,x::r=>(idx,o,x)::qaw idx (o+1) r
theorem qcb : ∀ {xs:List I}{j:Nat},qbw xs→j<xs.length→qgI (xs.getD j .junk)
 | [],j,h,hj=>by simp at hj
 | x::r,0,h,hj=>h.1
 | x::r,j+1,h,hj=>by simpa [List.getD] using qcb h.2 (by simpa using hj)
theorem qbR {idx:Nat} : ∀ {xs:List I}{o:Nat}{h:Nat×Nat×I},h∈qaw idx o xs→h.1=idx∧o≤h.2.1∧h.2.1<o+xs.length
 | [],o,h,hm=>by simp[qaw] at hm
 | x::r,o,h,hm=>by
  by_cases hx : ∃ c,x=.d c
  ·obtain⟨c,rfl⟩:=hx
   simp only[qaw] at hm
   have:=qbR hm
   simp only[List.length_cons]
   omega
  ·have:qaw idx o (x::r)=(idx,o,x)::qaw idx (o+1) r:=by
    cases x <;> first|rfl|exact absurd ⟨_,rfl⟩ hx
   rw[this] at hm
   rcases List.mem_cons.1 hm with rfl|hm
   ·simp
   ·have:=qbR hm
    simp only[List.length_cons]
    omega
theorem qc7 {k idx:Nat} : ∀ {xs:List I}{o j:Nat},j<xs.length→qan k (qaw idx o xs) (idx*k+(o+j))=holeI (xs.getD j .junk)
 | [],o,j,hj=>by simp at hj
 | x::r,o,j,hj=>by
  have none_at : ∀ {xs:List I}{o p:Nat},p<o→qan k (qaw idx o xs) (idx*k+p)=none:=by
   intro xs
   induction xs with
   | nil=>intro o p hp;rfl
   | cons y t ih=>
    intro o p hp
    by_cases hx : ∃ c,y=.d c
    ·obtain⟨c,rfl⟩:=hx
     exact ih (by omega)
    ·have:qaw idx o (y::t)=(idx,o,y)::qaw idx (o+1) t:=by
      cases y <;> first|rfl|exact absurd ⟨_,rfl⟩ hx
     rw[this]
     simp only[qan]
     rw[if_neg (by omega)]
     exact ih (by omega)
  by_cases hx : ∃ c,x=.d c
  ·obtain⟨c,rfl⟩:=hx
   simp only[qaw]
   cases j with
   | zero=>simpa [holeI,List.getD] using none_at (by omega)
   | succ j=>
    have:=qc7 (k:=k) (idx:=idx) (xs:=r) (o:=o+1) (j:=j) (by simpa using hj)
    rw[show o+1+j=o+(j+1) by omega] at this
    simpa [List.getD] using this
  ·have e:qaw idx o (x::r)=(idx,o,x)::qaw idx (o+1) r:=by
    cases x <;> first|rfl|exact absurd ⟨_,rfl⟩ hx
   have ed:holeI x=some x:=by cases x <;> first|rfl|exact absurd ⟨_,rfl⟩ hx
   rw[e]
   simp only[qan]
   cases j with
   | zero=>simp[List.getD,ed]
   | succ j=>
    rw[if_neg (by omega)]
    have:=qc7 (k:=k) (idx:=idx) (xs:=r) (o:=o+1) (j:=j) (by simpa using hj)
    rw[show o+1+j=o+(j+1) by omega] at this
    simpa [List.getD] using this
theorem qhl {k idx:Nat}{xs:List I}{o j:Nat}(h : ∀ h∈qaw idx o xs,h.1*k+h.2.1≠j):qan k (qaw idx o xs) j=none:=by
 generalize qaw idx o xs=hs at h
 induction hs with
 | nil=>rfl
 | cons x r ih=>
  obtain⟨a,b,c⟩:=x
  simp only[qan]
  rw[if_neg (h (a,b,c) (by simp))]
  exact ih fun h' hm=>h h' (by simp[hm])
def qcc (idx off n:Nat):List (Nat×Nat×I)→Prop
 | []=>True
 | h::r=>(h.1=idx∧off≤h.2.1∧h.2.1<off+n)∧qcc idx off n r
theorem qgJ {k idx off n j:Nat} : ∀ {hs:List (Nat×Nat×I)},qcc idx off n hs→¬ (idx*k+off≤j∧j<idx*k+off+n)→qan k hs j=none
 | [],_,_=>rfl
 | (a,b,x)::r,h,hj=>by
  have h1:a=idx:=h.1.1
  have h2:=h.1.2
  subst h1
  simp only at h2
  simp only[qan]
  rw[if_neg (by omega)]
  exact qgJ h.2 hj
theorem qgK {k:Nat}{l l':List D}{cur arr':Array Value}{rest:List Nat}{hs0:List (Nat×Nat×I)}(h:RowRel S φ H w k (.own hs0) l cur rest) (hl:l'.length=l.length) {idx off:Nat}{xs:List I}(hcov:qcc idx off xs.length hs0)
  (hfit:idx*k+off+xs.length≤l.length) (hsc:qbw xs) (hin : ∀ j,j<xs.length→l'.getD (idx*k+off+j) .nil=qaX (xs.getD j .junk)∧
   (arr'.getD (idx*k+off+j) undef).oneCell'=true∧V S φ H w (xs.getD j .junk) (arr'.getD (idx*k+off+j) undef))
  (hout : ∀ j,j<l.length→¬ (idx*k+off≤j∧j<idx*k+off+xs.length)→arr'.getD j undef=cur.getD j undef∧l'.getD j .nil=l.getD j .nil) :
  ∃ rest',rest'.Sublist rest∧RowRel S φ H w k (.own (qaw idx off xs)) l' arr' rest':=by
 obtain⟨F,rfl,hw,hF⟩:=h
 refine⟨_,?_,fun j=>if idx*k+off≤j∧j<idx*k+off+xs.length then [] else F j,rfl,?_,fun j hj=>?_⟩
 ·rw[hl]
  exact qds (fun j=>by split <;> simp) _
 ·intro h hm
  have:=qbR hm
  rw[hl]
  have e:h.1*k=idx*k:=by rw[this.1]
  omega
 ·rw[hl] at hj
  by_cases hr:idx*k+off≤j∧j<idx*k+off+xs.length
  ·simp only[if_pos hr]
   obtain⟨m,rfl⟩ : ∃ m,j=idx*k+off+m:=⟨j-(idx*k+off),by omega⟩
   have hm:m<xs.length:=by omega
   obtain⟨p1,p2,p3⟩:=hin m hm
   rw[p1,show idx*k+off+m=idx*k+(off+m) by omega,qc7 hm,show idx*k+(off+m)=idx*k+off+m by omega]
   have hs:=qcb hsc hm
   generalize xs.getD m .junk=x at *
   cases x with
   | d c=>exact qgG p3.fz hs
   | _=>exact⟨rfl,rfl,p2,p3⟩
  ·simp only[if_neg hr]
   obtain⟨e1,e2⟩:=hout j hj hr
   rw[e1,e2,qhl]
   ·have hFj:=hF j hj
    rw[qgJ hcov hr] at hFj
    exact hFj
   ·intro h hm e
    have:=qbR hm
    have e2:h.1*k=idx*k:=by rw[this.1]
    omega
def qeT (T:Nat→Option TI) (H:List R) (t:Nat) (p x:I):Option (Prop×List R):=
 match T t,p with
 | some ti,.ptr i off=>
  match H[i]? with
  | some (.box cs)=>
   match qaR ti x with
   | some (vc,xs)=>some (vc∧off+ti.size≤cs.length,H.set i (.box (setCells cs off xs)))
   | none=>none
  | _=>none
 | some ti,.eptr i g k idx off z=>
  match H[i]? with
  | some (.row g' k' dp l)=>
   match cellsD ti x with
   | some (vc,xs)=>
    match decide (k=1) with
    | true=>some (vc∧g=g'∧k=k'∧idx<l.length∧off=0∧ti.size=1∧(dp.o=true→(l.getD idx z).scalar=true∧(xs.getD 0 .nil).scalar=true),H.set i (.row g' k' dp (l.set idx (xs.getD 0 .nil))))
    | false=>some (vc∧g=g'∧k=k'∧idx<l.length∧off+ti.size≤k∧1<k∧(dp.o=true→(∀ c∈qab (l.getD idx z) off ti.size,c.scalar=true)∧(∀ c∈xs,c.scalar=true)),
      H.set i (.row g' k' dp (l.set idx (.agg (setD (qab (l.getD idx z) 0 k) off xs)))))
   | none=>
    match dp,qaR ti x with
    | .own hs,some (vc,xs)=>
     match decide (k=1) with
     | true=>some (vc∧g=g'∧k=k'∧idx<l.length∧off=0∧ti.size=1∧qbw xs∧qcc idx off ti.size hs,H.set i (.row g' k' (.own (qaw idx off xs)) (l.set idx (qaX (xs.getD 0 .junk)))))
     | false=>some (vc∧g=g'∧k=k'∧idx<l.length∧off+ti.size≤k∧1<k∧qbw xs∧qcc idx off ti.size hs,
       H.set i (.row g' k' (.own (qaw idx off xs)) (l.set idx (.agg (setD (qab (l.getD idx z) 0 k) off (xs.map qaX))))))
    | _,_=>none
  | _=>none
 | _,_=>none
set_option maxHeartbeats 1000000 in
theorem qgL (hT:TOK P T) (s:Sim S φ H w) {t:Nat}{p x:I}{vp vx:Value}(hp:V S φ H w p vp) (hx:V S φ H w x vx) {vc:Prop}{H':List R}(h:qeT T H t p x=some (vc,H')) (hvc:vc) :
  qb9 S φ H w ((do Instr.storeAt t vp vx;pure .skip:Sem Next).run P w) .junk H':=by
 unfold qeT at h
 split at h
 ·rename_i ti i off hti
  have ht:=hT _ _ hti
  split at h
  ·rename_i cs hi
   split at h
   ·rename_i vc' xs hc
    simp only[Option.some.injEq,Prod.mk.injEq] at h
    obtain⟨rfl,rfl⟩:=h
    obtain⟨hvc',hfit⟩:=hvc
    obtain⟨c1,c2,c3⟩:=qaW hx hc hvc'
    obtain⟨b,arr,ty,hfp,hb,hsz,hv⟩:=s.rel i _ hi
    cases hp with
    | ptr hlt hrel h1=>
     obtain⟨b',hfp',rfl⟩:=hrel cs hi
     rw[hfp] at hfp'
     simp at hfp'
     subst hfp'
     have hrun:=qek ht hb c2 (o:=off) (by omega) (fun j hj=>(c3 j hj).1)
     have hl:vx.cells.toList.length=ti.size:=by simp[c2]
     obtain⟨φ',a1,a2,a3⟩:=qi9 s hi hfp hb (cs':=setCells cs off xs) (arr':=stored' arr off vx.cells.toList) (by
      refine⟨by rw[qbj _ _ _ (by omega),qbp];exact hsz,fun j hj=>?_⟩
      rw[qbp] at hj
      rw[qaN _ _ _ (by omega),qdP _ _ _ (by omega)]
      by_cases hin:off≤j∧j<off+xs.length
      ·rw[if_pos hin,if_pos (by omega)]
       have:=c3 (j-off) (by omega)
       simpa [List.getD,Array.getD_eq_getD_getElem?] using this
      ·rw[if_neg hin,if_neg (by omega)]
       exact hv j hj)
     refine⟨undef,_,φ',.inr ⟨?_,rfl⟩,a1,a2,a3,.junk⟩
     simp only[Instr.storeAt,Instr.sureAddr,Sem.run_bind,Sem.run_pure,Result.andThen_ok,hrun]
   ·simp at h
  ·simp at h
 ·rename_i ti i g k idx off z hti
  have ht:=hT _ _ hti
  split at h
  ·rename_i g' k' dp l hi
   have key : ∀ {dp':DP},g=g'∧k=k'→idx<l.length→off+ti.size≤k→vx.cells.size=ti.size→(∀ j,j<ti.size→(vx.cells.getD j undef).oneCell'=true)→∀ (y:D),y.cells.length=k→(∀ c∈y.cells,c.one=true)→
     (∀ arr rest,0<k→(∀ x∈l,x.cells.length=k)→l.length*k≤arr.size→RowRel S φ H w k dp (flat l) arr rest→∃ rest',rest'.Sublist rest∧RowRel S φ H w k dp' (flat (l.set idx y)) (stored' arr (idx*k+off) vx.cells.toList) rest')→
     qb9 S φ H w ((do Instr.storeAt t vp vx;pure .skip:Sem Next).run P w) .junk (H.set i (.row g' k' dp' (l.set idx y))):=by
    intro dp' hgk hidx hfit c2 hone y hy hy1 hrow
    obtain⟨rfl,rfl⟩:=hgk
    obtain⟨hk,he,ho,hlim,hrel⟩:=s.rel i _ hi
    rcases hrel with⟨_,rfl⟩|⟨b,rest,arr,ty,hfp,hb,hsz,hr⟩
    ·simp at hidx
    ·cases hp with
     | eptr hlt hg hpr h1=>
      obtain⟨b',rest',hfp',rfl⟩:=hpr dp l hi
      rw[hfp] at hfp'
      simp at hfp'
      obtain⟨rfl,rfl⟩:=hfp'
      have hm:=Nat.mul_le_mul_right k hidx
      rw[Nat.succ_mul] at hm
      have hl:vx.cells.toList.length=ti.size:=by simp[c2]
      have hrun:=qek ht hb c2 (o:=idx*k+off) (by omega) hone
      have he' : ∀ x∈l.set idx y,x.cells.length=k:=fun x hx=>by
       rcases List.mem_or_eq_of_mem_set hx with h|h
       ·exact he x h
       ·rw[h];exact hy
      obtain⟨rest',hsub,hrr⟩:=hrow arr rest hk he hsz hr
      obtain⟨φ',a1,a2,a3⟩:=qhk s hi hfp hb (arr':=stored' arr (idx*k+off) vx.cells.toList) (l':=l.set idx y) (qbj _ _ _ (by omega)) he' (by
       intro c hc
       obtain⟨x,hx,hcx⟩:=qaY.1 hc
       rcases List.mem_or_eq_of_mem_set hx with h|h
       ·exact ho c (qaY.2 ⟨x,h,hcx⟩)
       ·subst h;exact hy1 c hcx) (by simp) hsub hrr
      refine⟨undef,_,φ',.inr ⟨?_,rfl⟩,a1,a2,a3,.junk⟩
      simp only[Instr.storeAt,Instr.sureAddr,Sem.run_bind,Sem.run_pure,Result.andThen_ok,hrun]
   have place : ∀ {arr:Array Value},0<k→(∀ x∈l,x.cells.length=k)→l.length*k≤arr.size→idx<l.length→off+ti.size≤k→vx.cells.size=ti.size→∀ (y:D),y.cells.length=k→∀ (ys:List D),
     (∀ j,j<k→y.cells.getD j .nil=if off≤j∧j<off+ti.size then ys.getD (j-off) .nil else(l.getD idx z).cells.getD j .nil)→
     (flat (l.set idx y)).length=(flat l).length∧idx*k+off+ti.size≤(flat l).length∧
     (∀ j,j<ti.size→(flat (l.set idx y)).getD (idx*k+off+j) .nil=ys.getD j .nil∧(stored' arr (idx*k+off) vx.cells.toList).getD (idx*k+off+j) undef=vx.cells.getD j undef∧
      (flat l).getD (idx*k+off+j) .nil=(l.getD idx z).cells.getD (off+j) .nil)∧
     (∀ j,j<(flat l).length→¬ (idx*k+off≤j∧j<idx*k+off+ti.size)→(stored' arr (idx*k+off) vx.cells.toList).getD j undef=arr.getD j undef∧(flat (l.set idx y)).getD j .nil=(flat l).getD j .nil):=by
    intro arr hk he hsz hidx hfit c2 y hy ys hcells
    have hm:=Nat.mul_le_mul_right k hidx
    rw[Nat.succ_mul] at hm
    have hl:vx.cells.toList.length=ti.size:=by simp[c2]
    have hfl:=flat_length he
    have he' : ∀ x∈l.set idx y,x.cells.length=k:=fun x hx=>by
     rcases List.mem_or_eq_of_mem_set hx with h|h
     ·exact he x h
     ·rw[h];exact hy
    have hfl':=flat_length he'
    simp only[List.length_set] at hfl'
    have spot : ∀ j,j<k→(idx*k+j)/k=idx∧(idx*k+j)%k=j:=fun j hj=>by
     rw[Nat.mul_comm,Nat.mul_add_div hk,Nat.mul_add_mod,Nat.div_eq_of_lt hj,Nat.mod_eq_of_lt hj]
     exact⟨rfl,rfl⟩
    refine⟨by rw[hfl,hfl'],by omega,fun j hj=>?_,fun j hj hn=>?_⟩
    ·obtain⟨s1,s2⟩:=spot (off+j) (by omega)
     rw[←Nat.add_assoc] at s1 s2
     refine⟨?_,?_,?_⟩
     ·rw[qga he hk hidx hy _ (by omega),if_pos s1,s2,hcells _ (by omega),if_pos (by omega)]
      congr 1;omega
     ·rw[qaN _ _ _ (by omega),if_pos (by omega)]
      rw[show idx*k+off+j-(idx*k+off)=j by omega]
      simp[List.getD,Array.getD_eq_getD_getElem?]
     ·have:=qaF he hidx (j:=off+j) (by omega) z
      rw[←Nat.add_assoc] at this
      exact this
    ·rw[qaN _ _ _ (by omega),if_neg (by omega)]
     refine⟨rfl,?_⟩
     rw[hfl] at hj
     rw[qga he hk hidx hy j hj]
     split
     ·rename_i hq
      have hrm:j%k<k:=Nat.mod_lt _ hk
      have hj':(j/k)*k+j%k=j:=by rw[Nat.mul_comm];exact Nat.div_add_mod j k
      rw[hq] at hj'
      rw[hcells _ hrm,if_neg (by omega)]
      have:=qaF he hidx hrm z
      rw[hj'] at this
      exact this.symm
     ·rfl
   have elem:idx<l.length→k=k'→off+ti.size≤k→∀ (ys:List D),ys.length=ti.size→(∀ c∈ys,c.one=true)→
     (∀ c∈(D.agg (setD (qab (l.getD idx z) 0 k) off ys)).cells,c.one=true)∧(D.agg (setD (qab (l.getD idx z) 0 k) off ys)).cells.length=k∧
     ∀ j,j<k→(D.agg (setD (qab (l.getD idx z) 0 k) off ys)).cells.getD j .nil=if off≤j∧j<off+ti.size then ys.getD (j-off) .nil else(l.getD idx z).cells.getD j .nil:=by
    rintro hidx rfl hfit ys c1 h1
    obtain⟨hk,he,ho,hlim,hrel⟩:=s.rel i _ hi
    have hmemE:l.getD idx z∈l:=getD_mem hidx
    have hcl:=he _ hmemE
    have hcf:qab (l.getD idx z) 0 k=(l.getD idx z).cells:=by
     apply List.ext_getElem (by rw[qaf,hcl])
     intro m h1 h2
     rw[qak _ _ _ .nil,qak _ _ _ .nil,qap _ _ _ _ (by omega),Nat.zero_add,qbm _ _ (by omega)]
    refine⟨?_,by simp only[D.cells,qdr,qaf],?_⟩
    ·intro c hc
     obtain⟨m,hm,rfl⟩:=List.getElem_of_mem hc
     simp only[D.cells] at hm ⊢
     rw[qdr,qaf] at hm
     rw[qak _ _ _ .nil,qeS _ _ _ (by rw[qaf];omega)]
     split
     ·exact h1 _ (getD_mem (by omega))
     ·rw[hcf]
      exact ho _ (qaY.2 ⟨_,hmemE,getD_mem (by omega)⟩)
    ·intro j hj
     show(setD (qab (l.getD idx z) 0 k) off ys).getD j .nil=_
     rw[qeS _ _ _ (by rw[qaf];omega),c1,hcf]
   have one1 : ∀ {y:D},y.one=true→y.cells=[y]:=fun {y} hy=>by cases y <;> first|rfl|simp[D.one] at hy
   split at h
   ·rename_i vc' xs hc
    have scal:vc'→k=k'→idx<l.length→off+ti.size≤k→∀ (y:D),y.cells.length=k→
      (∀ j,j<k→y.cells.getD j .nil=if off≤j∧j<off+ti.size then xs.getD (j-off) .nil else(l.getD idx z).cells.getD j .nil)→
      (dp.o=true→(∀ c∈qab (l.getD idx z) off ti.size,c.scalar=true)∧(∀ c∈xs,c.scalar=true))→
      ∀ arr rest,0<k→(∀ x∈l,x.cells.length=k)→l.length*k≤arr.size→RowRel S φ H w k dp (flat l) arr rest→∃ rest',rest'.Sublist rest∧RowRel S φ H w k dp (flat (l.set idx y)) (stored' arr (idx*k+off) vx.cells.toList) rest':=by
     intro hvc' hkk hidx hfit y hy hcells hss arr rest hk he hsz hr
     obtain⟨c1,c2,c3⟩:=qcR hx hc hvc'
     obtain⟨p1,p2,p3,p4⟩:=place hk he hsz hidx hfit c2 y hy xs hcells
     refine⟨rest,List.Sublist.refl _,qd6 hr p1 fun j hj=>?_⟩
     by_cases hin:idx*k+off≤j∧j<idx*k+off+ti.size
     ·obtain⟨m,rfl⟩ : ∃ m,j=idx*k+off+m:=⟨j-(idx*k+off),by omega⟩
      obtain⟨r1,r2,r3⟩:=p3 m (by omega)
      rw[r1,r2]
      refine .inr ⟨fun hd=>⟨?_,(hss hd).2 _ (getD_mem (by omega))⟩,(c3 m (by omega)).2⟩
      rw[r3]
      have:=qap (l.getD idx z) off ti.size m (by omega)
      rw[qbm _ _ (by rw[he _ (getD_mem hidx)];omega)] at this
      rw[←this]
      exact(hss hd).1 _ (getD_mem (by rw[qaf];omega))
     ·exact .inl (p4 j hj hin)
    split at h
    ·rename_i hk1
     simp only[Option.some.injEq,Prod.mk.injEq] at h
     obtain⟨rfl,rfl⟩:=h
     obtain⟨hvc',rfl,rfl,hidx,rfl,hts,hs⟩:=hvc
     have hk1:k=1:=by simpa using hk1
     subst hk1
     obtain⟨c1,c2,c3⟩:=qcR hx hc hvc'
     have hone1:(xs.getD 0 .nil).one=true:=(c3 0 (by omega)).1
     have hcy:=one1 hone1
     have hsc : ∀ {y:D},y.scalar=true→y.cells=[y]:=fun {y} hy=>by cases y <;> first|rfl|simp[D.scalar] at hy
     have hx1:xs=[xs.getD 0 .nil]:=by
      match xs,c1 with
      | [a],_=>rfl
      | [],c1=>simp at c1;omega
      | _::_::_,c1=>simp at c1;omega
     have hcl:(xs.getD 0 .nil).cells.length=1:=by rw[hcy];rfl
     refine key ⟨rfl,rfl⟩ hidx (by omega) c2 (fun j hj=>(c3 j hj).2.one (c3 j hj).1) _ hcl (by rw[hcy];intro c hc;simp only[List.mem_singleton] at hc;subst hc;exact hone1)
      (scal hvc' rfl hidx (by omega) _ hcl (fun j hj=>?_) (fun hd=>⟨?_,?_⟩))
     ·obtain rfl:j=0:=by omega
      rw[if_pos (by omega),hcy]
      rfl
     ·rw[hts]
      simp only[qab,List.mem_singleton]
      rintro c rfl
      have hsd:=(hs hd).1
      rw[show(l.getD idx z).cellAt 0=l.getD idx z from by rw[qbm _ _ (by rw[hsc hsd];simp),hsc hsd];rfl]
      exact hsd
     ·intro c hc
      rw[hx1] at hc
      simp only[List.mem_singleton] at hc
      rw[hc]
      exact(hs hd).2
    ·rename_i hk1
     simp only[Option.some.injEq,Prod.mk.injEq] at h
     obtain⟨rfl,rfl⟩:=h
     obtain⟨hvc',rfl,rfl,hidx,hfit,hk2,hss⟩:=hvc
     obtain⟨c1,c2,c3⟩:=qcR hx hc hvc'
     obtain⟨q1,q2,q3⟩:=elem hidx rfl hfit xs c1 (by
      intro c hc
      obtain⟨m,hm,rfl⟩:=List.getElem_of_mem hc
      rw[qak _ _ _ .nil]
      exact(c3 m (by omega)).1)
     exact key ⟨rfl,rfl⟩ hidx hfit c2 (fun j hj=>(c3 j hj).2.one (c3 j hj).1) _ q2 q1 (scal hvc' rfl hidx hfit _ q2 q3 hss)
   ·split at h
    ·rename_i hs vc' xs hc
     have hol:vc'→k=k'→idx<l.length→off+ti.size≤k→qbw xs→qcc idx off ti.size hs→∀ (y:D),y.cells.length=k→
       (∀ j,j<k→y.cells.getD j .nil=if off≤j∧j<off+ti.size then(xs.map qaX).getD (j-off) .nil else(l.getD idx z).cells.getD j .nil)→
       ∀ arr rest,0<k→(∀ x∈l,x.cells.length=k)→l.length*k≤arr.size→RowRel S φ H w k (.own hs) (flat l) arr rest→
        ∃ rest',rest'.Sublist rest∧RowRel S φ H w k (.own (qaw idx off xs)) (flat (l.set idx y)) (stored' arr (idx*k+off) vx.cells.toList) rest':=by
      intro hvc' hkk hidx hfit hsc hcov y hy hcells arr rest hk he hsz hr
      obtain⟨c1,c2,c3⟩:=qaW hx hc hvc'
      obtain⟨p1,p2,p3,p4⟩:=place hk he hsz hidx hfit c2 y hy _ hcells
      refine qgK hr p1 (by rw[c1];exact hcov) (by rw[c1];exact p2) hsc (fun j hj=>?_) (fun j hj hn=>p4 j hj (by rw[c1] at hn;exact hn))
      obtain⟨r1,r2,r3⟩:=p3 j (by omega)
      rw[r1,r2]
      refine⟨?_,c3 j (by omega)⟩
      simp[List.getD,hj]
     have plc:vc'→qbw xs→(∀ c∈xs.map qaX,c.one=true):=by
      intro hvc' hsc c hc'
      obtain⟨c1,c2,c3⟩:=qaW hx hc hvc'
      obtain⟨x,hx',rfl⟩:=List.mem_map.1 hc'
      obtain⟨m,hm,rfl⟩:=List.getElem_of_mem hx'
      have:=qcb hsc hm
      rw[←qak _ _ hm] at this
      generalize xs[m]=x at this
      cases x with
      | d c=>simp only[qgI] at this;cases c <;> first|rfl|simp[D.scalar] at this
      | _=>rfl
     split at h
     ·rename_i hk1
      simp only[Option.some.injEq,Prod.mk.injEq] at h
      obtain⟨rfl,rfl⟩:=h
      obtain⟨hvc',rfl,rfl,hidx,rfl,hts,hsc,hcov⟩:=hvc
      have hk1:k=1:=by simpa using hk1
      subst hk1
      obtain⟨c1,c2,c3⟩:=qaW hx hc hvc'
      have hp1:=plc hvc' hsc
      have hone1:(qaX (xs.getD 0 .junk)).one=true:=hp1 _ (List.mem_map.2 ⟨_,getD_mem (by omega),rfl⟩)
      have hcy:=one1 hone1
      have hcl:(qaX (xs.getD 0 .junk)).cells.length=1:=by rw[hcy];rfl
      refine key ⟨rfl,rfl⟩ hidx (by omega) c2 (fun j hj=>(c3 j hj).1) _ hcl (by rw[hcy];intro c hc;simp only[List.mem_singleton] at hc;subst hc;exact hone1)
       (hol hvc' rfl hidx (by omega) hsc hcov _ hcl (fun j hj=>?_))
      obtain rfl:j=0:=by omega
      rw[if_pos (by omega),hcy]
      have hx0:0<xs.length:=by omega
      simp[List.getD,hx0]
     ·rename_i hk1
      simp only[Option.some.injEq,Prod.mk.injEq] at h
      obtain⟨rfl,rfl⟩:=h
      obtain⟨hvc',rfl,rfl,hidx,hfit,hk2,hsc,hcov⟩:=hvc
      obtain⟨c1,c2,c3⟩:=qaW hx hc hvc'
      obtain⟨q1,q2,q3⟩:=elem hidx rfl hfit (xs.map qaX) (by simp[c1]) (plc hvc' hsc)
      exact key ⟨rfl,rfl⟩ hidx hfit c2 (fun j hj=>(c3 j hj).1) _ q2 q1 (hol hvc' rfl hidx hfit hsc hcov _ q2 q3)
    ·simp at h
  ·simp at h
 ·simp at h
end Go.VL
