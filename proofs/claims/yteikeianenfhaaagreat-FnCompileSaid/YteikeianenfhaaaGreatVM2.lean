/- Part 7: arithmetic, comparisons, lengths, parts of slices; all reading operations in one function. Conditions: none; lemmas. -/
import Derived.Test.YteikeianenfhaaaGreatVM1
import Derived.Laws.BytesString
import Derived.MapKept
import Derived.Laws.MakeOwn
import Derived.Laws.CopyOwn
set_option linter.unusedVariables false
set_option linter.unusedSimpArgs false
set_option maxHeartbeats 2000000
set_option linter.defProp false
namespace Go.VL
variable {t e m:Nat}{k:IntKind}{x y n:Int}{vx:Value}{vc:Prop}{op:BinOp}{xo yo:Operand}
variable {P:Program}{S:Nat->Prop}{φ : List ZC}{H:ZF}{w:World}{T:Nat->Option TI}
def dt (o:Option I) (dflt:Int):Option Int:=
 match o with
 | none=>some dflt
 | some (.d x)=>some x.toInt
 | _=>none
def bL:Option I->Prop
 | none=>True
 | some (.d x)=>x.isInt .i64
 | _=>False
def z3 (k:Nat) (xd:D) (l h:Int):D:=
 match xd with
 | .nil=>.nil
 | xd=>.lst k ((xd.elems.drop l.toNat).take (h-l).toNat)
def v6 (T:Nat->Option TI) (H:ZF) (t:Nat) (x:I) (lo hi mx:Option I):Option (Prop×I):=
 match T t,mx with
 | some ti,none=>
  match ti.ty with
  | .slice e=>
   match T e with
   | some ei=>
    match x with
    | .d xd=>
     match dt lo 0,dt hi xd.elems.length with
     | some l,some h=>some (xd.dc ei.size/\bL lo/\bL hi/\0<ei.size/\0<=l/\l<=h/\h<=xd.elems.length,.d (z3 ei.size xd l h))
     | _,_=>none
    | .sl i g k l0 n=>
     match H[i]? with
     | some (.row g' k' _ _)=>
      match dt lo 0,dt hi n with
      | some l,some h=>some (g=g'/\k=k'/\k=ei.size/\bL lo/\bL hi/\0<=l/\l<=h/\h<=n,.sl i g k (l0+l.toNat) (h-l).toNat)
      | _,_=>none
     | _=>none
    | _=>none
   | none=>none
  | _=>none
 | _,_=>none
def wi (ov:Option Value) (dflt r:Int):Prop:=
 match ov with
 | none=>r=dflt
 | some v=>v=.int .i64 r
def Ch {ti ei:TI}(ht:a0 P t ti) (he:a0 P e ei) (hy:ti.ty=.slice e) (a:Option Addr) (len cap:Nat) (hlc:len<=cap) (lo hi:Option Value) {l h:Int}
  (hlo:wi lo 0 l) (hhi:wi hi len h) (h0:0<=l) (h1:l<=h) (h2:h<=len) (w:World) :
  (Instr.sliceAt t (.slice a len cap) lo hi none).run P w=.ok (.slice (if cap=l.toNat then a else a.map (·.add (l.toNat*ei.size))) (h-l).toNat (cap-l.toNat)) w:=by
 have hu:=ht.aH hy;have e1:(Instr.sliceBounds true len cap lo hi none).run P w=.ok (l.toNat,h.toNat,cap) w:=by
  have hhc:h<=cap:=by omega
  have hb:(match hi with|none=>(pure len:Sem Nat)|some v=>Instr.sliceBound v cap .sliceAcap).run P w=.ok h.toNat w:=by
   cases hi with
   | none=>simp only[wi] at hhi;subst hhi;simp
   | some v=>simp only[wi] at hhi;subst hhi;simp[Instr.sliceBound,asIntOf,show 0<=h by omega,hhc]
  have ha:(match lo with|none=>(pure 0:Sem Nat)|some v=>Instr.sliceBound v h.toNat .sliceB).run P w=.ok l.toNat w:=by
   cases lo with
   | none=>simp only[wi] at hlo;subst hlo;simp
   | some v=>simp only[wi] at hlo;subst hlo;simp[Instr.sliceBound,asIntOf,h0];omega
  cases hi <;> cases lo <;> simp_all[Instr.sliceBounds]
 have e2:(Instr.slice t (.slice a len cap) lo hi none).run P w=.ok (.slice (if cap=l.toNat then a else a.map (·.add (l.toNat*ei.size))) (h-l).toNat (cap-l.toNat)) w:=by
  simp only[Instr.slice,Sem.run_bind,run_underlying hu,Result.andThen_ok,e1,he.run_sizeOf,Sem.run_pure];congr 2;omega
 simp only[Instr.sliceAt,Sem.run_bind,run_underlying hu,Result.andThen_ok];exact e2
def FZ.sub {k:Nat}{x:D}{v:Value}(h:FZ S w x v) (hx:x.dc k) (hk:0<k) {l:Nat}(hm:l+m<=x.elems.length) :
  ∃ a cap,v=.slice a x.elems.length cap/\x.elems.length<=cap/\FZ S w (.lst k ((x.elems.drop l).take m)) (.slice (if cap=l then a else a.map (·.add (l*k))) m (cap-l)):=by
 cases h <;> simp[D.dc] at hx
 ·refine⟨none,0,rfl,aD _,?_⟩;simp[D.elems] at hm;obtain⟨rfl,rfl⟩:=hm;simp only[D.elems,List.drop_nil,List.take_nil];exact .lst0 hk
 ·rename_i k' a cap hk';refine⟨a,cap,rfl,kM _,?_⟩;simp[D.elems] at hm;obtain⟨rfl,rfl⟩:=hm;simp only[D.elems,List.drop_nil,List.take_nil];exact .lst0 hk
 ·rename_i k' L b off cap f hk' he h1 hn hlim hS hc hf
  replace hx:=hx.symm
  subst hx;refine⟨_,cap,rfl,hn,?_⟩;simp only[D.elems] at hm ⊢;have hlen:((L.drop l).take m).length=m:=by simp;omega
  by_cases hm0:m=0
  ·subst hm0;simp only[List.take_zero];exact .lst0 hk
  ·have hcl : ¬ cap=l:=by omega
   rw[if_neg hcl];simp only[dE,Addr.add_lit];have hmemE : ∀ x∈(L.drop l).take m,x∈L:=fun x hx=>o6 (kG hx)
   have hfl:=an he;have hfl':=an (fun x hx=>he x (hmemE x hx));have hidx : ∀ j,j<(flat ((L.drop l).take m)).length->l*k+j<(flat L).length/\(flat ((L.drop l).take m)).getD j .nil=(flat L).getD (l*k+j) .nil:=by
    intro j hj;rw[hfl',hlen] at hj;have hm2:=kD k hm;rw[jI] at hm2;refine⟨by omega,?_⟩;have hq:j/k<m:=Nat.div_lt_of_lt_mul (by rw[p8];exact hj);have hr:j%k<k:=Nat.mod_lt _ hk;have hj':j=(j/k)*k+j%k:=by rw[p8];exact(Nat.div_add_mod j k).symm
    have e1:=nV (fun x hx=>he x (hmemE x hx)) (i:=j/k) (by omega) hr .nil;have e2:=nV he (i:=l+j/k) (by omega) hr .nil;rw[<-hj'] at e1;rw[jI,ja,<-hj'] at e2;rw[e1,e2];congr 2;rw[aM _ _ _ _ hq,cM]
   have:=FZ.lst (S:=S) (w:=w) (k:=k) (l:=(L.drop l).take m) (b:=b) (off:=off+l*k) (cap:=cap-l) (fun j=>f (l*k+j)) hk (fun x hx=>he x (hmemE x hx)) ?_ (by omega) (by omega) hS ?_ ?_
   ·rw[hlen] at this;exact this
   ·intro c hc';obtain⟨x,hx,hcx⟩:=nK.1 hc';exact h1 c (nK.2 ⟨x,hmemE x hx,hcx⟩)
   ·intro j hj;rw[ja];exact hc _ (hidx j hj).1
   ·intro j hj;rw[(hidx j hj).2];exact hf _ (hidx j hj).1
def Db {o:Option I}{ov:Option Value}(hv : ∀ x,o=some x->∃ v,ov=some v/\V S φ H w x v) (hn:o=none->ov=none) {dflt r:Int}(h:dt o dflt=some r) (hc:bL o) :
  wi ov dflt r:=by
 cases o with
 | none=>
  rw[hn rfl];simpa [dt,wi] using h.symm
 | some x=>
  obtain⟨v,rfl,hx⟩:=hv x rfl;cases x <;> simp[dt] at h
  subst h;exact(hx.fz.ak hc).2.1
def PV (hT:bQ P T) {x:I}{lo hi mx:Option I}{vlo vhi vmx:Option Value}(hx:V S φ H w x vx)
  (hlo : ∀ x,lo=some x->∃ v,vlo=some v/\V S φ H w x v) (hlo':lo=none->vlo=none) (hhi : ∀ x,hi=some x->∃ v,vhi=some v/\V S φ H w x v) (hhi':hi=none->vhi=none) (hmx:mx=none->vmx=none)
  {y:I}(h:v6 T H t x lo hi mx=some (vc,y)) (hvc:vc) :
  ∃ v,V S φ H w y v/\∀ w2,(Instr.sliceAt t vx vlo vhi vmx).run P w2=.ok v w2:=by
 unfold v6 at h;split at h
 ·rename_i ti hti;obtain rfl:=hmx rfl;have ht:=hT _ _ hti;split at h
  ·rename_i e hy;split at h
   ·rename_i ei hei;have he:=hT _ _ hei;split at h
    ·rename_i xd;split at h
     ·rename_i l hh hl1 hh1;simp only[aE,aK] at h;obtain⟨rfl,rfl⟩:=h;obtain⟨hl,hc1,hc2,hk,h0,h1,h2⟩:=hvc;have v1:=Db hlo hlo' hl1 hc1;have v2:=Db hhi hhi' hh1 hc2;by_cases hnil:xd=.nil
      ·subst hnil;have hxz:=hx.fz;cases hxz;have hl0:l=0:=by simp only[D.elems,kr] at h2;omega
       have hh0:hh=0:=by simp only[D.elems,kr] at h2;omega
       subst hl0;subst hh0;refine⟨.slice none 0 0,.d .nil,fun w2=>?_⟩;rw[Ch ht he hy none 0 0 (aD _) vlo vhi v1 v2 h0 h1 (Int.le_refl _) w2];rfl
      obtain⟨a,cap,rfl,hcap,hz⟩:=hx.fz.sub hl hk (l:=l.toNat) (m:=(hh-l).toNat) (by omega);have hsd:z3 ei.size xd l hh=.lst ei.size ((xd.elems.drop l.toNat).take (hh-l).toNat):=by
       cases xd <;> first|rfl|exact absurd rfl hnil
      rw[hsd];exact⟨_,.d hz,fun w2=>Ch ht he hy a _ cap hcap vlo vhi v1 v2 h0 h1 h2 w2⟩
     ·simp at h
    ·rename_i i g k l0 n;split at h
     ·rename_i g' k' dp L hroot;split at h
      ·rename_i l hh hl1 hh1;simp only[aE,aK] at h;obtain⟨rfl,rfl⟩:=h;obtain⟨rfl,rfl,rfl,hc1,hc2,h0,h1,h2⟩:=hvc;have v1:=Db hlo hlo' hl1 hc1;have v2:=Db hhi hhi' hh1 hc2;cases hx with
       | sl hlt hg hrel ho=>
        obtain⟨hsl,hle⟩:=hrel dp L hroot;rcases hsl with⟨hfp,rfl,rfl,rfl⟩|⟨b,rest,cap,arr,ty,a,hfp,rfl,hn,hc,hlim,hb,hfit⟩
        ·have hl0:l=0:=by omega
         have hh0:hh=0:=by omega
         subst hl0;subst hh0;refine⟨.slice none 0 0,.sl hlt hg (fun dp' L' hL'=>⟨.inl ⟨hfp,rfl,rfl,rfl⟩,by simp⟩) rfl,fun w2=>?_⟩;rw[Ch ht he hy none 0 0 (aD _) vlo vhi v1 v2 h0 h1 h2 w2];rfl
        ·refine⟨.slice (if cap=l.toNat then a else a.map (·.add (l.toNat*ei.size))) (hh-l).toNat (cap-l.toNat),.sl hlt hg (fun dp' L' hL'=>⟨.inr ⟨b,rest,cap-l.toNat,arr,ty,_,hfp,rfl,by omega,by omega,by omega,hb,?_⟩,?_⟩) rfl,fun w2=>Ch ht he hy a _ cap hn vlo vhi v1 v2 h0 h1 h2 w2⟩
         ·intro hor;by_cases hcl:cap=l.toNat
          ·rcases hor with hor|hor
           ·omega
           ·have hl0:l0=0:=by omega
            obtain⟨ha,hfit'⟩:=hfit (.inr hl0);rw[if_pos hcl,ha];subst hl0;have:l.toNat=0:=by omega
            rw[this];exact⟨by simp,by simp;omega⟩
          ·obtain⟨ha,hfit'⟩:=hfit (by omega);rw[if_neg hcl,ha];simp only[dE,Addr.add_lit];refine⟨by rw[jI],?_⟩;have:(l0+l.toNat)*ei.size+(cap-l.toNat)*ei.size=l0*ei.size+cap*ei.size:=by
            rw[<-jI,<-jI];congr 1;omega
           omega
         ·rw[hroot] at hL';simp at hL';obtain⟨_,rfl⟩:=hL';omega
      ·simp at h
     ·simp at h
    ·simp at h
   ·simp at h
  ·simp at h
 ·simp at h
def qY:Option TI->Bool
 | some ⟨.int .i64,_,_,_⟩=>true
 | _=>false
def su (T:Nat->Option TI):Nat->List (Nat×Nat)->Prop
 | _,[]=>True
 | j,(o,t)::r=>o=j/\qY (T t)=true/\su T (j+1) r
def bu:ZD->Prop
 | []=>True
 | x::r=>x.isInt .i64/\bu r
def pH:ZD->ZD->Bool
 | x::r,y::s=>decide (x.toInt=y.toInt)&&pH r s
 | _,_=>true
def qh:Option TI->D->D->Prop
 | some ⟨.int .i64,_,_,_⟩,x,y=>x.isInt .i64/\y.isInt .i64
 | some ⟨.bool,_,_,_⟩,x,y=>x.isBool/\y.isBool
 | _,_,_=>False
def qe:Option TI->D->D->Bool
 | some ⟨.bool,_,_,_⟩,x,y=>x.toBool == y.toBool
 | _,x,y=>decide (x.toInt=y.toInt)
def mr (T:Nat->Option TI):Nat->List (Nat×Nat)->ZD->ZD->Prop
 | _,[],_,_=>True
 | j,(o,t)::r,x::xs,y::ys=>o=j/\qh (T t) x y/\mr T (j+1) r xs ys
 | _,_::_,_,_=>False
def qj (T:Nat->Option TI):List (Nat×Nat)->ZD->ZD->Bool
 | (_,t)::r,x::xs,y::ys=>qe (T t) x y&&qj T r xs ys
 | _,_,_=>true
def jn (x y:Int):Int:=x.tmod y
def aC (h:0<=x):jn x y=x%y:=Int.tmod_eq_emod_of_nonneg h
def uz (x:Int) (h:0<y):(0<=x->0<=jn x y/\jn x y<y)/\(x<0->x<=jn x y/\jn x y<=0/\-y<jn x y):=by
 refine⟨fun h0=>?_,fun h0=>?_⟩
 ·rw[aC h0];exact⟨Int.emod_nonneg _ (by omega),Int.emod_lt_of_pos _ h⟩
 ·obtain⟨z,rfl⟩ : ∃ z,x = -z:=⟨-x,by omega⟩;unfold jn;rw[Int.neg_tmod,Int.tmod_eq_emod_of_nonneg (by omega)];have h1:=Int.emod_nonneg z (show y≠0 by omega);have h2:=Int.emod_lt_of_pos z h;have h3:z%y<=z:=by
   rw[Int.emod_def];have:=Int.mul_nonneg (show 0<=y by omega) (Int.ediv_nonneg (show 0<=z by omega) (show 0<=y by omega));omega
  omega
def lT (T:Nat->Option TI) (H:ZF) (op:BinOp) (t:Nat) (x y:I):Option (Prop×I):=
 match T t with
 | some ti=>
  match ti.ty,x,y with
  | .int k,.d x,.d y=>
   match op with
   | .add=>some (x.isInt k/\y.isInt k/\cp k (x.toInt+y.toInt),.d (.int k (x.toInt+y.toInt)))
   | .sub=>some (x.isInt k/\y.isInt k/\cp k (x.toInt-y.toInt),.d (.int k (x.toInt-y.toInt)))
   | .mul=>some (x.isInt k/\y.isInt k/\cp k (x.toInt*y.toInt),.d (.int k (x.toInt*y.toInt)))
   | .quo=>some (x.isInt k/\y.isInt k/\0<=x.toInt/\0<y.toInt,.d (.int k (x.toInt/y.toInt)))
   | .rem=>some (x.isInt k/\y.isInt k/\0<y.toInt,.d (.int k (jn x.toInt y.toInt)))
   | .and=>some (x.isInt k/\y.isInt k/\0<=x.toInt/\0<=y.toInt,.d (.int k ((x.toInt.toNat &&& y.toInt.toNat:Nat):Int)))
   | .or=>some (x.isInt k/\y.isInt k/\0<=x.toInt/\0<=y.toInt,.d (.int k ((x.toInt.toNat ||| y.toInt.toNat:Nat):Int)))
   | .xor=>some (x.isInt k/\y.isInt k/\0<=x.toInt/\0<=y.toInt,.d (.int k ((x.toInt.toNat ^^^ y.toInt.toNat:Nat):Int)))
   | .shl=>some (x.isInt k/\y.fb/\0<=y.toInt/\y.toInt<=k.bits/\cp k (x.toInt*2 ^ y.toInt.toNat),.d (.int k (x.toInt*2 ^ y.toInt.toNat)))
   | .shr=>some (x.isInt k/\y.fb/\0<=y.toInt/\y.toInt<=k.bits,.d (.int k (x.toInt/2 ^ y.toInt.toNat)))
   | .eql=>some (x.isInt k/\y.isInt k,.d (.bool (decide (x.toInt=y.toInt))))
   | .neq=>some (x.isInt k/\y.isInt k,.d (.bool (!decide (x.toInt=y.toInt))))
   | .lss=>some (x.isInt k/\y.isInt k,.d (.bool (decide (x.toInt<y.toInt))))
   | .leq=>some (x.isInt k/\y.isInt k,.d (.bool (decide (x.toInt<=y.toInt))))
   | .gtr=>some (x.isInt k/\y.isInt k,.d (.bool (decide (y.toInt<x.toInt))))
   | .geq=>some (x.isInt k/\y.isInt k,.d (.bool (decide (y.toInt<=x.toInt))))
   | _=>none
  | .bool,.d x,.d y=>
   match op with
   | .eql=>some (x.isBool/\y.isBool,.d (.bool (x.toBool == y.toBool)))
   | .neq=>some (x.isBool/\y.isBool,.d (.bool (!(x.toBool == y.toBool))))
   | _=>none
  | .slice _,.d x,.d .nil=>
   match op with
   | .eql=>some (x.gT/\(x=.nil∨x.elems≠[]),.d (.bool x.isNil))
   | .neq=>some (x.gT/\(x=.nil∨x.elems≠[]),.d (.bool (!x.isNil)))
   | _=>none
  | .slice _,.sl i g k lo n,.d .nil=>
   match H[i]? with
   | some (.row g' k' _ _)=>
    match op with
    | .eql=>some (g=g'/\k=k'/\0<n,.d (.bool false))
    | .neq=>some (g=g'/\k=k'/\0<n,.d (.bool true))
    | _=>none
   | _=>none
  | .struct fs,.d (.agg cs),.d (.agg ds)=>
   match op with
   | .eql=>some (cs.length=fs.length/\ds.length=fs.length/\mr T 0 fs cs ds,.d (.bool (qj T fs cs ds)))
   | .neq=>some (cs.length=fs.length/\ds.length=fs.length/\mr T 0 fs cs ds,.d (.bool (!(qj T fs cs ds))))
   | _=>none
  | .string,.d (.raw (.string a)),.d (.raw (.string b))=>
   match op with
   | .eql=>some (True,.d (.bool (a.toList == b.toList)))
   | .neq=>some (True,.d (.bool (!(a.toList == b.toList))))
   | _=>none
  | _,_,_=>none
 | none=>none
def qq : ∀ {l:ZD},bu l->∀ j,j<l.length->(l.getD j .nil).isInt .i64
 | [],_,j,h=>by simp at h
 | x::r,hc,0,_=>hc.1
 | x::r,hc,j+1,h=>qq hc.2 j (by simpa using h)
def I8 (hT:bQ P T) : ∀ {l:List Field}{j:Nat},su T j (l.map fun f=>(f.offset,f.type))->uv P l j=true/\∀ f∈l,∃ ti,a0 P f.type ti/\ti.ty=.int .i64
 | [],j,_=>⟨rfl,by simp⟩
 | f::r,j,h=>by
  simp only[js,su] at h;obtain⟨h1,h2,h3⟩:=h;obtain⟨i1,i2⟩:=I8 hT h3;obtain⟨ti,ht,hty⟩ : ∃ ti,T f.type=some ti/\ti.ty=.int .i64:=by
   cases e:T f.type with
   | none=>rw[e] at h2;simp[qY] at h2
   | some ti=>
    rw[e] at h2;refine⟨ti,rfl,?_⟩;obtain⟨ty,a,b,c⟩:=ti;cases ty with
    | int k=>cases k <;> first|rfl|simp[qY] at h2
    | _=>simp[qY] at h2
  have hu:=(hT _ _ ht).bl hty;refine⟨by simp only[uv,h1,beq_self_eq_true,hu,i1,Bool.and_self],fun g hg=>?_⟩;rcases List.mem_cons.1 hg with rfl|hg
  ·exact⟨ti,hT _ _ ht,hty⟩
  ·exact i2 g hg
def Mq {vs us:Array Value}{cs ds:ZD}(hv:cs.length=vs.size) (hu:ds.length=us.size) (fv : ∀ j,j<cs.length->FZ S w (cs.getD j .nil) (vs.getD j undef)) (fu : ∀ j,j<ds.length->FZ S w (ds.getD j .nil) (us.getD j undef))
  (ic : bu cs) (id : bu ds) (d : Nat) (w2 : World) : ∀ (l : List Field) (j : Nat), uv P l j = true -> (∀ f ∈ l, f.name ≠ "_") -> (∀ f ∈ l, ∃ ti, a0 P f.type ti /\ ti.ty = .int .i64) -> j + l.length = cs.length -> j + l.length = ds.length ->
  (Op.eqFields (d+1) vs us l).run P w2=.ok (pH (cs.drop j) (ds.drop j)) w2
 | [],j,_,_,_,h1,h2=>by
  simp only[kr,lL] at h1 h2;rw[sj (by omega),sj (by omega)];rfl
 | f::r,j,hfl,hnm,hti,h1,h2=>by
  simp only[eD] at h1 h2;simp only[uv,gO,beq_iff_eq] at hfl;obtain⟨⟨ho,_⟩,hr⟩:=hfl;obtain⟨ti,ht,hty⟩:=hti f (by simp);have hag:ti.ty.agg=false:=by rw[hty];rfl
  have ih:=Mq hv hu fv fu ic id d w2 r (j+1) hr (fun g hg=>hnm g (by simp[hg])) (fun g hg=>hti g (by simp[hg])) (by omega) (by omega);have xv:=fv j (by omega);have yv:=fu j (by omega);obtain⟨_,ev,kx⟩:=xv.ak (qq ic j (by omega));obtain⟨_,eu,ky⟩:=yv.ak (qq id j (by omega));have e1:cs.drop j=cs.getD j .nil::cs.drop (j+1):=by
   rw[qk (by omega),List.getD_eq_getElem?_getD,List.getElem?_eq_getElem (by omega)];rfl
  have e2:ds.drop j=ds.getD j .nil::ds.drop (j+1):=by
   rw[qk (by omega),List.getD_eq_getElem?_getD,List.getElem?_eq_getElem (by omega)];rfl
  rw[e1,e2];subst ho;simp only[Op.eqFields,hnm f (by simp),ne_eq,not_false_eq_true,if_true,Sem.run_bind,qr ht hag (show f.offset<vs.size by omega),qr ht hag (show f.offset<us.size by omega),Result.andThen_ok,ev,eu,
   run_equalIn_int w2 d f.type .i64 .i64 _ _ (ht.bl hty)]
  simp only[pH];by_cases hq:(cs.getD f.offset .nil).toInt=(ds.getD f.offset .nil).toInt
  ·simp only[hq,beq_self_eq_true,Bool.not_true,eE,if_false,decide_true,rR];exact ih
  ·simp only[beq_eq_false_iff_ne.2 hq,Bool.not_false,if_true,Sem.run_pure,decide_eq_false hq,Bool.false_and]
def HY {o:Option TI}{x y:D}(h:qh o x y) : ∃ ti,o=some ti/\((ti.ty=.int .i64/\x.isInt .i64/\y.isInt .i64/\qe o x y=decide (x.toInt=y.toInt))∨(ti.ty=.bool/\x.isBool/\y.isBool/\qe o x y=(x.toBool == y.toBool))):=by
 unfold qh at h;split at h
 ·exact⟨_,rfl,.inl ⟨rfl,h.1,h.2,rfl⟩⟩
 ·exact⟨_,rfl,.inr ⟨rfl,h.1,h.2,rfl⟩⟩
 ·exact h.elim
def II (hT:bQ P T) : ∀ {l:List Field}{j:Nat}{cs ds:ZD},mr T j (l.map fun f=>(f.offset,f.type)) cs ds->uv P l j=true
 | [],j,_,_,_=>rfl
 | f::r,j,[],_,h=>by simp[mr] at h
 | f::r,j,_::_,[],h=>by simp[mr] at h
 | f::r,j,x::xs,y::ys,h=>by
  simp only[js,mr] at h;obtain⟨h1,h2,h3⟩:=h;have ih:=II hT h3;obtain⟨ti,ht,h4⟩:=HY h2;rcases h4 with⟨hty,-⟩|⟨hty,-⟩
  ·have hu:=(hT _ _ ht).bl hty;simp only[uv,h1,beq_self_eq_true,hu,ih,Bool.and_self]
  ·have hu:=(hT _ _ ht).hY hty;simp only[uv,h1,beq_self_eq_true,hu,ih,Bool.and_self]
def JU (hT:bQ P T) {vs us:Array Value}{cs ds:ZD}(hv:cs.length=vs.size) (hu:ds.length=us.size) (fv : ∀ j,j<cs.length->FZ S w (cs.getD j .nil) (vs.getD j undef)) (fu : ∀ j,j<ds.length->FZ S w (ds.getD j .nil) (us.getD j undef))
  (d : Nat) (w2 : World) : ∀ (l : List Field) (j : Nat), mr T j (l.map fun f => (f.offset, f.type)) (cs.drop j) (ds.drop j) -> (∀ f ∈ l, f.name ≠ "_") -> j + l.length = cs.length -> j + l.length = ds.length ->
  (Op.eqFields (d+1) vs us l).run P w2=.ok (qj T (l.map fun f=>(f.offset,f.type)) (cs.drop j) (ds.drop j)) w2
 | [],j,_,_,h1,h2=>rfl
 | f::r,j,hsc,hnm,h1,h2=>by
  simp only[eD] at h1 h2;have e1:cs.drop j=cs.getD j .nil::cs.drop (j+1):=by
   rw[qk (by omega),List.getD_eq_getElem?_getD,List.getElem?_eq_getElem (by omega)];rfl
  have e2:ds.drop j=ds.getD j .nil::ds.drop (j+1):=by
   rw[qk (by omega),List.getD_eq_getElem?_getD,List.getElem?_eq_getElem (by omega)];rfl
  rw[e1,e2] at hsc ⊢;simp only[js,mr] at hsc;obtain⟨ho,hc,hr⟩:=hsc;have ih:=JU hT hv hu fv fu d w2 r (j+1) hr (fun g hg=>hnm g (by simp[hg])) (by omega) (by omega);have xv:=fv j (by omega);have yv:=fu j (by omega);obtain⟨ti,htt,h4⟩:=HY hc;have ht:=hT _ _ htt;subst ho;simp only[js,qj];rcases h4 with⟨hty,hx,hy,he⟩|⟨hty,hx,hy,he⟩
  ·have hag:ti.ty.agg=false:=by rw[hty];rfl
   obtain⟨_,ev,kx⟩:=xv.ak hx;obtain⟨_,eu,ky⟩:=yv.ak hy;rw[he];simp only[Op.eqFields,hnm f (by simp),ne_eq,not_false_eq_true,if_true,Sem.run_bind,qr ht hag (show f.offset<vs.size by omega),qr ht hag (show f.offset<us.size by omega),Result.andThen_ok,ev,eu,
    run_equalIn_int w2 d f.type .i64 .i64 _ _ (ht.bl hty)]
   by_cases hq:(cs.getD f.offset .nil).toInt=(ds.getD f.offset .nil).toInt
   ·simp only[hq,beq_self_eq_true,Bool.not_true,eE,if_false,decide_true,rR];exact ih
   ·simp only[beq_eq_false_iff_ne.2 hq,Bool.not_false,if_true,Sem.run_pure,decide_eq_false hq,Bool.false_and]
  ·have hag:ti.ty.agg=false:=by rw[hty];rfl
   obtain⟨_,ev⟩:=xv.cl hx;obtain⟨_,eu⟩:=yv.cl hy;have heq : ∀ (a b:Bool),(Op.equalIn (d+1) f.type (.bool a) (.bool b)).run P w2=.ok (a == b) w2:=fun a b=>by simp[Op.equalIn,run_underlying (ht.hY hty)]
   rw[he];simp only[Op.eqFields,hnm f (by simp),ne_eq,not_false_eq_true,if_true,Sem.run_bind,qr ht hag (show f.offset<vs.size by omega),qr ht hag (show f.offset<us.size by omega),Result.andThen_ok,ev,eu,heq];cases hq:(cs.getD f.offset .nil).toBool == (ds.getD f.offset .nil).toBool with
   | true=>
    simp only[Bool.not_true,eE,if_false,rR];exact ih
   | false=>simp only[Bool.not_false,if_true,Sem.run_pure,Bool.false_and]
def cO (h:cp k n):k.wrap n=n:=by
 obtain⟨h1,h2⟩:=h;cases k <;> simp[IntKind.min,IntKind.max,IntKind.wrap,IntKind.bits,IntKind.signed] at * <;> omega
def Fi (h0:0<=n) (h1:n<=k.max):cp k n:=by
 refine⟨?_,h1⟩;cases k <;> simp[IntKind.min,IntKind.bits,IntKind.signed] <;> omega
def zY {n:Nat}(h:(n:Int)<=k.max):cp k n:=Fi (by omega) h
def Dz (k:IntKind) : ∃ m:Nat,k.max=2 ^ m-1/\m<=k.bits:=by
 cases k
 ·exact⟨7,rfl,by decide⟩
 ·exact⟨15,rfl,by decide⟩
 ·exact⟨31,rfl,by decide⟩
 ·exact⟨63,rfl,by decide⟩
 ·exact⟨8,rfl,by decide⟩
 ·exact⟨16,rfl,by decide⟩
 ·exact⟨32,rfl,by decide⟩
 ·exact⟨64,rfl,by decide⟩
def zq {b:Nat}(h0:0<=x) (h1:x.toNat<2 ^ b):(BitVec.ofInt b x).toNat=x.toNat:=by
 obtain⟨n,rfl⟩:=vr h0;simp only[wc] at h1 ⊢;simp[Nat.mod_eq_of_lt h1]
def vE {k:Int}(h:x<=k) (hk:k=2 ^ m-1):x.toNat<2 ^ m:=by
 have h1:(0:Int)<2 ^ m:=Int.pow_pos (by decide);have h2:((2 ^ m:Nat):Int)=(2:Int) ^ m:=by simp
 omega
def P4 (hx:cp k x) (hy:cp k y) (hx0:0<=x) (hy0:0<=y):bits .and k x y=((x.toNat &&& y.toNat:Nat):Int):=by
 obtain⟨m,hm,hb⟩:=Dz k;have a1:=vE hx.2 hm;have a2:=vE hy.2 hm;have hp:2 ^ m<=2 ^ k.bits:=vw (by decide) hb;simp only[bits,BitVec.toNat_and];rw[zq hx0 (by omega),zq hy0 (by omega)];have:x.toNat &&& y.toNat<2 ^ m:=Nat.and_lt_two_pow _ a2;refine cO (zY ?_);have h2:((2 ^ m:Nat):Int)=(2:Int) ^ m:=by simp
 omega
def um (hx:cp k x) (hy:cp k y) (hx0:0<=x) (hy0:0<=y):bits .or k x y=((x.toNat ||| y.toNat:Nat):Int):=by
 obtain⟨m,hm,hb⟩:=Dz k;have a1:=vE hx.2 hm;have a2:=vE hy.2 hm;have hp:2 ^ m<=2 ^ k.bits:=vw (by decide) hb;simp only[bits,BitVec.toNat_or];rw[zq hx0 (by omega),zq hy0 (by omega)];have:x.toNat ||| y.toNat<2 ^ m:=Nat.or_lt_two_pow a1 a2;refine cO (zY ?_);have h2:((2 ^ m:Nat):Int)=(2:Int) ^ m:=by simp
 omega
def Q3 (hx:cp k x) (hy:cp k y) (hx0:0<=x) (hy0:0<=y):bits .xor k x y=((x.toNat ^^^ y.toNat:Nat):Int):=by
 obtain⟨m,hm,hb⟩:=Dz k;have a1:=vE hx.2 hm;have a2:=vE hy.2 hm;have hp:2 ^ m<=2 ^ k.bits:=vw (by decide) hb;simp only[bits,BitVec.toNat_xor];rw[zq hx0 (by omega),zq hy0 (by omega)];have:x.toNat ^^^ y.toNat<2 ^ m:=Nat.xor_lt_two_pow a1 a2;refine cO (zY ?_);have h2:((2 ^ m:Nat):Int)=(2:Int) ^ m:=by simp
 omega
def GI {x y:Nat}(hx:cp k x) (hy:cp k y):cp k ((x &&& y:Nat):Int)/\cp k ((x ||| y:Nat):Int)/\cp k ((x ^^^ y:Nat):Int):=by
 obtain⟨m,hm,hb⟩:=Dz k;have a1:=vE hx.2 hm;have a2:=vE hy.2 hm;simp only[wc] at a1 a2;have h2:((2 ^ m:Nat):Int)=(2:Int) ^ m:=by simp
 have b1:x &&& y<2 ^ m:=Nat.and_lt_two_pow _ a2;have b2:x ||| y<2 ^ m:=Nat.or_lt_two_pow a1 a2;have b3:x ^^^ y<2 ^ m:=Nat.xor_lt_two_pow a1 a2;exact⟨zY (by omega),zY (by omega),zY (by omega)⟩
def uo {a b:Int}(ha:cp k a) (hb:cp k b) {w2:World}{r:Value}(h:(binOp op t (.int k a) (.int k b)).run P w2=.ok r w2) :
  (do eqGuard op t xo yo (.int k a) (.int k b);binOp op t (.int k a) (.int k b):Sem Value).run P w2=.ok r w2:=by
 simp only[eqGuard_at_int,Sem.run_bind,Sem.run_pure,Result.andThen_ok,h]
def cH (hu:P.underlying t=some (.slice e)) (d:Nat) (a:Option Addr) (n cap:Nat) (w2:World):(Op.equalIn (d+1) t (.slice a n cap) (.slice none 0 0)).run P w2=.ok a.isNone w2:=by
 cases a <;> simp[Op.equalIn,run_underlying hu]
def cu (hu:P.underlying t=some (.slice e)) (a:Option Addr) (n cap:Nat) (w2:World):(binOp .eql t (.slice a n cap) (.slice none 0 0)).run P w2=.ok (.bool a.isNone) w2:=by
 have:(Op.equal t (.slice a n cap) (.slice none 0 0)).run P w2=.ok a.isNone w2:=cH hu 9999 a n cap w2;simp only[binOp,Sem.run_bind,this,Result.andThen_ok,Sem.run_pure]
def dD (hu:P.underlying t=some (.slice e)) (a:Option Addr) (n cap:Nat) (w2:World):(binOp .neq t (.slice a n cap) (.slice none 0 0)).run P w2=.ok (.bool (!a.isNone)) w2:=by
 have:(Op.equal t (.slice a n cap) (.slice none 0 0)).run P w2=.ok a.isNone w2:=cH hu 9999 a n cap w2;simp only[binOp,Sem.run_bind,this,Result.andThen_ok,Sem.run_pure]
def Oz (hT:bQ P T) {x y:I}{vy:Value}(hx:V S φ H w x vx) (hy:V S φ H w y vy) {z:I}
  (h:lT T H op t x y=some (vc,z)) (hvc:vc) :
  ∃ v,V S φ H w z v/\∀ w2,(do eqGuard op t xo yo vx vy;binOp op t vx vy:Sem Value).run P w2=.ok v w2:=by
 unfold lT at h;split at h
 ·rename_i ti hti;have ht:=hT _ _ hti;split at h
  ·rename_i k x y hk;have hxz:=hx.fz;have hyz:=hy.fz;cases op <;> simp only[aE,aK,reduceCtorEq] at h <;> obtain⟨rfl,rfl⟩:=h
   case add=>
    obtain⟨_,rfl,kx⟩:=hxz.ak hvc.1;obtain⟨_,rfl,ky⟩:=hyz.ak hvc.2.1;exact⟨_,.d (.int hvc.2.2),fun w2=>uo kx ky (by simp[binOp_add,Op.intArith,cO hvc.2.2])⟩
   case sub=>
    obtain⟨_,rfl,kx⟩:=hxz.ak hvc.1;obtain⟨_,rfl,ky⟩:=hyz.ak hvc.2.1;exact⟨_,.d (.int hvc.2.2),fun w2=>uo kx ky (by simp[binOp_sub,Op.intArith,cO hvc.2.2])⟩
   case mul=>
    obtain⟨_,rfl,kx⟩:=hxz.ak hvc.1;obtain⟨_,rfl,ky⟩:=hyz.ak hvc.2.1;exact⟨_,.d (.int hvc.2.2),fun w2=>uo kx ky (by simp[binOp_mul,Op.intArith,cO hvc.2.2])⟩
   case quo=>
    obtain⟨_,rfl,kx⟩:=hxz.ak hvc.1;obtain⟨_,rfl,ky⟩:=hyz.ak hvc.2.1;obtain⟨_,_,h0,h1⟩:=hvc;have hin:cp k (x.toInt/y.toInt):=Fi (Int.ediv_nonneg h0 (by omega)) (Int.le_trans (Int.ediv_le_self _ h0) kx.2);refine⟨_,.d (.int hin),fun w2=>uo kx ky ?_⟩;simp only[binOp_quo,Op.intDiv];rw[if_neg (by omega),Int.tdiv_eq_ediv_of_nonneg h0,cO hin];rfl
   case rem=>
    obtain⟨_,rfl,kx⟩:=hxz.ak hvc.1;obtain⟨_,rfl,ky⟩:=hyz.ak hvc.2.1;obtain⟨_,_,h1⟩:=hvc;have hin:cp k (jn x.toInt y.toInt):=by
     have hb:=uz x.toInt h1;have hy:=ky.2;have hx:=kx;unfold cp at hx ⊢;by_cases h0:0<=x.toInt
     ·have:=hb.1 h0;have:=hx.1;have hm:k.min<=0:=by cases k <;> decide
      omega
     ·have:=hb.2 (by omega);omega
    refine⟨_,.d (.int hin),fun w2=>uo kx ky ?_⟩;simp only[binOp_rem,Op.intDiv];rw[if_neg (by omega)];rfl
   case and=>
    obtain⟨_,rfl,kx⟩:=hxz.ak hvc.1;obtain⟨_,rfl,ky⟩:=hyz.ak hvc.2.1;obtain⟨_,_,h0,h1⟩:=hvc;obtain⟨m,hm⟩:=vr h0;obtain⟨n,hn⟩:=vr h1;have hin:=GI (k:=k) (x:=m) (y:=n) (hm▸kx) (hn▸ky);refine⟨_,.d (.int (by rw[hm,hn];simpa using hin.1)),fun w2=>uo kx ky ?_⟩;simp only[binOp_and,intBits_and,P4 kx ky h0 h1,Sem.run_pure]
   case or=>
    obtain⟨_,rfl,kx⟩:=hxz.ak hvc.1;obtain⟨_,rfl,ky⟩:=hyz.ak hvc.2.1;obtain⟨_,_,h0,h1⟩:=hvc;obtain⟨m,hm⟩:=vr h0;obtain⟨n,hn⟩:=vr h1;have hin:=GI (k:=k) (x:=m) (y:=n) (hm▸kx) (hn▸ky);refine⟨_,.d (.int (by rw[hm,hn];simpa using hin.2.1)),fun w2=>uo kx ky ?_⟩;simp only[binOp_or,intBits_or,um kx ky h0 h1,Sem.run_pure]
   case xor=>
    obtain⟨_,rfl,kx⟩:=hxz.ak hvc.1;obtain⟨_,rfl,ky⟩:=hyz.ak hvc.2.1;obtain⟨_,_,h0,h1⟩:=hvc;obtain⟨m,hm⟩:=vr h0;obtain⟨n,hn⟩:=vr h1;have hin:=GI (k:=k) (x:=m) (y:=n) (hm▸kx) (hn▸ky);refine⟨_,.d (.int (by rw[hm,hn];simpa using hin.2.2)),fun w2=>uo kx ky ?_⟩;simp only[binOp_xor,intBits_xor,Q3 kx ky h0 h1,Sem.run_pure]
   case shl=>
    obtain⟨_,rfl,kx⟩:=hxz.ak hvc.1;obtain⟨_,hk'⟩:=D.lv hvc.2.1;obtain⟨_,rfl,ky⟩:=hyz.ak hk';obtain⟨_,_,h0,h1,hin⟩:=hvc;refine⟨_,.d (.int hin),fun w2=>?_⟩;simp only[eqGuard_at_int,Sem.run_bind,Sem.run_pure,Result.andThen_ok,binOp_shl,shift_shl k _ _ _ h0 h1,cO hin]
   case shr=>
    obtain⟨_,rfl,kx⟩:=hxz.ak hvc.1;obtain⟨_,hk'⟩:=D.lv hvc.2.1;obtain⟨_,rfl,ky⟩:=hyz.ak hk';obtain⟨_,_,h0,h1⟩:=hvc;have hp:(0:Int)<2 ^ y.toInt.toNat:=Int.pow_pos (by decide);have hin:cp k (x.toInt/2 ^ y.toInt.toNat):=by
     by_cases hx0:0<=x.toInt
     ·exact Fi (Int.ediv_nonneg hx0 (by omega)) (Int.le_trans (Int.ediv_le_self _ hx0) kx.2)
     ·refine⟨Int.le_trans kx.1 ?_,?_⟩
      ·have h2:=Int.le_ediv_iff_mul_le (a:=x.toInt) (b:=x.toInt) hp;rw[h2];have:x.toInt*2 ^ y.toInt.toNat<=x.toInt*1:=Int.mul_le_mul_of_nonpos_left (by omega) (by omega);omega
      ·have:x.toInt/2 ^ y.toInt.toNat<0:=Int.ediv_neg_of_neg_of_pos (by omega) hp;have:0<=k.max:=by cases k <;> simp[IntKind.max,IntKind.bits,IntKind.signed]
       omega
    refine⟨_,.d (.int hin),fun w2=>?_⟩;simp only[eqGuard_at_int,Sem.run_bind,Sem.run_pure,Result.andThen_ok,binOp_shr,shift_shr k _ _ _ h0 h1]
   all_goals
    obtain⟨_,rfl,kx⟩:=hxz.ak hvc.1;obtain⟨_,rfl,ky⟩:=hyz.ak hvc.2;refine⟨_,.d .bool,fun w2=>uo kx ky ?_⟩;simp only[binOp_eql,binOp_neq,binOp_lss,binOp_leq,binOp_gtr,binOp_geq,Sem.run_pure];all_goals first|rfl|(congr 2;done)|(congr 2;rw[Bool.eq_iff_iff];simp)
  ·rename_i x y hk;cases op <;> simp only[aE,aK,reduceCtorEq] at h <;> obtain⟨rfl,rfl⟩:=h
   all_goals
    obtain⟨_,rfl⟩:=hx.fz.cl hvc.1;obtain⟨_,rfl⟩:=hy.fz.cl hvc.2;refine⟨_,.d .bool,fun w2=>?_⟩;simp only[eqGuard_at_bool,Sem.run_bind,Sem.run_pure,Result.andThen_ok,run_eql_bool w2 t _ _ (ht.hY hk),run_neq_bool w2 t _ _ (ht.hY hk)]
  ·rename_i e x hk;have hu:=ht.aH hk;have hyz:=hy.fz;cases hyz;have key : ∀ (vcx:x.gT/\(x=.nil∨x.elems≠[])),∃ a n cap,vx=.slice a n cap/\a.isNone=x.isNil:=by
    rintro⟨h1,h2⟩;have hxz:=hx.fz;cases hxz <;> simp[D.gT] at h1
    ·exact⟨_,_,_,rfl,rfl⟩
    ·simp[D.elems] at h2
    ·exact⟨_,_,_,rfl,rfl⟩
   cases op <;> simp only[aE,aK,reduceCtorEq] at h <;> obtain⟨rfl,rfl⟩:=h
   all_goals
    obtain⟨a,n,cap,rfl,hn⟩:=key hvc;refine⟨_,.d .bool,fun w2=>?_⟩;rw[<-hn];simp only[eqGuard_at_slice,Sem.run_bind,Sem.run_pure,Result.andThen_ok,cu hu,dD hu]
  ·rename_i e i g k lo n hk;have hu:=ht.aH hk;have hyz:=hy.fz;cases hyz;split at h
   ·rename_i g' k' dp l hroot;cases hx with
    | sl hlt hg hrel ho=>
     have key:(g=g'/\k=k'/\0<n)->∃ a n cap,vx=.slice (some a) n cap:=by
      rintro⟨rfl,rfl,hn0⟩;obtain⟨hsl,hle⟩:=hrel dp l hroot;rcases hsl with⟨_,_,rfl,_⟩|⟨b,rest,cap,arr,ty,a,hfp,rfl,hn,hc,hlim,hb,hfit⟩
      ·omega
      ·obtain⟨rfl,_⟩:=hfit (.inl (by omega));exact⟨_,_,_,rfl⟩
     cases op <;> simp only[aE,aK,reduceCtorEq] at h <;> obtain⟨rfl,rfl⟩:=h
     all_goals
      obtain⟨a,n,cap,rfl⟩:=key hvc;refine⟨_,.d .bool,fun w2=>?_⟩;simp only[eqGuard_at_slice,Sem.run_bind,Sem.run_pure,Result.andThen_ok,cu hu,dD hu];rfl
   ·simp at h
  ·rename_i fs cs ds hk;obtain⟨fields,hu,hfs⟩:=ht.cr hk;have hxz:=hx.fz;have hyz:=hy.fz;have hq:=ht.eqs;have key:(cs.length=fs.length/\ds.length=fs.length/\mr T 0 fs cs ds)->∃ vs us,vx=.agg vs/\vy=.agg us/\P.stoodInHeld t=false/\P.eqGuardType P.depth t=false/\
     ∀ w2,(Op.equalIn 10000 t (.agg vs) (.agg us)).run P w2=.ok (qj T fs cs ds) w2:=by
    rintro⟨q1,q2,q3⟩;cases hxz with
    | agg hl ho hf=>
     rename_i vs;cases hyz with
     | agg hl2 ho2 hf2=>
      rename_i us;rw[hfs] at q3;have r1:=II hT q3;simp only[AU,hu,r1,Bool.not_true,Bool.false_or,gO,Bool.not_eq_true',l6,decide_eq_true_eq] at hq;obtain⟨s1,s2,s3⟩:=hq;have hfo:P.fieldsOf t=fields:=by simp only[Program.fieldsOf,hu]
      have hlen:fields.toList.length=fs.length:=by rw[hfs];simp
      refine⟨vs,us,rfl,rfl,s1,s2,fun w2=>?_⟩;rw[run_equalIn_agg w2 9999 t vs us (by rw[hfo];exact hu) s1,hfo];rw[hfs];exact JU hT hl hl2 hf hf2 9998 w2 fields.toList 0 q3 s3 (by omega) (by omega)
   cases op <;> simp only[aE,aK,reduceCtorEq] at h <;> obtain⟨rfl,rfl⟩:=h
   all_goals
    obtain⟨vs,us,rfl,rfl,s1,s2,hrun⟩:=key hvc;refine⟨_,.d .bool,fun w2=>?_⟩;simp only[Sem.run_bind,run_eqGuard_agg w2 _ t xo yo vs us s2,Result.andThen_ok,run_eql_struct,run_neq_struct,hrun]
  ·rename_i a b hk;have hxz:=hx.fz;have hyz:=hy.fz;cases hxz;cases hyz;cases op <;> simp only[aE,aK,reduceCtorEq] at h <;> obtain⟨rfl,rfl⟩:=h
   all_goals
    refine⟨_,.d .bool,fun w2=>?_⟩;simp[eqGuard,binOp,Op.stringOp]
  ·simp at h
 ·simp at h
end Go.VL
namespace Go.VL
variable {ti:TI}{x y z:I}{vx v u:Value}{vc:Prop}{t n ty e kt:Nat}{α β:Type}{k:IntKind}
variable {P:Program}{S:Nat->Prop}{φ : List ZC}{H:ZF}{w:World}{T:Nat->Option TI}
def setCells:ZE->Nat->ZE->ZE
 | cs,_,[]=>cs
 | cs,off,x::r=>setCells (cs.set off x) (off+1) r
def iN (ti:TI) (x:I):Option (Prop×ZE):=
 match ti.ty.agg,x with
 | true,.d xd=>some (xd.cells.length=ti.size/\xd.one=false/\(∀ n,xd≠.tup n),(bY xd 0 ti.size).map .d)
 | true,.agg cs=>some (cs.length=ti.size,cs)
 | false,.d xd=>some (ti.size=1/\xd.one=true,[.d xd])
 | false,.sl i g k lo n=>some (ti.size=1,[.sl i g k lo n])
 | false,.ptr i off=>some (ti.size=1,[.ptr i off])
 | false,.map i=>some (ti.size=1,[.map i])
 | false,.fn f caps=>some (ti.size=1,[.fn f caps])
 | _,_=>none
def wr (hx:V S φ H w x vx) {cs:ZE}(h:iN ti x=some (vc,cs)) (hvc:vc) :
  cs.length=ti.size/\vx.cells.size=ti.size/\∀ j,j<ti.size->(vx.cells.getD j undef).oneCell'=true/\V S φ H w (cs.getD j .junk) (vx.cells.getD j undef):=by
 unfold iN at h;split at h
 ·rename_i xd hagg;simp only[aE,aK] at h;obtain⟨rfl,rfl⟩:=h;obtain⟨hl,hone,htup⟩:=hvc;have hz:=hx.fz;cases hz <;> simp[D.one] at hone
  ·rename_i cs vs hl' h1 hj;simp only[D.cells] at hl;refine⟨by simp[iS],by simp[Value.cells,<-hl',hl],fun j hj'=>?_⟩;have hjl:j<(bY (D.agg cs) 0 ti.size).length:=by rw[iS];exact hj'
   have e:((bY (D.agg cs) 0 ti.size).map I.d).getD j .junk=.d (cs.getD j .nil):=by
    have:=nO (D.agg cs) 0 ti.size j hj';simp only[List.getD,List.getElem?_map,List.getElem?_eq_getElem hjl,dE,cP] at this ⊢;rw[this];simp[D.cellAt]
   rw[e];have hz:=hj j (by omega);exact⟨hz.one (h1 _ (av (by omega))),.d hz⟩
  ·exact absurd rfl (htup _)
 ·rename_i cs' hagg;simp only[aE,aK] at h;obtain⟨rfl,rfl⟩:=h;cases hx with
  | @agg _ vs hl h1 hj=>exact⟨hvc,by simp[Value.cells,<-hl,hvc],fun j hj'=>⟨h1 j (by omega),hj j (by omega)⟩⟩
 all_goals simp only[aE,aK,reduceCtorEq] at h
 all_goals obtain⟨rfl,rfl⟩:=h
 ·rename_i xd hagg;obtain⟨h1,h2⟩:=hvc;have ho:=hx.fz.one h2;have hc:vx.cells = #[vx]:=by cases vx <;> first|rfl|simp[Value.oneCell'] at ho
  refine⟨by simp[h1],by simp[hc,h1],fun j hj=>?_⟩;obtain rfl:j=0:=by omega
  rw[hc];exact⟨ho,hx⟩
 all_goals
  have ho:vx.oneCell'=true:=by cases hx <;> first|assumption|rfl
  have hc:vx.cells = #[vx]:=by cases vx <;> first|rfl|simp[Value.oneCell'] at ho
  refine⟨by simp[hvc],by simp[hc,hvc],fun j hj=>?_⟩;obtain rfl:j=0:=by omega
  rw[hc];exact⟨ho,hx⟩
def l8 (T:Nat->Option TI) (fs:List (Nat×Nat)):ZE->List (Nat×I)->Option (Prop×ZE)
 | cs,[]=>some (True,cs)
 | cs,(i,x)::rest=>
  match fs[i]? with
  | some (off,ft)=>
   match T ft with
   | some fi=>
    match iN fi x with
    | some (vc,xs)=>
     match l8 T fs (setCells cs off xs) rest with
     | some (vc',r)=>some (vc/\off+fi.size<=cs.length/\vc',r)
     | none=>none
    | none=>none
   | none=>none
  | none=>none
 
def lq (fr:Fr):List (Nat×Operand)->List (Nat×I)
 | []=>[]
 | (i,x)::r=>(i,aq fr x)::lq fr r
def oG (fr:Fr):List (Nat×Operand)->Prop
 | []=>True
 | (i,x)::r=>aF fr x/\oG fr r
def oh (n e sz:Nat):List (Nat×Nat):=(List.range n).map fun i=>(i*sz,e)
def L9 (n e sz i:Nat):(oh n e sz)[i]?=if i<n then some (i*sz,e) else none:=by
 simp only[oh,List.getElem?_map];by_cases h:i<n
 ·simp[h]
 ·simp[h]
def xA (T:Nat->Option TI) (t:Nat) (parts:List (Nat×I)):Option (Prop×I):=
 match T t with
 | some ti=>
  match ti.ty with
  | .array n e=>
   match T e with
   | some ei=>
    match l8 T (oh n e ei.size) ((bY ti.zero 0 ti.size).map .d) parts with
    | some (vc,cs)=>some (vc/\jA cs,bI cs)
    | none=>none
   | none=>none
  | .struct fs=>
   match l8 T fs ((bY ti.zero 0 ti.size).map .d) parts with
   | some (vc,cs)=>some (vc/\jA cs/\fs.all (fun f=>(T f.2).isSome)=true,bI cs)
   | none=>none
  | _=>none
 | none=>none
def C5 (cs:ZE) (off:Nat) (xs:ZE):(setCells cs off xs).length=cs.length:=by
 induction xs generalizing cs off with
 | nil=>rfl
 | cons x r ih=>simp[setCells,ih]
def JY (cs:ZE) (off:Nat) (xs:ZE) (h:off+xs.length<=cs.length) (j:Nat) :
  (setCells cs off xs).getD j .junk=if off<=j/\j<off+xs.length then xs.getD (j-off) .junk else cs.getD j .junk:=by
 induction xs generalizing cs off with
 | nil=>simp[setCells];omega
 | cons x r ih=>
  simp only[eD] at h ⊢;simp only[setCells];rw[ih _ _ (by simp;omega)];by_cases h1:off+1<=j/\j<off+1+r.length
  ·rw[if_pos h1,if_pos (by omega)];rw[show j-off=(j-(off+1))+1 by omega];simp[List.getD]
  ·rw[if_neg h1];by_cases h2:j=off
   ·subst h2;rw[if_pos (by omega)];simp[List.getD,show j<cs.length by omega]
   ·rw[if_neg (by omega)];simp[List.getD,List.getElem?_set,Ne.symm h2]
def p7 (vs:List Value) (off:Nat) (arr:Array Value) (n0:Nat) (h:off+n0+vs.length<=arr.size) :
  ((vs.zipIdx n0).foldl (fun cs (cj:Value×Nat)=>cs.setIfInBounds (off+cj.2) cj.1) arr).size=arr.size/\
  ∀ j,((vs.zipIdx n0).foldl (fun cs (cj:Value×Nat)=>cs.setIfInBounds (off+cj.2) cj.1) arr).getD j undef=if off+n0<=j/\j<off+n0+vs.length then vs.getD (j-(off+n0)) undef else arr.getD j undef:=by
 induction vs generalizing arr n0 with
 | nil=>simp;omega
 | cons v r ih=>
  simp only[eD] at h ⊢;simp only[List.zipIdx_cons,e6];obtain⟨h1,h2⟩:=ih (arr.setIfInBounds (off+n0) v) (n0+1) (by simp;omega);refine⟨by rw[h1];simp,fun j=>?_⟩;rw[h2];by_cases h3:off+(n0+1)<=j/\j<off+(n0+1)+r.length
  ·rw[if_pos h3,if_pos (by omega),show j-(off+n0)=(j-(off+(n0+1)))+1 by omega];simp[List.getD]
  ·rw[if_neg h3];by_cases h4:j=off+n0
   ·subst h4;rw[if_pos (by omega)];simp[List.getD,Array.getD,show off+n0<arr.size by omega]
   ·rw[if_neg (by omega)];simp[Array.getD_eq_getD_getElem?,Array.getElem?_setIfInBounds,Ne.symm h4]
def F7 (vs:Array Value) (off:Nat) (arr:Array Value) (h:off+vs.size<=arr.size) :
  (vs.zipIdx.foldl (fun cs (c,j)=>cs.setIfInBounds (off+j) c) arr).size=arr.size/\
  ∀ j,(vs.zipIdx.foldl (fun cs (c,j)=>cs.setIfInBounds (off+j) c) arr).getD j undef=if off<=j/\j<off+vs.size then vs.getD (j-off) undef else arr.getD j undef:=by
 have:=p7 vs.toList off arr 0 (by simpa using h);simp only[lL,Array.length_toList] at this;rw[<-Array.foldl_toList,Array.toList_zipIdx];simpa [List.getD,Array.getD_eq_getD_getElem?] using this
def eX (S:Nat->Prop) (φ : List ZC) (H:ZF) (w:World) (cs:ZE) (arr:Array Value):Prop:=
 arr.size=cs.length/\∀ j,j<cs.length->(arr.getD j undef).oneCell'=true/\V S φ H w (cs.getD j .junk) (arr.getD j undef)
def Em (hT:bQ P T) {fs:List (Nat×Nat)}(place:Nat->Option (Nat×Nat)) (hpl : ∀ i off ft fi,fs[i]?=some (off,ft)->T ft=some fi->place i=some (off,fi.size)) :
  ∀ (parts:List (Nat×I)) (vps:List (Nat×Value)),parts.length=vps.length->(∀ (j i:Nat) (x:I),parts[j]?=some (i,x)->∃ v:Value,vps[j]?=some (i,v)/\V S φ H w x v)->
  ∀ (cs:ZE) (arr:Array Value),eX S φ H w cs arr->∀ {vc:Prop}{r:ZE},l8 T fs cs parts=some (vc,r)->vc->∃ arr',Instr.fill place arr vps=some arr'/\eX S φ H w r arr'
 | [],[],_,_,cs,arr,hok,vc,r,h,hvc=>by
  simp[l8] at h;obtain⟨_,rfl⟩:=h;exact⟨arr,rfl,hok⟩
 | [],_::_,hl,_,_,_,_,_,_,_,_=>by simp at hl
 | _::_,[],hl,_,_,_,_,_,_,_,_=>by simp at hl
 | (i,x)::rest,(i',v)::vrest,hl,hv,cs,arr,hok,vc,r,h,hvc=>by
  simp only[l8] at h;split at h
  ·rename_i off ft hfs;split at h
   ·rename_i fi hfi;split at h
    ·rename_i vc1 xs hc;split at h
     ·rename_i vc2 r' hr;simp only[aE,aK] at h;obtain⟨rfl,rfl⟩:=h;obtain⟨hvc1,hfit,hvc2⟩:=hvc;obtain⟨v0,he,hx⟩:=hv 0 i x rfl;simp only[List.getElem?_cons_zero,aE,aK] at he;obtain⟨rfl,rfl⟩:=he;obtain⟨h1,h2,h3⟩:=wr hx hc hvc1;obtain⟨hsz,hcell⟩:=hok;obtain⟨f1,f2⟩:=F7 v.cells off arr (by omega);have:=Em hT place hpl rest vrest (by simpa using hl) (fun j i x hj=>hv (j+1) i x (by simpa using hj)) (setCells cs off xs)
       (v.cells.zipIdx.foldl (fun cs (c,j)=>cs.setIfInBounds (off+j) c) arr) ⟨by rw[f1,C5];exact hsz,?_⟩ hr hvc2
      ·obtain⟨arr',ha,hok'⟩:=this;refine⟨arr',?_,hok'⟩;simp only[Instr.fill,hpl i' off ft fi hfs hfi];rw[if_neg (by simp;omega)];exact ha
      ·intro j hj;rw[C5] at hj;rw[f2,JY cs off xs (by omega)];by_cases hin:off<=j/\j<off+xs.length
       ·rw[if_pos hin,if_pos (by omega)];exact h3 _ (by omega)
       ·rw[if_neg hin,if_neg (by omega)];exact hcell j hj
     ·simp at h
    ·simp at h
   ·simp at h
  ·simp at h
def D5 (ht:a0 P t ti):eX S φ H w ((bY ti.zero 0 ti.size).map .d) (bc ti.zero).cells:=by
 have hc:=ht.const;have hs:=ht.size;have hz:FZ S w ti.zero (bc ti.zero):=zG hc;generalize hzz:ti.zero=z at *
 cases z with
 | agg cs=>
  simp only[bc,Value.cells,D.cells] at hs ⊢;refine⟨by simp[iS,<-hs],fun j hj=>?_⟩;simp only[gQ,iS] at hj;have hjl:j<(bY (D.agg cs) 0 ti.size).length:=by rw[iS];exact hj
  have e:((bY (D.agg cs) 0 ti.size).map I.d).getD j .junk=.d (cs.getD j .nil):=by
   have:=nO (D.agg cs) 0 ti.size j hj;simp only[List.getD,List.getElem?_map,List.getElem?_eq_getElem hjl,dE,cP] at this ⊢;rw[this];simp[D.cellAt]
  rw[e];cases hz with
  | agg hl h1 hj'=>
   have:=hj' j (by omega);exact⟨this.one (h1 _ (av (by omega))),.d this⟩
 | _=>
  first
   | (simp[vn,qO] at hc;done)
   | (
     simp only[D.cells,eD,kr] at hs;have ho:=hz.one rfl;have hcell : ∀ v:Value,v.oneCell'=true->v.cells = #[v]:=fun v hv=>by cases v <;> first|rfl|simp[Value.oneCell'] at hv
     rw[hcell _ ho,<-hs];refine⟨by simp[bY],fun j hj=>?_⟩;simp[bY] at hj;subst hj;exact⟨ho,.d hz⟩)
def eX.agg {cs:ZE}{arr:Array Value}(h:eX S φ H w cs arr) (h1:jA cs):V S φ H w (bI cs) (.agg arr):=by
 have:=V.bI (S:=S) (φ:=φ) (H:=H) (w:=w) (cs:=cs) (n:=cs.length) (f:=fun j=>arr.getD j undef) rfl h1 (fun j hj=>(h.2 j hj).1) (fun j hj=>(h.2 j hj).2);have e:((List.range cs.length).map fun j=>arr.getD j undef).toArray=arr:=by
  apply Array.ext
  ·simp[h.1]
  ·intro i h1 h2;simp[Array.getD,h2]
 rwa [e] at this
def Pl (l:List α) (f : α->Sem β) (g : α->β) (h : ∀ x∈l,∀ w:World,(f x).run P w=.ok (g x) w) (w:World):(l.mapM f).run P w=.ok (l.map g) w:=by
 induction l with
 | nil=>simp
 | cons x r ih=>
  simp only[List.mapM_cons,Sem.run_bind,h x (by simp),Result.andThen_ok,ih (fun y hy=>h y (fX _ hy)),Sem.run_pure,js]
def R9 (l:Array α) (f : α->Sem β) (g : α->β) (h : ∀ x∈l,∀ w:World,(f x).run P w=.ok (g x) w) (w:World):(l.mapM f).run P w=.ok (l.map g) w:=by
 rw[Array.mapM_eq_mapM_toList,Sem.run_map,Pl l.toList f g (fun x hx=>h x (by simpa using hx))];simp only[Result.andThen_ok];rw[<-Array.toList_map]
def Qe (hT:bQ P T) {parts:List (Nat×I)}{vps:List (Nat×Value)}(hl:parts.length=vps.length)
  (hv : ∀ (j i:Nat) (x:I),parts[j]?=some (i,x)->∃ v:Value,vps[j]?=some (i,v)/\V S φ H w x v) (h:xA T t parts=some (vc,y)) (hvc:vc) :
  ∃ v,V S φ H w y v/\∀ w2,(Instr.build t vps.toArray).run P w2=.ok v w2:=by
 unfold xA at h;split at h
 ·rename_i ti hti;have ht:=hT _ _ hti;split at h
  ·rename_i n e hy;split at h
   ·rename_i ei hei;split at h
    ·rename_i vc' cs hf;simp only[aE,aK] at h;obtain⟨rfl,rfl⟩:=h;obtain⟨hvc1,hone⟩:=hvc;obtain⟨arr,hfill,hok⟩:=Em hT (fun i=>some (i*ei.size,ei.size)) (by
      intro i off ft fi h1 h2;rw[L9] at h1;split at h1
      ·simp only[aE,aK] at h1;obtain⟨rfl,rfl⟩:=h1;rw[hei] at h2;obtain rfl:=Option.some.inj h2;rfl
      ·simp at h1) parts vps hl hv _ _ (D5 ht) hf hvc1
     refine⟨.agg arr,hok.agg hone,fun w2=>?_⟩;simp only[Instr.build,Sem.run_bind,ht.dl,Result.andThen_ok,run_underlying (ht.cL hy),(hT _ _ hei).run_sizeOf,List.toList_toArray,hfill,Sem.run_pure]
    ·simp at h
   ·simp at h
  ·rename_i fs hy;obtain⟨fields,hu,rfl⟩:=ht.cr hy;split at h
   ·rename_i vc' cs hf;simp only[aE,aK] at h;obtain⟨rfl,rfl⟩:=h;obtain⟨hvc1,hone,hall⟩:=hvc;have hm : ∀ w2:World,(fields.mapM fun f=>do pure (f.offset,<-sizeOf f.type):Sem (Array (Nat×Nat))).run P w2=.ok (fields.map fun f=>(f.offset,((T f.type).map TI.size).getD 0)) w2:=by
     intro w2;refine R9 _ _ _ (fun f hf=>?_) w2;intro w2;simp only[l6,List.mem_map,Option.isSome_iff_exists] at hall;obtain⟨fi,hfi⟩:=hall (f.offset,f.type) ⟨f,by simpa using hf,rfl⟩;simp[(hT _ _ hfi).run_sizeOf,hfi]
    obtain⟨arr,hfill,hok⟩:=Em hT (fun i=>(fields.map fun f=>(f.offset,((T f.type).map TI.size).getD 0))[i]?) (by
     intro i off ft fi h1 h2;simp only[List.getElem?_map,Option.map_eq_some_iff] at h1;obtain⟨fd,hfd,he⟩:=h1;simp only[aK] at he;obtain⟨rfl,rfl⟩:=he;have hfd':fields[i]?=some fd:=by simpa using hfd
     simp[hfd',h2]) parts vps hl hv _ _ (D5 ht) hf hvc1
    refine⟨.agg arr,hok.agg hone,fun w2=>?_⟩;simp only[Instr.build,Sem.run_bind,ht.dl,Result.andThen_ok,run_underlying hu,hm,List.toList_toArray,hfill,Sem.run_pure]
   ·simp at h
  ·simp at h
 ·simp at h
def dr (T:Nat->Option TI) (H:ZF) (t:Nat) (x:I):Option (Prop×I):=
 match T t with
 | some ti=>
  match ti.ty with
  | .slice _=>
   match x with
   | .d xd=>some (xd.gT,.d (.int .i64 (xd.elems.length:Nat)))
   | .sl i g k lo n=>
    match H[i]? with
    | some (.row g' k' _ _)=>some (g=g'/\k=k',.d (.int .i64 (n:Nat)))
    | _=>none
   | _=>none
  | .array n _=>some (cp .i64 n,.d (.int .i64 (n:Nat)))
  | _=>none
 | none=>none
def Bg (h:n<=fW):cp .i64 (n:Int):=by
 unfold fW at h;refine⟨?_,?_⟩ <;> simp[IntKind.min,IntKind.max,IntKind.bits,IntKind.signed] <;> omega
def PC (hT:bQ P T) (hx:V S φ H w x vx) (h:dr T H t x=some (vc,y)) (hvc:vc) :
  ∃ v,V S φ H w y v/\∀ w2,(Builtin.len_ #[t] ty #[vx]).run P w2=.ok v w2:=by
 unfold dr at h;split at h
 ·rename_i ti hti;have ht:=hT _ _ hti;split at h
  ·rename_i e hy;have hu:=ht.aH hy;split at h
   ·simp only[aE,aK] at h;obtain⟨rfl,rfl⟩:=h;obtain⟨a,cap,rfl,hlim⟩:=hx.fz.o8 hvc;exact⟨_,.d (.int (Bg hlim)),fun w2=>by simp[Builtin.len_,run_underlying hu,goInt]⟩
   ·rename_i i g k lo n;split at h
    ·rename_i g' k' dp l hroot;simp only[aE,aK] at h;obtain⟨rfl,rfl⟩:=h;obtain⟨rfl,rfl⟩:=hvc;cases hx with
     | sl hlt hg hrel ho=>
      obtain⟨hsl,hle⟩:=hrel dp l hroot;rcases hsl with⟨hfp,rfl,rfl,rfl⟩|⟨b,rest,cap,arr,ty,a,hfp,rfl,hn,hc,hlim,hb,hfit⟩
      ·exact⟨_,.d (.int (Bg (kM _))),fun w2=>by simp[Builtin.len_,run_underlying hu,goInt]⟩
      ·exact⟨_,.d (.int (Bg hlim)),fun w2=>by simp[Builtin.len_,run_underlying hu,goInt]⟩
    ·simp at h
   ·simp at h
  ·rename_i n e hy;have hu:=ht.cL hy;simp only[aE,aK] at h;obtain⟨rfl,rfl⟩:=h;exact⟨_,.d (.int hvc),fun w2=>by simp[Builtin.len_,run_underlying hu,goInt]⟩
  ·simp at h
 ·simp at h
def ie (T:Nat->Option TI) (t:Nat) (x:I):Option (Prop×I):=
 match T t with
 | some ti=>
  match ti.ty,x with
  | .slice _,.d .nil=>some (True,.d (.int .i64 0))
  | _,_=>none
 | none=>none
def QK (hT:bQ P T) (hx:V S φ H w x vx) (h:ie T t x=some (vc,y)) (hvc:vc) :
  ∃ v,V S φ H w y v/\∀ w2,(Builtin.cap_ #[t] ty #[vx]).run P w2=.ok v w2:=by
 unfold ie at h;split at h
 ·rename_i ti hti;have ht:=hT _ _ hti;split at h
  ·rename_i e hy;have hu:=ht.aH hy;simp only[aE,aK] at h;obtain⟨rfl,rfl⟩:=h;have hxz:=hx.fz;cases hxz;exact⟨_,.d (.int (Bg (n:=0) (kM _))),fun w2=>by simp[Builtin.cap_,run_underlying hu,goInt]⟩
  ·simp at h
 ·simp at h
def mS:D->ZA
 | .lst _ l=>l.map D.toInt
 | _=>[]
def rL:D->Prop
 | .nil=>True
 | .lst k l=>k=1/\l=(l.map D.toInt).map (D.int .u8)
 | _=>False
def ku (l:ZA):ByteArray:=l.foldl (fun r n=>r.push (UInt8.ofNat n.toNat)) ByteArray.empty
def B2 (T:Nat->Option TI) (e:Nat) (x:D):Option (Prop×I):=
 match T e with
 | some ei=>
  match ei.ty with
  | .int .u8=>some (rL x,.d (.raw (.string (ku (mS x)))))
  | _=>none
 | none=>none
def wC (k:IntKind) (n:Int):Prop:=match k with
 | .u8=>True
 | k=>cp k n
def ss (k:IntKind) (n:Int):Int:=match k with
 | .u8=>n%256
 | _=>n
def z9 {n:Int}(h:wC k n):cp k (ss k n):=by
 cases k
 case u8=>simp only[ss,cp,IntKind.min,IntKind.max,IntKind.bits,IntKind.signed];simp;omega
 all_goals exact h
def tm {n:Int}(h:wC k n):k.wrap n=ss k n:=by
 cases k
 case u8=>simp[ss,IntKind.wrap,IntKind.bits,IntKind.signed]
 all_goals exact cO h
def vu (T:Nat->Option TI) (src dst:Nat) (x:I):Option (Prop×I):=
 match T src,T dst,x with
 | some si,some di,.d xd=>
  match si.ty,di.ty with
  | .int k,.int k'=>some (xd.isInt k/\wC k' xd.toInt,.d (.int k' (ss k' xd.toInt)))
  | .slice e,.string=>B2 T e xd
  | _,_=>none
 | _,_,_=>none
def tg:Option TI->Bool
 | some ⟨.string,_,_,_⟩=>true
 | _=>false
def Lp : ∀ l:ZA,flat (l.map (D.int .u8))=l.map (D.int .u8)
 | []=>rfl
 | x::r=>by
  have ih:=Lp r;unfold flat at ih ⊢;rw[js,l7,ih];rfl
def Od {x:D}(hx:FZ S w x v) (h:rL x) {w2:World}(ha:au w w2) : ∃ a n c,v=.slice a n c/\(Conv.bytesToString v).run P w2=.ok (.string (ku (mS x))) w2:=by
 cases hx with
 | nil=>exact⟨_,_,_,rfl,by simp[Conv.bytesToString,mS,ku]⟩
 | @lst0 k a cap hk=>
  refine⟨_,_,_,rfl,?_⟩;cases a with
  | none=>simp[Conv.bytesToString,mS,ku]
  | some a=>
   have:=run_bytesToString (P:=P) w2 a 0 cap [] (by simp[loadCells,loadCellsFrom]);exact this
 | @lst k l b off cap f hk he h1 hn hlim hS hc hf=>
  refine⟨_,_,_,rfl,?_⟩;obtain⟨rfl,hl⟩:=h;generalize hns:l.map D.toInt=ns at *
  subst hl;rw[Lp] at hc hf;have hfn : ∀ j,j<(ns.map (D.int .u8)).length->f j=.int .u8 (ns.getD j 0):=fun j hj=>by
   have:=hf j hj;have e:(ns.map (D.int .u8)).getD j .nil=.int .u8 (ns.getD j 0):=by
    have hj2:j<ns.length:=by simpa using hj
    simp[List.getD,hj2]
   rw[e] at this;generalize f j=y at this;cases this;rfl
  have hrun:(loadCells ⟨b,off,none⟩ (ns.map (D.int .u8)).length).run P w2=.ok (ns.map (Value.int .u8)).toArray w2:=by
   rw[run_loadCells w2 ⟨b,off,none⟩ _ (fun j=>.int .u8 (ns.getD j 0)) (fun j hj=>by
    rw[Addr.add_lit];have:=hc j hj;rw[hfn j hj] at this;exact ha.cell this)]
   congr 2;refine List.ext_getElem (by simp) fun j h1 h2=>?_
   have hj2:j<ns.length:=by simpa using h2
   simp[List.getD,hj2]
  have:=run_bytesToString (P:=P) w2 ⟨b,off,none⟩ _ cap ns hrun;rw[this];show _=Result.ok (Value.string (ku ((ns.map (D.int .u8)).map D.toInt))) w2
  rw[hns];rfl
 | _=>exact h.elim
def Qp (hT:bQ P T) {src dst:Nat}(hx:V S φ H w x vx) (h:vu T src dst x=some (vc,y)) (hvc:vc) :
  ∃ v,V S φ H w y v/\∀ w2,(tg (T dst)=true->au w w2)->(convert src dst vx).run P w2=.ok v w2:=by
 unfold vu at h;split at h
 ·rename_i si di xd hsi hdi;split at h
  ·rename_i k k' hk hk';simp only[aE,aK] at h;obtain⟨rfl,rfl⟩:=h;obtain⟨_,rfl,_⟩:=hx.fz.ak hvc.1;refine⟨_,.d (.int (z9 hvc.2)),fun w2 _=>?_⟩;simp only[convert,Sem.run_bind,run_underlying ((hT _ _ hsi).bl hk),run_underlying ((hT _ _ hdi).bl hk'),Result.andThen_ok,Conv.intToInt,Sem.run_pure,tm hvc.2]
  ·rename_i e hk hk';unfold B2 at h;split at h
   ·rename_i ei hei;split at h
    ·rename_i hek;simp only[aE,aK] at h;obtain⟨rfl,rfl⟩:=h;refine⟨_,.d (.raw rfl),fun w2 ha=>?_⟩;have hag:=ha (by rw[hdi];obtain⟨ty,sz,b,z⟩:=di;simp only at hk';subst hk';rfl);obtain⟨a,n,c,rfl,hr⟩:=Od (P:=P) hx.fz hvc hag;rw[run_convert_bytes_string w2 src dst e a n c ((hT _ _ hsi).aH hk) ((hT _ _ hei).bl hek) ((hT _ _ hdi).kj hk')];exact hr
    ·simp at h
   ·simp at h
  ·simp at h
 ·simp at h
def w9 (op:UnOp) (x:I):Option (Prop×I):=
 match op,x with
 | .not,.d xd=>some (xd.isBool,.d (.bool (!xd.toBool)))
 | .neg,.d xd=>some (xd.isInt .i64/\cp .i64 (- xd.toInt),.d (.int .i64 (- xd.toInt)))
 | _,_=>none
def NZ {op:UnOp}(hx:V S φ H w x vx) (h:w9 op x=some (vc,y)) (hvc:vc) :
  ∃ v,V S φ H w y v/\∀ w2,(Op.unary op vx).run P w2=.ok v w2:=by
 unfold w9 at h;split at h
 ·simp only[aE,aK] at h;obtain⟨rfl,rfl⟩:=h;obtain⟨_,rfl⟩:=hx.fz.cl hvc;exact⟨_,.d .bool,fun w2=>by simp[Op.unary]⟩
 ·simp only[aE,aK] at h;obtain⟨rfl,rfl⟩:=h;obtain⟨_,rfl,_⟩:=hx.fz.ak hvc.1;refine⟨_,.d (.int hvc.2),fun w2=>?_⟩;simp only[Op.unary,Op.intArith,Sem.run_pure,Int.zero_sub,cO hvc.2]
 ·simp at h
def vq (b:Builtin) (x y:I):Option (Prop×I):=
 match b,x,y with
 | .min,.d x,.d y=>some (x.isInt .i64/\y.isInt .i64,.d (.int .i64 (if y.toInt<x.toInt then y.toInt else x.toInt)))
 | .max,.d x,.d y=>some (x.isInt .i64/\y.isInt .i64,.d (.int .i64 (if x.toInt<y.toInt then y.toInt else x.toInt)))
 | _,_,_=>none
def I1 {b:Builtin}{vy:Value}(hx:V S φ H w x vx) (hy:V S φ H w y vy) (h:vq b x y=some (vc,z)) (hvc:vc) (ts:Array TypeId) (ty:TypeId) :
  ∃ v,V S φ H w z v/\∀ (cs:Array Bool) w2,(builtin b ts ty cs #[vx,vy]).run P w2=.ok (.value v) w2:=by
 unfold vq at h;split at h;all_goals simp only[aE,aK,reduceCtorEq] at h
 all_goals
  obtain⟨rfl,rfl⟩:=h;obtain⟨_,rfl,k1⟩:=hx.fz.ak hvc.1;obtain⟨_,rfl,k2⟩:=hy.fz.ak hvc.2;refine⟨_,.d (.int (by split <;> assumption)),fun cs w2=>?_⟩;simp[builtin,run_min_int2,run_max_int2]
def wL (x:I) (j:Nat):Option (Prop×I):=
 match x with
 | .tup vs=>some (j<vs.length,vs.getD j .junk)
 | .d xd=>some (xd.oI xd.iJ/\j<xd.iJ,.d (xd.rg j))
 | _=>none
def Pz {j:Nat}(hx:V S φ H w x vx) (h:wL x j=some (vc,z)) (hvc:vc) :
  ∃ v,V S φ H w z v/\∀ w2,(Instr.extract vx j).run P w2=.ok v w2:=by
 unfold wL at h;split at h
 ·simp only[aE,aK] at h;obtain⟨rfl,rfl⟩:=h;cases hx with
  | @tup _ vs hl hj=>
   refine⟨_,hj j hvc,fun w2=>?_⟩;simp[Instr.extract,Array.getD,show j<vs.size by omega,Array.getElem?_eq_getElem (show j<vs.size by omega)]
 ·rename_i xd;simp only[aE,aK] at h;obtain⟨rfl,rfl⟩:=h;have hz:=hx.fz;cases hz <;> simp[D.oI,D.iJ] at hvc
  rename_i xs vs hl hj;refine⟨_,.d (hj j hvc),fun w2=>?_⟩;simp[Instr.extract,Array.getD,show j<vs.size by omega,Array.getElem?_eq_getElem (show j<vs.size by omega)]
 ·simp at h
def wW (c a b:I) (ca cb:Prop):Option (Prop×I):=
 match c,a,b with
 | .d c,.d a,.d b=>some (c.isBool/\(c.toBool=true->ca/\a.isBool)/\(c.toBool=false->cb/\b.isBool),.d (.bool (if c.toBool=true then a.toBool else b.toBool)))
 | _,_,_=>none
def j8 (H:ZF) (x:I):Option (Prop×I):=
 match x with
 | .d xd=>some (xd.cR,.d xd)
 | .ptr i off=>
  match H[i]? with
  | some (.box _)=>some (True,.ptr i off)
  | _=>none
 | .eptr i g k idx off z=>
  match H[i]? with
  | some (.row g' k' _ _)=>some (g'=g/\k'=k,.eptr i g k idx off z)
  | _=>none
 | _=>none
def Qg (hx:V S φ H w x vx) (h:j8 H x=some (vc,z)) (hvc:vc):V S φ H w z vx/\∃ a,vx=.pointer (some a):=by
 unfold j8 at h;split at h
 ·simp only[aE,aK] at h;obtain⟨rfl,rfl⟩:=h;obtain⟨b,off,rfl,_⟩:=hx.fz.jH hvc;exact⟨hx,_,rfl⟩
 ·split at h
  ·rename_i cs hroot;simp only[aE,aK] at h;obtain⟨rfl,rfl⟩:=h;cases hx with
   | ptr hlt hrel ho=>
    obtain⟨b,hb,rfl⟩:=hrel cs hroot;exact⟨.ptr hlt hrel ho,_,rfl⟩
  ·simp at h
 ·split at h
  ·rename_i hroot;simp only[aE,aK] at h;obtain⟨rfl,rfl⟩:=h;obtain⟨rfl,rfl⟩:=hvc;cases hx with
   | eptr hlt hg hrel ho=>
    obtain⟨b,rest,hb,rfl⟩:=hrel _ _ hroot;exact⟨.eptr hlt hg hrel ho,_,rfl⟩
  ·simp at h
 ·simp at h
def m7:D->D->Bool
 | .int _ a,.int _ b=>decide (a=b)
 | .agg as,.agg bs=>pH as bs
 | _,_=>false
def lO (T:Nat->Option TI):Ty->Prop
 | .int _=>True
 | .struct fs=>su T 0 fs
 | .array _ e=>qY (T e)=true
 | _=>False
def e8:Ty->D->Prop
 | .int k,x=>x.isInt k
 | .struct fs,.agg cs=>cs.length=fs.length/\bu cs
 | .array n _,.agg cs=>cs.length=n/\bu cs
 | _,_=>False
def jN (ty:Ty):List (D×D)->Prop
 | []=>True
 | x::r=>e8 ty x.1/\jN ty r
def nF:List (D×D)->D->Nat->Option (Nat×D)
 | [],_,_=>none
 | x::r,k,i=>if m7 k x.1=true then some (i,x.2) else nF r k (i+1)
def fR:List (D×D)->D->Option D
 | [],_=>none
 | x::r,k=>if m7 k x.1=true then some x.2 else fR r k
def bU:List (D×D)->D->D->List (D×D)
 | [],k,v=>[(k,v)]
 | x::r,k,v=>if m7 k x.1=true then(k,v)::r else x::bU r k v
def y0 {ty:Ty} : ∀ {es:List (D×D)},jN ty es↔∀ e∈es,e8 ty e.1
 | []=>by simp[jN]
 | x::r=>by simp[jN,y0 (es:=r)]
def MZ (k:D) : ∀ (es:List (D×D)) (i:Nat),(nF es k i).map (·.2)=fR es k
 | [],_=>rfl
 | x::r,i=>by
  simp only[nF,fR];split
  ·rfl
  ·exact MZ k r (i+1)
def DQ (hT:bQ P T) (h:qY (T t)=true) : ∃ ti,a0 P t ti/\ti.ty=.int .i64:=by
 cases e:T t with
 | none=>rw[e] at h;simp[qY] at h
 | some ti=>
  rw[e] at h;refine⟨ti,hT _ _ e,?_⟩;obtain⟨ty,a,b,c⟩:=ti;cases ty with
  | int k=>cases k <;> first|rfl|simp[qY] at h
  | _=>simp[qY] at h
def Sh (ht:a0 P e ti) (hty:ti.ty=.int .i64) (hsz:ti.size=1) (hu:P.underlying t=some (.array n e)) {vs us:Array Value}{cs ds:ZD}(hv:cs.length=vs.size) (hud:ds.length=us.size)
  (hn:cs.length=n) (hn2:ds.length=n) (fv : ∀ S w,∀ j,j<cs.length->FZ S w (cs.getD j .nil) (vs.getD j undef)) (fu : ∀ S w,∀ j,j<ds.length->FZ S w (ds.getD j .nil) (us.getD j undef))
  (ic:bu cs) (id:bu ds) (w2:World) (d:Nat):(Op.equalIn (d+2) t (.agg vs) (.agg us)).run P w2=.ok (pH cs ds) w2:=by
 have hag:ti.ty.agg=false:=by rw[hty];rfl
 have main : ∀ (m j:Nat),j+m=n->
   (forIn (List.range' j m) ((none,()):Option Bool×Unit) (fun i r=>(do
    let a←part e vs (i*1)
    let b←part e us (i*1)
    let q←Op.equalIn (d+1) e a b
    if(!q)=true then pure (ForInStep.done (some false,())) else pure (ForInStep.yield (none,())):Sem (ForInStep (Option Bool×Unit))))).run P w2 =
   .ok (if pH (cs.drop j) (ds.drop j)=true then(none,()) else(some false,())) w2:=by
  intro m;induction m with
  | zero=>
   intro j hj;rw[sj (by omega),sj (by omega)];simp[pH]
  | succ m ih=>
   intro j hj;have e1:cs.drop j=cs.getD j .nil::cs.drop (j+1):=by
    rw[qk (by omega),List.getD_eq_getElem?_getD,List.getElem?_eq_getElem (by omega)];rfl
   have e2:ds.drop j=ds.getD j .nil::ds.drop (j+1):=by
    rw[qk (by omega),List.getD_eq_getElem?_getD,List.getElem?_eq_getElem (by omega)];rfl
   obtain⟨_,ev,kx⟩:=(fv (fun _=>True) w2 j (by omega)).ak (qq ic j (by omega));obtain⟨_,eu,ky⟩:=(fu (fun _=>True) w2 j (by omega)).ak (qq id j (by omega));have ih:=ih (j+1) (by omega);rw[e1,e2];simp only[List.range'_succ,List.forIn_cons,jL,Sem.run_bind,qr ht hag (show j<vs.size by omega),qr ht hag (show j<us.size by omega),Result.andThen_ok,ev,eu,run_equalIn_int w2 d e .i64 .i64 _ _ (ht.bl hty)];simp only[pH];by_cases hq:(cs.getD j .nil).toInt=(ds.getD j .nil).toInt
   ·simp only[hq,beq_self_eq_true,Bool.not_true,eE,if_false,decide_true,rR,Sem.run_pure,Result.andThen_ok];simpa only[jL] using ih
   ·simp only[beq_eq_false_iff_ne.2 hq,Bool.not_false,if_true,Sem.run_pure,decide_eq_false hq,Bool.false_and,Result.andThen_ok,eE,if_false]
 have:=main n 0 (by omega);simp only[List.drop_zero] at this;rw[Op.equalIn];simp only[Sem.run_bind,run_underlying hu,Result.andThen_ok,ht.run_sizeOf,hsz];simp only[Std.Legacy.Range.forIn_eq_forIn_range',Std.Legacy.Range.size,Nat.sub_zero,Nat.add_one_sub_one,Nat.div_one];rw[this];cases pH cs ds <;> simp[Result.andThen]
def a0.km (ht:a0 P t ti) (h:ti.ty.agg=false):ti.size=1:=by
 have h1:=ht.size;have h2:=ht.agg;rw[h] at h2;revert h1 h2
 cases ti.zero <;> simp[D.cells] <;> omega
def xF (hT:bQ P T) (ht:a0 P kt ti) (hk:lO T ti.ty) {x y:D}(hx:e8 ti.ty x) (hy:e8 ti.ty y) (fx : ∀ S w,FZ S w x v) (fy : ∀ S w,FZ S w y u) (w2:World) :
  (Op.equal kt v u).run P w2=.ok (m7 x y) w2:=by
 obtain⟨ty,sz,by',z⟩:=ti;simp only at hk hx hy;have g1:=fx (fun _=>True) w2;have g2:=fy (fun _=>True) w2;cases ty with
 | int k=>
  simp only[e8] at hx hy;obtain⟨e1,rfl,_⟩:=g1.ak hx;obtain⟨e2,rfl,_⟩:=g2.ak hy;rw[e1,e2];have:=run_equalIn_int (P:=P) w2 9999 kt k k x.toInt y.toInt (ht.bl rfl);simp only[Op.equal,Op.maxDepth,this,m7,D.toInt];congr 1
 | struct fs=>
  simp only[lO] at hk;obtain⟨fields,hu,hfs⟩:=ht.cr rfl;have hq:=ht.eqs;cases x <;> simp only[e8] at hx
  cases y <;> simp only[e8] at hy
  rename_i cs ds;cases v with
  | agg vs=>
   cases u with
   | agg us=>
    have c1:cs.length=vs.size/\∀ S w,∀ j,j<cs.length->FZ S w (cs.getD j .nil) (vs.getD j undef):=
     ⟨by cases g1;assumption,fun S w=>by have:=fx S w;cases this;assumption⟩
    have c2:ds.length=us.size/\∀ S w,∀ j,j<ds.length->FZ S w (ds.getD j .nil) (us.getD j undef):=
     ⟨by cases g2;assumption,fun S w=>by have:=fy S w;cases this;assumption⟩
    subst hfs;obtain⟨r1,r2⟩:=I8 hT hk;simp only[AU,hu,r1,Bool.not_true,Bool.false_or,gO,Bool.not_eq_true',l6,decide_eq_true_eq] at hq;obtain⟨s1,s2,s3⟩:=hq;have hfo:P.fieldsOf kt=fields:=by simp only[Program.fieldsOf,hu]
    have l1:=hx.1;have l2:=hy.1;simp only[gQ] at l1 l2;simp only[Op.equal,Op.maxDepth];rw[run_equalIn_agg w2 9999 kt vs us (by rw[hfo];exact hu) s1,hfo];have:=Mq (P:=P) (S:=fun _=>True) (w:=w2) c1.1 c2.1 (c1.2 _ _) (c2.2 _ _) hx.2 hy.2 9998 w2 fields.toList 0 r1 s3 r2 (by omega) (by omega);simpa [m7] using this
   | _=>cases g2
  | _=>cases g1
 | array n e=>
  simp only[lO] at hk;obtain⟨ei,he,hei⟩:=DQ hT hk;have hu:=ht.cL (n:=n) (e:=e) rfl;cases x <;> simp only[e8] at hx
  cases y <;> simp only[e8] at hy
  rename_i cs ds;cases v with
  | agg vs=>
   cases u with
   | agg us=>
    have c1:cs.length=vs.size/\∀ S w,∀ j,j<cs.length->FZ S w (cs.getD j .nil) (vs.getD j undef):=
     ⟨by cases g1;assumption,fun S w=>by have:=fx S w;cases this;assumption⟩
    have c2:ds.length=us.size/\∀ S w,∀ j,j<ds.length->FZ S w (ds.getD j .nil) (us.getD j undef):=
     ⟨by cases g2;assumption,fun S w=>by have:=fy S w;cases this;assumption⟩
    exact Sh he hei (he.km (by rw[hei];rfl)) hu c1.1 c2.1 hx.1 hy.1 c1.2 c2.2 hx.2 hy.2 w2 9998
   | _=>cases g2
  | _=>cases g1
 | _=>simp only[lO] at hk
def Nu (hT:bQ P T) (ht:a0 P kt ti) (hk:lO T ti.ty) {x:D}(hx:e8 ti.ty x) (fx : ∀ S w,FZ S w x v) (em:Bool) (w2:World):(Instr.checkKey em 10000 kt v).run P w2=.ok () w2:=by
 obtain⟨ty,sz,by',z⟩:=ti;simp only at hk hx;have g1:=fx (fun _=>True) w2;have one : ∀ (t:Nat) (n:Int) (hu:P.underlying t=some (.int .i64)),(Instr.checkKey em 9999 t (.int .i64 n)).run P w2=.ok () w2:=by
  intro t n hu;rw[Instr.checkKey];simp[run_underlying hu,Result.andThen]
 cases ty with
 | int k=>
  simp only[e8] at hx;obtain⟨e1,rfl,_⟩:=g1.ak hx;rw[Instr.checkKey];simp[run_underlying (ht.bl rfl),Result.andThen]
 | struct fs=>
  simp only[lO] at hk;obtain⟨fields,hu,hfs⟩:=ht.cr rfl;cases x <;> simp only[e8] at hx
  rename_i cs;cases v with
  | agg vs=>
   have c1:cs.length=vs.size/\∀ j,j<cs.length->FZ (fun _=>True) w2 (cs.getD j .nil) (vs.getD j undef):=by cases g1;exact⟨by assumption,by assumption⟩
   subst hfs;rw[Instr.checkKey];simp only[Sem.run_bind,run_underlying hu,Result.andThen_ok];rw[<-Array.forIn_toList];have hlen:=hx.1;simp only[gQ] at hlen;have main : ∀ (l:List Field) (j:Nat),su T j (l.map fun f=>(f.offset,f.type))->j+l.length=cs.length->
     (forIn l PUnit.unit fun f (_:PUnit)=>(do
                            if f.name ≠ "_" then Instr.checkKey em 9999 f.type (← part f.type vs f.offset) else pure PUnit.unit
                            pure (ForInStep.yield PUnit.unit):Sem (ForInStep PUnit))).run P w2=.ok PUnit.unit w2:=by
    intro l;induction l with
    | nil=>intro j _ _;simp
    | cons f r ih=>
     intro j ha hj;simp only[js,su] at ha;simp only[eD] at hj;obtain⟨ho,h2,h3⟩:=ha;obtain⟨fi,hf,hfi⟩:=DQ hT h2;subst ho;obtain⟨_,ev,_⟩:=(c1.2 f.offset (by omega)).ak (qq hx.2 _ (by omega));have ih:=ih _ h3 (by omega);have hp:=qr hf (by rw[hfi];rfl) (show f.offset<vs.size by omega) w2;rw[ev] at hp;simp only[List.forIn_cons,Sem.run_bind];by_cases hn : f.name = "_"
     ·simp only[hn,ne_eq,not_true_eq_false,if_false,Sem.run_pure,Result.andThen_ok];exact ih
     ·simp only[hn,ne_eq,not_false_eq_true,if_true,Sem.run_bind,hp,Result.andThen_ok,one f.type _ (hf.bl hfi),Sem.run_pure];exact ih
   have:=main fields.toList 0 hk (by omega);simp[Result.andThen] at this ⊢;rw[this]
  | _=>cases g1
 | array n e=>
  simp only[lO] at hk;obtain⟨ei,he,hei⟩:=DQ hT hk;have hu:=ht.cL (n:=n) (e:=e) rfl;cases x <;> simp only[e8] at hx
  rename_i cs;cases v with
  | agg vs=>
   have c1:cs.length=vs.size/\∀ j,j<cs.length->FZ (fun _=>True) w2 (cs.getD j .nil) (vs.getD j undef):=by cases g1;exact⟨by assumption,by assumption⟩
   rw[Instr.checkKey];simp only[Sem.run_bind,run_underlying hu,Result.andThen_ok];simp only[Std.Legacy.Range.forIn_eq_forIn_range',Std.Legacy.Range.size,Nat.sub_zero,Nat.add_one_sub_one,Nat.div_one];have hag:ei.ty.agg=false:=by rw[hei];rfl
   have main : ∀ (m j:Nat),j+m=n->
     (forIn (List.range' j m) PUnit.unit fun i (_:PUnit)=>(do
                                    Instr.checkKey em 9999 e (←part e vs (i*(←sizeOf e)))
                                    pure (ForInStep.yield PUnit.unit):Sem (ForInStep PUnit))).run P w2=.ok PUnit.unit w2:=by
    intro m;induction m with
    | zero=>intro j _;simp
    | succ m ih=>
     intro j hj;have hl:=hx.1;obtain⟨_,ev,_⟩:=(c1.2 j (by omega)).ak (qq hx.2 _ (by omega));have hp:=qr he hag (show j<vs.size by omega) w2;rw[ev] at hp;simp only[List.range'_succ,List.forIn_cons,Sem.run_bind,he.run_sizeOf,he.km hag,jL,hp,Result.andThen_ok,one e _ (he.bl hei),Sem.run_pure];simpa only[Sem.run_bind,he.run_sizeOf,he.km hag,jL] using ih (j+1) (by omega)
   have:=main n 0 (by omega);simp[Result.andThen] at this ⊢;rw[this]
  | _=>cases g1
 | _=>simp only[lO] at hk
def Ml (hT:bQ P T) (ht:a0 P kt ti) (hk:lO T ti.ty) {x:D}(hx:e8 ti.ty x) (fx : ∀ S w,FZ S w x v) {es:List (D×D)}{l:List MapEntry}(hr:sf es l) (ha:jN ti.ty es) :
  ∃ r,(∀ w2,(Instr.findKey kt v l).run P w2=.ok r w2)/\match nF es x 0 with|none=>r=none|some (i,d)=>∃ u,r=some (i,u)/\∀ S w,FZ S w d u:=by
 have ask : ∀ (es:List (D×D)) (l:List MapEntry) (i:Nat),sf es l->jN ti.ty es->
   ∃ r,(∀ w2,(Instr.findAsking kt v l i).run P w2=.ok r w2)/\match nF es x i with|none=>r=none|some (i,d)=>∃ u,r=some (i,u)/\∀ S w,FZ S w d u:=by
  intro es;induction es with
  | nil=>
   intro l i hr _;cases l with
   | nil=>exact⟨none,fun w2=>by simp[Instr.findAsking],rfl⟩
   | cons e l=>exact hr.elim
  | cons y es ih=>
   intro l i hr ha;cases l with
   | nil=>exact hr.elim
   | cons e l=>
    obtain⟨⟨h1,h2⟩,hr⟩:=hr;have hq:=xF hT ht hk hx ha.1 fx h1;obtain⟨r,i1,i2⟩:=ih l (i+1) hr ha.2;simp only[Instr.findAsking,Sem.run_bind,hq,Result.andThen_ok,nF];by_cases hb:m7 x y.1=true
    ·simp only[hb,if_true];exact⟨_,fun w2=>by simp,_,rfl,h2⟩
    ·simp only[hb,if_false,eE];exact⟨r,i1,i2⟩
 have hi:(∃ k,ti.ty=.int k)∨∃ d,P.underlying kt=some d/\∀ w u,Instr.sameNow d w u=none:=by
  obtain⟨ty,sz,by',z⟩:=ti;cases ty with
  | int k=>exact .inl ⟨k,rfl⟩
  | struct fs=>
   obtain⟨fields,hu,_⟩:=ht.cr rfl;exact .inr ⟨_,hu,fun _ _=>rfl⟩
  | array n e=>exact .inr ⟨_,ht.cL rfl,fun _ _=>rfl⟩
  | _=>simp only[lO] at hk
 rcases hi with⟨k,hk'⟩|⟨d,hu,hd⟩
 ·have hu:=ht.bl hk';rw[hk'] at hx;have now : ∀ (es:List (D×D)) (l:List MapEntry) (i:Nat),sf es l->jN ti.ty es->
    ∃ r,Instr.findNow (.int k) v l i=some r/\match nF es x i with|none=>r=none|some (i,d)=>∃ u,r=some (i,u)/\∀ S w,FZ S w d u:=by
   intro es;induction es with
   | nil=>
    intro l i hr _;cases l with
    | nil=>exact⟨none,rfl,rfl⟩
    | cons e l=>exact hr.elim
   | cons y es ih=>
    intro l i hr ha;cases l with
    | nil=>exact hr.elim
    | cons e l=>
     obtain⟨⟨h1,h2⟩,hr⟩:=hr;have hy:=ha.1;rw[hk'] at hy;simp only[e8] at hx hy;obtain⟨e1,hv,_⟩:=(fx (fun _=>True) default).ak hx;obtain⟨e2,hu2,_⟩:=(h1 (fun _=>True) default).ak hy;obtain⟨r,i1,i2⟩:=ih l (i+1) hr ha.2;have hs:Instr.sameNow (.int k) v e.key=some (m7 x y.1):=by
      rw[hv,hu2,e1,e2];simp only[Instr.sameNow,if_true,m7,D.toInt];congr 1
     simp only[Instr.findNow,hs,nF];by_cases hb:m7 x y.1=true
     ·simp only[hb,if_true];exact⟨_,rfl,_,rfl,h2⟩
     ·simp only[Bool.not_eq_true] at hb;simp only[hb,if_false,eE];exact⟨r,i1,i2⟩
  obtain⟨r,r1,r2⟩:=now es l 0 hr ha;exact⟨r,fun w2=>by simp[Instr.findKey,run_underlying hu,Result.andThen,r1],r2⟩
 ·obtain⟨r,r1,r2⟩:=ask es l 0 hr ha;refine⟨r,fun w2=>?_,r2⟩;have r1:=r1 w2;cases l with
  | nil=>
   simp only[Instr.findAsking,Sem.run_pure] at r1;simpa [Instr.findKey,run_underlying hu,Result.andThen,Instr.findNow] using r1
  | cons e l=>simpa [Instr.findKey,run_underlying hu,Result.andThen,Instr.findNow,hd] using r1
def LO {ty:Ty}{x:D}(hx:e8 ty x) (h:FZ S w x v) : ∀ S' w',FZ S' w' x v:=by
 intro S' w';cases ty with
 | int k=>
  simp only[e8] at hx;obtain⟨e1,rfl,hk⟩:=h.ak hx;rw[e1];exact .int hk
 | struct fs=>
  cases x <;> simp only[e8] at hx
  cases h with
  | agg hl h1 hf=>
   refine .agg hl h1 fun j hj=>?_
   have ic:=qq hx.2 j hj;obtain⟨e1,e2,hk⟩:=(hf j hj).ak ic;rw[e1,e2];exact .int hk
 | array n e=>
  cases x <;> simp only[e8] at hx
  cases h with
  | agg hl h1 hf=>
   refine .agg hl h1 fun j hj=>?_
   have ic:=qq hx.2 j hj;obtain⟨e1,e2,hk⟩:=(hf j hj).ak ic;rw[e1,e2];exact .int hk
 | _=>simp only[e8] at hx
def wb (T:Nat->Option TI) (H:ZF) (t:Nat) (m k:I) (ok:Bool):Option (Prop×I):=
 match T t,m,k with
 | some ⟨.map kt et,_,_,_⟩,.map i,.d kd=>
  match H[i]?,T kt,T et with
  | some (.map es),some kti,some eti=>some (lO T kti.ty/\e8 kti.ty kd/\jN kti.ty es,
    if ok=true then .d (.tup [(fR es kd).getD eti.zero,.bool (fR es kd).isSome]) else .d ((fR es kd).getD eti.zero))
  | _,_,_=>none
 | _,_,_=>none
def a0.oz (ht:a0 P t ti) {k:Nat}(hy:ti.ty=.map k e):P.underlying t=some (.map k e):=by
 obtain⟨i,d,_,_,_,_,hu,hd⟩:=ht.ex;rw[hy] at hd;cases d <;> simp only[ff,Ty.map.injEq,reduceCtorEq] at hd
 obtain⟨rfl,rfl⟩:=hd;exact hu
def AZ {x y:D}(h1:FZ S w x v) (h2:FZ S w y u):FZ S w (.tup [x,y]) (.tuple #[v,u]):=by
 refine .tup rfl fun j hj=>?_
 match j,hj with
 | 0,_=>exact h1
 | 1,_=>exact h2
def RI (hT:bQ P T) (s:aQ S φ H w) {m k:I}{vm vk:Value}(hm:V S φ H w m vm) (hk:V S φ H w k vk) {ok:Bool}(h:wb T H t m k ok=some (vc,y)) (hvc:vc) :
  ∃ v,V S φ H w y v/\∀ w2,au w w2->(Instr.lookup t vm vk ok).run P w2=.ok v w2:=by
 unfold wb at h;split at h
 ·rename_i kt et a1 a2 a3 i kd hti;split at h
  ·rename_i es kti eti hi hkt het;simp only[aE,aK] at h;obtain⟨rfl,rfl⟩:=h;obtain⟨q1,q2,q3⟩:=hvc;have hu:=(hT _ _ hti).oz rfl;have hkk:=hT _ _ hkt;have hee:=hT _ _ het;cases hm with
   | map hlt hrel h1=>
    obtain⟨b,hfp,rfl⟩:=hrel es hi;obtain⟨b',ents,clock,hfp',hb,hr⟩:=s.rel i _ hi;rw[hfp] at hfp';simp only[List.cons.injEq,and_true] at hfp';subst hfp';have hlt:=s.lt b ⟨i,by rw[hfp];simp⟩;have fk:=LO q2 hk.fz;obtain⟨r,r1,r2⟩:=Ml hT hkk q1 q2 fk hr q3;have hD:=MZ kd es 0;have zero : ∀ S w,FZ S w eti.zero (bc eti.zero):=fun S w=>zG hee.const
    have hc:=fun w2=>Nu hT hkk q1 q2 fk ents.isEmpty w2
    cases hfi:nF es kd 0 with
    | none=>
     rw[hfi] at hD r2;simp only[dh] at hD;subst r2;rw[<-hD];have hrun : ∀ w2,au w w2->(Instr.lookup t (.map (some b)) vk ok).run P w2=.ok (if ok=true then .tuple #[bc eti.zero,.bool false] else bc eti.zero) w2:=by
      intro w2 ha;have hb2:w2.heap[b]?=some (.map ents clock):=(ha b hlt).trans hb;simp only[Instr.lookup,Sem.run_bind,run_underlying hu,Result.andThen_ok,MapKept.run_getObj_map hb2,hc,r1,hee.dl,Sem.run_pure]
     cases ok with
     | false=>
      simp only[eE,if_false,fH] at hrun ⊢;exact⟨_,.d (zero S w),hrun⟩
     | true=>
      simp only[if_true,fH,Option.isSome_none] at hrun ⊢;exact⟨_,.d (AZ (zero S w) .bool),hrun⟩
    | some p=>
     obtain⟨j,d⟩:=p;rw[hfi] at hD r2;simp only[dE] at hD;obtain⟨u,rfl,hu2⟩:=r2;rw[<-hD];have hrun : ∀ w2,au w w2->(Instr.lookup t (.map (some b)) vk ok).run P w2=.ok (if ok=true then .tuple #[u,.bool true] else u) w2:=by
      intro w2 ha;have hb2:w2.heap[b]?=some (.map ents clock):=(ha b hlt).trans hb;simp only[Instr.lookup,Sem.run_bind,run_underlying hu,Result.andThen_ok,MapKept.run_getObj_map hb2,hc,r1,Sem.run_pure]
     cases ok with
     | false=>
      simp only[eE,if_false,cP] at hrun ⊢;exact⟨_,.d (hu2 S w),hrun⟩
     | true=>
      simp only[if_true,cP,Option.isSome_some] at hrun ⊢;exact⟨_,.d (AZ (hu2 S w) .bool),hrun⟩
  ·simp at h
 ·simp at h
end Go.VL
namespace Go.VL
variable {vc:Prop}{x:I}{α:Type}
variable {P:Program}{S:Nat->Prop}{φ : List ZC}{H:ZF}{w:World}{T:Nat->Option TI}{fr:Fr}{a:Act}
def aP (c:Prop):Option (Prop×I)->Option (Prop×I)
 | some (vc,x)=>some (c/\vc,x)
 | none=>none
def dU (fr:Fr):Option Operand->Option I
 | some o=>some (aq fr o)
 | none=>none
def rF (fr:Fr):Option Operand->Prop
 | some o=>aF fr o
 | none=>True
def iw (fr:Fr):List Operand->ZE
 | []=>[]
 | o::r=>aq fr o::iw fr r
def ee (fr:Fr):List Operand->Prop
 | []=>True
 | o::r=>aF fr o/\ee fr r
def mU (f:Nat) (caps:ZE):I:=
 match eS caps with
 | some ds=>.d (.fn f ds)
 | none=>.fn f caps
def Nr (T:Nat->Option TI) (fr:Fr) (H:ZF) (b:Builtin) (args:List Operand) (tys:List TypeId):Option (Prop×I):=
 match b,args,tys with
 | .len,[x],[t]=>aP (aF fr x) (dr T H t (aq fr x))
 | .cap,[x],[t]=>aP (aF fr x) (ie T t (aq fr x))
 | .min,[x,y],_=>aP (aF fr x/\aF fr y) (vq .min (aq fr x) (aq fr y))
 | .max,[x,y],_=>aP (aF fr x/\aF fr y) (vq .max (aq fr x) (aq fr y))
 | _,_,_=>none
def dH (T:Nat->Option TI) (fr:Fr) (H:ZF):Op->Option (Prop×I)
 | .move x=>some (aF fr x,aq fr x)
 | .assign x=>some (aF fr x,aq fr x)
 | .pick c x y=>aP (aF fr c) (wW (aq fr c) (aq fr x) (aq fr y) (aF fr x) (aF fr y))
 | .build t parts=>aP (oG fr parts.toList) (xA T t (lq fr parts.toList))
 | .load t p=>aP (aF fr p) (nE T H t (aq fr p))
 | .nilCheck x=>aP (aF fr x) (j8 H (aq fr x))
 | .binOp op t x y _=>aP (aF fr x/\aF fr y) (lT T H op t (aq fr x) (aq fr y))
 | .unOp op _ x=>aP (aF fr x) (w9 op (aq fr x))
 | .convert s d x=>aP (aF fr x) (vu T s d (aq fr x))
 | .makeFunc (.func f) first caps=>
  match first.toList with
  | []=>some (ee fr caps.toList,mU f (iw fr caps.toList))
  | _=>none
 | .slice t x lo hi mx=>aP (aF fr x/\rF fr lo/\rF fr hi) (v6 T H t (aq fr x) (dU fr lo) (dU fr hi) (dU fr mx))
 | .fieldAddr s x f=>aP (aF fr x) (wA T H s (aq fr x) f)
 | .field s x f=>aP (aF fr x) (DW T s (aq fr x) f)
 | .indexAddr t x ix=>aP (aF fr x/\aF fr ix) (tV T H t (aq fr x) (aq fr ix))
 | .index t x ix=>aP (aF fr x/\aF fr ix) (zl T t (aq fr x) (aq fr ix))
 | .extract x j=>aP (aF fr x) (wL (aq fr x) j)
 | .lookup t x ix ok=>aP (aF fr x/\aF fr ix) (wb T H t (aq fr x) (aq fr ix) ok)
 | .call { callee:=.builtin b,args,argTypes }=>Nr T fr H b args.toList argTypes.toList
 | _=>none
def l4 {c:Prop}{o:Option (Prop×I)}(h:aP c o=some (vc,x)) (hvc:vc):c/\∃ vc',o=some (vc',x)/\vc':=by
 cases o with
 | none=>simp[aP] at h
 | some p=>
  obtain⟨vc',x'⟩:=p;simp only[aP,aE,aK] at h;obtain⟨rfl,rfl⟩:=h;exact⟨hvc.1,vc',rfl,hvc.2⟩
def de.aq (h:de S φ H w fr a) (o:Operand) (hc:aF fr o):V S φ H w (aq fr o) (a.eval o):=by
 have hv:=h.ev o;unfold VL.aq;unfold aF at hc;generalize VL.ev fr o=y at *
 cases y with
 | cond e x=>
  cases hv with
  | cond hv _=>exact hv hc
 | _=>exact hv
def BB (h:de S φ H w fr a) : ∀ (l:List Operand),ee fr l->(iw fr l).length=l.length/\∀ j,j<l.length->V S φ H w ((iw fr l).getD j .junk) ((l.map a.eval).toArray.getD j undef)
 | [],_=>⟨rfl,fun j hj=>by simp at hj⟩
 | o::r,hc=>by
  obtain⟨h1,h2⟩:=BB h r hc.2;refine⟨by simp[iw,h1],fun j hj=>?_⟩;cases j with
  | zero=>simpa [iw,List.getD,Array.getD] using h.aq o hc.1
  | succ j=>
   have:=h2 j (by simpa using hj);simpa [iw,List.getD,Array.getD_eq_getD_getElem?] using this
def V.mU {f:Nat}{cs:ZE}{vs:Array Value}(hl:cs.length=vs.size) (h : ∀ j,j<cs.length->V S φ H w (cs.getD j .junk) (vs.getD j undef)):V S φ H w (mU f cs) (.func (.func f) #[] vs):=by
 unfold VL.mU;split
 ·rename_i ds hds;obtain⟨hl',hd⟩:=FR hds;refine .d (.fn (by omega) fun j hj=>?_);have:=h j (by omega);rw[hd j (by omega)] at this;exact this.fz
 ·exact .fn hl h
def FJ (h:de S φ H w fr a) : ∀ (l:List (Nat×Operand)),oG fr l->(lq fr l).length=(l.map fun(i,x)=>(i,a.eval x)).length/\
  ∀ (j i:Nat) (x:I),(lq fr l)[j]?=some (i,x)->∃ v:Value,(l.map fun(i,x)=>(i,a.eval x))[j]?=some (i,v)/\V S φ H w x v
 | [],_=>⟨rfl,fun j i x hj=>by simp[lq] at hj⟩
 | (i0,o)::r,hc=>by
  obtain⟨h1,h2⟩:=FJ h r hc.2;refine⟨by simp[lq,h1],fun j i x hj=>?_⟩;cases j with
  | zero=>
   simp only[lq,List.getElem?_cons_zero,aE,aK] at hj;obtain⟨rfl,rfl⟩:=hj;exact⟨_,rfl,h.aq o hc.1⟩
  | succ j=>
   simp only[lq,List.getElem?_cons_succ] at hj;obtain⟨v,hv,hx⟩:=h2 j i x hj;exact⟨v,by simpa using hv,hx⟩
def HC (h:de S φ H w fr a) {o:Option Operand}(hc:rF fr o):(∀ x,dU fr o=some x->∃ v,o.map a.eval=some v/\V S φ H w x v)/\(dU fr o=none->o.map a.eval=none):=by
 cases o with
 | none=>exact⟨fun x hx=>by simp[dU] at hx,fun _=>rfl⟩
 | some o=>exact⟨fun x hx=>by simp only[dU,aE] at hx;subst hx;exact⟨_,rfl,h.aq o hc⟩,fun hx=>by simp[dU] at hx⟩
def pL {xs:Array α}{x : α}(h:xs.toList=[x]):xs = #[x]:=by rw[<-vA (xs:=xs),h]
def dW {xs:Array α}{x y : α}(h:xs.toList=[x,y]):xs = #[x,y]:=by rw[<-vA (xs:=xs),h]
def zC:Op->Bool
 | .load _ _=>true
 | .lookup _ _ _ _=>true
 | _=>false
def eo (T:Nat->Option TI):Op->Bool
 | .convert _ d _=>tg (T d)
 | _=>false
def vG (hT:bQ P T) (s:aQ S φ H w) (hf:de S φ H w fr a) {o:Oper}(h:dH T fr H o.op=some (vc,x)) (hvc:vc) :
  ∃ v,V S φ H w x v/\∀ w2,(zC o.op=true∨eo T o.op=true->au w w2)->(execOp a.eval o).run P w2=.ok (.value v) w2:=by
 obtain⟨dst,op,ty,pos,after,guard⟩:=o;simp only at h;cases op with
 | move y=>
  simp only[dH,aE,aK] at h;obtain⟨rfl,rfl⟩:=h;exact⟨_,hf.aq y hvc,fun w2 _=>by simp[execOp]⟩
 | assign y=>
  simp only[dH,aE,aK] at h;obtain⟨rfl,rfl⟩:=h;exact⟨_,hf.aq y hvc,fun w2 _=>by simp[execOp]⟩
 | pick c y z=>
  obtain⟨hc,vc',h,hvc⟩:=l4 h hvc;unfold wW at h;split at h
  ·rename_i xc xa xb ec ea eb;simp only[aE,aK] at h;obtain⟨rfl,rfl⟩:=h;have hcv:=hf.aq c hc;rw[ec] at hcv;obtain⟨_,hcv⟩:=hcv.fz.cl hvc.1;cases hb:xc.toBool with
   | true=>
    rw[hb] at hcv;have hav:=hf.aq y (hvc.2.1 hb).1;rw[ea] at hav;obtain⟨_,hav⟩:=hav.fz.cl (hvc.2.1 hb).2;exact⟨.bool xa.toBool,.d (by simp only[if_true];exact .bool),fun w2 _=>by simp[execOp,hcv,asBool,hav]⟩
   | false=>
    rw[hb] at hcv;have hav:=hf.aq z (hvc.2.2 hb).1;rw[eb] at hav;obtain⟨_,hav⟩:=hav.fz.cl (hvc.2.2 hb).2;exact⟨.bool xb.toBool,.d (by simp only[eE,if_false];exact .bool),fun w2 _=>by simp[execOp,hcv,asBool,hav]⟩
  ·simp at h
 | build t parts=>
  obtain⟨hc,vc',h,hvc⟩:=l4 h hvc;obtain⟨h1,h2⟩:=FJ hf parts.toList hc;obtain⟨v,hv,hr⟩:=Qe hT h1 h2 h hvc;refine⟨v,hv,fun w2 hw2=>?_⟩;have e:(parts.map fun(i,x)=>(i,a.eval x))=(parts.toList.map fun(i,x)=>(i,a.eval x)).toArray:=by
   rw[<-Array.toList_map,vA]
  have:=hr w2;rw[<-e] at this;simp[execOp,this]
 | load t p=>
  obtain⟨hc,vc',h,hvc⟩:=l4 h hvc;obtain⟨v,hv,hr⟩:=NA hT s (hf.aq p hc) h hvc;exact⟨v,hv,fun w2 hw2=>by simp[execOp,hr w2 (hw2 (.inl rfl))]⟩
 | nilCheck y=>
  obtain⟨hc,vc',h,hvc⟩:=l4 h hvc;obtain⟨hv,ad,hr⟩:=Qg (hf.aq y hc) h hvc;exact⟨_,hv,fun w2 hw2=>by simp[execOp,hr]⟩
 | binOp op t y z yt=>
  obtain⟨hc,vc',h,hvc⟩:=l4 h hvc;obtain⟨v,hv,hr⟩:=Oz hT (xo:=y) (yo:=z) (hf.aq y hc.1) (hf.aq z hc.2) h hvc;refine⟨v,hv,fun w2 hw2=>?_⟩;have:=hr w2;simp only[Sem.run_bind] at this;simp only[execOp,Sem.run_bind,this,Result.andThen_ok,Sem.run_pure]
 | unOp op t y=>
  obtain⟨hc,vc',h,hvc⟩:=l4 h hvc;obtain⟨v,hv,hr⟩:=NZ (P:=P) (hf.aq y hc) h hvc;exact⟨v,hv,fun w2 hw2=>by simp[execOp,hr w2]⟩
 | convert s d y=>
  obtain⟨hc,vc',h,hvc⟩:=l4 h hvc;obtain⟨v,hv,hr⟩:=Qp hT (hf.aq y hc) h hvc;exact⟨v,hv,fun w2 hw2=>by simp[execOp,hr w2 fun h=>hw2 (.inr h)]⟩
 | makeFunc fn first caps=>
  cases fn with
  | func f=>
   simp only[dH] at h;split at h
   ·rename_i hfirst;simp only[aE,aK] at h;obtain⟨rfl,rfl⟩:=h;obtain⟨h1,h2⟩:=BB hf caps.toList hvc;have e:caps.map a.eval=(caps.toList.map a.eval).toArray:=by rw[<-Array.toList_map,vA]
    have ef:first = #[]:=by rw[<-vA (xs:=first),hfirst]
    refine⟨_,V.mU (vs:=caps.map a.eval) (by rw[h1];simp) (fun j hj=>?_),fun w2 _=>by simp[execOp,Instr.makeFunc,ef]⟩;rw[e];exact h2 j (by rw[h1] at hj;exact hj)
   ·simp at h
  | _=>simp[dH] at h
 | slice t y lo hi mx=>
  obtain⟨⟨hc,hc1,hc2⟩,vc',h,hvc⟩:=l4 h hvc;obtain⟨l1,l2⟩:=HC hf hc1;obtain⟨m1,m2⟩:=HC hf hc2;have hm:dU fr mx=none->mx.map a.eval=none:=by cases mx <;> simp[dU]
  obtain⟨v,hv,hr⟩:=PV hT (hf.aq y hc) l1 l2 m1 m2 hm h hvc;exact⟨v,hv,fun w2 hw2=>by simp[execOp,hr w2]⟩
 | fieldAddr t y f=>
  obtain⟨hc,vc',h,hvc⟩:=l4 h hvc;obtain⟨v,hv,hr⟩:=Oe hT (hf.aq y hc) h hvc;exact⟨v,hv,fun w2 hw2=>by simp[execOp,hr w2]⟩
 | field t y f=>
  obtain⟨hc,vc',h,hvc⟩:=l4 h hvc;obtain⟨v,hv,hr⟩:=OU hT (hf.aq y hc) h hvc;exact⟨v,hv,fun w2 hw2=>by simp[execOp,hr w2]⟩
 | indexAddr t y z=>
  obtain⟨hc,vc',h,hvc⟩:=l4 h hvc;obtain⟨v,hv,hr⟩:=SF hT (hf.aq y hc.1) (hf.aq z hc.2) h hvc;exact⟨v,hv,fun w2 hw2=>by simp[execOp,hr w2]⟩
 | index t y z=>
  obtain⟨hc,vc',h,hvc⟩:=l4 h hvc;obtain⟨v,hv,hr⟩:=Sz hT (hf.aq y hc.1) (hf.aq z hc.2) h hvc;exact⟨v,hv,fun w2 hw2=>by simp[execOp,hr w2]⟩
 | extract y j=>
  obtain⟨hc,vc',h,hvc⟩:=l4 h hvc;obtain⟨v,hv,hr⟩:=Pz (P:=P) (hf.aq y hc) h hvc;exact⟨v,hv,fun w2 hw2=>by simp[execOp,hr w2]⟩
 | lookup t y z ok=>
  obtain⟨hc,vc',h,hvc⟩:=l4 h hvc;obtain⟨v,hv,hr⟩:=RI hT s (hf.aq y hc.1) (hf.aq z hc.2) h hvc;exact⟨v,hv,fun w2 hw2=>by simp[execOp,hr w2 (hw2 (.inl rfl))]⟩
 | call c=>
  obtain⟨callee,args,tys⟩:=c;cases callee with
  | builtin b=>
   simp only[dH,Nr] at h;split at h
   ·rename_i y t ha hta;obtain⟨hc,vc',h,hvc⟩:=l4 h hvc;obtain⟨v,hv,hr⟩:=PC (ty:=ty) hT (hf.aq y hc) h hvc;rw[pL ha,pL hta];exact⟨v,hv,fun w2 hw2=>by simp[execOp,resolve,invoke,builtin,hr w2]⟩
   ·rename_i y t ha hta;obtain⟨hc,vc',h,hvc⟩:=l4 h hvc;obtain⟨v,hv,hr⟩:=QK (ty:=ty) hT (hf.aq y hc) h hvc;rw[pL ha,pL hta];exact⟨v,hv,fun w2 hw2=>by simp[execOp,resolve,invoke,builtin,hr w2]⟩
   ·rename_i y z ha;obtain⟨hc,vc',h,hvc⟩:=l4 h hvc;obtain⟨v,hv,hr⟩:=I1 (P:=P) (hf.aq y hc.1) (hf.aq z hc.2) h hvc tys ty;refine⟨v,hv,fun w2 hw2=>?_⟩;rw[dW ha];simp only[execOp,resolve,invoke,Sem.run_bind,Sem.run_pure,Result.andThen_ok,List.map_toArray,js,List.map_nil];exact hr _ w2
   ·rename_i y z ha;obtain⟨hc,vc',h,hvc⟩:=l4 h hvc;obtain⟨v,hv,hr⟩:=I1 (P:=P) (hf.aq y hc.1) (hf.aq z hc.2) h hvc tys ty;refine⟨v,hv,fun w2 hw2=>?_⟩;rw[dW ha];simp only[execOp,resolve,invoke,Sem.run_bind,Sem.run_pure,Result.andThen_ok,List.map_toArray,js,List.map_nil];exact hr _ w2
   ·simp at h
  | _=>simp[dH] at h
 | _=>simp[dH] at h
end Go.VL
namespace Go.VL
variable {arr:Array Value}{k e:Nat}{l:ZD}{x:D}{vc:Prop}{y:I}{H':ZF}{v:Value}
variable {P:Program}{S:Nat->Prop}{φ : List ZC}{H:ZF}{w:World}{T:Nat->Option TI}{fr:Fr}{a:Act}
def pT (S:Nat->Prop) (φ : List ZC) (H:ZF) (w:World) (r:Result Next) (x:I) (H':ZF):Prop:=
 ∃ v w' φ',(r=.ok (.value v) w'∨(r=.ok .skip w'/\v=undef))/\aQ S φ' H' w'/\Tr H.length S φ H w S φ' H' w'/\Ext S φ w S φ' w'/\V S φ' H' w' x v
def Az (s:aQ S φ H w) (o:Obj):oN φ w H.length [w.heap.size] (w.alloc o):=
 ⟨rfl,rfl,rfl,by simp,fun b hb _=>heap_alloc_old w o hb,by simp,fun b hb=>by simp at hb;subst hb;exact⟨.inr (aD _),by simp⟩⟩
def H3 (s:aQ S φ H w) (o:Obj):oN φ w H.length [w.heap.size] (w.drew.alloc o):=
 ⟨rfl,rfl,rfl,by simp,fun b hb _=>heap_alloc_old w.drew o hb,by simp,fun b hb=>by simp at hb;subst hb;exact⟨.inr (aD _),by simp⟩⟩
def Dl (s:aQ S φ H w) (fp:ZC):(φ ++ [fp]).getD H.length []=fp:=by
 rw[BR,s.len,if_pos rfl]
def Og (H:ZF) (r:R):(H ++ [r])[H.length]?=some r:=by simp
def Lb (s:aQ S φ H w) {cs:ZE}(h:eX S φ H w cs arr) (ty:TypeId) :
  ∃ φ',aQ S φ' (H ++ [.box cs]) (w.alloc (.cells arr ty))/\Tr H.length S φ H w S φ' (H ++ [.box cs]) (w.alloc (.cells arr ty))/\Ext S φ w S φ' (w.alloc (.cells arr ty))/\
   V S φ' (H ++ [.box cs]) (w.alloc (.cells arr ty)) (.ptr H.length 0) (.pointer (some ⟨w.heap.size,0,none⟩)):=by
 obtain⟨h1,h2,h3⟩:=s.push (r':=.box cs) (Az s (.cells arr ty)) (fun t=>⟨w.heap.size,arr,ty,rfl,heap_alloc_new w _,h.1,fun j hj=>⟨(h.2 j hj).1,(h.2 j hj).2.tr t⟩⟩);refine⟨_,h1,h2,h3,.ptr (by simp) (fun cs' hcs=>⟨w.heap.size,Dl s _,rfl⟩) rfl⟩
def Am (s:aQ S φ H w) {dp:DP}{cap:Nat}(hk:0<k) (he : ∀ x∈l,x.cells.length=k) (h1 : ∀ c∈flat l,c.one=true)
  (hlim:l.length<=fW) (hn:l.length<=cap) (hcap:cap<=maxLen) (hsz:cap*k<=arr.size) (ty:TypeId) {w1:World}(u:oN φ w H.length [w.heap.size] w1) (hb:w1.heap[w.heap.size]?=some (.cells arr ty (0,0)))
  (hr:aZ S φ H w k dp (flat l) arr []) :
  ∃ φ',aQ S φ' (H ++ [.row 0 k dp l]) w1/\Tr H.length S φ H w S φ' (H ++ [.row 0 k dp l]) w1/\Ext S φ w S φ' w1/\
   V S φ' (H ++ [.row 0 k dp l]) w1 (.sl H.length 0 k 0 l.length) (.slice (some ⟨w.heap.size,0,none⟩) l.length cap):=by
 have hm:=kD k hn;obtain⟨g1,g2,g3⟩:=s.push (r':=.row 0 k dp l) u (fun t=>⟨hk,he,h1,hlim,.inr ⟨w.heap.size,[],arr,ty,rfl,hb,by omega,hr.bf t (by simp)⟩⟩);refine⟨_,g1,g2,g3,.sl (by simp) (by simp) (fun dp' l' hl'=>?_) rfl⟩;rw[Og] at hl';simp at hl';obtain⟨rfl,rfl⟩:=hl';exact⟨.inr ⟨w.heap.size,[],cap,arr,ty,_,Dl s _,rfl,hn,hcap,hlim,hb,fun _=>⟨by simp,by omega⟩⟩,by simp⟩
def DV (s:aQ S φ H w) (dp:DP) (hk:0<k) :
  ∃ φ',aQ S φ' (H ++ [.row 0 k dp []]) w/\Tr H.length S φ H w S φ' (H ++ [.row 0 k dp []]) w/\Ext S φ w S φ' w/\
   V S φ' (H ++ [.row 0 k dp []]) w (.sl H.length 0 k 0 0) (.slice none 0 0):=by
 obtain⟨g1,g2,g3⟩:=s.push (w':=w) (r':=.row 0 k dp []) (fp':=[]) ⟨rfl,rfl,rfl,aD _,fun _ _ _=>rfl,by simp,by simp⟩ (fun t=>⟨hk,by simp,by simp[flat],kM _,.inl ⟨rfl,rfl⟩⟩);refine⟨_,g1,g2,g3,.sl (by simp) (by simp) (fun dp' l' hl'=>⟨.inl ⟨Dl s _,rfl,rfl,rfl⟩,by simp⟩) rfl⟩
def oq (T:Nat->Option TI) (H:ZF) (e:Nat) (x:I):Option (Prop×I×ZF):=
 match T e with
 | some ti=>
  match iN ti x with
  | some (vc,cs)=>some (vc,.ptr H.length 0,H ++ [.box cs])
  | none=>none
 | none=>none
def RX (s:aQ S φ H w) {x:I}{vx:Value}(hx:V S φ H w x vx) (h:oq T H e x=some (vc,y,H')) (hvc:vc) :
  pT S φ H w (((do pure (.value (←Instr.box e vx)):Sem Next)).run P w) y H':=by
 unfold oq at h;split at h
 ·rename_i ti hti;split at h
  ·rename_i vc' cs hc;simp only[aE,aK] at h;obtain⟨rfl,rfl,rfl⟩:=h;obtain⟨h1,h2,h3⟩:=wr hx hc hvc;obtain⟨φ',a1,a2,a3,a4⟩:=Lb s (cs:=cs) (arr:=vx.cells) ⟨by omega,fun j hj=>h3 j (by omega)⟩ e;exact⟨_,_,φ',.inl (by simp[Instr.box,newVar,newRow]),a1,a2,a3,a4⟩
  ·simp at h
 ·simp at h
def yu (T:Nat->Option TI) (H:ZF) (e:Nat):Option (Prop×I×ZF):=
 match T e with
 | some ti=>some (True,.ptr H.length 0,H ++ [.box ((bY ti.zero 0 ti.size).map .d)])
 | none=>none
def PY (hT:bQ P T) (s:aQ S φ H w) (h:yu T H e=some (vc,y,H')) (hvc:vc) :
  pT S φ H w (((do pure (.value (←Instr.alloc e true (.tuple #[]))):Sem Next)).run P w) y H':=by
 unfold yu at h;split at h
 ·rename_i ti hti;simp only[aE,aK] at h;obtain⟨rfl,rfl,rfl⟩:=h;have ht:=hT _ _ hti;obtain⟨φ',a1,a2,a3,a4⟩:=Lb s (D5 (S:=S) (φ:=φ) (H:=H) (w:=w) ht) e;exact⟨_,_,φ',.inl (by simp[Instr.alloc,newVar,newRow,ht.dl]),a1,a2,a3,a4⟩
 ·simp at h
def mo (size:Nat):Nat->List (Nat×I)->Option (Prop×ZD)
 | _,[]=>some (True,[])
 | i,(j,.d x)::r=>
  match mo size (i+1) r with
  | some (vc,l)=>some (j=i/\x.cells.length=size/\x.eK/\vc,x::l)
  | none=>none
 | _,_::_=>none
def ao:ZD->Bool
 | []=>true
 | x::r=>x.cells.all D.scalar&&ao r
def ko (T:Nat->Option TI) (H:ZF) (t len:Nat) (parts:List (Nat×I)):Option (Prop×I×ZF):=
 match T t with
 | some ti=>
  match ti.ty with
  | .slice e=>
   match T e with
   | some ei=>
    match mo ei.size 0 parts with
    | some (vc,l)=>some (vc/\l.length=len/\0<ei.size/\len*ei.size<=1000,.sl H.length 0 ei.size 0 l.length,H ++ [.row 0 ei.size (.oV (ao l)) l])
    | none=>none
   | none=>none
  | _=>none
 | none=>none
def P2 (h:FZ S w x v) (ht:x.eK):v.cells.size=x.cells.length/\(∀ c∈x.cells,c.one=true)/\∀ j,j<x.cells.length->FZ S w (x.cells.getD j .nil) (v.cells.getD j undef):=by
 cases h <;> simp[D.eK] at ht
 case agg cs vs hl h1 hj=>exact⟨by simp[Value.cells,D.cells,hl],h1,hj⟩
 case raw hv=>
  have hc:v.cells = #[v]:=by cases v <;> first|rfl|simp[A8] at hv
  rw[hc];exact⟨rfl,by simp[D.cells,D.one],fun j hj=>by simp[D.cells] at hj;subst hj;exact .raw hv⟩
 all_goals
  refine⟨rfl,by simp[D.cells,D.one],fun j hj=>?_⟩;simp[D.cells] at hj;subst hj;simp only[D.cells,Value.cells];first
   | exact .int (by assumption)
   | exact .bool
   | exact .nil
   | exact .lst0 (by assumption)
   | exact .lst _ (by assumption) (by assumption) (by assumption) (by assumption) (by assumption) (by assumption) (by assumption) (by assumption)
   | exact .ptr _ (by assumption) (by assumption) (by assumption) (by assumption)
   | exact .fn (by assumption) (by assumption)
def BW (h:ao l=true) : ∀ c∈flat l,c.scalar=true:=by
 induction l with
 | nil=>simp[flat]
 | cons x r ih=>
  simp only[ao,gO,l6] at h;intro c hc;simp only[flat,l7,gM] at hc;rcases hc with hc|hc
  ·exact h.1 c hc
  ·exact ih h.2 c hc
def wB (h:FZ S w x v) (hx:x.scalar=true):OW w x v []:=by
 cases h <;> simp[D.scalar] at hx
 ·exact .int (by assumption)
 ·exact .bool
 ·exact .raw (by assumption)
 ·exact .nil
def Im (b:Bool) (hd:b=true->∀ c∈l,c.scalar=true) (h : ∀ j,j<l.length->FZ S w (l.getD j .nil) (arr.getD j undef)):aZ S φ H w k (.oV b) l arr []:=by
 cases b with
 | false=>exact⟨rfl,h⟩
 | true=>
  refine⟨fun _=>[],by simp,by simp,fun j hj=>wB (h j hj) (hd rfl _ (av hj))⟩
def Mj {size:Nat}(hs:0<size) : ∀ (parts:List (Nat×I)) (vps:List (Nat×Value)) (i:Nat),parts.length=vps.length->(∀ (j i:Nat) (x:I),parts[j]?=some (i,x)->∃ v:Value,vps[j]?=some (i,v)/\V S φ H w x v)->
  ∀ {vc:Prop}{l:ZD},mo size i parts=some (vc,l)->vc->∀ (done:ZD) (arr:Array Value),done.length=i*size->done.length+l.length*size<=arr.size->
  (∀ j,j<done.length->FZ S w (done.getD j .nil) (arr.getD j undef))->
  ∃ arr',Instr.fill (fun i=>some (i*size,size)) arr vps=some arr'/\arr'.size=arr.size/\(∀ x∈l,x.cells.length=size)/\(∀ c∈flat l,c.one=true)/\
   ∀ j,j<(done++flat l).length->FZ S w ((done++flat l).getD j .nil) (arr'.getD j undef)
 | [],[],i,_,_,vc,l,h,hvc,done,arr,hd,hfit,hfz=>by
  simp only[mo,aE,aK] at h;obtain⟨_,rfl⟩:=h;exact⟨arr,rfl,rfl,by simp,by simp[flat],by simpa [flat] using hfz⟩
 | [],_::_,_,hl,_,_,_,_,_,_,_,_,_,_=>by simp at hl
 | _::_,[],_,hl,_,_,_,_,_,_,_,_,_,_=>by simp at hl
 | (j0,y)::rest,(j1,v)::vrest,i,hl,hv,vc,l,h,hvc,done,arr,hd,hfit,hfz=>by
  cases y with
  | d x=>
   simp only[mo] at h;split at h
   ·rename_i vc' l' hr;simp only[aE,aK] at h;obtain⟨rfl,rfl⟩:=h;obtain⟨rfl,hxs,hnt,hvc'⟩:=hvc;obtain⟨v0,hv0,hx⟩:=hv 0 j0 (.d x) rfl;simp only[List.getElem?_cons_zero,aE,aK] at hv0;obtain⟨rfl,rfl⟩:=hv0;obtain⟨c1,c2,c3⟩:=P2 hx.fz hnt;simp only[eD,jI,Nat.one_mul] at hfit;obtain⟨f1,f2⟩:=F7 v.cells (j1*size) arr (by omega);have hlen1:(done++x.cells).length=(j1+1)*size:=by rw[b8,hd,hxs,jI];omega
    obtain⟨arr',e1,e2,e3,e4,e5⟩:=Mj hs rest vrest (j1+1) (by simpa using hl) (fun j i x hj=>hv (j+1) i x (by simpa using hj)) hr hvc' (done++x.cells)
     (v.cells.zipIdx.foldl (fun cs (c,j)=>cs.setIfInBounds (j1*size+j) c) arr) hlen1 (by rw[b8,f1];omega) (by
      intro j hj;rw[f2];by_cases hjd:j<done.length
      ·rw[if_neg (by omega)];have:(done++x.cells).getD j .nil=done.getD j .nil:=by simp[List.getD,List.getElem?_append_left hjd]
       rw[this];exact hfz j hjd
      ·rw[b8] at hj;rw[if_pos (by omega)];have:(done++x.cells).getD j .nil=x.cells.getD (j-j1*size) .nil:=by simp[List.getD,List.getElem?_append_right (Nat.le_of_not_lt hjd),hd]
       rw[this];exact c3 _ (by omega))
    refine⟨arr',?_,by rw[e2,f1],?_,?_,?_⟩
    ·simp only[Instr.fill];rw[if_neg (by simp;omega)];exact e1
    ·intro z hz;rcases List.mem_cons.1 hz with rfl|hz
     ·exact hxs
     ·exact e3 z hz
    ·intro c hc;simp only[flat,l7,gM] at hc;rcases hc with hc|hc
     ·exact c2 c hc
     ·exact e4 c hc
    ·have:done++flat (x::l')=done++x.cells++flat l':=by simp[flat]
     rw[this];exact e5
   ·simp at h
  | _=>simp[mo] at h
end Go.VL
namespace Go.VL
variable {t b:Nat}{vc:Prop}{y:I}{H':ZF}{ti:TI}
variable {P:Program}{S:Nat->Prop}{φ : List ZC}{H:ZF}{w:World}{T:Nat->Option TI}{fr:Fr}{a:Act}
def Rq (hT:bQ P T) (s:aQ S φ H w) {len:Nat}{parts:List (Nat×I)}{vps:List (Nat×Value)}(hl:parts.length=vps.length)
  (hv : ∀ (j i:Nat) (x:I),parts[j]?=some (i,x)->∃ v:Value,vps[j]?=some (i,v)/\V S φ H w x v) (h:ko T H t len parts=some (vc,y,H')) (hvc:vc) :
  pT S φ H w ((do pure (.value (←Instr.buildSlice t len vps.toArray)):Sem Next).run P w) y H':=by
 unfold ko at h;split at h
 ·rename_i ti hti;have ht:=hT _ _ hti;split at h
  ·rename_i e hy;split at h
   ·rename_i ei hei;have he:=hT _ _ hei;split at h
    ·rename_i vc' l hp;simp only[aE,aK] at h;obtain⟨rfl,rfl,rfl⟩:=h;obtain⟨hvc',hlen,hs,hsmall⟩:=hvc;have hu:=ht.aH hy;obtain⟨zc,hzc⟩ : ∃ zc:Array Value,zc=(if len*ei.size=0 then #[] else(bc ei.zero).cells):=⟨_,rfl⟩;obtain⟨arr',f1,f2,f3,f4,f5⟩:=Mj (S:=S) (φ:=φ) (H:=H) (w:=w) hs parts vps 0 hl hv hp hvc' [] ((Array.range (len*ei.size)).map (zc[· % zc.size]!)) (by simp) (by simp[hlen]) (by simp);simp only[List.nil_append] at f5;have hb:=heap_alloc_new w (.cells arr' e);have hlim:l.length<=fW:=by
      have:len*1<=len*ei.size:=Nat.mul_le_mul_left _ hs;unfold fW;omega
     obtain⟨φ',a1,a2,a3,a4⟩:=Am s (cap:=l.length) (dp:=.oV (ao l)) hs f3 f4 hlim (aD _) (by unfold fW at hlim;unfold maxLen;omega) (by rw[f2];simp[hlen]) e (Az s _) hb
      (Im _ (fun hd=>BW hd) f5)
     refine⟨_,_,φ',.inl ?_,a1,a2,a3,a4⟩;have hrun:(Instr.buildSlice t len vps.toArray).run P w=.ok (.slice (some ⟨w.heap.size,0,none⟩) l.length l.length) (w.alloc (.cells arr' e)):=by
      simp only[Instr.buildSlice,Sem.run_bind,run_underlying hu,Result.andThen_ok,he.run_sizeOf];rw[if_neg (by omega)];by_cases h0:len*ei.size=0
      ·rw[if_pos h0] at hzc ⊢;subst hzc;simp only[Sem.run_bind,Sem.run_pure,Result.andThen_ok,List.toList_toArray,f1,newRow,run_newObj,hlen];rfl
      ·rw[if_neg h0] at hzc ⊢;subst hzc;simp only[Sem.run_bind,Sem.run_pure,Result.andThen_ok,he.dl,List.toList_toArray,f1,newRow,run_newObj,hlen];rfl
     simp only[Sem.run_bind,hrun,Result.andThen_ok,Sem.run_pure]
    ·simp at h
   ·simp at h
  ·simp at h
 ·simp at h
def wI (T:Nat->Option TI) (H:ZF) (t:Nat) (l c:I):Option (Prop×I×ZF):=
 match T t,l,c with
 | some ti,.d l,.d c=>
  match ti.ty with
  | .slice e=>
   match T e with
   | some ei=>some (l.isInt .i64/\c.isInt .i64/\0<=l.toInt/\l.toInt<=c.toInt/\(ei.bytes:Int)*c.toInt<=281474976710656/\0<ei.bytes/\0<ei.size,
     .sl H.length 0 ei.size 0 l.toInt.toNat,H ++ [.row 0 ei.size (.own []) (List.replicate l.toInt.toNat ei.zero)])
   | none=>none
  | _=>none
 | _,_,_=>none
def Rx {x:D}(h:qO x=true):OW w x (mJ x) []:=by
 cases x <;> simp[qO] at h
 ·exact .int h
 ·exact .bool
 ·exact .raw h
 ·exact .nil
def Sa (n:Nat) (z:D) (k:Nat) (hz:z.cells.length=k) (hk:0<k) (j:Nat) (hj:j<n*k):(flat (List.replicate n z)).getD j .nil=z.cells.getD (j%k) .nil:=by
 have hq:j/k<n:=Nat.div_lt_of_lt_mul (by rw[p8];exact hj);have hr:j%k<k:=Nat.mod_lt _ hk;have e:=nV (l:=List.replicate n z) (k:=k) (fun x hx=>by rw[yH hx];exact hz) (i:=j/k) (by simpa using hq) hr .nil;have hj':(j/k)*k+j%k=j:=by rw[p8];exact Nat.div_add_mod j k
 rw[hj'] at e;rw[e];congr 2;simp[List.getD,hq]
def zT (ht:a0 P t ti) {j:Nat}(hj:j<ti.size):qO (ti.zero.cells.getD j .nil)=true/\(bc ti.zero).cells.getD j undef=mJ (ti.zero.cells.getD j .nil)/\(bc ti.zero).cells.size=ti.size:=by
 have hc:=ht.const;have hs:=ht.size;generalize ti.zero=z at *
 cases z with
 | agg cs=>
  simp only[vn,l6] at hc;simp only[D.cells] at hs;refine⟨hc _ (av (by show j<cs.length;omega)),?_,by simp[bc,Value.cells,hs]⟩;simp[bc,Value.cells,D.cells,Array.getD,List.getD,hs,hj]
 | _=>
  first
   | (simp[vn,qO] at hc;done)
   | (
     simp only[D.cells,eD,kr] at hs;obtain rfl:j=0:=by omega
     have hcell : ∀ v:Value,v.oneCell'=true->v.cells = #[v]:=fun v hv=>by cases v <;> first|rfl|simp[Value.oneCell'] at hv
     have ho:=(zG (S:=fun _=>False) (w:=default) hc).one rfl;rw[hcell _ ho];exact⟨hc,rfl,by simp[hs]⟩)
def Rw (hT:bQ P T) (s:aQ S φ H w) {l c:I}{vl vc':Value}(hl:V S φ H w l vl) (hc:V S φ H w c vc') (h:wI T H t l c=some (vc,y,H')) (hvc:vc) :
  pT S φ H w ((do pure (.value (←Instr.makeSlice t vl vc')):Sem Next).run P w) y H':=by
 unfold wI at h;split at h
 ·rename_i ti l c hti;have ht:=hT _ _ hti;split at h
  ·rename_i e hy;split at h
   ·rename_i ei hei;have he:=hT _ _ hei;simp only[aE,aK] at h;obtain⟨rfl,rfl,rfl⟩:=h;obtain⟨il,ic,h0,h1,hb,hb0,hs0⟩:=hvc;obtain⟨_,rfl,kl⟩:=hl.fz.ak il;obtain⟨_,rfl,kc⟩:=hc.fz.ak ic;obtain⟨i,d,i1,i2,i3,i4,i5,i6⟩:=he.ex;have hr:=run_make (P:=P) w t e i (bc ei.zero) (ht.aH hy) i1 i4 .i64 .i64 l.toInt c.toInt h0 h1 (by rw[i3];exact hb) (by have:=kc.2;simpa using this);have hbl:=heap_alloc_new w (.cells (madeCells (bc ei.zero).cells (c.toInt.toNat*i.size)) e);have hcl:c.toInt.toNat<=fW:=by
     have h2:(ei.bytes:Int)*c.toInt≥1*c.toInt:=Int.mul_le_mul_of_nonneg_right (by omega) (by omega);unfold fW;omega
    have hzs:=(zT he hs0).2.2;have hmul:l.toInt.toNat*ei.size<=c.toInt.toNat*ei.size:=kD _ (by omega);have he' : ∀ x∈List.replicate l.toInt.toNat ei.zero,x.cells.length=ei.size:=fun x hx=>by rw[yH hx];exact he.size
    have hfl:=an he';simp only[m9] at hfl;have hcell : ∀ j,j<l.toInt.toNat*ei.size->(madeCells (bc ei.zero).cells (c.toInt.toNat*i.size)).getD j undef=mJ (ei.zero.cells.getD (j%ei.size) .nil):=by
     intro j hj;have:=(zT he (Nat.mod_lt j hs0)).2.1;rw[<-this];have hm:j%(bc ei.zero).cells.size<(bc ei.zero).cells.size:=Nat.mod_lt _ (by omega);rw[hzs] at hm;simp[madeCells,Array.getD,i2,show j<c.toInt.toNat*ei.size by omega,hzs,hm]
    obtain⟨φ',a1,a2,a3,a4⟩:=Am s (k:=ei.size) (l:=List.replicate l.toInt.toNat ei.zero) (cap:=c.toInt.toNat) (dp:=.own []) hs0 he'
     (by
      intro c hc;obtain⟨x,hx,hcx⟩:=nK.1 hc;rw[yH hx] at hcx;obtain⟨j,hj,rfl⟩:=gJ hcx;rw[lb _ _ _ .nil];exact NO (zT he (by rw[<-he.size];exact hj)).1)
     (by simp;omega) (by simp;omega) (by unfold fW at hcl;unfold maxLen;omega) (by simp[madeCells,i2]) e (Az s _) hbl
     ⟨fun _=>[],by simp,by simp,fun j hj=>by
      rw[hfl] at hj;rw[Sa _ _ _ he.size hs0 _ hj,hcell j hj];exact Rx (zT he (Nat.mod_lt j hs0)).1⟩
    simp only[m9] at a4;exact⟨_,_,φ',.inl (by simp[hr]),a1,a2,a3,a4⟩
   ·simp at h
  ·simp at h
 ·simp at h
def df:ZD->Nat->ZD->ZD
 | cs,_,[]=>cs
 | cs,off,x::r=>df (cs.set off x) (off+1) r
def cellsD (ti:TI) (x:I):Option (Prop×ZD):=
 match ti.ty.agg,x with
 | true,.d xd=>some (xd.cells.length=ti.size/\xd.one=false/\(∀ n,xd≠.tup n),bY xd 0 ti.size)
 | false,.d xd=>some (ti.size=1/\xd.one=true,[xd])
 | _,_=>none
def Gr (s:aQ S φ H w) {i:Nat}{rest:ZC}(hfp : φ.getD i []=b::rest) (cs:Array Value):oN φ w i (b::rest) (w.setRow b cs):=
 ⟨rfl,rfl,rfl,by simp,fun b' hb hn=>setRow_other w b b' cs (fun e=>hn (by rw[hfp,e];simp)),hfp▸s.nd i,fun b' hb=>⟨.inl (by rw[hfp];exact hb),by simpa using s.lt b' ⟨i,by rw[hfp];exact hb⟩⟩⟩
def aI (cur:Array Value) (o:Nat) (vs:List Value):Array Value:=(cur.toList.take o++vs++cur.toList.drop (o+vs.length)).toArray
def zK (cur:Array Value) (o:Nat) (vs:List Value) (h:o+vs.length<=cur.size):(aI cur o vs).size=cur.size:=by
 simp[aI];omega
def tW (cur:Array Value) (o:Nat) (vs:List Value) (h:o+vs.length<=cur.size) (j:Nat):(aI cur o vs).getD j undef=if o<=j/\j<o+vs.length then vs.getD (j-o) undef else cur.getD j undef:=by
 simp only[aI,Array.getD_eq_getD_getElem?,List.getElem?_toArray];by_cases h1:j<o
 ·rw[if_neg (by omega),fA,List.getElem?_append_left (by simp;omega)];simp[h1]
 ·by_cases h2:j<o+vs.length
  ·rw[if_pos (by omega),List.getElem?_append_left (by simp;omega),List.getElem?_append_right (by simp;omega)];have:min o cur.size=o:=by omega
   simp[this,List.getD]
  ·rw[if_neg (by omega),List.getElem?_append_right (by simp;omega)];have:min o cur.size=o:=by omega
   simp only[b8,iy,Array.length_toList,this,List.getElem?_drop,Array.getElem?_toList];congr 2;omega
def Lo (ht:a0 P t ti) {o:Nat}{cur:Array Value}{ty:TypeId}{w:World}(hb:w.heap[b]?=some (.cells cur ty (0,0))) {v:Value}(hv:v.cells.size=ti.size)
  (hfit:o+ti.size<=cur.size) (h1 : ∀ j,j<ti.size->(v.cells.getD j undef).oneCell'=true) :
  (storeVar t ⟨b,o,none⟩ v).run P w=.ok () (w.setRow b (aI cur o v.cells.toList)):=by
 have:=run_storeCells_at P b o ty v.cells.toList 0 cur w hb (by simp;omega) (by
  intro u hu;obtain⟨j,hj,rfl⟩:=gJ hu;have:=h1 j (by simpa [hv] using hj);simpa [Array.getD,show j<v.cells.size by simpa using hj] using this)
 simp only[lL] at this;simp only[storeVar,Sem.run_bind,ht.run_sizeOf,Result.andThen_ok];rw[if_neg (by omega)];simpa [aI] using this
def FL (cs:ZD) (off:Nat) (xs:ZD):(df cs off xs).length=cs.length:=by
 induction xs generalizing cs off with
 | nil=>rfl
 | cons x r ih=>simp[df,ih]
def DU (cs:ZD) (off:Nat) (xs:ZD) (h:off+xs.length<=cs.length) (j:Nat) :
  (df cs off xs).getD j .nil=if off<=j/\j<off+xs.length then xs.getD (j-off) .nil else cs.getD j .nil:=by
 induction xs generalizing cs off with
 | nil=>simp[df];omega
 | cons x r ih=>
  simp only[eD] at h ⊢;simp only[df];rw[ih _ _ (by simp;omega)];by_cases h1:off+1<=j/\j<off+1+r.length
  ·rw[if_pos h1,if_pos (by omega)];rw[show j-off=(j-(off+1))+1 by omega];simp[List.getD]
  ·rw[if_neg h1];by_cases h2:j=off
   ·subst h2;rw[if_pos (by omega)];simp[List.getD,show j<cs.length by omega]
   ·rw[if_neg (by omega)];simp[List.getD,List.getElem?_set,Ne.symm h2]
def EW {k:Nat}{l:ZD}(he : ∀ x∈l,x.cells.length=k) (hk:0<k) {idx:Nat}(hi:idx<l.length) {y:D}(hy:y.cells.length=k) (j:Nat) (hj:j<l.length*k) :
  (flat (l.set idx y)).getD j .nil=if j/k=idx then y.cells.getD (j%k) .nil else(flat l).getD j .nil:=by
 have hq:j/k<l.length:=Nat.div_lt_of_lt_mul (by rw[p8];exact hj);have hr:j%k<k:=Nat.mod_lt _ hk;have hj':(j/k)*k+j%k=j:=by rw[p8];exact Nat.div_add_mod j k
 have he' : ∀ x∈l.set idx y,x.cells.length=k:=fun x hx=>by
  rcases wd hx with h|h
  ·exact he x h
  ·rw[h];exact hy
 have e1:=nV he' (i:=j/k) (by simpa using hq) hr .nil;have e2:=nV he (i:=j/k) hq hr .nil;rw[hj'] at e1 e2;rw[e1,e2];by_cases h:j/k=idx
 ·rw[if_pos h,h];simp[List.getD,hi]
 ·rw[if_neg h];simp[List.getD,List.getElem?_set,Ne.symm h]
end Go.VL
namespace Go.VL
variable {x:I}{vx:Value}{vc:Prop}{xs:ZE}{i k b idx:Nat}{dp:DP}{l l':ZD}{rest:ZC}{cur arr':Array Value}{ty:TypeId}
variable {P:Program}{S:Nat->Prop}{φ : List ZC}{H:ZF}{w:World}{T:Nat->Option TI}{fr:Fr}{a:Act}
def FH {ti:TI}(hx:V S φ H w x vx) {xs:ZD}(h:cellsD ti x=some (vc,xs)) (hvc:vc) :
  xs.length=ti.size/\vx.cells.size=ti.size/\∀ j,j<ti.size->(xs.getD j .nil).one=true/\FZ S w (xs.getD j .nil) (vx.cells.getD j undef):=by
 unfold cellsD at h;split at h
 ·rename_i xd hagg;simp only[aE,aK] at h;obtain⟨rfl,rfl⟩:=h;obtain⟨hl,hone,htup⟩:=hvc;have hz:=hx.fz;cases hz <;> simp[D.one] at hone
  ·rename_i cs vs hl' h1 hj;simp only[D.cells] at hl;refine⟨iS _ _ _,by simp[Value.cells,<-hl',hl],fun j hj'=>?_⟩;rw[nO _ _ _ _ hj',lN];exact⟨h1 _ (av (by omega)),hj j (by omega)⟩
  ·exact absurd rfl (htup _)
 ·rename_i xd hagg;simp only[aE,aK] at h;obtain⟨rfl,rfl⟩:=h;obtain⟨h1,h2⟩:=hvc;have ho:=hx.fz.one h2;have hc:vx.cells = #[vx]:=by cases vx <;> first|rfl|simp[Value.oneCell'] at ho
  refine⟨by simp[h1],by simp[hc,h1],fun j hj=>?_⟩;obtain rfl:j=0:=by omega
  rw[hc];exact⟨h2,hx.fz⟩
 ·simp at h
def Gt (s:aQ S φ H w) {g:Nat}{dp':DP}(hi:H[i]?=some (.row g k dp l)) {rest':ZC}
  (hfp : φ.getD i []=b::rest) (hb:w.heap[b]?=some (.cells cur ty (0,0))) (hsz:arr'.size=cur.size) (he : ∀ x∈l',x.cells.length=k) (h1 : ∀ c∈flat l',c.one=true)
  (hlen:l'.length=l.length) (hsub:rest'.Sublist rest) (hr:aZ S φ H w k dp' (flat l') arr' rest') :
  ∃ φ',aQ S φ' (H.set i (.row g k dp' l')) (w.setRow b arr')/\Tr H.length S φ H w S φ' (H.set i (.row g k dp' l')) (w.setRow b arr')/\Ext S φ w S φ' (w.setRow b arr'):=by
 have hlt:i<H.length:=(List.getElem?_eq_some_iff.1 hi).1;have hgetD:H.getD i (.dead 0)=.row g k dp l:=by simp[List.getD,hi]
 obtain⟨hk,_,_,hlim,hrel⟩:=s.rel i _ hi;have hnd:=s.nd i;rw[hfp] at hnd;have hu:oN φ w i (b::rest') (w.setRow b arr'):=
  ⟨rfl,rfl,rfl,by simp,fun b' hb hn=>setRow_other w b b' arr' (fun e=>hn (by rw[hfp,e];simp)),(hsub.cons_cons b).nodup hnd,fun b' hb'=>by
   have hm:b'∈φ.getD i []:=by rw[hfp];exact(hsub.cons_cons b).mem hb'
   exact⟨.inl hm,by simpa using s.lt b' ⟨i,hm⟩⟩⟩
 obtain⟨q1,q2,q3⟩:=s.update hlt hu (r':=.row g k dp' l') (by rw[hgetD];exact aD _) (by
   intro g' k' dp'' l'' he';simp at he';obtain⟨rfl,rfl,rfl,rfl⟩:=he';refine .inr ⟨dp,l,hi,by rw[hfp];rfl,by omega,fun b' rest' arr ty' e1 e2=>?_⟩;rw[hfp] at e1;simp at e1;obtain⟨rfl,rfl⟩:=e1;rw[hb] at e2;simp at e2;obtain⟨rfl,rfl⟩:=e2;exact⟨arr',ty,setRow_heap w b cur arr' ty (0,0) hb,by omega⟩) (by simp) (by simp) (by simp) (by
   intro t;refine⟨hk,he,h1,by omega,.inr ⟨b,rest',arr',ty,rfl,setRow_heap w b cur arr' ty (0,0) hb,?_,hr.bf t ?_⟩⟩
   ·rcases hrel with⟨e,_⟩|⟨b',rest',arr,ty',e,hb',hsz',_⟩
    ·rw[hfp] at e;simp at e
    ·rw[hfp] at e;simp at e;obtain⟨rfl,rfl⟩:=e;rw[hb] at hb';simp at hb';obtain⟨rfl,rfl⟩:=hb';rw[hlen];omega
   ·intro b' hb';refine setRow_other w b b' arr' ?_;intro e;subst e;exact(List.nodup_cons.1 hnd).1 (hsub.mem hb'))
 exact⟨_,q1,q2,q3⟩
def Nm (s:aQ S φ H w) {cs cs':ZE}(hi:H[i]?=some (.box cs)) (hfp : φ.getD i []=[b]) (hb:w.heap[b]?=some (.cells cur ty (0,0)))
  (h:eX S φ H w cs' arr') :
  ∃ φ',aQ S φ' (H.set i (.box cs')) (w.setRow b arr')/\Tr H.length S φ H w S φ' (H.set i (.box cs')) (w.setRow b arr')/\Ext S φ w S φ' (w.setRow b arr'):=by
 have hlt:i<H.length:=(List.getElem?_eq_some_iff.1 hi).1;have hgetD:H.getD i (.dead 0)=.box cs:=by simp[List.getD,hi]
 obtain⟨q1,q2,q3⟩:=s.update hlt (Gr s hfp arr') (r':=.box cs') (by rw[hgetD];exact aD _) (by simp) (fun cs'' e=>⟨cs,hi,hfp.symm⟩) (by simp) (by simp)
  (fun t=>⟨b,arr',ty,rfl,setRow_heap w b cur arr' ty (0,0) hb,h.1,fun j hj=>⟨(h.2 j hj).1,(h.2 j hj).2.tr t⟩⟩)
 exact⟨_,q1,q2,q3⟩
def Fs {F G:Nat->ZC}(h : ∀ j,(G j).Sublist (F j)) : ∀ (l:ZC),(l.flatMap G).Sublist (l.flatMap F)
 | []=>by simp
 | x::r=>by simpa using (h x).append (Fs h r)
def GS (h:aZ S φ H w k dp l cur rest) (hl:l'.length=l.length)
  (hcell : ∀ j,j<l.length->(arr'.getD j undef=cur.getD j undef/\l'.getD j .nil=l.getD j .nil)∨
   ((dp.o=true->(l.getD j .nil).scalar=true/\(l'.getD j .nil).scalar=true)/\FZ S w (l'.getD j .nil) (arr'.getD j undef))):aZ S φ H w k dp l' arr' rest:=by
 cases dp with
 | fz=>
  refine⟨h.1,fun j hj=>?_⟩;rw[hl] at hj;rcases hcell j hj with⟨e1,e2⟩|⟨_,hz⟩
  ·rw[e1,e2];exact h.2 j hj
  ·exact hz
 | own hs=>
  obtain⟨F,rfl,hw,hF⟩:=h;refine⟨F,by rw[hl],by rw[hl];exact hw,fun j hj=>?_⟩;rw[hl] at hj;rcases hcell j hj with⟨e1,e2⟩|⟨hss,hz⟩
  ·rw[e1,e2];exact hF j hj
  ·obtain⟨hs,hs'⟩:=hss rfl;obtain⟨e0,e,_⟩:=zR (hF j hj) hs;rw[e,e0];exact wB hz hs'
def iY:I->D
 | .d c=>c
 | _=>.lst 1 []
def rt:I->Option I
 | .d _=>none
 | x=>some x
def we:I->Prop
 | .d c=>c.scalar=true
 | _=>True
def lZ:ZE->Prop
 | []=>True
 | x::r=>we x/\lZ r
def fS (idx:Nat):Nat->ZE->List (Nat×Nat×I)
 | _,[]=>[]
 | o,.d _::r=>fS idx (o+1) r
 | o,x::r=>(idx,o,x)::fS idx (o+1) r
def Aq : ∀ {xs:ZE}{j:Nat},lZ xs->j<xs.length->we (xs.getD j .junk)
 | [],j,h,hj=>by simp at hj
 | x::r,0,h,hj=>h.1
 | x::r,j+1,h,hj=>by simpa [List.getD] using Aq h.2 (by simpa using hj)
def Bh {idx:Nat} : ∀ {xs:ZE}{o:Nat}{h:Nat×Nat×I},h∈fS idx o xs->h.1=idx/\o<=h.2.1/\h.2.1<o+xs.length
 | [],o,h,hm=>by simp[fS] at hm
 | x::r,o,h,hm=>by
  by_cases hx : ∃ c,x=.d c
  ·obtain⟨c,rfl⟩:=hx;simp only[fS] at hm;have:=Bh hm;simp only[eD];omega
  ·have:fS idx o (x::r)=(idx,o,x)::fS idx (o+1) r:=by
    cases x <;> first|rfl|exact absurd ⟨_,rfl⟩ hx
   rw[this] at hm;rcases List.mem_cons.1 hm with rfl|hm
   ·simp
   ·have:=Bh hm;simp only[eD];omega
def Dk {k idx:Nat} : ∀ {xs:ZE}{o j:Nat},j<xs.length->cy k (fS idx o xs) (idx*k+(o+j))=rt (xs.getD j .junk)
 | [],o,j,hj=>by simp at hj
 | x::r,o,j,hj=>by
  have none_at : ∀ {xs:ZE}{o p:Nat},p<o->cy k (fS idx o xs) (idx*k+p)=none:=by
   intro xs;induction xs with
   | nil=>intro o p hp;rfl
   | cons y t ih=>
    intro o p hp;by_cases hx : ∃ c,y=.d c
    ·obtain⟨c,rfl⟩:=hx;exact ih (by omega)
    ·have:fS idx o (y::t)=(idx,o,y)::fS idx (o+1) t:=by
      cases y <;> first|rfl|exact absurd ⟨_,rfl⟩ hx
     rw[this];simp only[cy];rw[if_neg (by omega)];exact ih (by omega)
  by_cases hx : ∃ c,x=.d c
  ·obtain⟨c,rfl⟩:=hx;simp only[fS];cases j with
   | zero=>simpa [rt,List.getD] using none_at (by omega)
   | succ j=>
    have:=Dk (k:=k) (idx:=idx) (xs:=r) (o:=o+1) (j:=j) (by simpa using hj);rw[show o+1+j=o+(j+1) by omega] at this;simpa [List.getD] using this
  ·have e:fS idx o (x::r)=(idx,o,x)::fS idx (o+1) r:=by
    cases x <;> first|rfl|exact absurd ⟨_,rfl⟩ hx
   have ed:rt x=some x:=by cases x <;> first|rfl|exact absurd ⟨_,rfl⟩ hx
   rw[e];simp only[cy];cases j with
   | zero=>simp[List.getD,ed]
   | succ j=>
    rw[if_neg (by omega)];have:=Dk (k:=k) (idx:=idx) (xs:=r) (o:=o+1) (j:=j) (by simpa using hj);rw[show o+1+j=o+(j+1) by omega] at this;simpa [List.getD] using this
def OE {o j:Nat}(h : ∀ h∈fS idx o xs,h.1*k+h.2.1≠j):cy k (fS idx o xs) j=none:=by
 generalize fS idx o xs=hs at h;induction hs with
 | nil=>rfl
 | cons x r ih=>
  obtain⟨a,b,c⟩:=x;simp only[cy];rw[if_neg (h (a,b,c) (by simp))];exact ih fun h' hm=>h h' (by simp[hm])
def pn (idx off n:Nat):List (Nat×Nat×I)->Prop
 | []=>True
 | h::r=>(h.1=idx/\off<=h.2.1/\h.2.1<off+n)/\pn idx off n r
def Ia {k idx off n j:Nat} : ∀ {hs:List (Nat×Nat×I)},pn idx off n hs->¬ (idx*k+off<=j/\j<idx*k+off+n)->cy k hs j=none
 | [],_,_=>rfl
 | (a,b,x)::r,h,hj=>by
  have h1:a=idx:=h.1.1;have h2:=h.1.2;subst h1;simp only at h2;simp only[cy];rw[if_neg (by omega)];exact Ia h.2 hj
def R8 {hs0:List (Nat×Nat×I)}(h:aZ S φ H w k (.own hs0) l cur rest) (hl:l'.length=l.length) {off:Nat}(hcov:pn idx off xs.length hs0)
  (hfit:idx*k+off+xs.length<=l.length) (hsc:lZ xs) (hin : ∀ j,j<xs.length->l'.getD (idx*k+off+j) .nil=iY (xs.getD j .junk)/\
   (arr'.getD (idx*k+off+j) undef).oneCell'=true/\V S φ H w (xs.getD j .junk) (arr'.getD (idx*k+off+j) undef))
  (hout : ∀ j,j<l.length->¬ (idx*k+off<=j/\j<idx*k+off+xs.length)->arr'.getD j undef=cur.getD j undef/\l'.getD j .nil=l.getD j .nil) :
  ∃ rest',rest'.Sublist rest/\aZ S φ H w k (.own (fS idx off xs)) l' arr' rest':=by
 obtain⟨F,rfl,hw,hF⟩:=h;refine⟨_,?_,fun j=>if idx*k+off<=j/\j<idx*k+off+xs.length then [] else F j,rfl,?_,fun j hj=>?_⟩
 ·rw[hl];exact Fs (fun j=>by split <;> simp) _
 ·intro h hm;have:=Bh hm;rw[hl];have e:h.1*k=idx*k:=by rw[this.1]
  omega
 ·rw[hl] at hj;by_cases hr:idx*k+off<=j/\j<idx*k+off+xs.length
  ·simp only[if_pos hr];obtain⟨m,rfl⟩ : ∃ m,j=idx*k+off+m:=⟨j-(idx*k+off),by omega⟩;have hm:m<xs.length:=by omega
   obtain⟨p1,p2,p3⟩:=hin m hm;rw[p1,show idx*k+off+m=idx*k+(off+m) by omega,Dk hm,show idx*k+(off+m)=idx*k+off+m by omega];have hs:=Aq hsc hm;generalize xs.getD m .junk=x at *
   cases x with
   | d c=>exact wB p3.fz hs
   | _=>exact⟨rfl,rfl,p2,p3⟩
  ·simp only[if_neg hr];obtain⟨e1,e2⟩:=hout j hj hr;rw[e1,e2,OE]
   ·have hFj:=hF j hj;rw[Ia hcov hr] at hFj;exact hFj
   ·intro h hm e;have:=Bh hm;have e2:h.1*k=idx*k:=by rw[this.1]
    omega
def wN (T:Nat->Option TI) (H:ZF) (t:Nat) (p x:I):Option (Prop×ZF):=
 match T t,p with
 | some ti,.ptr i off=>
  match H[i]? with
  | some (.box cs)=>
   match iN ti x with
   | some (vc,xs)=>some (vc/\off+ti.size<=cs.length,H.set i (.box (setCells cs off xs)))
   | none=>none
  | _=>none
 | some ti,.eptr i g k idx off z=>
  match H[i]? with
  | some (.row g' k' dp l)=>
   match cellsD ti x with
   | some (vc,xs)=>
    match decide (k=1) with
    | true=>some (vc/\g=g'/\k=k'/\idx<l.length/\off=0/\ti.size=1/\(dp.o=true->(l.getD idx z).scalar=true/\(xs.getD 0 .nil).scalar=true),H.set i (.row g' k' dp (l.set idx (xs.getD 0 .nil))))
    | false=>some (vc/\g=g'/\k=k'/\idx<l.length/\off+ti.size<=k/\1<k/\(dp.o=true->(∀ c∈bY (l.getD idx z) off ti.size,c.scalar=true)/\(∀ c∈xs,c.scalar=true)),
      H.set i (.row g' k' dp (l.set idx (.agg (df (bY (l.getD idx z) 0 k) off xs)))))
   | none=>
    match dp,iN ti x with
    | .own hs,some (vc,xs)=>
     match decide (k=1) with
     | true=>some (vc/\g=g'/\k=k'/\idx<l.length/\off=0/\ti.size=1/\lZ xs/\pn idx off ti.size hs,H.set i (.row g' k' (.own (fS idx off xs)) (l.set idx (iY (xs.getD 0 .junk)))))
     | false=>some (vc/\g=g'/\k=k'/\idx<l.length/\off+ti.size<=k/\1<k/\lZ xs/\pn idx off ti.size hs,
       H.set i (.row g' k' (.own (fS idx off xs)) (l.set idx (.agg (df (bY (l.getD idx z) 0 k) off (xs.map iY))))))
    | _,_=>none
  | _=>none
 | _,_=>none
def RZ (hT:bQ P T) (s:aQ S φ H w) {t:Nat}{p:I}{vp:Value}(hp:V S φ H w p vp) (hx:V S φ H w x vx) {H':ZF}(h:wN T H t p x=some (vc,H')) (hvc:vc) :
  pT S φ H w ((do Instr.storeAt t vp vx;pure .skip:Sem Next).run P w) .junk H':=by
 unfold wN at h;split at h
 ·rename_i ti i off hti;have ht:=hT _ _ hti;split at h
  ·rename_i cs hi;split at h
   ·rename_i vc' xs hc;simp only[aE,aK] at h;obtain⟨rfl,rfl⟩:=h;obtain⟨hvc',hfit⟩:=hvc;obtain⟨c1,c2,c3⟩:=wr hx hc hvc';obtain⟨b,arr,ty,hfp,hb,hsz,hv⟩:=s.rel i _ hi;cases hp with
    | ptr hlt hrel h1=>
     obtain⟨b',hfp',rfl⟩:=hrel cs hi;rw[hfp] at hfp';simp at hfp';subst hfp';have hrun:=Lo ht hb c2 (o:=off) (by omega) (fun j hj=>(c3 j hj).1);have hl:vx.cells.toList.length=ti.size:=by simp[c2]
     obtain⟨φ',a1,a2,a3⟩:=Nm s hi hfp hb (cs':=setCells cs off xs) (arr':=aI arr off vx.cells.toList) (by
      refine⟨by rw[zK _ _ _ (by omega),C5];exact hsz,fun j hj=>?_⟩;rw[C5] at hj;rw[tW _ _ _ (by omega),JY _ _ _ (by omega)];by_cases hin:off<=j/\j<off+xs.length
      ·rw[if_pos hin,if_pos (by omega)];have:=c3 (j-off) (by omega);simpa [List.getD,Array.getD_eq_getD_getElem?] using this
      ·rw[if_neg hin,if_neg (by omega)];exact hv j hj)
     refine⟨undef,_,φ',.inr ⟨?_,rfl⟩,a1,a2,a3,.junk⟩;simp only[Instr.storeAt,Instr.sureAddr,Sem.run_bind,Sem.run_pure,Result.andThen_ok,hrun]
   ·simp at h
  ·simp at h
 ·rename_i ti i g k idx off z hti;have ht:=hT _ _ hti;split at h
  ·rename_i g' k' dp l hi;have key : ∀ {dp':DP},g=g'/\k=k'->idx<l.length->off+ti.size<=k->vx.cells.size=ti.size->(∀ j,j<ti.size->(vx.cells.getD j undef).oneCell'=true)->∀ (y:D),y.cells.length=k->(∀ c∈y.cells,c.one=true)->
     (∀ arr rest,0<k->(∀ x∈l,x.cells.length=k)->l.length*k<=arr.size->aZ S φ H w k dp (flat l) arr rest->∃ rest',rest'.Sublist rest/\aZ S φ H w k dp' (flat (l.set idx y)) (aI arr (idx*k+off) vx.cells.toList) rest')->
     pT S φ H w ((do Instr.storeAt t vp vx;pure .skip:Sem Next).run P w) .junk (H.set i (.row g' k' dp' (l.set idx y))):=by
    intro dp' hgk hidx hfit c2 hone y hy hy1 hrow;obtain⟨rfl,rfl⟩:=hgk;obtain⟨hk,he,ho,hlim,hrel⟩:=s.rel i _ hi;rcases hrel with⟨_,rfl⟩|⟨b,rest,arr,ty,hfp,hb,hsz,hr⟩
    ·simp at hidx
    ·cases hp with
     | eptr hlt hg hpr h1=>
      obtain⟨b',rest',hfp',rfl⟩:=hpr dp l hi;rw[hfp] at hfp';simp at hfp';obtain⟨rfl,rfl⟩:=hfp';have hm:=kD k hidx;rw[Nat.succ_mul] at hm;have hl:vx.cells.toList.length=ti.size:=by simp[c2]
      have hrun:=Lo ht hb c2 (o:=idx*k+off) (by omega) hone;have he' : ∀ x∈l.set idx y,x.cells.length=k:=fun x hx=>by
       rcases wd hx with h|h
       ·exact he x h
       ·rw[h];exact hy
      obtain⟨rest',hsub,hrr⟩:=hrow arr rest hk he hsz hr;obtain⟨φ',a1,a2,a3⟩:=Gt s hi hfp hb (arr':=aI arr (idx*k+off) vx.cells.toList) (l':=l.set idx y) (zK _ _ _ (by omega)) he' (by
       intro c hc;obtain⟨x,hx,hcx⟩:=nK.1 hc;rcases wd hx with h|h
       ·exact ho c (nK.2 ⟨x,h,hcx⟩)
       ·subst h;exact hy1 c hcx) (by simp) hsub hrr
      refine⟨undef,_,φ',.inr ⟨?_,rfl⟩,a1,a2,a3,.junk⟩;simp only[Instr.storeAt,Instr.sureAddr,Sem.run_bind,Sem.run_pure,Result.andThen_ok,hrun]
   have place : ∀ {arr:Array Value},0<k->(∀ x∈l,x.cells.length=k)->l.length*k<=arr.size->idx<l.length->off+ti.size<=k->vx.cells.size=ti.size->∀ (y:D),y.cells.length=k->∀ (ys:ZD),
     (∀ j,j<k->y.cells.getD j .nil=if off<=j/\j<off+ti.size then ys.getD (j-off) .nil else(l.getD idx z).cells.getD j .nil)->
     (flat (l.set idx y)).length=(flat l).length/\idx*k+off+ti.size<=(flat l).length/\
     (∀ j,j<ti.size->(flat (l.set idx y)).getD (idx*k+off+j) .nil=ys.getD j .nil/\(aI arr (idx*k+off) vx.cells.toList).getD (idx*k+off+j) undef=vx.cells.getD j undef/\
      (flat l).getD (idx*k+off+j) .nil=(l.getD idx z).cells.getD (off+j) .nil)/\
     (∀ j,j<(flat l).length->¬ (idx*k+off<=j/\j<idx*k+off+ti.size)->(aI arr (idx*k+off) vx.cells.toList).getD j undef=arr.getD j undef/\(flat (l.set idx y)).getD j .nil=(flat l).getD j .nil):=by
    intro arr hk he hsz hidx hfit c2 y hy ys hcells;have hm:=kD k hidx;rw[Nat.succ_mul] at hm;have hl:vx.cells.toList.length=ti.size:=by simp[c2]
    have hfl:=an he;have he' : ∀ x∈l.set idx y,x.cells.length=k:=fun x hx=>by
     rcases wd hx with h|h
     ·exact he x h
     ·rw[h];exact hy
    have hfl':=an he';simp only[gh] at hfl';have spot : ∀ j,j<k->(idx*k+j)/k=idx/\(idx*k+j)%k=j:=fun j hj=>by
     rw[p8,Nat.mul_add_div hk,Nat.mul_add_mod,Nat.div_eq_of_lt hj,Nat.mod_eq_of_lt hj];exact⟨rfl,rfl⟩
    refine⟨by rw[hfl,hfl'],by omega,fun j hj=>?_,fun j hj hn=>?_⟩
    ·obtain⟨s1,s2⟩:=spot (off+j) (by omega);rw[<-ja] at s1 s2;refine⟨?_,?_,?_⟩
     ·rw[EW he hk hidx hy _ (by omega),if_pos s1,s2,hcells _ (by omega),if_pos (by omega)];congr 1;omega
     ·rw[tW _ _ _ (by omega),if_pos (by omega)];rw[show idx*k+off+j-(idx*k+off)=j by omega];simp[List.getD,Array.getD_eq_getD_getElem?]
     ·have:=nV he hidx (j:=off+j) (by omega) z;rw[<-ja] at this;exact this
    ·rw[tW _ _ _ (by omega),if_neg (by omega)];refine⟨rfl,?_⟩;rw[hfl] at hj;rw[EW he hk hidx hy j hj];split
     ·rename_i hq;have hrm:j%k<k:=Nat.mod_lt _ hk;have hj':(j/k)*k+j%k=j:=by rw[p8];exact Nat.div_add_mod j k
      rw[hq] at hj';rw[hcells _ hrm,if_neg (by omega)];have:=nV he hidx hrm z;rw[hj'] at this;exact this.symm
     ·rfl
   have elem:idx<l.length->k=k'->off+ti.size<=k->∀ (ys:ZD),ys.length=ti.size->(∀ c∈ys,c.one=true)->
     (∀ c∈(D.agg (df (bY (l.getD idx z) 0 k) off ys)).cells,c.one=true)/\(D.agg (df (bY (l.getD idx z) 0 k) off ys)).cells.length=k/\
     ∀ j,j<k->(D.agg (df (bY (l.getD idx z) 0 k) off ys)).cells.getD j .nil=if off<=j/\j<off+ti.size then ys.getD (j-off) .nil else(l.getD idx z).cells.getD j .nil:=by
    rintro hidx rfl hfit ys c1 h1;obtain⟨hk,he,ho,hlim,hrel⟩:=s.rel i _ hi;have hmemE:l.getD idx z∈l:=av hidx;have hcl:=he _ hmemE;have hcf:bY (l.getD idx z) 0 k=(l.getD idx z).cells:=by
     apply List.ext_getElem (by rw[iS,hcl]);intro m h1 h2;rw[lb _ _ _ .nil,lb _ _ _ .nil,nO _ _ _ _ (by omega),lN,tC _ _ (by omega)]
    refine⟨?_,by simp only[D.cells,FL,iS],?_⟩
    ·intro c hc;obtain⟨m,hm,rfl⟩:=gJ hc;simp only[D.cells] at hm ⊢;rw[FL,iS] at hm;rw[lb _ _ _ .nil,DU _ _ _ (by rw[iS];omega)];split
     ·exact h1 _ (av (by omega))
     ·rw[hcf];exact ho _ (nK.2 ⟨_,hmemE,av (by omega)⟩)
    ·intro j hj;show(df (bY (l.getD idx z) 0 k) off ys).getD j .nil=_
     rw[DU _ _ _ (by rw[iS];omega),c1,hcf]
   have one1 : ∀ {y:D},y.one=true->y.cells=[y]:=fun {y} hy=>by cases y <;> first|rfl|simp[D.one] at hy
   split at h
   ·rename_i vc' xs hc;have eW:vc'->k=k'->idx<l.length->off+ti.size<=k->∀ (y:D),y.cells.length=k->
      (∀ j,j<k->y.cells.getD j .nil=if off<=j/\j<off+ti.size then xs.getD (j-off) .nil else(l.getD idx z).cells.getD j .nil)->
      (dp.o=true->(∀ c∈bY (l.getD idx z) off ti.size,c.scalar=true)/\(∀ c∈xs,c.scalar=true))->
      ∀ arr rest,0<k->(∀ x∈l,x.cells.length=k)->l.length*k<=arr.size->aZ S φ H w k dp (flat l) arr rest->∃ rest',rest'.Sublist rest/\aZ S φ H w k dp (flat (l.set idx y)) (aI arr (idx*k+off) vx.cells.toList) rest':=by
     intro hvc' hkk hidx hfit y hy hcells hss arr rest hk he hsz hr;obtain⟨c1,c2,c3⟩:=FH hx hc hvc';obtain⟨p1,p2,p3,p4⟩:=place hk he hsz hidx hfit c2 y hy xs hcells;refine⟨rest,List.Sublist.refl _,GS hr p1 fun j hj=>?_⟩;by_cases hin:idx*k+off<=j/\j<idx*k+off+ti.size
     ·obtain⟨m,rfl⟩ : ∃ m,j=idx*k+off+m:=⟨j-(idx*k+off),by omega⟩;obtain⟨r1,r2,r3⟩:=p3 m (by omega);rw[r1,r2];refine .inr ⟨fun hd=>⟨?_,(hss hd).2 _ (av (by omega))⟩,(c3 m (by omega)).2⟩;rw[r3];have:=nO (l.getD idx z) off ti.size m (by omega);rw[tC _ _ (by rw[he _ (av hidx)];omega)] at this;rw[<-this];exact(hss hd).1 _ (av (by rw[iS];omega))
     ·exact .inl (p4 j hj hin)
    split at h
    ·rename_i hk1;simp only[aE,aK] at h;obtain⟨rfl,rfl⟩:=h;obtain⟨hvc',rfl,rfl,hidx,rfl,hts,hs⟩:=hvc;have hk1:k=1:=by simpa using hk1
     subst hk1;obtain⟨c1,c2,c3⟩:=FH hx hc hvc';have hone1:(xs.getD 0 .nil).one=true:=(c3 0 (by omega)).1;have hcy:=one1 hone1;have hsc : ∀ {y:D},y.scalar=true->y.cells=[y]:=fun {y} hy=>by cases y <;> first|rfl|simp[D.scalar] at hy
     have hx1:xs=[xs.getD 0 .nil]:=by
      match xs,c1 with
      | [a],_=>rfl
      | [],c1=>simp at c1;omega
      | _::_::_,c1=>simp at c1;omega
     have hcl:(xs.getD 0 .nil).cells.length=1:=by rw[hcy];rfl
     refine key ⟨rfl,rfl⟩ hidx (by omega) c2 (fun j hj=>(c3 j hj).2.one (c3 j hj).1) _ hcl (by rw[hcy];intro c hc;simp only[m5] at hc;subst hc;exact hone1)
      (eW hvc' rfl hidx (by omega) _ hcl (fun j hj=>?_) (fun hd=>⟨?_,?_⟩))
     ·obtain rfl:j=0:=by omega
      rw[if_pos (by omega),hcy];rfl
     ·rw[hts];simp only[bY,m5];rintro c rfl;have hsd:=(hs hd).1;rw[show(l.getD idx z).cellAt 0=l.getD idx z from by rw[tC _ _ (by rw[hsc hsd];simp),hsc hsd];rfl];exact hsd
     ·intro c hc;rw[hx1] at hc;simp only[m5] at hc;rw[hc];exact(hs hd).2
    ·rename_i hk1;simp only[aE,aK] at h;obtain⟨rfl,rfl⟩:=h;obtain⟨hvc',rfl,rfl,hidx,hfit,hk2,hss⟩:=hvc;obtain⟨c1,c2,c3⟩:=FH hx hc hvc';obtain⟨q1,q2,q3⟩:=elem hidx rfl hfit xs c1 (by
      intro c hc;obtain⟨m,hm,rfl⟩:=gJ hc;rw[lb _ _ _ .nil];exact(c3 m (by omega)).1)
     exact key ⟨rfl,rfl⟩ hidx hfit c2 (fun j hj=>(c3 j hj).2.one (c3 j hj).1) _ q2 q1 (eW hvc' rfl hidx hfit _ q2 q3 hss)
   ·split at h
    ·rename_i hs vc' xs hc;have hol:vc'->k=k'->idx<l.length->off+ti.size<=k->lZ xs->pn idx off ti.size hs->∀ (y:D),y.cells.length=k->
       (∀ j,j<k->y.cells.getD j .nil=if off<=j/\j<off+ti.size then(xs.map iY).getD (j-off) .nil else(l.getD idx z).cells.getD j .nil)->
       ∀ arr rest,0<k->(∀ x∈l,x.cells.length=k)->l.length*k<=arr.size->aZ S φ H w k (.own hs) (flat l) arr rest->
        ∃ rest',rest'.Sublist rest/\aZ S φ H w k (.own (fS idx off xs)) (flat (l.set idx y)) (aI arr (idx*k+off) vx.cells.toList) rest':=by
      intro hvc' hkk hidx hfit hsc hcov y hy hcells arr rest hk he hsz hr;obtain⟨c1,c2,c3⟩:=wr hx hc hvc';obtain⟨p1,p2,p3,p4⟩:=place hk he hsz hidx hfit c2 y hy _ hcells;refine R8 hr p1 (by rw[c1];exact hcov) (by rw[c1];exact p2) hsc (fun j hj=>?_) (fun j hj hn=>p4 j hj (by rw[c1] at hn;exact hn));obtain⟨r1,r2,r3⟩:=p3 j (by omega);rw[r1,r2];refine⟨?_,c3 j (by omega)⟩;simp[List.getD,hj]
     have plc:vc'->lZ xs->(∀ c∈xs.map iY,c.one=true):=by
      intro hvc' hsc c hc';obtain⟨c1,c2,c3⟩:=wr hx hc hvc';obtain⟨x,hx',rfl⟩:=List.mem_map.1 hc';obtain⟨m,hm,rfl⟩:=gJ hx';have:=Aq hsc hm;rw[<-lb _ _ hm] at this;generalize xs[m]=x at this;cases x with
      | d c=>simp only[we] at this;cases c <;> first|rfl|simp[D.scalar] at this
      | _=>rfl
     split at h
     ·rename_i hk1;simp only[aE,aK] at h;obtain⟨rfl,rfl⟩:=h;obtain⟨hvc',rfl,rfl,hidx,rfl,hts,hsc,hcov⟩:=hvc;have hk1:k=1:=by simpa using hk1
      subst hk1;obtain⟨c1,c2,c3⟩:=wr hx hc hvc';have hp1:=plc hvc' hsc;have hone1:(iY (xs.getD 0 .junk)).one=true:=hp1 _ (List.mem_map.2 ⟨_,av (by omega),rfl⟩);have hcy:=one1 hone1;have hcl:(iY (xs.getD 0 .junk)).cells.length=1:=by rw[hcy];rfl
      refine key ⟨rfl,rfl⟩ hidx (by omega) c2 (fun j hj=>(c3 j hj).1) _ hcl (by rw[hcy];intro c hc;simp only[m5] at hc;subst hc;exact hone1)
       (hol hvc' rfl hidx (by omega) hsc hcov _ hcl (fun j hj=>?_))
      obtain rfl:j=0:=by omega
      rw[if_pos (by omega),hcy];have hx0:0<xs.length:=by omega
      simp[List.getD,hx0]
     ·rename_i hk1;simp only[aE,aK] at h;obtain⟨rfl,rfl⟩:=h;obtain⟨hvc',rfl,rfl,hidx,hfit,hk2,hsc,hcov⟩:=hvc;obtain⟨c1,c2,c3⟩:=wr hx hc hvc';obtain⟨q1,q2,q3⟩:=elem hidx rfl hfit (xs.map iY) (by simp[c1]) (plc hvc' hsc);exact key ⟨rfl,rfl⟩ hidx hfit c2 (fun j hj=>(c3 j hj).1) _ q2 q1 (hol hvc' rfl hidx hfit hsc hcov _ q2 q3)
    ·simp at h
  ·simp at h
 ·simp at h
end Go.VL
