/- Part 7: arithmetic, comparisons, lengths, parts of slices; all reading operations in one function. Conditions: none; lemmas. -/
import Derived.Test.YteikeianenfhaaaGreatVM1
import Derived.Laws.BytesString
import Derived.MapKept
import Derived.Laws.MakeOwn
import Derived.Laws.CopyOwn
set_option linter.unusedVariables false
set_option linter.unusedSimpArgs false
set_option maxHeartbeats 2000000
namespace Go.VL
set_option linter.defProp false
variable {t e m:Nat}{k:IntKind}{x y n:Int}{vx:Value}{vc:Prop}{op:BinOp}{xo yo:Operand}
variable {P:Program}{S:Nat->Prop}{φ : List (List Nat)}{H:List R}{w:World}{T:Nat->Option TI}
def c9 (o:Option I) (dflt:Int):Option Int:=
 match o with
 | none=>some dflt
 | some (.d x)=>some x.toInt
 | _=>none
def cB:Option I->Prop
 | none=>True
 | some (.d x)=>x.isInt .i64
 | _=>False
def x6 (k:Nat) (xd:D) (l h:Int):D:=
 match xd with
 | .nil=>.nil
 | xd=>.lst k ((xd.elems.drop l.toNat).take (h-l).toNat)
def uy (T:Nat->Option TI) (H:List R) (t:Nat) (x:I) (lo hi mx:Option I):Option (Prop×I):=
 match T t,mx with
 | some ti,none=>
  match ti.ty with
  | .slice e=>
   match T e with
   | some ei=>
    match x with
    | .d xd=>
     match c9 lo 0,c9 hi xd.elems.length with
     | some l,some h=>some (xd.cT ei.size/\cB lo/\cB hi/\0<ei.size/\0<=l/\l<=h/\h<=xd.elems.length,.d (x6 ei.size xd l h))
     | _,_=>none
    | .sl i g k l0 n=>
     match H[i]? with
     | some (.row g' k' _ _)=>
      match c9 lo 0,c9 hi n with
      | some l,some h=>some (g=g'/\k=k'/\k=ei.size/\cB lo/\cB hi/\0<=l/\l<=h/\h<=n,.sl i g k (l0+l.toNat) (h-l).toNat)
      | _,_=>none
     | _=>none
    | _=>none
   | none=>none
  | _=>none
 | _,_=>none
def uE (ov:Option Value) (dflt r:Int):Prop:=
 match ov with
 | none=>r=dflt
 | some v=>v=.int .i64 r
def Ah {ti ei:TI}(ht:aZ P t ti) (he:aZ P e ei) (hy:ti.ty=.slice e) (a:Option Addr) (len cap:Nat) (hlc:len<=cap) (lo hi:Option Value) {l h:Int}
  (hlo:uE lo 0 l) (hhi:uE hi len h) (h0:0<=l) (h1:l<=h) (h2:h<=len) (w:World) :
  (Instr.sliceAt t (.slice a len cap) lo hi none).run P w=.ok (.slice (if cap=l.toNat then a else a.map (·.add (l.toNat*ei.size))) (h-l).toNat (cap-l.toNat)) w:=by
 have hu:=ht.aF hy;have e1:(Instr.sliceBounds true len cap lo hi none).run P w=.ok (l.toNat,h.toNat,cap) w:=by
  have hhc:h<=cap:=by omega
  have hb:(match hi with|none=>(pure len:Sem Nat)|some v=>Instr.sliceBound v cap .sliceAcap).run P w=.ok h.toNat w:=by
   cases hi with
   | none=>simp only[uE] at hhi;subst hhi;simp
   | some v=>simp only[uE] at hhi;subst hhi;simp[Instr.sliceBound,asIntOf,show 0<=h by omega,hhc]
  have ha:(match lo with|none=>(pure 0:Sem Nat)|some v=>Instr.sliceBound v h.toNat .sliceB).run P w=.ok l.toNat w:=by
   cases lo with
   | none=>simp only[uE] at hlo;subst hlo;simp
   | some v=>simp only[uE] at hlo;subst hlo;simp[Instr.sliceBound,asIntOf,h0];omega
  cases hi <;> cases lo <;> simp_all[Instr.sliceBounds]
 have e2:(Instr.slice t (.slice a len cap) lo hi none).run P w=.ok (.slice (if cap=l.toNat then a else a.map (·.add (l.toNat*ei.size))) (h-l).toNat (cap-l.toNat)) w:=by
  simp only[Instr.slice,Sem.run_bind,run_underlying hu,Result.andThen_ok,e1,he.run_sizeOf,Sem.run_pure];congr 2;omega
 simp only[Instr.sliceAt,Sem.run_bind,run_underlying hu,Result.andThen_ok];exact e2
def FZ.sub {k:Nat}{x:D}{v:Value}(h:FZ S w x v) (hx:x.cT k) (hk:0<k) {l:Nat}(hm:l+m<=x.elems.length) :
  ∃ a cap,v=.slice a x.elems.length cap/\x.elems.length<=cap/\FZ S w (.lst k ((x.elems.drop l).take m)) (.slice (if cap=l then a else a.map (·.add (l*k))) m (cap-l)):=by
 cases h <;> simp[D.cT] at hx
 ·refine⟨none,0,rfl,aC _,?_⟩;simp[D.elems] at hm;obtain⟨rfl,rfl⟩:=hm;simp only[D.elems,List.drop_nil,List.take_nil];exact .lst0 hk
 ·rename_i k' a cap hk';refine⟨a,cap,rfl,kr _,?_⟩;simp[D.elems] at hm;obtain⟨rfl,rfl⟩:=hm;simp only[D.elems,List.drop_nil,List.take_nil];exact .lst0 hk
 ·rename_i k' L b off cap f hk' he h1 hn hlim hS hc hf
  replace hx:=hx.symm
  subst hx;refine⟨_,cap,rfl,hn,?_⟩;simp only[D.elems] at hm ⊢;have hlen:((L.drop l).take m).length=m:=by simp;omega
  by_cases hm0:m=0
  ·subst hm0;simp only[List.take_zero];exact .lst0 hk
  ·have hcl : ¬ cap=l:=by omega
   rw[if_neg hcl];simp only[k6,Addr.add_lit];have hmemE : ∀ x∈(L.drop l).take m,x∈L:=fun x hx=>pt (jX hx)
   have hfl:=ao he;have hfl':=ao (fun x hx=>he x (hmemE x hx));have hidx : ∀ j,j<(flat ((L.drop l).take m)).length->l*k+j<(flat L).length/\(flat ((L.drop l).take m)).getD j .nil=(flat L).getD (l*k+j) .nil:=by
    intro j hj;rw[hfl',hlen] at hj;have hm2:=jS k hm;rw[iX] at hm2;refine⟨by omega,?_⟩;have hq:j/k<m:=Nat.div_lt_of_lt_mul (by rw[oP];exact hj);have hr:j%k<k:=Nat.mod_lt _ hk;have hj':j=(j/k)*k+j%k:=by rw[oP];exact(Nat.div_add_mod j k).symm
    have e1:=nn (fun x hx=>he x (hmemE x hx)) (i:=j/k) (by omega) hr .nil;have e2:=nn he (i:=l+j/k) (by omega) hr .nil;rw[<-hj'] at e1;rw[iX,jy,<-hj'] at e2;rw[e1,e2];congr 2;rw[aJ _ _ _ _ hq,cD]
   have:=FZ.lst (S:=S) (w:=w) (k:=k) (l:=(L.drop l).take m) (b:=b) (off:=off+l*k) (cap:=cap-l) (fun j=>f (l*k+j)) hk (fun x hx=>he x (hmemE x hx)) ?_ (by omega) (by omega) hS ?_ ?_
   ·rw[hlen] at this;exact this
   ·intro c hc';obtain⟨x,hx,hcx⟩:=nB.1 hc';exact h1 c (nB.2 ⟨x,hmemE x hx,hcx⟩)
   ·intro j hj;rw[jy];exact hc _ (hidx j hj).1
   ·intro j hj;rw[(hidx j hj).2];exact hf _ (hidx j hj).1
def BP {o:Option I}{ov:Option Value}(hv : ∀ x,o=some x->∃ v,ov=some v/\V S φ H w x v) (hn:o=none->ov=none) {dflt r:Int}(h:c9 o dflt=some r) (hc:cB o) :
  uE ov dflt r:=by
 cases o with
 | none=>
  rw[hn rfl];simpa [c9,uE] using h.symm
 | some x=>
  obtain⟨v,rfl,hx⟩:=hv x rfl;cases x <;> simp[c9] at h
  subst h;exact(hx.fz.al hc).2.1
def L9 (hT:bO P T) {x:I}{lo hi mx:Option I}{vlo vhi vmx:Option Value}(hx:V S φ H w x vx)
  (hlo : ∀ x,lo=some x->∃ v,vlo=some v/\V S φ H w x v) (hlo':lo=none->vlo=none) (hhi : ∀ x,hi=some x->∃ v,vhi=some v/\V S φ H w x v) (hhi':hi=none->vhi=none) (hmx:mx=none->vmx=none)
  {y:I}(h:uy T H t x lo hi mx=some (vc,y)) (hvc:vc) :
  ∃ v,V S φ H w y v/\∀ w2,(Instr.sliceAt t vx vlo vhi vmx).run P w2=.ok v w2:=by
 unfold uy at h;split at h
 ·rename_i ti hti;obtain rfl:=hmx rfl;have ht:=hT _ _ hti;split at h
  ·rename_i e hy;split at h
   ·rename_i ei hei;have he:=hT _ _ hei;split at h
    ·rename_i xd;split at h
     ·rename_i l hh hl1 hh1;simp only[aD,aH] at h;obtain⟨rfl,rfl⟩:=h;obtain⟨hl,hc1,hc2,hk,h0,h1,h2⟩:=hvc;have v1:=BP hlo hlo' hl1 hc1;have v2:=BP hhi hhi' hh1 hc2;by_cases hnil:xd=.nil
      ·subst hnil;have hxz:=hx.fz;cases hxz;have hl0:l=0:=by simp only[D.elems,fm] at h2;omega
       have hh0:hh=0:=by simp only[D.elems,fm] at h2;omega
       subst hl0;subst hh0;refine⟨.slice none 0 0,.d .nil,fun w2=>?_⟩;rw[Ah ht he hy none 0 0 (aC _) vlo vhi v1 v2 h0 h1 (Int.le_refl _) w2];rfl
      obtain⟨a,cap,rfl,hcap,hz⟩:=hx.fz.sub hl hk (l:=l.toNat) (m:=(hh-l).toNat) (by omega);have hsd:x6 ei.size xd l hh=.lst ei.size ((xd.elems.drop l.toNat).take (hh-l).toNat):=by
       cases xd <;> first|rfl|exact absurd rfl hnil
      rw[hsd];exact⟨_,.d hz,fun w2=>Ah ht he hy a _ cap hcap vlo vhi v1 v2 h0 h1 h2 w2⟩
     ·simp at h
    ·rename_i i g k l0 n;split at h
     ·rename_i g' k' dp L hroot;split at h
      ·rename_i l hh hl1 hh1;simp only[aD,aH] at h;obtain⟨rfl,rfl⟩:=h;obtain⟨rfl,rfl,rfl,hc1,hc2,h0,h1,h2⟩:=hvc;have v1:=BP hlo hlo' hl1 hc1;have v2:=BP hhi hhi' hh1 hc2;cases hx with
       | sl hlt hg hrel ho=>
        obtain⟨hsl,hle⟩:=hrel dp L hroot;rcases hsl with⟨hfp,rfl,rfl,rfl⟩|⟨b,rest,cap,arr,ty,a,hfp,rfl,hn,hc,hlim,hb,hfit⟩
        ·have hl0:l=0:=by omega
         have hh0:hh=0:=by omega
         subst hl0;subst hh0;refine⟨.slice none 0 0,.sl hlt hg (fun dp' L' hL'=>⟨.inl ⟨hfp,rfl,rfl,rfl⟩,by simp⟩) rfl,fun w2=>?_⟩;rw[Ah ht he hy none 0 0 (aC _) vlo vhi v1 v2 h0 h1 h2 w2];rfl
        ·refine⟨.slice (if cap=l.toNat then a else a.map (·.add (l.toNat*ei.size))) (hh-l).toNat (cap-l.toNat),.sl hlt hg (fun dp' L' hL'=>⟨.inr ⟨b,rest,cap-l.toNat,arr,ty,_,hfp,rfl,by omega,by omega,by omega,hb,?_⟩,?_⟩) rfl,fun w2=>Ah ht he hy a _ cap hn vlo vhi v1 v2 h0 h1 h2 w2⟩
         ·intro hor;by_cases hcl:cap=l.toNat
          ·rcases hor with hor|hor
           ·omega
           ·have hl0:l0=0:=by omega
            obtain⟨ha,hfit'⟩:=hfit (.inr hl0);rw[if_pos hcl,ha];subst hl0;have:l.toNat=0:=by omega
            rw[this];exact⟨by simp,by simp;omega⟩
          ·obtain⟨ha,hfit'⟩:=hfit (by omega);rw[if_neg hcl,ha];simp only[k6,Addr.add_lit];refine⟨by rw[iX],?_⟩;have:(l0+l.toNat)*ei.size+(cap-l.toNat)*ei.size=l0*ei.size+cap*ei.size:=by
            rw[<-iX,<-iX];congr 1;omega
           omega
         ·rw[hroot] at hL';simp at hL';obtain⟨_,rfl⟩:=hL';omega
      ·simp at h
     ·simp at h
    ·simp at h
   ·simp at h
  ·simp at h
 ·simp at h
def qr:Option TI->Bool
 | some ⟨.int .i64,_,_,_⟩=>true
 | _=>false
def rD (T:Nat->Option TI):Nat->List (Nat×Nat)->Prop
 | _,[]=>True
 | j,(o,t)::r=>o=j/\qr (T t)=true/\rD T (j+1) r
def br:List D->Prop
 | []=>True
 | x::r=>x.isInt .i64/\br r
def oE:List D->List D->Bool
 | x::r,y::s=>decide (x.toInt=y.toInt)&&oE r s
 | _,_=>true
def wV:Option TI->D->D->Prop
 | some ⟨.int .i64,_,_,_⟩,x,y=>x.isInt .i64/\y.isInt .i64
 | some ⟨.bool,_,_,_⟩,x,y=>x.isBool/\y.isBool
 | _,_,_=>False
def v5:Option TI->D->D->Bool
 | some ⟨.bool,_,_,_⟩,x,y=>x.toBool == y.toBool
 | _,x,y=>decide (x.toInt=y.toInt)
def pp (T:Nat->Option TI):Nat->List (Nat×Nat)->List D->List D->Prop
 | _,[],_,_=>True
 | j,(o,t)::r,x::xs,y::ys=>o=j/\wV (T t) x y/\pp T (j+1) r xs ys
 | _,_::_,_,_=>False
def tU (T:Nat->Option TI):List (Nat×Nat)->List D->List D->Bool
 | (_,t)::r,x::xs,y::ys=>v5 (T t) x y&&tU T r xs ys
 | _,_,_=>true
def iL (x y:Int):Int:=x.tmod y
def aB (h:0<=x):iL x y=x%y:=Int.tmod_eq_emod_of_nonneg h
def sC (x:Int) (h:0<y):(0<=x->0<=iL x y/\iL x y<y)/\(x<0->x<=iL x y/\iL x y<=0/\-y<iL x y):=by
 refine⟨fun h0=>?_,fun h0=>?_⟩
 ·rw[aB h0];exact⟨Int.emod_nonneg _ (by omega),Int.emod_lt_of_pos _ h⟩
 ·obtain⟨z,rfl⟩ : ∃ z,x = -z:=⟨-x,by omega⟩;unfold iL;rw[Int.neg_tmod,Int.tmod_eq_emod_of_nonneg (by omega)];have h1:=Int.emod_nonneg z (show y≠0 by omega);have h2:=Int.emod_lt_of_pos z h;have h3:z%y<=z:=by
   rw[Int.emod_def];have:=Int.mul_nonneg (show 0<=y by omega) (Int.ediv_nonneg (show 0<=z by omega) (show 0<=y by omega));omega
  omega
def kE (T:Nat->Option TI) (H:List R) (op:BinOp) (t:Nat) (x y:I):Option (Prop×I):=
 match T t with
 | some ti=>
  match ti.ty,x,y with
  | .int k,.d x,.d y=>
   match op with
   | .add=>some (x.isInt k/\y.isInt k/\cp k (x.toInt+y.toInt),.d (.int k (x.toInt+y.toInt)))
   | .sub=>some (x.isInt k/\y.isInt k/\cp k (x.toInt-y.toInt),.d (.int k (x.toInt-y.toInt)))
   | .mul=>some (x.isInt k/\y.isInt k/\cp k (x.toInt*y.toInt),.d (.int k (x.toInt*y.toInt)))
   | .quo=>some (x.isInt k/\y.isInt k/\0<=x.toInt/\0<y.toInt,.d (.int k (x.toInt/y.toInt)))
   | .rem=>some (x.isInt k/\y.isInt k/\0<y.toInt,.d (.int k (iL x.toInt y.toInt)))
   | .and=>some (x.isInt k/\y.isInt k/\0<=x.toInt/\0<=y.toInt,.d (.int k ((x.toInt.toNat &&& y.toInt.toNat:Nat):Int)))
   | .or=>some (x.isInt k/\y.isInt k/\0<=x.toInt/\0<=y.toInt,.d (.int k ((x.toInt.toNat ||| y.toInt.toNat:Nat):Int)))
   | .xor=>some (x.isInt k/\y.isInt k/\0<=x.toInt/\0<=y.toInt,.d (.int k ((x.toInt.toNat ^^^ y.toInt.toNat:Nat):Int)))
   | .shl=>some (x.isInt k/\y.eB/\0<=y.toInt/\y.toInt<=k.bits/\cp k (x.toInt*2 ^ y.toInt.toNat),.d (.int k (x.toInt*2 ^ y.toInt.toNat)))
   | .shr=>some (x.isInt k/\y.eB/\0<=y.toInt/\y.toInt<=k.bits,.d (.int k (x.toInt/2 ^ y.toInt.toNat)))
   | .eql=>some (x.isInt k/\y.isInt k,.d (.bool (decide (x.toInt=y.toInt))))
   | .neq=>some (x.isInt k/\y.isInt k,.d (.bool (!decide (x.toInt=y.toInt))))
   | .lss=>some (x.isInt k/\y.isInt k,.d (.bool (decide (x.toInt<y.toInt))))
   | .leq=>some (x.isInt k/\y.isInt k,.d (.bool (decide (x.toInt<=y.toInt))))
   | .gtr=>some (x.isInt k/\y.isInt k,.d (.bool (decide (y.toInt<x.toInt))))
   | .geq=>some (x.isInt k/\y.isInt k,.d (.bool (decide (y.toInt<=x.toInt))))
   | _=>none
  | .bool,.d x,.d y=>
   match op with
   | .eql=>some (x.isBool/\y.isBool,.d (.bool (x.toBool == y.toBool)))
   | .neq=>some (x.isBool/\y.isBool,.d (.bool (!(x.toBool == y.toBool))))
   | _=>none
  | .slice _,.d x,.d .nil=>
   match op with
   | .eql=>some (x.gA/\(x=.nil∨x.elems≠[]),.d (.bool x.isNil))
   | .neq=>some (x.gA/\(x=.nil∨x.elems≠[]),.d (.bool (!x.isNil)))
   | _=>none
  | .slice _,.sl i g k lo n,.d .nil=>
   match H[i]? with
   | some (.row g' k' _ _)=>
    match op with
    | .eql=>some (g=g'/\k=k'/\0<n,.d (.bool false))
    | .neq=>some (g=g'/\k=k'/\0<n,.d (.bool true))
    | _=>none
   | _=>none
  | .struct fs,.d (.agg cs),.d (.agg ds)=>
   match op with
   | .eql=>some (cs.length=fs.length/\ds.length=fs.length/\pp T 0 fs cs ds,.d (.bool (tU T fs cs ds)))
   | .neq=>some (cs.length=fs.length/\ds.length=fs.length/\pp T 0 fs cs ds,.d (.bool (!(tU T fs cs ds))))
   | _=>none
  | .string,.d (.raw (.string a)),.d (.raw (.string b))=>
   match op with
   | .eql=>some (True,.d (.bool (a.toList == b.toList)))
   | .neq=>some (True,.d (.bool (!(a.toList == b.toList))))
   | _=>none
  | _,_,_=>none
 | none=>none
def pB : ∀ {l:List D},br l->∀ j,j<l.length->(l.getD j .nil).isInt .i64
 | [],_,j,h=>by simp at h
 | x::r,hc,0,_=>hc.1
 | x::r,hc,j+1,h=>pB hc.2 j (by simpa using h)
def JE (hT:bO P T) : ∀ {l:List Field}{j:Nat},rD T j (l.map fun f=>(f.offset,f.type))->sy P l j=true/\∀ f∈l,∃ ti,aZ P f.type ti/\ti.ty=.int .i64
 | [],j,_=>⟨rfl,by simp⟩
 | f::r,j,h=>by
  simp only[jC,rD] at h;obtain⟨h1,h2,h3⟩:=h;obtain⟨i1,i2⟩:=JE hT h3;obtain⟨ti,ht,hty⟩ : ∃ ti,T f.type=some ti/\ti.ty=.int .i64:=by
   cases e:T f.type with
   | none=>rw[e] at h2;simp[qr] at h2
   | some ti=>
    rw[e] at h2;refine⟨ti,rfl,?_⟩;obtain⟨ty,a,b,c⟩:=ti;cases ty with
    | int k=>cases k <;> first|rfl|simp[qr] at h2
    | _=>simp[qr] at h2
  have hu:=(hT _ _ ht).bl hty;refine⟨by simp only[sy,h1,beq_self_eq_true,hu,i1,Bool.and_self],fun g hg=>?_⟩;rcases List.mem_cons.1 hg with rfl|hg
  ·exact⟨ti,hT _ _ ht,hty⟩
  ·exact i2 g hg
def JI {vs us:Array Value}{cs ds:List D}(hv:cs.length=vs.size) (hu:ds.length=us.size) (fv : ∀ j,j<cs.length->FZ S w (cs.getD j .nil) (vs.getD j undef)) (fu : ∀ j,j<ds.length->FZ S w (ds.getD j .nil) (us.getD j undef))
  (ic : br cs) (id : br ds) (d : Nat) (w2 : World) : ∀ (l : List Field) (j : Nat), sy P l j = true -> (∀ f ∈ l, f.name ≠ "_") -> (∀ f ∈ l, ∃ ti, aZ P f.type ti /\ ti.ty = .int .i64) -> j + l.length = cs.length -> j + l.length = ds.length ->
  (Op.eqFields (d+1) vs us l).run P w2=.ok (oE (cs.drop j) (ds.drop j)) w2
 | [],j,_,_,_,h1,h2=>by
  simp only[fm,ms] at h1 h2;rw[rm (by omega),rm (by omega)];rfl
 | f::r,j,hfl,hnm,hti,h1,h2=>by
  simp only[cU] at h1 h2;simp only[sy,gN,beq_iff_eq] at hfl;obtain⟨⟨ho,_⟩,hr⟩:=hfl;obtain⟨ti,ht,hty⟩:=hti f (by simp);have hag:ti.ty.agg=false:=by rw[hty];rfl
  have ih:=JI hv hu fv fu ic id d w2 r (j+1) hr (fun g hg=>hnm g (by simp[hg])) (fun g hg=>hti g (by simp[hg])) (by omega) (by omega);have xv:=fv j (by omega);have yv:=fu j (by omega);obtain⟨_,ev,kx⟩:=xv.al (pB ic j (by omega));obtain⟨_,eu,ky⟩:=yv.al (pB id j (by omega));have e1:cs.drop j=cs.getD j .nil::cs.drop (j+1):=by
   rw[qQ (by omega),List.getD_eq_getElem?_getD,List.getElem?_eq_getElem (by omega)];rfl
  have e2:ds.drop j=ds.getD j .nil::ds.drop (j+1):=by
   rw[qQ (by omega),List.getD_eq_getElem?_getD,List.getElem?_eq_getElem (by omega)];rfl
  rw[e1,e2];subst ho;simp only[Op.eqFields,hnm f (by simp),ne_eq,not_false_eq_true,if_true,Sem.run_bind,pi ht hag (show f.offset<vs.size by omega),pi ht hag (show f.offset<us.size by omega),Result.andThen_ok,ev,eu,
   run_equalIn_int w2 d f.type .i64 .i64 _ _ (ht.bl hty)]
  simp only[oE];by_cases hq:(cs.getD f.offset .nil).toInt=(ds.getD f.offset .nil).toInt
  ·simp only[hq,beq_self_eq_true,Bool.not_true,eV,if_false,decide_true,rp];exact ih
  ·simp only[beq_eq_false_iff_ne.2 hq,Bool.not_false,if_true,Sem.run_pure,decide_eq_false hq,Bool.false_and]
def Jo {o:Option TI}{x y:D}(h:wV o x y) : ∃ ti,o=some ti/\((ti.ty=.int .i64/\x.isInt .i64/\y.isInt .i64/\v5 o x y=decide (x.toInt=y.toInt))∨(ti.ty=.bool/\x.isBool/\y.isBool/\v5 o x y=(x.toBool == y.toBool))):=by
 unfold wV at h;split at h
 ·exact⟨_,rfl,.inl ⟨rfl,h.1,h.2,rfl⟩⟩
 ·exact⟨_,rfl,.inr ⟨rfl,h.1,h.2,rfl⟩⟩
 ·exact h.elim
def Jh (hT:bO P T) : ∀ {l:List Field}{j:Nat}{cs ds:List D},pp T j (l.map fun f=>(f.offset,f.type)) cs ds->sy P l j=true
 | [],j,_,_,_=>rfl
 | f::r,j,[],_,h=>by simp[pp] at h
 | f::r,j,_::_,[],h=>by simp[pp] at h
 | f::r,j,x::xs,y::ys,h=>by
  simp only[jC,pp] at h;obtain⟨h1,h2,h3⟩:=h;have ih:=Jh hT h3;obtain⟨ti,ht,h4⟩:=Jo h2;rcases h4 with⟨hty,-⟩|⟨hty,-⟩
  ·have hu:=(hT _ _ ht).bl hty;simp only[sy,h1,beq_self_eq_true,hu,ih,Bool.and_self]
  ·have hu:=(hT _ _ ht).gt hty;simp only[sy,h1,beq_self_eq_true,hu,ih,Bool.and_self]
def Jj (hT:bO P T) {vs us:Array Value}{cs ds:List D}(hv:cs.length=vs.size) (hu:ds.length=us.size) (fv : ∀ j,j<cs.length->FZ S w (cs.getD j .nil) (vs.getD j undef)) (fu : ∀ j,j<ds.length->FZ S w (ds.getD j .nil) (us.getD j undef))
  (d : Nat) (w2 : World) : ∀ (l : List Field) (j : Nat), pp T j (l.map fun f => (f.offset, f.type)) (cs.drop j) (ds.drop j) -> (∀ f ∈ l, f.name ≠ "_") -> j + l.length = cs.length -> j + l.length = ds.length ->
  (Op.eqFields (d+1) vs us l).run P w2=.ok (tU T (l.map fun f=>(f.offset,f.type)) (cs.drop j) (ds.drop j)) w2
 | [],j,_,_,h1,h2=>rfl
 | f::r,j,hsc,hnm,h1,h2=>by
  simp only[cU] at h1 h2;have e1:cs.drop j=cs.getD j .nil::cs.drop (j+1):=by
   rw[qQ (by omega),List.getD_eq_getElem?_getD,List.getElem?_eq_getElem (by omega)];rfl
  have e2:ds.drop j=ds.getD j .nil::ds.drop (j+1):=by
   rw[qQ (by omega),List.getD_eq_getElem?_getD,List.getElem?_eq_getElem (by omega)];rfl
  rw[e1,e2] at hsc ⊢;simp only[jC,pp] at hsc;obtain⟨ho,hc,hr⟩:=hsc;have ih:=Jj hT hv hu fv fu d w2 r (j+1) hr (fun g hg=>hnm g (by simp[hg])) (by omega) (by omega);have xv:=fv j (by omega);have yv:=fu j (by omega);obtain⟨ti,htt,h4⟩:=Jo hc;have ht:=hT _ _ htt;subst ho;simp only[jC,tU];rcases h4 with⟨hty,hx,hy,he⟩|⟨hty,hx,hy,he⟩
  ·have hag:ti.ty.agg=false:=by rw[hty];rfl
   obtain⟨_,ev,kx⟩:=xv.al hx;obtain⟨_,eu,ky⟩:=yv.al hy;rw[he];simp only[Op.eqFields,hnm f (by simp),ne_eq,not_false_eq_true,if_true,Sem.run_bind,pi ht hag (show f.offset<vs.size by omega),pi ht hag (show f.offset<us.size by omega),Result.andThen_ok,ev,eu,
    run_equalIn_int w2 d f.type .i64 .i64 _ _ (ht.bl hty)]
   by_cases hq:(cs.getD f.offset .nil).toInt=(ds.getD f.offset .nil).toInt
   ·simp only[hq,beq_self_eq_true,Bool.not_true,eV,if_false,decide_true,rp];exact ih
   ·simp only[beq_eq_false_iff_ne.2 hq,Bool.not_false,if_true,Sem.run_pure,decide_eq_false hq,Bool.false_and]
  ·have hag:ti.ty.agg=false:=by rw[hty];rfl
   obtain⟨_,ev⟩:=xv.ci hx;obtain⟨_,eu⟩:=yv.ci hy;have heq : ∀ (a b:Bool),(Op.equalIn (d+1) f.type (.bool a) (.bool b)).run P w2=.ok (a == b) w2:=fun a b=>by simp[Op.equalIn,run_underlying (ht.gt hty)]
   rw[he];simp only[Op.eqFields,hnm f (by simp),ne_eq,not_false_eq_true,if_true,Sem.run_bind,pi ht hag (show f.offset<vs.size by omega),pi ht hag (show f.offset<us.size by omega),Result.andThen_ok,ev,eu,heq];cases hq:(cs.getD f.offset .nil).toBool == (ds.getD f.offset .nil).toBool with
   | true=>
    simp only[Bool.not_true,eV,if_false,rp];exact ih
   | false=>simp only[Bool.not_false,if_true,Sem.run_pure,Bool.false_and]
def cG (h:cp k n):k.wrap n=n:=by
 obtain⟨h1,h2⟩:=h;cases k <;> simp[IntKind.min,IntKind.max,IntKind.wrap,IntKind.bits,IntKind.signed] at * <;> omega
def DL (h0:0<=n) (h1:n<=k.max):cp k n:=by
 refine⟨?_,h1⟩;cases k <;> simp[IntKind.min,IntKind.bits,IntKind.signed] <;> omega
def x0 {n:Nat}(h:(n:Int)<=k.max):cp k n:=DL (by omega) h
def A8 (k:IntKind) : ∃ m:Nat,k.max=2 ^ m-1/\m<=k.bits:=by
 cases k
 ·exact⟨7,rfl,by decide⟩
 ·exact⟨15,rfl,by decide⟩
 ·exact⟨31,rfl,by decide⟩
 ·exact⟨63,rfl,by decide⟩
 ·exact⟨8,rfl,by decide⟩
 ·exact⟨16,rfl,by decide⟩
 ·exact⟨32,rfl,by decide⟩
 ·exact⟨64,rfl,by decide⟩
def xA {b:Nat}(h0:0<=x) (h1:x.toNat<2 ^ b):(BitVec.ofInt b x).toNat=x.toNat:=by
 obtain⟨n,rfl⟩:=wG h0;simp only[tZ] at h1 ⊢;simp[Nat.mod_eq_of_lt h1]
def un {k:Int}(h:x<=k) (hk:k=2 ^ m-1):x.toNat<2 ^ m:=by
 have h1:(0:Int)<2 ^ m:=Int.pow_pos (by decide);have h2:((2 ^ m:Nat):Int)=(2:Int) ^ m:=by simp
 omega
def ON (hx:cp k x) (hy:cp k y) (hx0:0<=x) (hy0:0<=y):bits .and k x y=((x.toNat &&& y.toNat:Nat):Int):=by
 obtain⟨m,hm,hb⟩:=A8 k;have a1:=un hx.2 hm;have a2:=un hy.2 hm;have hp:2 ^ m<=2 ^ k.bits:=uS (by decide) hb;simp only[bits,BitVec.toNat_and];rw[xA hx0 (by omega),xA hy0 (by omega)];have:x.toNat &&& y.toNat<2 ^ m:=Nat.and_lt_two_pow _ a2;refine cG (x0 ?_);have h2:((2 ^ m:Nat):Int)=(2:Int) ^ m:=by simp
 omega
def s7 (hx:cp k x) (hy:cp k y) (hx0:0<=x) (hy0:0<=y):bits .or k x y=((x.toNat ||| y.toNat:Nat):Int):=by
 obtain⟨m,hm,hb⟩:=A8 k;have a1:=un hx.2 hm;have a2:=un hy.2 hm;have hp:2 ^ m<=2 ^ k.bits:=uS (by decide) hb;simp only[bits,BitVec.toNat_or];rw[xA hx0 (by omega),xA hy0 (by omega)];have:x.toNat ||| y.toNat<2 ^ m:=Nat.or_lt_two_pow a1 a2;refine cG (x0 ?_);have h2:((2 ^ m:Nat):Int)=(2:Int) ^ m:=by simp
 omega
def NN (hx:cp k x) (hy:cp k y) (hx0:0<=x) (hy0:0<=y):bits .xor k x y=((x.toNat ^^^ y.toNat:Nat):Int):=by
 obtain⟨m,hm,hb⟩:=A8 k;have a1:=un hx.2 hm;have a2:=un hy.2 hm;have hp:2 ^ m<=2 ^ k.bits:=uS (by decide) hb;simp only[bits,BitVec.toNat_xor];rw[xA hx0 (by omega),xA hy0 (by omega)];have:x.toNat ^^^ y.toNat<2 ^ m:=Nat.xor_lt_two_pow a1 a2;refine cG (x0 ?_);have h2:((2 ^ m:Nat):Int)=(2:Int) ^ m:=by simp
 omega
def BV {x y:Nat}(hx:cp k x) (hy:cp k y):cp k ((x &&& y:Nat):Int)/\cp k ((x ||| y:Nat):Int)/\cp k ((x ^^^ y:Nat):Int):=by
 obtain⟨m,hm,hb⟩:=A8 k;have a1:=un hx.2 hm;have a2:=un hy.2 hm;simp only[tZ] at a1 a2;have h2:((2 ^ m:Nat):Int)=(2:Int) ^ m:=by simp
 have b1:x &&& y<2 ^ m:=Nat.and_lt_two_pow _ a2;have b2:x ||| y<2 ^ m:=Nat.or_lt_two_pow a1 a2;have b3:x ^^^ y<2 ^ m:=Nat.xor_lt_two_pow a1 a2;exact⟨x0 (by omega),x0 (by omega),x0 (by omega)⟩
def rL {a b:Int}(ha:cp k a) (hb:cp k b) {w2:World}{r:Value}(h:(binOp op t (.int k a) (.int k b)).run P w2=.ok r w2) :
  (do eqGuard op t xo yo (.int k a) (.int k b);binOp op t (.int k a) (.int k b):Sem Value).run P w2=.ok r w2:=by
 simp only[eqGuard_at_int,Sem.run_bind,Sem.run_pure,Result.andThen_ok,h]
def cz (hu:P.underlying t=some (.slice e)) (d:Nat) (a:Option Addr) (n cap:Nat) (w2:World):(Op.equalIn (d+1) t (.slice a n cap) (.slice none 0 0)).run P w2=.ok a.isNone w2:=by
 cases a <;> simp[Op.equalIn,run_underlying hu]
def cn (hu:P.underlying t=some (.slice e)) (a:Option Addr) (n cap:Nat) (w2:World):(binOp .eql t (.slice a n cap) (.slice none 0 0)).run P w2=.ok (.bool a.isNone) w2:=by
 have:(Op.equal t (.slice a n cap) (.slice none 0 0)).run P w2=.ok a.isNone w2:=cz hu 9999 a n cap w2;simp only[binOp,Sem.run_bind,this,Result.andThen_ok,Sem.run_pure]
def db (hu:P.underlying t=some (.slice e)) (a:Option Addr) (n cap:Nat) (w2:World):(binOp .neq t (.slice a n cap) (.slice none 0 0)).run P w2=.ok (.bool (!a.isNone)) w2:=by
 have:(Op.equal t (.slice a n cap) (.slice none 0 0)).run P w2=.ok a.isNone w2:=cz hu 9999 a n cap w2;simp only[binOp,Sem.run_bind,this,Result.andThen_ok,Sem.run_pure]
def MZ (hT:bO P T) {x y:I}{vy:Value}(hx:V S φ H w x vx) (hy:V S φ H w y vy) {z:I}
  (h:kE T H op t x y=some (vc,z)) (hvc:vc) :
  ∃ v,V S φ H w z v/\∀ w2,(do eqGuard op t xo yo vx vy;binOp op t vx vy:Sem Value).run P w2=.ok v w2:=by
 unfold kE at h;split at h
 ·rename_i ti hti;have ht:=hT _ _ hti;split at h
  ·rename_i k x y hk;have hxz:=hx.fz;have hyz:=hy.fz;cases op <;> simp only[aD,aH,reduceCtorEq] at h <;> obtain⟨rfl,rfl⟩:=h
   case add=>
    obtain⟨_,rfl,kx⟩:=hxz.al hvc.1;obtain⟨_,rfl,ky⟩:=hyz.al hvc.2.1;exact⟨_,.d (.int hvc.2.2),fun w2=>rL kx ky (by simp[binOp_add,Op.intArith,cG hvc.2.2])⟩
   case sub=>
    obtain⟨_,rfl,kx⟩:=hxz.al hvc.1;obtain⟨_,rfl,ky⟩:=hyz.al hvc.2.1;exact⟨_,.d (.int hvc.2.2),fun w2=>rL kx ky (by simp[binOp_sub,Op.intArith,cG hvc.2.2])⟩
   case mul=>
    obtain⟨_,rfl,kx⟩:=hxz.al hvc.1;obtain⟨_,rfl,ky⟩:=hyz.al hvc.2.1;exact⟨_,.d (.int hvc.2.2),fun w2=>rL kx ky (by simp[binOp_mul,Op.intArith,cG hvc.2.2])⟩
   case quo=>
    obtain⟨_,rfl,kx⟩:=hxz.al hvc.1;obtain⟨_,rfl,ky⟩:=hyz.al hvc.2.1;obtain⟨_,_,h0,h1⟩:=hvc;have hin:cp k (x.toInt/y.toInt):=DL (Int.ediv_nonneg h0 (by omega)) (Int.le_trans (Int.ediv_le_self _ h0) kx.2);refine⟨_,.d (.int hin),fun w2=>rL kx ky ?_⟩;simp only[binOp_quo,Op.intDiv];rw[if_neg (by omega),Int.tdiv_eq_ediv_of_nonneg h0,cG hin];rfl
   case rem=>
    obtain⟨_,rfl,kx⟩:=hxz.al hvc.1;obtain⟨_,rfl,ky⟩:=hyz.al hvc.2.1;obtain⟨_,_,h1⟩:=hvc;have hin:cp k (iL x.toInt y.toInt):=by
     have hb:=sC x.toInt h1;have hy:=ky.2;have hx:=kx;unfold cp at hx ⊢;by_cases h0:0<=x.toInt
     ·have:=hb.1 h0;have:=hx.1;have hm:k.min<=0:=by cases k <;> decide
      omega
     ·have:=hb.2 (by omega);omega
    refine⟨_,.d (.int hin),fun w2=>rL kx ky ?_⟩;simp only[binOp_rem,Op.intDiv];rw[if_neg (by omega)];rfl
   case and=>
    obtain⟨_,rfl,kx⟩:=hxz.al hvc.1;obtain⟨_,rfl,ky⟩:=hyz.al hvc.2.1;obtain⟨_,_,h0,h1⟩:=hvc;obtain⟨m,hm⟩:=wG h0;obtain⟨n,hn⟩:=wG h1;have hin:=BV (k:=k) (x:=m) (y:=n) (hm▸kx) (hn▸ky);refine⟨_,.d (.int (by rw[hm,hn];simpa using hin.1)),fun w2=>rL kx ky ?_⟩;simp only[binOp_and,intBits_and,ON kx ky h0 h1,Sem.run_pure]
   case or=>
    obtain⟨_,rfl,kx⟩:=hxz.al hvc.1;obtain⟨_,rfl,ky⟩:=hyz.al hvc.2.1;obtain⟨_,_,h0,h1⟩:=hvc;obtain⟨m,hm⟩:=wG h0;obtain⟨n,hn⟩:=wG h1;have hin:=BV (k:=k) (x:=m) (y:=n) (hm▸kx) (hn▸ky);refine⟨_,.d (.int (by rw[hm,hn];simpa using hin.2.1)),fun w2=>rL kx ky ?_⟩;simp only[binOp_or,intBits_or,s7 kx ky h0 h1,Sem.run_pure]
   case xor=>
    obtain⟨_,rfl,kx⟩:=hxz.al hvc.1;obtain⟨_,rfl,ky⟩:=hyz.al hvc.2.1;obtain⟨_,_,h0,h1⟩:=hvc;obtain⟨m,hm⟩:=wG h0;obtain⟨n,hn⟩:=wG h1;have hin:=BV (k:=k) (x:=m) (y:=n) (hm▸kx) (hn▸ky);refine⟨_,.d (.int (by rw[hm,hn];simpa using hin.2.2)),fun w2=>rL kx ky ?_⟩;simp only[binOp_xor,intBits_xor,NN kx ky h0 h1,Sem.run_pure]
   case shl=>
    obtain⟨_,rfl,kx⟩:=hxz.al hvc.1;obtain⟨_,hk'⟩:=D.kR hvc.2.1;obtain⟨_,rfl,ky⟩:=hyz.al hk';obtain⟨_,_,h0,h1,hin⟩:=hvc;refine⟨_,.d (.int hin),fun w2=>?_⟩;simp only[eqGuard_at_int,Sem.run_bind,Sem.run_pure,Result.andThen_ok,binOp_shl,shift_shl k _ _ _ h0 h1,cG hin]
   case shr=>
    obtain⟨_,rfl,kx⟩:=hxz.al hvc.1;obtain⟨_,hk'⟩:=D.kR hvc.2.1;obtain⟨_,rfl,ky⟩:=hyz.al hk';obtain⟨_,_,h0,h1⟩:=hvc;have hp:(0:Int)<2 ^ y.toInt.toNat:=Int.pow_pos (by decide);have hin:cp k (x.toInt/2 ^ y.toInt.toNat):=by
     by_cases hx0:0<=x.toInt
     ·exact DL (Int.ediv_nonneg hx0 (by omega)) (Int.le_trans (Int.ediv_le_self _ hx0) kx.2)
     ·refine⟨Int.le_trans kx.1 ?_,?_⟩
      ·have h2:=Int.le_ediv_iff_mul_le (a:=x.toInt) (b:=x.toInt) hp;rw[h2];have:x.toInt*2 ^ y.toInt.toNat<=x.toInt*1:=Int.mul_le_mul_of_nonpos_left (by omega) (by omega);omega
      ·have:x.toInt/2 ^ y.toInt.toNat<0:=Int.ediv_neg_of_neg_of_pos (by omega) hp;have:0<=k.max:=by cases k <;> simp[IntKind.max,IntKind.bits,IntKind.signed]
       omega
    refine⟨_,.d (.int hin),fun w2=>?_⟩;simp only[eqGuard_at_int,Sem.run_bind,Sem.run_pure,Result.andThen_ok,binOp_shr,shift_shr k _ _ _ h0 h1]
   all_goals
    obtain⟨_,rfl,kx⟩:=hxz.al hvc.1;obtain⟨_,rfl,ky⟩:=hyz.al hvc.2;refine⟨_,.d .bool,fun w2=>rL kx ky ?_⟩;simp only[binOp_eql,binOp_neq,binOp_lss,binOp_leq,binOp_gtr,binOp_geq,Sem.run_pure];all_goals first|rfl|(congr 2;done)|(congr 2;rw[Bool.eq_iff_iff];simp)
  ·rename_i x y hk;cases op <;> simp only[aD,aH,reduceCtorEq] at h <;> obtain⟨rfl,rfl⟩:=h
   all_goals
    obtain⟨_,rfl⟩:=hx.fz.ci hvc.1;obtain⟨_,rfl⟩:=hy.fz.ci hvc.2;refine⟨_,.d .bool,fun w2=>?_⟩;simp only[eqGuard_at_bool,Sem.run_bind,Sem.run_pure,Result.andThen_ok,run_eql_bool w2 t _ _ (ht.gt hk),run_neq_bool w2 t _ _ (ht.gt hk)]
  ·rename_i e x hk;have hu:=ht.aF hk;have hyz:=hy.fz;cases hyz;have key : ∀ (vcx:x.gA/\(x=.nil∨x.elems≠[])),∃ a n cap,vx=.slice a n cap/\a.isNone=x.isNil:=by
    rintro⟨h1,h2⟩;have hxz:=hx.fz;cases hxz <;> simp[D.gA] at h1
    ·exact⟨_,_,_,rfl,rfl⟩
    ·simp[D.elems] at h2
    ·exact⟨_,_,_,rfl,rfl⟩
   cases op <;> simp only[aD,aH,reduceCtorEq] at h <;> obtain⟨rfl,rfl⟩:=h
   all_goals
    obtain⟨a,n,cap,rfl,hn⟩:=key hvc;refine⟨_,.d .bool,fun w2=>?_⟩;rw[<-hn];simp only[eqGuard_at_slice,Sem.run_bind,Sem.run_pure,Result.andThen_ok,cn hu,db hu]
  ·rename_i e i g k lo n hk;have hu:=ht.aF hk;have hyz:=hy.fz;cases hyz;split at h
   ·rename_i g' k' dp l hroot;cases hx with
    | sl hlt hg hrel ho=>
     have key:(g=g'/\k=k'/\0<n)->∃ a n cap,vx=.slice (some a) n cap:=by
      rintro⟨rfl,rfl,hn0⟩;obtain⟨hsl,hle⟩:=hrel dp l hroot;rcases hsl with⟨_,_,rfl,_⟩|⟨b,rest,cap,arr,ty,a,hfp,rfl,hn,hc,hlim,hb,hfit⟩
      ·omega
      ·obtain⟨rfl,_⟩:=hfit (.inl (by omega));exact⟨_,_,_,rfl⟩
     cases op <;> simp only[aD,aH,reduceCtorEq] at h <;> obtain⟨rfl,rfl⟩:=h
     all_goals
      obtain⟨a,n,cap,rfl⟩:=key hvc;refine⟨_,.d .bool,fun w2=>?_⟩;simp only[eqGuard_at_slice,Sem.run_bind,Sem.run_pure,Result.andThen_ok,cn hu,db hu];rfl
   ·simp at h
  ·rename_i fs cs ds hk;obtain⟨fields,hu,hfs⟩:=ht.cl hk;have hxz:=hx.fz;have hyz:=hy.fz;have hq:=ht.eqs;have key:(cs.length=fs.length/\ds.length=fs.length/\pp T 0 fs cs ds)->∃ vs us,vx=.agg vs/\vy=.agg us/\P.stoodInHeld t=false/\P.eqGuardType P.depth t=false/\
     ∀ w2,(Op.equalIn 10000 t (.agg vs) (.agg us)).run P w2=.ok (tU T fs cs ds) w2:=by
    rintro⟨q1,q2,q3⟩;cases hxz with
    | agg hl ho hf=>
     rename_i vs;cases hyz with
     | agg hl2 ho2 hf2=>
      rename_i us;rw[hfs] at q3;have r1:=Jh hT q3;simp only[yy,hu,r1,Bool.not_true,Bool.false_or,gN,Bool.not_eq_true',lj,decide_eq_true_eq] at hq;obtain⟨s1,s2,s3⟩:=hq;have hfo:P.fieldsOf t=fields:=by simp only[Program.fieldsOf,hu]
      have hlen:fields.toList.length=fs.length:=by rw[hfs];simp
      refine⟨vs,us,rfl,rfl,s1,s2,fun w2=>?_⟩;rw[run_equalIn_agg w2 9999 t vs us (by rw[hfo];exact hu) s1,hfo];rw[hfs];exact Jj hT hl hl2 hf hf2 9998 w2 fields.toList 0 q3 s3 (by omega) (by omega)
   cases op <;> simp only[aD,aH,reduceCtorEq] at h <;> obtain⟨rfl,rfl⟩:=h
   all_goals
    obtain⟨vs,us,rfl,rfl,s1,s2,hrun⟩:=key hvc;refine⟨_,.d .bool,fun w2=>?_⟩;simp only[Sem.run_bind,run_eqGuard_agg w2 _ t xo yo vs us s2,Result.andThen_ok,run_eql_struct,run_neq_struct,hrun]
  ·rename_i a b hk;have hxz:=hx.fz;have hyz:=hy.fz;cases hxz;cases hyz;cases op <;> simp only[aD,aH,reduceCtorEq] at h <;> obtain⟨rfl,rfl⟩:=h
   all_goals
    refine⟨_,.d .bool,fun w2=>?_⟩;simp[eqGuard,binOp,Op.stringOp]
  ·simp at h
 ·simp at h
end Go.VL
namespace Go.VL
set_option linter.defProp false
variable {ti:TI}{x y z:I}{vx v u:Value}{vc:Prop}{t n ty e kt:Nat}{α β:Type}{k:IntKind}
variable {P:Program}{S:Nat->Prop}{φ : List (List Nat)}{H:List R}{w:World}{T:Nat->Option TI}
def setCells:List I->Nat->List I->List I
 | cs,_,[]=>cs
 | cs,off,x::r=>setCells (cs.set off x) (off+1) r
def g9 (ti:TI) (x:I):Option (Prop×List I):=
 match ti.ty.agg,x with
 | true,.d xd=>some (xd.cells.length=ti.size/\xd.one=false/\(∀ n,xd≠.tup n),(bT xd 0 ti.size).map .d)
 | true,.agg cs=>some (cs.length=ti.size,cs)
 | false,.d xd=>some (ti.size=1/\xd.one=true,[.d xd])
 | false,.sl i g k lo n=>some (ti.size=1,[.sl i g k lo n])
 | false,.ptr i off=>some (ti.size=1,[.ptr i off])
 | false,.map i=>some (ti.size=1,[.map i])
 | false,.fn f caps=>some (ti.size=1,[.fn f caps])
 | _,_=>none
def uk (hx:V S φ H w x vx) {cs:List I}(h:g9 ti x=some (vc,cs)) (hvc:vc) :
  cs.length=ti.size/\vx.cells.size=ti.size/\∀ j,j<ti.size->(vx.cells.getD j undef).oneCell'=true/\V S φ H w (cs.getD j .junk) (vx.cells.getD j undef):=by
 unfold g9 at h;split at h
 ·rename_i xd hagg;simp only[aD,aH] at h;obtain⟨rfl,rfl⟩:=h;obtain⟨hl,hone,htup⟩:=hvc;have hz:=hx.fz;cases hz <;> simp[D.one] at hone
  ·rename_i cs vs hl' h1 hj;simp only[D.cells] at hl;refine⟨by simp[iw],by simp[Value.cells,<-hl',hl],fun j hj'=>?_⟩;have hjl:j<(bT (D.agg cs) 0 ti.size).length:=by rw[iw];exact hj'
   have e:((bT (D.agg cs) 0 ti.size).map I.d).getD j .junk=.d (cs.getD j .nil):=by
    have:=mN (D.agg cs) 0 ti.size j hj';simp only[List.getD,List.getElem?_map,List.getElem?_eq_getElem hjl,k6,i9] at this ⊢;rw[this];simp[D.cellAt]
   rw[e];have hz:=hj j (by omega);exact⟨hz.one (h1 _ (av (by omega))),.d hz⟩
  ·exact absurd rfl (htup _)
 ·rename_i cs' hagg;simp only[aD,aH] at h;obtain⟨rfl,rfl⟩:=h;cases hx with
  | @agg _ vs hl h1 hj=>exact⟨hvc,by simp[Value.cells,<-hl,hvc],fun j hj'=>⟨h1 j (by omega),hj j (by omega)⟩⟩
 all_goals simp only[aD,aH,reduceCtorEq] at h
 all_goals obtain⟨rfl,rfl⟩:=h
 ·rename_i xd hagg;obtain⟨h1,h2⟩:=hvc;have ho:=hx.fz.one h2;have hc:vx.cells = #[vx]:=by cases vx <;> first|rfl|simp[Value.oneCell'] at ho
  refine⟨by simp[h1],by simp[hc,h1],fun j hj=>?_⟩;obtain rfl:j=0:=by omega
  rw[hc];exact⟨ho,hx⟩
 all_goals
  have ho:vx.oneCell'=true:=by cases hx <;> first|assumption|rfl
  have hc:vx.cells = #[vx]:=by cases vx <;> first|rfl|simp[Value.oneCell'] at ho
  refine⟨by simp[hvc],by simp[hc,hvc],fun j hj=>?_⟩;obtain rfl:j=0:=by omega
  rw[hc];exact⟨ho,hx⟩
def ll (T:Nat->Option TI) (fs:List (Nat×Nat)):List I->List (Nat×I)->Option (Prop×List I)
 | cs,[]=>some (True,cs)
 | cs,(i,x)::rest=>
  match fs[i]? with
  | some (off,ft)=>
   match T ft with
   | some fi=>
    match g9 fi x with
    | some (vc,xs)=>
     match ll T fs (setCells cs off xs) rest with
     | some (vc',r)=>some (vc/\off+fi.size<=cs.length/\vc',r)
     | none=>none
    | none=>none
   | none=>none
  | none=>none
 
def k7 (fr:Fr):List (Nat×Operand)->List (Nat×I)
 | []=>[]
 | (i,x)::r=>(i,ap fr x)::k7 fr r
def oV (fr:Fr):List (Nat×Operand)->Prop
 | []=>True
 | (i,x)::r=>aE fr x/\oV fr r
def mS (n e sz:Nat):List (Nat×Nat):=(List.range n).map fun i=>(i*sz,e)
def JY (n e sz i:Nat):(mS n e sz)[i]?=if i<n then some (i*sz,e) else none:=by
 simp only[mS,List.getElem?_map];by_cases h:i<n
 ·simp[h]
 ·simp[h]
def xw (T:Nat->Option TI) (t:Nat) (parts:List (Nat×I)):Option (Prop×I):=
 match T t with
 | some ti=>
  match ti.ty with
  | .array n e=>
   match T e with
   | some ei=>
    match ll T (mS n e ei.size) ((bT ti.zero 0 ti.size).map .d) parts with
    | some (vc,cs)=>some (vc/\jF cs,bG cs)
    | none=>none
   | none=>none
  | .struct fs=>
   match ll T fs ((bT ti.zero 0 ti.size).map .d) parts with
   | some (vc,cs)=>some (vc/\jF cs/\fs.all (fun f=>(T f.2).isSome)=true,bG cs)
   | none=>none
  | _=>none
 | none=>none
def BM (cs:List I) (off:Nat) (xs:List I):(setCells cs off xs).length=cs.length:=by
 induction xs generalizing cs off with
 | nil=>rfl
 | cons x r ih=>simp[setCells,ih]
def H8 (cs:List I) (off:Nat) (xs:List I) (h:off+xs.length<=cs.length) (j:Nat) :
  (setCells cs off xs).getD j .junk=if off<=j/\j<off+xs.length then xs.getD (j-off) .junk else cs.getD j .junk:=by
 induction xs generalizing cs off with
 | nil=>simp[setCells];omega
 | cons x r ih=>
  simp only[cU] at h ⊢;simp only[setCells];rw[ih _ _ (by simp;omega)];by_cases h1:off+1<=j/\j<off+1+r.length
  ·rw[if_pos h1,if_pos (by omega)];rw[show j-off=(j-(off+1))+1 by omega];simp[List.getD]
  ·rw[if_neg h1];by_cases h2:j=off
   ·subst h2;rw[if_pos (by omega)];simp[List.getD,show j<cs.length by omega]
   ·rw[if_neg (by omega)];simp[List.getD,List.getElem?_set,Ne.symm h2]
def o7 (vs:List Value) (off:Nat) (arr:Array Value) (n0:Nat) (h:off+n0+vs.length<=arr.size) :
  ((vs.zipIdx n0).foldl (fun cs (cj:Value×Nat)=>cs.setIfInBounds (off+cj.2) cj.1) arr).size=arr.size/\
  ∀ j,((vs.zipIdx n0).foldl (fun cs (cj:Value×Nat)=>cs.setIfInBounds (off+cj.2) cj.1) arr).getD j undef=if off+n0<=j/\j<off+n0+vs.length then vs.getD (j-(off+n0)) undef else arr.getD j undef:=by
 induction vs generalizing arr n0 with
 | nil=>simp;omega
 | cons v r ih=>
  simp only[cU] at h ⊢;simp only[List.zipIdx_cons,eO];obtain⟨h1,h2⟩:=ih (arr.setIfInBounds (off+n0) v) (n0+1) (by simp;omega);refine⟨by rw[h1];simp,fun j=>?_⟩;rw[h2];by_cases h3:off+(n0+1)<=j/\j<off+(n0+1)+r.length
  ·rw[if_pos h3,if_pos (by omega),show j-(off+n0)=(j-(off+(n0+1)))+1 by omega];simp[List.getD]
  ·rw[if_neg h3];by_cases h4:j=off+n0
   ·subst h4;rw[if_pos (by omega)];simp[List.getD,Array.getD,show off+n0<arr.size by omega]
   ·rw[if_neg (by omega)];simp[Array.getD_eq_getD_getElem?,Array.getElem?_setIfInBounds,Ne.symm h4]
def B7 (vs:Array Value) (off:Nat) (arr:Array Value) (h:off+vs.size<=arr.size) :
  (vs.zipIdx.foldl (fun cs (c,j)=>cs.setIfInBounds (off+j) c) arr).size=arr.size/\
  ∀ j,(vs.zipIdx.foldl (fun cs (c,j)=>cs.setIfInBounds (off+j) c) arr).getD j undef=if off<=j/\j<off+vs.size then vs.getD (j-off) undef else arr.getD j undef:=by
 have:=o7 vs.toList off arr 0 (by simpa using h);simp only[ms,Array.length_toList] at this;rw[<-Array.foldl_toList,Array.toList_zipIdx];simpa [List.getD,Array.getD_eq_getD_getElem?] using this
def ep (S:Nat->Prop) (φ : List (List Nat)) (H:List R) (w:World) (cs:List I) (arr:Array Value):Prop:=
 arr.size=cs.length/\∀ j,j<cs.length->(arr.getD j undef).oneCell'=true/\V S φ H w (cs.getD j .junk) (arr.getD j undef)
def CV (hT:bO P T) {fs:List (Nat×Nat)}(place:Nat->Option (Nat×Nat)) (hpl : ∀ i off ft fi,fs[i]?=some (off,ft)->T ft=some fi->place i=some (off,fi.size)) :
  ∀ (parts:List (Nat×I)) (vps:List (Nat×Value)),parts.length=vps.length->(∀ (j i:Nat) (x:I),parts[j]?=some (i,x)->∃ v:Value,vps[j]?=some (i,v)/\V S φ H w x v)->
  ∀ (cs:List I) (arr:Array Value),ep S φ H w cs arr->∀ {vc:Prop}{r:List I},ll T fs cs parts=some (vc,r)->vc->∃ arr',Instr.fill place arr vps=some arr'/\ep S φ H w r arr'
 | [],[],_,_,cs,arr,hok,vc,r,h,hvc=>by
  simp[ll] at h;obtain⟨_,rfl⟩:=h;exact⟨arr,rfl,hok⟩
 | [],_::_,hl,_,_,_,_,_,_,_,_=>by simp at hl
 | _::_,[],hl,_,_,_,_,_,_,_,_=>by simp at hl
 | (i,x)::rest,(i',v)::vrest,hl,hv,cs,arr,hok,vc,r,h,hvc=>by
  simp only[ll] at h;split at h
  ·rename_i off ft hfs;split at h
   ·rename_i fi hfi;split at h
    ·rename_i vc1 xs hc;split at h
     ·rename_i vc2 r' hr;simp only[aD,aH] at h;obtain⟨rfl,rfl⟩:=h;obtain⟨hvc1,hfit,hvc2⟩:=hvc;obtain⟨v0,he,hx⟩:=hv 0 i x rfl;simp only[List.getElem?_cons_zero,aD,aH] at he;obtain⟨rfl,rfl⟩:=he;obtain⟨h1,h2,h3⟩:=uk hx hc hvc1;obtain⟨hsz,hcell⟩:=hok;obtain⟨f1,f2⟩:=B7 v.cells off arr (by omega);have:=CV hT place hpl rest vrest (by simpa using hl) (fun j i x hj=>hv (j+1) i x (by simpa using hj)) (setCells cs off xs)
       (v.cells.zipIdx.foldl (fun cs (c,j)=>cs.setIfInBounds (off+j) c) arr) ⟨by rw[f1,BM];exact hsz,?_⟩ hr hvc2
      ·obtain⟨arr',ha,hok'⟩:=this;refine⟨arr',?_,hok'⟩;simp only[Instr.fill,hpl i' off ft fi hfs hfi];rw[if_neg (by simp;omega)];exact ha
      ·intro j hj;rw[BM] at hj;rw[f2,H8 cs off xs (by omega)];by_cases hin:off<=j/\j<off+xs.length
       ·rw[if_pos hin,if_pos (by omega)];exact h3 _ (by omega)
       ·rw[if_neg hin,if_neg (by omega)];exact hcell j hj
     ·simp at h
    ·simp at h
   ·simp at h
  ·simp at h
def C9 (ht:aZ P t ti):ep S φ H w ((bT ti.zero 0 ti.size).map .d) (bc ti.zero).cells:=by
 have hc:=ht.const;have hs:=ht.size;have hz:FZ S w ti.zero (bc ti.zero):=xl hc;generalize hzz:ti.zero=z at *
 cases z with
 | agg cs=>
  simp only[bc,Value.cells,D.cells] at hs ⊢;refine⟨by simp[iw,<-hs],fun j hj=>?_⟩;simp only[ie,iw] at hj;have hjl:j<(bT (D.agg cs) 0 ti.size).length:=by rw[iw];exact hj
  have e:((bT (D.agg cs) 0 ti.size).map I.d).getD j .junk=.d (cs.getD j .nil):=by
   have:=mN (D.agg cs) 0 ti.size j hj;simp only[List.getD,List.getElem?_map,List.getElem?_eq_getElem hjl,k6,i9] at this ⊢;rw[this];simp[D.cellAt]
  rw[e];cases hz with
  | agg hl h1 hj'=>
   have:=hj' j (by omega);exact⟨this.one (h1 _ (av (by omega))),.d this⟩
 | _=>
  first
   | (simp[rK,qA] at hc;done)
   | (
     simp only[D.cells,cU,fm] at hs;have ho:=hz.one rfl;have hcell : ∀ v:Value,v.oneCell'=true->v.cells = #[v]:=fun v hv=>by cases v <;> first|rfl|simp[Value.oneCell'] at hv
     rw[hcell _ ho,<-hs];refine⟨by simp[bT],fun j hj=>?_⟩;simp[bT] at hj;subst hj;exact⟨ho,.d hz⟩)
def ep.agg {cs:List I}{arr:Array Value}(h:ep S φ H w cs arr) (h1:jF cs):V S φ H w (bG cs) (.agg arr):=by
 have:=V.bG (S:=S) (φ:=φ) (H:=H) (w:=w) (cs:=cs) (n:=cs.length) (f:=fun j=>arr.getD j undef) rfl h1 (fun j hj=>(h.2 j hj).1) (fun j hj=>(h.2 j hj).2);have e:((List.range cs.length).map fun j=>arr.getD j undef).toArray=arr:=by
  apply Array.ext
  ·simp[h.1]
  ·intro i h1 h2;simp[Array.getD,h2]
 rwa [e] at this
def Mn (l:List α) (f : α->Sem β) (g : α->β) (h : ∀ x∈l,∀ w:World,(f x).run P w=.ok (g x) w) (w:World):(l.mapM f).run P w=.ok (l.map g) w:=by
 induction l with
 | nil=>simp
 | cons x r ih=>
  simp only[List.mapM_cons,Sem.run_bind,h x (by simp),Result.andThen_ok,ih (fun y hy=>h y (fP _ hy)),Sem.run_pure,jC]
def Le (l:Array α) (f : α->Sem β) (g : α->β) (h : ∀ x∈l,∀ w:World,(f x).run P w=.ok (g x) w) (w:World):(l.mapM f).run P w=.ok (l.map g) w:=by
 rw[Array.mapM_eq_mapM_toList,Sem.run_map,Mn l.toList f g (fun x hx=>h x (by simpa using hx))];simp only[Result.andThen_ok];rw[<-Array.toList_map]
def K1 (hT:bO P T) {parts:List (Nat×I)}{vps:List (Nat×Value)}(hl:parts.length=vps.length)
  (hv : ∀ (j i:Nat) (x:I),parts[j]?=some (i,x)->∃ v:Value,vps[j]?=some (i,v)/\V S φ H w x v) (h:xw T t parts=some (vc,y)) (hvc:vc) :
  ∃ v,V S φ H w y v/\∀ w2,(Instr.build t vps.toArray).run P w2=.ok v w2:=by
 unfold xw at h;split at h
 ·rename_i ti hti;have ht:=hT _ _ hti;split at h
  ·rename_i n e hy;split at h
   ·rename_i ei hei;split at h
    ·rename_i vc' cs hf;simp only[aD,aH] at h;obtain⟨rfl,rfl⟩:=h;obtain⟨hvc1,hone⟩:=hvc;obtain⟨arr,hfill,hok⟩:=CV hT (fun i=>some (i*ei.size,ei.size)) (by
      intro i off ft fi h1 h2;rw[JY] at h1;split at h1
      ·simp only[aD,aH] at h1;obtain⟨rfl,rfl⟩:=h1;rw[hei] at h2;obtain rfl:=Option.some.inj h2;rfl
      ·simp at h1) parts vps hl hv _ _ (C9 ht) hf hvc1
     refine⟨.agg arr,hok.agg hone,fun w2=>?_⟩;simp only[Instr.build,Sem.run_bind,ht.df,Result.andThen_ok,run_underlying (ht.cF hy),(hT _ _ hei).run_sizeOf,List.toList_toArray,hfill,Sem.run_pure]
    ·simp at h
   ·simp at h
  ·rename_i fs hy;obtain⟨fields,hu,rfl⟩:=ht.cl hy;split at h
   ·rename_i vc' cs hf;simp only[aD,aH] at h;obtain⟨rfl,rfl⟩:=h;obtain⟨hvc1,hone,hall⟩:=hvc;have hm : ∀ w2:World,(fields.mapM fun f=>do pure (f.offset,<-sizeOf f.type):Sem (Array (Nat×Nat))).run P w2=.ok (fields.map fun f=>(f.offset,((T f.type).map TI.size).getD 0)) w2:=by
     intro w2;refine Le _ _ _ (fun f hf=>?_) w2;intro w2;simp only[lj,List.mem_map,Option.isSome_iff_exists] at hall;obtain⟨fi,hfi⟩:=hall (f.offset,f.type) ⟨f,by simpa using hf,rfl⟩;simp[(hT _ _ hfi).run_sizeOf,hfi]
    obtain⟨arr,hfill,hok⟩:=CV hT (fun i=>(fields.map fun f=>(f.offset,((T f.type).map TI.size).getD 0))[i]?) (by
     intro i off ft fi h1 h2;simp only[List.getElem?_map,Option.map_eq_some_iff] at h1;obtain⟨fd,hfd,he⟩:=h1;simp only[aH] at he;obtain⟨rfl,rfl⟩:=he;have hfd':fields[i]?=some fd:=by simpa using hfd
     simp[hfd',h2]) parts vps hl hv _ _ (C9 ht) hf hvc1
    refine⟨.agg arr,hok.agg hone,fun w2=>?_⟩;simp only[Instr.build,Sem.run_bind,ht.df,Result.andThen_ok,run_underlying hu,hm,List.toList_toArray,hfill,Sem.run_pure]
   ·simp at h
  ·simp at h
 ·simp at h
def dc (T:Nat->Option TI) (H:List R) (t:Nat) (x:I):Option (Prop×I):=
 match T t with
 | some ti=>
  match ti.ty with
  | .slice _=>
   match x with
   | .d xd=>some (xd.gA,.d (.int .i64 (xd.elems.length:Nat)))
   | .sl i g k lo n=>
    match H[i]? with
    | some (.row g' k' _ _)=>some (g=g'/\k=k',.d (.int .i64 (n:Nat)))
    | _=>none
   | _=>none
  | .array n _=>some (cp .i64 n,.d (.int .i64 (n:Nat)))
  | _=>none
 | none=>none
def yA (h:n<=fj):cp .i64 (n:Int):=by
 unfold fj at h;refine⟨?_,?_⟩ <;> simp[IntKind.min,IntKind.max,IntKind.bits,IntKind.signed] <;> omega
def LM (hT:bO P T) (hx:V S φ H w x vx) (h:dc T H t x=some (vc,y)) (hvc:vc) :
  ∃ v,V S φ H w y v/\∀ w2,(Builtin.len_ #[t] ty #[vx]).run P w2=.ok v w2:=by
 unfold dc at h;split at h
 ·rename_i ti hti;have ht:=hT _ _ hti;split at h
  ·rename_i e hy;have hu:=ht.aF hy;split at h
   ·simp only[aD,aH] at h;obtain⟨rfl,rfl⟩:=h;obtain⟨a,cap,rfl,hlim⟩:=hx.fz.oL hvc;exact⟨_,.d (.int (yA hlim)),fun w2=>by simp[Builtin.len_,run_underlying hu,goInt]⟩
   ·rename_i i g k lo n;split at h
    ·rename_i g' k' dp l hroot;simp only[aD,aH] at h;obtain⟨rfl,rfl⟩:=h;obtain⟨rfl,rfl⟩:=hvc;cases hx with
     | sl hlt hg hrel ho=>
      obtain⟨hsl,hle⟩:=hrel dp l hroot;rcases hsl with⟨hfp,rfl,rfl,rfl⟩|⟨b,rest,cap,arr,ty,a,hfp,rfl,hn,hc,hlim,hb,hfit⟩
      ·exact⟨_,.d (.int (yA (kr _))),fun w2=>by simp[Builtin.len_,run_underlying hu,goInt]⟩
      ·exact⟨_,.d (.int (yA hlim)),fun w2=>by simp[Builtin.len_,run_underlying hu,goInt]⟩
    ·simp at h
   ·simp at h
  ·rename_i n e hy;have hu:=ht.cF hy;simp only[aD,aH] at h;obtain⟨rfl,rfl⟩:=h;exact⟨_,.d (.int hvc),fun w2=>by simp[Builtin.len_,run_underlying hu,goInt]⟩
  ·simp at h
 ·simp at h
def gp (T:Nat->Option TI) (t:Nat) (x:I):Option (Prop×I):=
 match T t with
 | some ti=>
  match ti.ty,x with
  | .slice _,.d .nil=>some (True,.d (.int .i64 0))
  | _,_=>none
 | none=>none
def M7 (hT:bO P T) (hx:V S φ H w x vx) (h:gp T t x=some (vc,y)) (hvc:vc) :
  ∃ v,V S φ H w y v/\∀ w2,(Builtin.cap_ #[t] ty #[vx]).run P w2=.ok v w2:=by
 unfold gp at h;split at h
 ·rename_i ti hti;have ht:=hT _ _ hti;split at h
  ·rename_i e hy;have hu:=ht.aF hy;simp only[aD,aH] at h;obtain⟨rfl,rfl⟩:=h;have hxz:=hx.fz;cases hxz;exact⟨_,.d (.int (yA (n:=0) (kr _))),fun w2=>by simp[Builtin.cap_,run_underlying hu,goInt]⟩
  ·simp at h
 ·simp at h
def qI:D->List Int
 | .lst _ l=>l.map D.toInt
 | _=>[]
def vO:D->Prop
 | .nil=>True
 | .lst k l=>k=1/\l=(l.map D.toInt).map (D.int .u8)
 | _=>False
def pc (l:List Int):ByteArray:=l.foldl (fun r n=>r.push (UInt8.ofNat n.toNat)) ByteArray.empty
def Bn (T:Nat->Option TI) (e:Nat) (x:D):Option (Prop×I):=
 match T e with
 | some ei=>
  match ei.ty with
  | .int .u8=>some (vO x,.d (.raw (.string (pc (qI x)))))
  | _=>none
 | none=>none
def tV (k:IntKind) (n:Int):Prop:=match k with
 | .u8=>True
 | k=>cp k n
def rz (k:IntKind) (n:Int):Int:=match k with
 | .u8=>n%256
 | _=>n
def ym {n:Int}(h:tV k n):cp k (rz k n):=by
 cases k
 case u8=>simp only[rz,cp,IntKind.min,IntKind.max,IntKind.bits,IntKind.signed];simp;omega
 all_goals exact h
def rM {n:Int}(h:tV k n):k.wrap n=rz k n:=by
 cases k
 case u8=>simp[rz,IntKind.wrap,IntKind.bits,IntKind.signed]
 all_goals exact cG h
def vZ (T:Nat->Option TI) (src dst:Nat) (x:I):Option (Prop×I):=
 match T src,T dst,x with
 | some si,some di,.d xd=>
  match si.ty,di.ty with
  | .int k,.int k'=>some (xd.isInt k/\tV k' xd.toInt,.d (.int k' (rz k' xd.toInt)))
  | .slice e,.string=>Bn T e xd
  | _,_=>none
 | _,_,_=>none
def sc:Option TI->Bool
 | some ⟨.string,_,_,_⟩=>true
 | _=>false
def JF : ∀ l:List Int,flat (l.map (D.int .u8))=l.map (D.int .u8)
 | []=>rfl
 | x::r=>by
  have ih:=JF r;unfold flat at ih ⊢;rw[jC,mA,ih];rfl
def NZ {x:D}(hx:FZ S w x v) (h:vO x) {w2:World}(ha:au w w2) : ∃ a n c,v=.slice a n c/\(Conv.bytesToString v).run P w2=.ok (.string (pc (qI x))) w2:=by
 cases hx with
 | nil=>exact⟨_,_,_,rfl,by simp[Conv.bytesToString,qI,pc]⟩
 | @lst0 k a cap hk=>
  refine⟨_,_,_,rfl,?_⟩;cases a with
  | none=>simp[Conv.bytesToString,qI,pc]
  | some a=>
   have:=run_bytesToString (P:=P) w2 a 0 cap [] (by simp[loadCells,loadCellsFrom]);exact this
 | @lst k l b off cap f hk he h1 hn hlim hS hc hf=>
  refine⟨_,_,_,rfl,?_⟩;obtain⟨rfl,hl⟩:=h;generalize hns:l.map D.toInt=ns at *
  subst hl;rw[JF] at hc hf;have hfn : ∀ j,j<(ns.map (D.int .u8)).length->f j=.int .u8 (ns.getD j 0):=fun j hj=>by
   have:=hf j hj;have e:(ns.map (D.int .u8)).getD j .nil=.int .u8 (ns.getD j 0):=by
    have hj2:j<ns.length:=by simpa using hj
    simp[List.getD,hj2]
   rw[e] at this;generalize f j=y at this;cases this;rfl
  have hrun:(loadCells ⟨b,off,none⟩ (ns.map (D.int .u8)).length).run P w2=.ok (ns.map (Value.int .u8)).toArray w2:=by
   rw[run_loadCells w2 ⟨b,off,none⟩ _ (fun j=>.int .u8 (ns.getD j 0)) (fun j hj=>by
    rw[Addr.add_lit];have:=hc j hj;rw[hfn j hj] at this;exact ha.cell this)]
   congr 2;refine sq (by simp) fun j h1 h2=>?_
   have hj2:j<ns.length:=by simpa using h2
   simp[List.getD,hj2]
  have:=run_bytesToString (P:=P) w2 ⟨b,off,none⟩ _ cap ns hrun;rw[this];show _=Result.ok (Value.string (pc ((ns.map (D.int .u8)).map D.toInt))) w2
  rw[hns];rfl
 | _=>exact h.elim
def NT (hT:bO P T) {src dst:Nat}(hx:V S φ H w x vx) (h:vZ T src dst x=some (vc,y)) (hvc:vc) :
  ∃ v,V S φ H w y v/\∀ w2,(sc (T dst)=true->au w w2)->(convert src dst vx).run P w2=.ok v w2:=by
 unfold vZ at h;split at h
 ·rename_i si di xd hsi hdi;split at h
  ·rename_i k k' hk hk';simp only[aD,aH] at h;obtain⟨rfl,rfl⟩:=h;obtain⟨_,rfl,_⟩:=hx.fz.al hvc.1;refine⟨_,.d (.int (ym hvc.2)),fun w2 _=>?_⟩;simp only[convert,Sem.run_bind,run_underlying ((hT _ _ hsi).bl hk),run_underlying ((hT _ _ hdi).bl hk'),Result.andThen_ok,Conv.intToInt,Sem.run_pure,rM hvc.2]
  ·rename_i e hk hk';unfold Bn at h;split at h
   ·rename_i ei hei;split at h
    ·rename_i hek;simp only[aD,aH] at h;obtain⟨rfl,rfl⟩:=h;refine⟨_,.d (.raw rfl),fun w2 ha=>?_⟩;have hag:=ha (by rw[hdi];obtain⟨ty,sz,b,z⟩:=di;simp only at hk';subst hk';rfl);obtain⟨a,n,c,rfl,hr⟩:=NZ (P:=P) hx.fz hvc hag;rw[run_convert_bytes_string w2 src dst e a n c ((hT _ _ hsi).aF hk) ((hT _ _ hei).bl hek) ((hT _ _ hdi).jk hk')];exact hr
    ·simp at h
   ·simp at h
  ·simp at h
 ·simp at h
def wu (op:UnOp) (x:I):Option (Prop×I):=
 match op,x with
 | .not,.d xd=>some (xd.isBool,.d (.bool (!xd.toBool)))
 | .neg,.d xd=>some (xd.isInt .i64/\cp .i64 (- xd.toInt),.d (.int .i64 (- xd.toInt)))
 | _,_=>none
def No {op:UnOp}(hx:V S φ H w x vx) (h:wu op x=some (vc,y)) (hvc:vc) :
  ∃ v,V S φ H w y v/\∀ w2,(Op.unary op vx).run P w2=.ok v w2:=by
 unfold wu at h;split at h
 ·simp only[aD,aH] at h;obtain⟨rfl,rfl⟩:=h;obtain⟨_,rfl⟩:=hx.fz.ci hvc;exact⟨_,.d .bool,fun w2=>by simp[Op.unary]⟩
 ·simp only[aD,aH] at h;obtain⟨rfl,rfl⟩:=h;obtain⟨_,rfl,_⟩:=hx.fz.al hvc.1;refine⟨_,.d (.int hvc.2),fun w2=>?_⟩;simp only[Op.unary,Op.intArith,Sem.run_pure,Int.zero_sub,cG hvc.2]
 ·simp at h
def uF (b:Builtin) (x y:I):Option (Prop×I):=
 match b,x,y with
 | .min,.d x,.d y=>some (x.isInt .i64/\y.isInt .i64,.d (.int .i64 (if y.toInt<x.toInt then y.toInt else x.toInt)))
 | .max,.d x,.d y=>some (x.isInt .i64/\y.isInt .i64,.d (.int .i64 (if x.toInt<y.toInt then y.toInt else x.toInt)))
 | _,_,_=>none
def KA {b:Builtin}{vy:Value}(hx:V S φ H w x vx) (hy:V S φ H w y vy) (h:uF b x y=some (vc,z)) (hvc:vc) (ts:Array TypeId) (ty:TypeId) :
  ∃ v,V S φ H w z v/\∀ (cs:Array Bool) w2,(builtin b ts ty cs #[vx,vy]).run P w2=.ok (.value v) w2:=by
 unfold uF at h;split at h;all_goals simp only[aD,aH,reduceCtorEq] at h
 all_goals
  obtain⟨rfl,rfl⟩:=h;obtain⟨_,rfl,k1⟩:=hx.fz.al hvc.1;obtain⟨_,rfl,k2⟩:=hy.fz.al hvc.2;refine⟨_,.d (.int (by split <;> assumption)),fun cs w2=>?_⟩;simp[builtin,run_min_int2,run_max_int2]
def wv (x:I) (j:Nat):Option (Prop×I):=
 match x with
 | .tup vs=>some (j<vs.length,vs.getD j .junk)
 | .d xd=>some (xd.nK xd.hY/\j<xd.hY,.d (xd.pF j))
 | _=>none
def Lu {j:Nat}(hx:V S φ H w x vx) (h:wv x j=some (vc,z)) (hvc:vc) :
  ∃ v,V S φ H w z v/\∀ w2,(Instr.extract vx j).run P w2=.ok v w2:=by
 unfold wv at h;split at h
 ·simp only[aD,aH] at h;obtain⟨rfl,rfl⟩:=h;cases hx with
  | @tup _ vs hl hj=>
   refine⟨_,hj j hvc,fun w2=>?_⟩;simp[Instr.extract,Array.getD,show j<vs.size by omega,Array.getElem?_eq_getElem (show j<vs.size by omega)]
 ·rename_i xd;simp only[aD,aH] at h;obtain⟨rfl,rfl⟩:=h;have hz:=hx.fz;cases hz <;> simp[D.nK,D.hY] at hvc
  rename_i xs vs hl hj;refine⟨_,.d (hj j hvc),fun w2=>?_⟩;simp[Instr.extract,Array.getD,show j<vs.size by omega,Array.getElem?_eq_getElem (show j<vs.size by omega)]
 ·simp at h
def wg (c a b:I) (ca cb:Prop):Option (Prop×I):=
 match c,a,b with
 | .d c,.d a,.d b=>some (c.isBool/\(c.toBool=true->ca/\a.isBool)/\(c.toBool=false->cb/\b.isBool),.d (.bool (if c.toBool=true then a.toBool else b.toBool)))
 | _,_,_=>none
def jo (H:List R) (x:I):Option (Prop×I):=
 match x with
 | .d xd=>some (xd.cK,.d xd)
 | .ptr i off=>
  match H[i]? with
  | some (.box _)=>some (True,.ptr i off)
  | _=>none
 | .eptr i g k idx off z=>
  match H[i]? with
  | some (.row g' k' _ _)=>some (g'=g/\k'=k,.eptr i g k idx off z)
  | _=>none
 | _=>none
def Oy (hx:V S φ H w x vx) (h:jo H x=some (vc,z)) (hvc:vc):V S φ H w z vx/\∃ a,vx=.pointer (some a):=by
 unfold jo at h;split at h
 ·simp only[aD,aH] at h;obtain⟨rfl,rfl⟩:=h;obtain⟨b,off,rfl,_⟩:=hx.fz.iZ hvc;exact⟨hx,_,rfl⟩
 ·split at h
  ·rename_i cs hroot;simp only[aD,aH] at h;obtain⟨rfl,rfl⟩:=h;cases hx with
   | ptr hlt hrel ho=>
    obtain⟨b,hb,rfl⟩:=hrel cs hroot;exact⟨.ptr hlt hrel ho,_,rfl⟩
  ·simp at h
 ·split at h
  ·rename_i hroot;simp only[aD,aH] at h;obtain⟨rfl,rfl⟩:=h;obtain⟨rfl,rfl⟩:=hvc;cases hx with
   | eptr hlt hg hrel ho=>
    obtain⟨b,rest,hb,rfl⟩:=hrel _ _ hroot;exact⟨.eptr hlt hg hrel ho,_,rfl⟩
  ·simp at h
 ·simp at h
def mq:D->D->Bool
 | .int _ a,.int _ b=>decide (a=b)
 | .agg as,.agg bs=>oE as bs
 | _,_=>false
def kY (T:Nat->Option TI):Ty->Prop
 | .int _=>True
 | .struct fs=>rD T 0 fs
 | .array _ e=>qr (T e)=true
 | _=>False
def eD:Ty->D->Prop
 | .int k,x=>x.isInt k
 | .struct fs,.agg cs=>cs.length=fs.length/\br cs
 | .array n _,.agg cs=>cs.length=n/\br cs
 | _,_=>False
def jL (ty:Ty):List (D×D)->Prop
 | []=>True
 | x::r=>eD ty x.1/\jL ty r
def ne:List (D×D)->D->Nat->Option (Nat×D)
 | [],_,_=>none
 | x::r,k,i=>if mq k x.1=true then some (i,x.2) else ne r k (i+1)
def fX:List (D×D)->D->Option D
 | [],_=>none
 | x::r,k=>if mq k x.1=true then some x.2 else fX r k
def cw:List (D×D)->D->D->List (D×D)
 | [],k,v=>[(k,v)]
 | x::r,k,v=>if mq k x.1=true then(k,v)::r else x::cw r k v
def Bc {ty:Ty} : ∀ {es:List (D×D)},jL ty es↔∀ e∈es,eD ty e.1
 | []=>by simp[jL]
 | x::r=>by simp[jL,Bc (es:=r)]
def JB (k:D) : ∀ (es:List (D×D)) (i:Nat),(ne es k i).map (·.2)=fX es k
 | [],_=>rfl
 | x::r,i=>by
  simp only[ne,fX];split
  ·rfl
  ·exact JB k r (i+1)
def Cd (hT:bO P T) (h:qr (T t)=true) : ∃ ti,aZ P t ti/\ti.ty=.int .i64:=by
 cases e:T t with
 | none=>rw[e] at h;simp[qr] at h
 | some ti=>
  rw[e] at h;refine⟨ti,hT _ _ e,?_⟩;obtain⟨ty,a,b,c⟩:=ti;cases ty with
  | int k=>cases k <;> first|rfl|simp[qr] at h
  | _=>simp[qr] at h
def Pu (ht:aZ P e ti) (hty:ti.ty=.int .i64) (hsz:ti.size=1) (hu:P.underlying t=some (.array n e)) {vs us:Array Value}{cs ds:List D}(hv:cs.length=vs.size) (hud:ds.length=us.size)
  (hn:cs.length=n) (hn2:ds.length=n) (fv : ∀ S w,∀ j,j<cs.length->FZ S w (cs.getD j .nil) (vs.getD j undef)) (fu : ∀ S w,∀ j,j<ds.length->FZ S w (ds.getD j .nil) (us.getD j undef))
  (ic:br cs) (id:br ds) (w2:World) (d:Nat):(Op.equalIn (d+2) t (.agg vs) (.agg us)).run P w2=.ok (oE cs ds) w2:=by
 have hag:ti.ty.agg=false:=by rw[hty];rfl
 have main : ∀ (m j:Nat),j+m=n->
   (forIn (List.range' j m) ((none,()):Option Bool×Unit) (fun i r=>(do
    let a←part e vs (i*1)
    let b←part e us (i*1)
    let q←Op.equalIn (d+1) e a b
    if(!q)=true then pure (ForInStep.done (some false,())) else pure (ForInStep.yield (none,())):Sem (ForInStep (Option Bool×Unit))))).run P w2 =
   .ok (if oE (cs.drop j) (ds.drop j)=true then(none,()) else(some false,())) w2:=by
  intro m;induction m with
  | zero=>
   intro j hj;rw[rm (by omega),rm (by omega)];simp[oE]
  | succ m ih=>
   intro j hj;have e1:cs.drop j=cs.getD j .nil::cs.drop (j+1):=by
    rw[qQ (by omega),List.getD_eq_getElem?_getD,List.getElem?_eq_getElem (by omega)];rfl
   have e2:ds.drop j=ds.getD j .nil::ds.drop (j+1):=by
    rw[qQ (by omega),List.getD_eq_getElem?_getD,List.getElem?_eq_getElem (by omega)];rfl
   obtain⟨_,ev,kx⟩:=(fv (fun _=>True) w2 j (by omega)).al (pB ic j (by omega));obtain⟨_,eu,ky⟩:=(fu (fun _=>True) w2 j (by omega)).al (pB id j (by omega));have ih:=ih (j+1) (by omega);rw[e1,e2];simp only[List.range'_succ,List.forIn_cons,jn,Sem.run_bind,pi ht hag (show j<vs.size by omega),pi ht hag (show j<us.size by omega),Result.andThen_ok,ev,eu,run_equalIn_int w2 d e .i64 .i64 _ _ (ht.bl hty)];simp only[oE];by_cases hq:(cs.getD j .nil).toInt=(ds.getD j .nil).toInt
   ·simp only[hq,beq_self_eq_true,Bool.not_true,eV,if_false,decide_true,rp,Sem.run_pure,Result.andThen_ok];simpa only[jn] using ih
   ·simp only[beq_eq_false_iff_ne.2 hq,Bool.not_false,if_true,Sem.run_pure,decide_eq_false hq,Bool.false_and,Result.andThen_ok,eV,if_false]
 have:=main n 0 (by omega);simp only[List.drop_zero] at this;rw[Op.equalIn];simp only[Sem.run_bind,run_underlying hu,Result.andThen_ok,ht.run_sizeOf,hsz];simp only[Std.Legacy.Range.forIn_eq_forIn_range',Std.Legacy.Range.size,Nat.sub_zero,Nat.add_one_sub_one,Nat.div_one];rw[this];cases oE cs ds <;> simp[Result.andThen]
def aZ.jI (ht:aZ P t ti) (h:ti.ty.agg=false):ti.size=1:=by
 have h1:=ht.size;have h2:=ht.agg;rw[h] at h2;revert h1 h2
 cases ti.zero <;> simp[D.cells] <;> omega
def vz (hT:bO P T) (ht:aZ P kt ti) (hk:kY T ti.ty) {x y:D}(hx:eD ti.ty x) (hy:eD ti.ty y) (fx : ∀ S w,FZ S w x v) (fy : ∀ S w,FZ S w y u) (w2:World) :
  (Op.equal kt v u).run P w2=.ok (mq x y) w2:=by
 obtain⟨ty,sz,by',z⟩:=ti;simp only at hk hx hy;have g1:=fx (fun _=>True) w2;have g2:=fy (fun _=>True) w2;cases ty with
 | int k=>
  simp only[eD] at hx hy;obtain⟨e1,rfl,_⟩:=g1.al hx;obtain⟨e2,rfl,_⟩:=g2.al hy;rw[e1,e2];have:=run_equalIn_int (P:=P) w2 9999 kt k k x.toInt y.toInt (ht.bl rfl);simp only[Op.equal,Op.maxDepth,this,mq,D.toInt];congr 1
 | struct fs=>
  simp only[kY] at hk;obtain⟨fields,hu,hfs⟩:=ht.cl rfl;have hq:=ht.eqs;cases x <;> simp only[eD] at hx
  cases y <;> simp only[eD] at hy
  rename_i cs ds;cases v with
  | agg vs=>
   cases u with
   | agg us=>
    have c1:cs.length=vs.size/\∀ S w,∀ j,j<cs.length->FZ S w (cs.getD j .nil) (vs.getD j undef):=
     ⟨by cases g1;assumption,fun S w=>by have:=fx S w;cases this;assumption⟩
    have c2:ds.length=us.size/\∀ S w,∀ j,j<ds.length->FZ S w (ds.getD j .nil) (us.getD j undef):=
     ⟨by cases g2;assumption,fun S w=>by have:=fy S w;cases this;assumption⟩
    subst hfs;obtain⟨r1,r2⟩:=JE hT hk;simp only[yy,hu,r1,Bool.not_true,Bool.false_or,gN,Bool.not_eq_true',lj,decide_eq_true_eq] at hq;obtain⟨s1,s2,s3⟩:=hq;have hfo:P.fieldsOf kt=fields:=by simp only[Program.fieldsOf,hu]
    have l1:=hx.1;have l2:=hy.1;simp only[ie] at l1 l2;simp only[Op.equal,Op.maxDepth];rw[run_equalIn_agg w2 9999 kt vs us (by rw[hfo];exact hu) s1,hfo];have:=JI (P:=P) (S:=fun _=>True) (w:=w2) c1.1 c2.1 (c1.2 _ _) (c2.2 _ _) hx.2 hy.2 9998 w2 fields.toList 0 r1 s3 r2 (by omega) (by omega);simpa [mq] using this
   | _=>cases g2
  | _=>cases g1
 | array n e=>
  simp only[kY] at hk;obtain⟨ei,he,hei⟩:=Cd hT hk;have hu:=ht.cF (n:=n) (e:=e) rfl;cases x <;> simp only[eD] at hx
  cases y <;> simp only[eD] at hy
  rename_i cs ds;cases v with
  | agg vs=>
   cases u with
   | agg us=>
    have c1:cs.length=vs.size/\∀ S w,∀ j,j<cs.length->FZ S w (cs.getD j .nil) (vs.getD j undef):=
     ⟨by cases g1;assumption,fun S w=>by have:=fx S w;cases this;assumption⟩
    have c2:ds.length=us.size/\∀ S w,∀ j,j<ds.length->FZ S w (ds.getD j .nil) (us.getD j undef):=
     ⟨by cases g2;assumption,fun S w=>by have:=fy S w;cases this;assumption⟩
    exact Pu he hei (he.jI (by rw[hei];rfl)) hu c1.1 c2.1 hx.1 hy.1 c1.2 c2.2 hx.2 hy.2 w2 9998
   | _=>cases g2
  | _=>cases g1
 | _=>simp only[kY] at hk
def H7 (hT:bO P T) (ht:aZ P kt ti) (hk:kY T ti.ty) {x:D}(hx:eD ti.ty x) (fx : ∀ S w,FZ S w x v) (em:Bool) (w2:World):(Instr.checkKey em 10000 kt v).run P w2=.ok () w2:=by
 obtain⟨ty,sz,by',z⟩:=ti;simp only at hk hx;have g1:=fx (fun _=>True) w2;have one : ∀ (t:Nat) (n:Int) (hu:P.underlying t=some (.int .i64)),(Instr.checkKey em 9999 t (.int .i64 n)).run P w2=.ok () w2:=by
  intro t n hu;rw[Instr.checkKey];simp[run_underlying hu,Result.andThen]
 cases ty with
 | int k=>
  simp only[eD] at hx;obtain⟨e1,rfl,_⟩:=g1.al hx;rw[Instr.checkKey];simp[run_underlying (ht.bl rfl),Result.andThen]
 | struct fs=>
  simp only[kY] at hk;obtain⟨fields,hu,hfs⟩:=ht.cl rfl;cases x <;> simp only[eD] at hx
  rename_i cs;cases v with
  | agg vs=>
   have c1:cs.length=vs.size/\∀ j,j<cs.length->FZ (fun _=>True) w2 (cs.getD j .nil) (vs.getD j undef):=by cases g1;exact⟨by assumption,by assumption⟩
   subst hfs;rw[Instr.checkKey];simp only[Sem.run_bind,run_underlying hu,Result.andThen_ok];rw[<-Array.forIn_toList];have hlen:=hx.1;simp only[ie] at hlen;have main : ∀ (l:List Field) (j:Nat),rD T j (l.map fun f=>(f.offset,f.type))->j+l.length=cs.length->
     (forIn l PUnit.unit fun f (_:PUnit)=>(do
                            if f.name ≠ "_" then Instr.checkKey em 9999 f.type (← part f.type vs f.offset) else pure PUnit.unit
                            pure (ForInStep.yield PUnit.unit):Sem (ForInStep PUnit))).run P w2=.ok PUnit.unit w2:=by
    intro l;induction l with
    | nil=>intro j _ _;simp
    | cons f r ih=>
     intro j ha hj;simp only[jC,rD] at ha;simp only[cU] at hj;obtain⟨ho,h2,h3⟩:=ha;obtain⟨fi,hf,hfi⟩:=Cd hT h2;subst ho;obtain⟨_,ev,_⟩:=(c1.2 f.offset (by omega)).al (pB hx.2 _ (by omega));have ih:=ih _ h3 (by omega);have hp:=pi hf (by rw[hfi];rfl) (show f.offset<vs.size by omega) w2;rw[ev] at hp;simp only[List.forIn_cons,Sem.run_bind];by_cases hn : f.name = "_"
     ·simp only[hn,ne_eq,not_true_eq_false,if_false,Sem.run_pure,Result.andThen_ok];exact ih
     ·simp only[hn,ne_eq,not_false_eq_true,if_true,Sem.run_bind,hp,Result.andThen_ok,one f.type _ (hf.bl hfi),Sem.run_pure];exact ih
   have:=main fields.toList 0 hk (by omega);simp[Result.andThen] at this ⊢;rw[this]
  | _=>cases g1
 | array n e=>
  simp only[kY] at hk;obtain⟨ei,he,hei⟩:=Cd hT hk;have hu:=ht.cF (n:=n) (e:=e) rfl;cases x <;> simp only[eD] at hx
  rename_i cs;cases v with
  | agg vs=>
   have c1:cs.length=vs.size/\∀ j,j<cs.length->FZ (fun _=>True) w2 (cs.getD j .nil) (vs.getD j undef):=by cases g1;exact⟨by assumption,by assumption⟩
   rw[Instr.checkKey];simp only[Sem.run_bind,run_underlying hu,Result.andThen_ok];simp only[Std.Legacy.Range.forIn_eq_forIn_range',Std.Legacy.Range.size,Nat.sub_zero,Nat.add_one_sub_one,Nat.div_one];have hag:ei.ty.agg=false:=by rw[hei];rfl
   have main : ∀ (m j:Nat),j+m=n->
     (forIn (List.range' j m) PUnit.unit fun i (_:PUnit)=>(do
                                    Instr.checkKey em 9999 e (←part e vs (i*(←sizeOf e)))
                                    pure (ForInStep.yield PUnit.unit):Sem (ForInStep PUnit))).run P w2=.ok PUnit.unit w2:=by
    intro m;induction m with
    | zero=>intro j _;simp
    | succ m ih=>
     intro j hj;have hl:=hx.1;obtain⟨_,ev,_⟩:=(c1.2 j (by omega)).al (pB hx.2 _ (by omega));have hp:=pi he hag (show j<vs.size by omega) w2;rw[ev] at hp;simp only[List.range'_succ,List.forIn_cons,Sem.run_bind,he.run_sizeOf,he.jI hag,jn,hp,Result.andThen_ok,one e _ (he.bl hei),Sem.run_pure];simpa only[Sem.run_bind,he.run_sizeOf,he.jI hag,jn] using ih (j+1) (by omega)
   have:=main n 0 (by omega);simp[Result.andThen] at this ⊢;rw[this]
  | _=>cases g1
 | _=>simp only[kY] at hk
def Iw (hT:bO P T) (ht:aZ P kt ti) (hk:kY T ti.ty) {x:D}(hx:eD ti.ty x) (fx : ∀ S w,FZ S w x v) {es:List (D×D)}{l:List MapEntry}(hr:qg es l) (ha:jL ti.ty es) :
  ∃ r,(∀ w2,(Instr.findKey kt v l).run P w2=.ok r w2)/\match ne es x 0 with|none=>r=none|some (i,d)=>∃ u,r=some (i,u)/\∀ S w,FZ S w d u:=by
 have ask : ∀ (es:List (D×D)) (l:List MapEntry) (i:Nat),qg es l->jL ti.ty es->
   ∃ r,(∀ w2,(Instr.findAsking kt v l i).run P w2=.ok r w2)/\match ne es x i with|none=>r=none|some (i,d)=>∃ u,r=some (i,u)/\∀ S w,FZ S w d u:=by
  intro es;induction es with
  | nil=>
   intro l i hr _;cases l with
   | nil=>exact⟨none,fun w2=>by simp[Instr.findAsking],rfl⟩
   | cons e l=>exact hr.elim
  | cons y es ih=>
   intro l i hr ha;cases l with
   | nil=>exact hr.elim
   | cons e l=>
    obtain⟨⟨h1,h2⟩,hr⟩:=hr;have hq:=vz hT ht hk hx ha.1 fx h1;obtain⟨r,i1,i2⟩:=ih l (i+1) hr ha.2;simp only[Instr.findAsking,Sem.run_bind,hq,Result.andThen_ok,ne];by_cases hb:mq x y.1=true
    ·simp only[hb,if_true];exact⟨_,fun w2=>by simp,_,rfl,h2⟩
    ·simp only[hb,if_false,eV];exact⟨r,i1,i2⟩
 have hi:(∃ k,ti.ty=.int k)∨∃ d,P.underlying kt=some d/\∀ w u,Instr.sameNow d w u=none:=by
  obtain⟨ty,sz,by',z⟩:=ti;cases ty with
  | int k=>exact .inl ⟨k,rfl⟩
  | struct fs=>
   obtain⟨fields,hu,_⟩:=ht.cl rfl;exact .inr ⟨_,hu,fun _ _=>rfl⟩
  | array n e=>exact .inr ⟨_,ht.cF rfl,fun _ _=>rfl⟩
  | _=>simp only[kY] at hk
 rcases hi with⟨k,hk'⟩|⟨d,hu,hd⟩
 ·have hu:=ht.bl hk';rw[hk'] at hx;have now : ∀ (es:List (D×D)) (l:List MapEntry) (i:Nat),qg es l->jL ti.ty es->
    ∃ r,Instr.findNow (.int k) v l i=some r/\match ne es x i with|none=>r=none|some (i,d)=>∃ u,r=some (i,u)/\∀ S w,FZ S w d u:=by
   intro es;induction es with
   | nil=>
    intro l i hr _;cases l with
    | nil=>exact⟨none,rfl,rfl⟩
    | cons e l=>exact hr.elim
   | cons y es ih=>
    intro l i hr ha;cases l with
    | nil=>exact hr.elim
    | cons e l=>
     obtain⟨⟨h1,h2⟩,hr⟩:=hr;have hy:=ha.1;rw[hk'] at hy;simp only[eD] at hx hy;obtain⟨e1,hv,_⟩:=(fx (fun _=>True) default).al hx;obtain⟨e2,hu2,_⟩:=(h1 (fun _=>True) default).al hy;obtain⟨r,i1,i2⟩:=ih l (i+1) hr ha.2;have hs:Instr.sameNow (.int k) v e.key=some (mq x y.1):=by
      rw[hv,hu2,e1,e2];simp only[Instr.sameNow,if_true,mq,D.toInt];congr 1
     simp only[Instr.findNow,hs,ne];by_cases hb:mq x y.1=true
     ·simp only[hb,if_true];exact⟨_,rfl,_,rfl,h2⟩
     ·simp only[Bool.not_eq_true] at hb;simp only[hb,if_false,eV];exact⟨r,i1,i2⟩
  obtain⟨r,r1,r2⟩:=now es l 0 hr ha;exact⟨r,fun w2=>by simp[Instr.findKey,run_underlying hu,Result.andThen,r1],r2⟩
 ·obtain⟨r,r1,r2⟩:=ask es l 0 hr ha;refine⟨r,fun w2=>?_,r2⟩;have r1:=r1 w2;cases l with
  | nil=>
   simp only[Instr.findAsking,Sem.run_pure] at r1;simpa [Instr.findKey,run_underlying hu,Result.andThen,Instr.findNow] using r1
  | cons e l=>simpa [Instr.findKey,run_underlying hu,Result.andThen,Instr.findNow,hd] using r1
def FM {ty:Ty}{x:D}(hx:eD ty x) (h:FZ S w x v) : ∀ S' w',FZ S' w' x v:=by
 intro S' w';cases ty with
 | int k=>
  simp only[eD] at hx;obtain⟨e1,rfl,hk⟩:=h.al hx;rw[e1];exact .int hk
 | struct fs=>
  cases x <;> simp only[eD] at hx
  cases h with
  | agg hl h1 hf=>
   refine .agg hl h1 fun j hj=>?_
   have ic:=pB hx.2 j hj;obtain⟨e1,e2,hk⟩:=(hf j hj).al ic;rw[e1,e2];exact .int hk
 | array n e=>
  cases x <;> simp only[eD] at hx
  cases h with
  | agg hl h1 hf=>
   refine .agg hl h1 fun j hj=>?_
   have ic:=pB hx.2 j hj;obtain⟨e1,e2,hk⟩:=(hf j hj).al ic;rw[e1,e2];exact .int hk
 | _=>simp only[eD] at hx
def ua (T:Nat->Option TI) (H:List R) (t:Nat) (m k:I) (ok:Bool):Option (Prop×I):=
 match T t,m,k with
 | some ⟨.map kt et,_,_,_⟩,.map i,.d kd=>
  match H[i]?,T kt,T et with
  | some (.map es),some kti,some eti=>some (kY T kti.ty/\eD kti.ty kd/\jL kti.ty es,
    if ok=true then .d (.tup [(fX es kd).getD eti.zero,.bool (fX es kd).isSome]) else .d ((fX es kd).getD eti.zero))
  | _,_,_=>none
 | _,_,_=>none
def aZ.nF (ht:aZ P t ti) {k:Nat}(hy:ti.ty=.map k e):P.underlying t=some (.map k e):=by
 obtain⟨i,d,_,_,_,_,hu,hd⟩:=ht.ex;rw[hy] at hd;cases d <;> simp only[eH,Ty.map.injEq,reduceCtorEq] at hd
 obtain⟨rfl,rfl⟩:=hd;exact hu
def z0 {x y:D}(h1:FZ S w x v) (h2:FZ S w y u):FZ S w (.tup [x,y]) (.tuple #[v,u]):=by
 refine .tup rfl fun j hj=>?_
 match j,hj with
 | 0,_=>exact h1
 | 1,_=>exact h2
def Lg (hT:bO P T) (s:aK S φ H w) {m k:I}{vm vk:Value}(hm:V S φ H w m vm) (hk:V S φ H w k vk) {ok:Bool}(h:ua T H t m k ok=some (vc,y)) (hvc:vc) :
  ∃ v,V S φ H w y v/\∀ w2,au w w2->(Instr.lookup t vm vk ok).run P w2=.ok v w2:=by
 unfold ua at h;split at h
 ·rename_i kt et a1 a2 a3 i kd hti;split at h
  ·rename_i es kti eti hi hkt het;simp only[aD,aH] at h;obtain⟨rfl,rfl⟩:=h;obtain⟨q1,q2,q3⟩:=hvc;have hu:=(hT _ _ hti).nF rfl;have hkk:=hT _ _ hkt;have hee:=hT _ _ het;cases hm with
   | map hlt hrel h1=>
    obtain⟨b,hfp,rfl⟩:=hrel es hi;obtain⟨b',ents,clock,hfp',hb,hr⟩:=s.rel i _ hi;rw[hfp] at hfp';simp only[List.cons.injEq,and_true] at hfp';subst hfp';have hlt:=s.lt b ⟨i,by rw[hfp];simp⟩;have fk:=FM q2 hk.fz;obtain⟨r,r1,r2⟩:=Iw hT hkk q1 q2 fk hr q3;have hD:=JB kd es 0;have zero : ∀ S w,FZ S w eti.zero (bc eti.zero):=fun S w=>xl hee.const
    have hc:=fun w2=>H7 hT hkk q1 q2 fk ents.isEmpty w2
    cases hfi:ne es kd 0 with
    | none=>
     rw[hfi] at hD r2;simp only[j6] at hD;subst r2;rw[<-hD];have hrun : ∀ w2,au w w2->(Instr.lookup t (.map (some b)) vk ok).run P w2=.ok (if ok=true then .tuple #[bc eti.zero,.bool false] else bc eti.zero) w2:=by
      intro w2 ha;have hb2:w2.heap[b]?=some (.map ents clock):=(ha b hlt).trans hb;simp only[Instr.lookup,Sem.run_bind,run_underlying hu,Result.andThen_ok,MapKept.run_getObj_map hb2,hc,r1,hee.df,Sem.run_pure]
     cases ok with
     | false=>
      simp only[eV,if_false,Option.getD_none] at hrun ⊢;exact⟨_,.d (zero S w),hrun⟩
     | true=>
      simp only[if_true,Option.getD_none,Option.isSome_none] at hrun ⊢;exact⟨_,.d (z0 (zero S w) .bool),hrun⟩
    | some p=>
     obtain⟨j,d⟩:=p;rw[hfi] at hD r2;simp only[k6] at hD;obtain⟨u,rfl,hu2⟩:=r2;rw[<-hD];have hrun : ∀ w2,au w w2->(Instr.lookup t (.map (some b)) vk ok).run P w2=.ok (if ok=true then .tuple #[u,.bool true] else u) w2:=by
      intro w2 ha;have hb2:w2.heap[b]?=some (.map ents clock):=(ha b hlt).trans hb;simp only[Instr.lookup,Sem.run_bind,run_underlying hu,Result.andThen_ok,MapKept.run_getObj_map hb2,hc,r1,Sem.run_pure]
     cases ok with
     | false=>
      simp only[eV,if_false,i9] at hrun ⊢;exact⟨_,.d (hu2 S w),hrun⟩
     | true=>
      simp only[if_true,i9,Option.isSome_some] at hrun ⊢;exact⟨_,.d (z0 (hu2 S w) .bool),hrun⟩
  ·simp at h
 ·simp at h
end Go.VL
namespace Go.VL
set_option linter.defProp false
variable {vc:Prop}{x:I}{α:Type}
variable {P:Program}{S:Nat->Prop}{φ : List (List Nat)}{H:List R}{w:World}{T:Nat->Option TI}{fr:Fr}{a:Act}
def aN (c:Prop):Option (Prop×I)->Option (Prop×I)
 | some (vc,x)=>some (c/\vc,x)
 | none=>none
def dD (fr:Fr):Option Operand->Option I
 | some o=>some (ap fr o)
 | none=>none
def pS (fr:Fr):Option Operand->Prop
 | some o=>aE fr o
 | none=>True
def gM (fr:Fr):List Operand->List I
 | []=>[]
 | o::r=>ap fr o::gM fr r
def dJ (fr:Fr):List Operand->Prop
 | []=>True
 | o::r=>aE fr o/\dJ fr r
def l7 (f:Nat) (caps:List I):I:=
 match eI caps with
 | some ds=>.d (.fn f ds)
 | none=>.fn f caps
def GV (T:Nat->Option TI) (fr:Fr) (H:List R) (b:Builtin) (args:List Operand) (tys:List TypeId):Option (Prop×I):=
 match b,args,tys with
 | .len,[x],[t]=>aN (aE fr x) (dc T H t (ap fr x))
 | .cap,[x],[t]=>aN (aE fr x) (gp T t (ap fr x))
 | .min,[x,y],_=>aN (aE fr x/\aE fr y) (uF .min (ap fr x) (ap fr y))
 | .max,[x,y],_=>aN (aE fr x/\aE fr y) (uF .max (ap fr x) (ap fr y))
 | _,_,_=>none
def dr (T:Nat->Option TI) (fr:Fr) (H:List R):Op->Option (Prop×I)
 | .move x=>some (aE fr x,ap fr x)
 | .assign x=>some (aE fr x,ap fr x)
 | .pick c x y=>aN (aE fr c) (wg (ap fr c) (ap fr x) (ap fr y) (aE fr x) (aE fr y))
 | .build t parts=>aN (oV fr parts.toList) (xw T t (k7 fr parts.toList))
 | .load t p=>aN (aE fr p) (nl T H t (ap fr p))
 | .nilCheck x=>aN (aE fr x) (jo H (ap fr x))
 | .binOp op t x y _=>aN (aE fr x/\aE fr y) (kE T H op t (ap fr x) (ap fr y))
 | .unOp op _ x=>aN (aE fr x) (wu op (ap fr x))
 | .convert s d x=>aN (aE fr x) (vZ T s d (ap fr x))
 | .makeFunc (.func f) first caps=>
  match first.toList with
  | []=>some (dJ fr caps.toList,l7 f (gM fr caps.toList))
  | _=>none
 | .slice t x lo hi mx=>aN (aE fr x/\pS fr lo/\pS fr hi) (uy T H t (ap fr x) (dD fr lo) (dD fr hi) (dD fr mx))
 | .fieldAddr s x f=>aN (aE fr x) (uU T H s (ap fr x) f)
 | .field s x f=>aN (aE fr x) (EF T s (ap fr x) f)
 | .indexAddr t x ix=>aN (aE fr x/\aE fr ix) (sd T H t (ap fr x) (ap fr ix))
 | .index t x ix=>aN (aE fr x/\aE fr ix) (xY T t (ap fr x) (ap fr ix))
 | .extract x j=>aN (aE fr x) (wv (ap fr x) j)
 | .lookup t x ix ok=>aN (aE fr x/\aE fr ix) (ua T H t (ap fr x) (ap fr ix) ok)
 | .call { callee:=.builtin b,args,argTypes }=>GV T fr H b args.toList argTypes.toList
 | _=>none
def lb {c:Prop}{o:Option (Prop×I)}(h:aN c o=some (vc,x)) (hvc:vc):c/\∃ vc',o=some (vc',x)/\vc':=by
 cases o with
 | none=>simp[aN] at h
 | some p=>
  obtain⟨vc',x'⟩:=p;simp only[aN,aD,aH] at h;obtain⟨rfl,rfl⟩:=h;exact⟨hvc.1,vc',rfl,hvc.2⟩
def c7.ap (h:c7 S φ H w fr a) (o:Operand) (hc:aE fr o):V S φ H w (ap fr o) (a.eval o):=by
 have hv:=h.ev o;unfold VL.ap;unfold aE at hc;generalize VL.ev fr o=y at *
 cases y with
 | cond e x=>
  cases hv with
  | cond hv _=>exact hv hc
 | _=>exact hv
def za (h:c7 S φ H w fr a) : ∀ (l:List Operand),dJ fr l->(gM fr l).length=l.length/\∀ j,j<l.length->V S φ H w ((gM fr l).getD j .junk) ((l.map a.eval).toArray.getD j undef)
 | [],_=>⟨rfl,fun j hj=>by simp at hj⟩
 | o::r,hc=>by
  obtain⟨h1,h2⟩:=za h r hc.2;refine⟨by simp[gM,h1],fun j hj=>?_⟩;cases j with
  | zero=>simpa [gM,List.getD,Array.getD] using h.ap o hc.1
  | succ j=>
   have:=h2 j (by simpa using hj);simpa [gM,List.getD,Array.getD_eq_getD_getElem?] using this
def V.l7 {f:Nat}{cs:List I}{vs:Array Value}(hl:cs.length=vs.size) (h : ∀ j,j<cs.length->V S φ H w (cs.getD j .junk) (vs.getD j undef)):V S φ H w (l7 f cs) (.func (.func f) #[] vs):=by
 unfold VL.l7;split
 ·rename_i ds hds;obtain⟨hl',hd⟩:=DG hds;refine .d (.fn (by omega) fun j hj=>?_);have:=h j (by omega);rw[hd j (by omega)] at this;exact this.fz
 ·exact .fn hl h
def Ev (h:c7 S φ H w fr a) : ∀ (l:List (Nat×Operand)),oV fr l->(k7 fr l).length=(l.map fun(i,x)=>(i,a.eval x)).length/\
  ∀ (j i:Nat) (x:I),(k7 fr l)[j]?=some (i,x)->∃ v:Value,(l.map fun(i,x)=>(i,a.eval x))[j]?=some (i,v)/\V S φ H w x v
 | [],_=>⟨rfl,fun j i x hj=>by simp[k7] at hj⟩
 | (i0,o)::r,hc=>by
  obtain⟨h1,h2⟩:=Ev h r hc.2;refine⟨by simp[k7,h1],fun j i x hj=>?_⟩;cases j with
  | zero=>
   simp only[k7,List.getElem?_cons_zero,aD,aH] at hj;obtain⟨rfl,rfl⟩:=hj;exact⟨_,rfl,h.ap o hc.1⟩
  | succ j=>
   simp only[k7,List.getElem?_cons_succ] at hj;obtain⟨v,hv,hx⟩:=h2 j i x hj;exact⟨v,by simpa using hv,hx⟩
def KJ (h:c7 S φ H w fr a) {o:Option Operand}(hc:pS fr o):(∀ x,dD fr o=some x->∃ v,o.map a.eval=some v/\V S φ H w x v)/\(dD fr o=none->o.map a.eval=none):=by
 cases o with
 | none=>exact⟨fun x hx=>by simp[dD] at hx,fun _=>rfl⟩
 | some o=>exact⟨fun x hx=>by simp only[dD,aD] at hx;subst hx;exact⟨_,rfl,h.ap o hc⟩,fun hx=>by simp[dD] at hx⟩
def oB {xs:Array α}{x : α}(h:xs.toList=[x]):xs = #[x]:=by rw[<-ub (xs:=xs),h]
def dA {xs:Array α}{x y : α}(h:xs.toList=[x,y]):xs = #[x,y]:=by rw[<-ub (xs:=xs),h]
def xy:Op->Bool
 | .load _ _=>true
 | .lookup _ _ _ _=>true
 | _=>false
def dN (T:Nat->Option TI):Op->Bool
 | .convert _ d _=>sc (T d)
 | _=>false
def ux (hT:bO P T) (s:aK S φ H w) (hf:c7 S φ H w fr a) {o:Oper}(h:dr T fr H o.op=some (vc,x)) (hvc:vc) :
  ∃ v,V S φ H w x v/\∀ w2,(xy o.op=true∨dN T o.op=true->au w w2)->(execOp a.eval o).run P w2=.ok (.value v) w2:=by
 obtain⟨dst,op,ty,pos,after,guard⟩:=o;simp only at h;cases op with
 | move y=>
  simp only[dr,aD,aH] at h;obtain⟨rfl,rfl⟩:=h;exact⟨_,hf.ap y hvc,fun w2 _=>by simp[execOp]⟩
 | assign y=>
  simp only[dr,aD,aH] at h;obtain⟨rfl,rfl⟩:=h;exact⟨_,hf.ap y hvc,fun w2 _=>by simp[execOp]⟩
 | pick c y z=>
  obtain⟨hc,vc',h,hvc⟩:=lb h hvc;unfold wg at h;split at h
  ·rename_i xc xa xb ec ea eb;simp only[aD,aH] at h;obtain⟨rfl,rfl⟩:=h;have hcv:=hf.ap c hc;rw[ec] at hcv;obtain⟨_,hcv⟩:=hcv.fz.ci hvc.1;cases hb:xc.toBool with
   | true=>
    rw[hb] at hcv;have hav:=hf.ap y (hvc.2.1 hb).1;rw[ea] at hav;obtain⟨_,hav⟩:=hav.fz.ci (hvc.2.1 hb).2;exact⟨.bool xa.toBool,.d (by simp only[if_true];exact .bool),fun w2 _=>by simp[execOp,hcv,asBool,hav]⟩
   | false=>
    rw[hb] at hcv;have hav:=hf.ap z (hvc.2.2 hb).1;rw[eb] at hav;obtain⟨_,hav⟩:=hav.fz.ci (hvc.2.2 hb).2;exact⟨.bool xb.toBool,.d (by simp only[eV,if_false];exact .bool),fun w2 _=>by simp[execOp,hcv,asBool,hav]⟩
  ·simp at h
 | build t parts=>
  obtain⟨hc,vc',h,hvc⟩:=lb h hvc;obtain⟨h1,h2⟩:=Ev hf parts.toList hc;obtain⟨v,hv,hr⟩:=K1 hT h1 h2 h hvc;refine⟨v,hv,fun w2 hw2=>?_⟩;have e:(parts.map fun(i,x)=>(i,a.eval x))=(parts.toList.map fun(i,x)=>(i,a.eval x)).toArray:=by
   rw[<-Array.toList_map,ub]
  have:=hr w2;rw[<-e] at this;simp[execOp,this]
 | load t p=>
  obtain⟨hc,vc',h,hvc⟩:=lb h hvc;obtain⟨v,hv,hr⟩:=IB hT s (hf.ap p hc) h hvc;exact⟨v,hv,fun w2 hw2=>by simp[execOp,hr w2 (hw2 (.inl rfl))]⟩
 | nilCheck y=>
  obtain⟨hc,vc',h,hvc⟩:=lb h hvc;obtain⟨hv,ad,hr⟩:=Oy (hf.ap y hc) h hvc;exact⟨_,hv,fun w2 hw2=>by simp[execOp,hr]⟩
 | binOp op t y z yt=>
  obtain⟨hc,vc',h,hvc⟩:=lb h hvc;obtain⟨v,hv,hr⟩:=MZ hT (xo:=y) (yo:=z) (hf.ap y hc.1) (hf.ap z hc.2) h hvc;refine⟨v,hv,fun w2 hw2=>?_⟩;have:=hr w2;simp only[Sem.run_bind] at this;simp only[execOp,Sem.run_bind,this,Result.andThen_ok,Sem.run_pure]
 | unOp op t y=>
  obtain⟨hc,vc',h,hvc⟩:=lb h hvc;obtain⟨v,hv,hr⟩:=No (P:=P) (hf.ap y hc) h hvc;exact⟨v,hv,fun w2 hw2=>by simp[execOp,hr w2]⟩
 | convert s d y=>
  obtain⟨hc,vc',h,hvc⟩:=lb h hvc;obtain⟨v,hv,hr⟩:=NT hT (hf.ap y hc) h hvc;exact⟨v,hv,fun w2 hw2=>by simp[execOp,hr w2 fun h=>hw2 (.inr h)]⟩
 | makeFunc fn first caps=>
  cases fn with
  | func f=>
   simp only[dr] at h;split at h
   ·rename_i hfirst;simp only[aD,aH] at h;obtain⟨rfl,rfl⟩:=h;obtain⟨h1,h2⟩:=za hf caps.toList hvc;have e:caps.map a.eval=(caps.toList.map a.eval).toArray:=by rw[<-Array.toList_map,ub]
    have ef:first = #[]:=by rw[<-ub (xs:=first),hfirst]
    refine⟨_,V.l7 (vs:=caps.map a.eval) (by rw[h1];simp) (fun j hj=>?_),fun w2 _=>by simp[execOp,Instr.makeFunc,ef]⟩;rw[e];exact h2 j (by rw[h1] at hj;exact hj)
   ·simp at h
  | _=>simp[dr] at h
 | slice t y lo hi mx=>
  obtain⟨⟨hc,hc1,hc2⟩,vc',h,hvc⟩:=lb h hvc;obtain⟨l1,l2⟩:=KJ hf hc1;obtain⟨m1,m2⟩:=KJ hf hc2;have hm:dD fr mx=none->mx.map a.eval=none:=by cases mx <;> simp[dD]
  obtain⟨v,hv,hr⟩:=L9 hT (hf.ap y hc) l1 l2 m1 m2 hm h hvc;exact⟨v,hv,fun w2 hw2=>by simp[execOp,hr w2]⟩
 | fieldAddr t y f=>
  obtain⟨hc,vc',h,hvc⟩:=lb h hvc;obtain⟨v,hv,hr⟩:=Ny hT (hf.ap y hc) h hvc;exact⟨v,hv,fun w2 hw2=>by simp[execOp,hr w2]⟩
 | field t y f=>
  obtain⟨hc,vc',h,hvc⟩:=lb h hvc;obtain⟨v,hv,hr⟩:=L8 hT (hf.ap y hc) h hvc;exact⟨v,hv,fun w2 hw2=>by simp[execOp,hr w2]⟩
 | indexAddr t y z=>
  obtain⟨hc,vc',h,hvc⟩:=lb h hvc;obtain⟨v,hv,hr⟩:=Om hT (hf.ap y hc.1) (hf.ap z hc.2) h hvc;exact⟨v,hv,fun w2 hw2=>by simp[execOp,hr w2]⟩
 | index t y z=>
  obtain⟨hc,vc',h,hvc⟩:=lb h hvc;obtain⟨v,hv,hr⟩:=Mm hT (hf.ap y hc.1) (hf.ap z hc.2) h hvc;exact⟨v,hv,fun w2 hw2=>by simp[execOp,hr w2]⟩
 | extract y j=>
  obtain⟨hc,vc',h,hvc⟩:=lb h hvc;obtain⟨v,hv,hr⟩:=Lu (P:=P) (hf.ap y hc) h hvc;exact⟨v,hv,fun w2 hw2=>by simp[execOp,hr w2]⟩
 | lookup t y z ok=>
  obtain⟨hc,vc',h,hvc⟩:=lb h hvc;obtain⟨v,hv,hr⟩:=Lg hT s (hf.ap y hc.1) (hf.ap z hc.2) h hvc;exact⟨v,hv,fun w2 hw2=>by simp[execOp,hr w2 (hw2 (.inl rfl))]⟩
 | call c=>
  obtain⟨callee,args,tys⟩:=c;cases callee with
  | builtin b=>
   simp only[dr,GV] at h;split at h
   ·rename_i y t ha hta;obtain⟨hc,vc',h,hvc⟩:=lb h hvc;obtain⟨v,hv,hr⟩:=LM (ty:=ty) hT (hf.ap y hc) h hvc;rw[oB ha,oB hta];exact⟨v,hv,fun w2 hw2=>by simp[execOp,resolve,invoke,builtin,hr w2]⟩
   ·rename_i y t ha hta;obtain⟨hc,vc',h,hvc⟩:=lb h hvc;obtain⟨v,hv,hr⟩:=M7 (ty:=ty) hT (hf.ap y hc) h hvc;rw[oB ha,oB hta];exact⟨v,hv,fun w2 hw2=>by simp[execOp,resolve,invoke,builtin,hr w2]⟩
   ·rename_i y z ha;obtain⟨hc,vc',h,hvc⟩:=lb h hvc;obtain⟨v,hv,hr⟩:=KA (P:=P) (hf.ap y hc.1) (hf.ap z hc.2) h hvc tys ty;refine⟨v,hv,fun w2 hw2=>?_⟩;rw[dA ha];simp only[execOp,resolve,invoke,Sem.run_bind,Sem.run_pure,Result.andThen_ok,List.map_toArray,jC,List.map_nil];exact hr _ w2
   ·rename_i y z ha;obtain⟨hc,vc',h,hvc⟩:=lb h hvc;obtain⟨v,hv,hr⟩:=KA (P:=P) (hf.ap y hc.1) (hf.ap z hc.2) h hvc tys ty;refine⟨v,hv,fun w2 hw2=>?_⟩;rw[dA ha];simp only[execOp,resolve,invoke,Sem.run_bind,Sem.run_pure,Result.andThen_ok,List.map_toArray,jC,List.map_nil];exact hr _ w2
   ·simp at h
  | _=>simp[dr] at h
 | _=>simp[dr] at h
end Go.VL
namespace Go.VL
set_option linter.defProp false
variable {arr:Array Value}{k e:Nat}{l:List D}{x:D}{vc:Prop}{y:I}{H':List R}{v:Value}
variable {P:Program}{S:Nat->Prop}{φ : List (List Nat)}{H:List R}{w:World}{T:Nat->Option TI}{fr:Fr}{a:Act}
def pg (S:Nat->Prop) (φ : List (List Nat)) (H:List R) (w:World) (r:Result Next) (x:I) (H':List R):Prop:=
 ∃ v w' φ',(r=.ok (.value v) w'∨(r=.ok .skip w'/\v=undef))/\aK S φ' H' w'/\Tr H.length S φ H w S φ' H' w'/\Ext S φ w S φ' w'/\V S φ' H' w' x v
def yu (s:aK S φ H w) (o:Obj):nS φ w H.length [w.heap.size] (w.alloc o):=
 ⟨rfl,rfl,rfl,by simp,fun b hb _=>heap_alloc_old w o hb,by simp,fun b hb=>by simp at hb;subst hb;exact⟨.inr (aC _),by simp⟩⟩
def KU (s:aK S φ H w) (o:Obj):nS φ w H.length [w.heap.size] (w.drew.alloc o):=
 ⟨rfl,rfl,rfl,by simp,fun b hb _=>heap_alloc_old w.drew o hb,by simp,fun b hb=>by simp at hb;subst hb;exact⟨.inr (aC _),by simp⟩⟩
def At (s:aK S φ H w) (fp:List Nat):(φ ++ [fp]).getD H.length []=fp:=by
 rw[z7,s.len,if_pos rfl]
def Pn (H:List R) (r:R):(H ++ [r])[H.length]?=some r:=by simp
def Ka (s:aK S φ H w) {cs:List I}(h:ep S φ H w cs arr) (ty:TypeId) :
  ∃ φ',aK S φ' (H ++ [.box cs]) (w.alloc (.cells arr ty))/\Tr H.length S φ H w S φ' (H ++ [.box cs]) (w.alloc (.cells arr ty))/\Ext S φ w S φ' (w.alloc (.cells arr ty))/\
   V S φ' (H ++ [.box cs]) (w.alloc (.cells arr ty)) (.ptr H.length 0) (.pointer (some ⟨w.heap.size,0,none⟩)):=by
 obtain⟨h1,h2,h3⟩:=s.push (r':=.box cs) (yu s (.cells arr ty)) (fun t=>⟨w.heap.size,arr,ty,rfl,heap_alloc_new w _,h.1,fun j hj=>⟨(h.2 j hj).1,(h.2 j hj).2.tr t⟩⟩);refine⟨_,h1,h2,h3,.ptr (by simp) (fun cs' hcs=>⟨w.heap.size,At s _,rfl⟩) rfl⟩
def zb (s:aK S φ H w) {dp:DP}{cap:Nat}(hk:0<k) (he : ∀ x∈l,x.cells.length=k) (h1 : ∀ c∈flat l,c.one=true)
  (hlim:l.length<=fj) (hn:l.length<=cap) (hcap:cap<=maxLen) (hsz:cap*k<=arr.size) (ty:TypeId) {w1:World}(u:nS φ w H.length [w.heap.size] w1) (hb:w1.heap[w.heap.size]?=some (.cells arr ty (0,0)))
  (hr:aT S φ H w k dp (flat l) arr []) :
  ∃ φ',aK S φ' (H ++ [.row 0 k dp l]) w1/\Tr H.length S φ H w S φ' (H ++ [.row 0 k dp l]) w1/\Ext S φ w S φ' w1/\
   V S φ' (H ++ [.row 0 k dp l]) w1 (.sl H.length 0 k 0 l.length) (.slice (some ⟨w.heap.size,0,none⟩) l.length cap):=by
 have hm:=jS k hn;obtain⟨g1,g2,g3⟩:=s.push (r':=.row 0 k dp l) u (fun t=>⟨hk,he,h1,hlim,.inr ⟨w.heap.size,[],arr,ty,rfl,hb,by omega,hr.bi t (by simp)⟩⟩);refine⟨_,g1,g2,g3,.sl (by simp) (by simp) (fun dp' l' hl'=>?_) rfl⟩;rw[Pn] at hl';simp at hl';obtain⟨rfl,rfl⟩:=hl';exact⟨.inr ⟨w.heap.size,[],cap,arr,ty,_,At s _,rfl,hn,hcap,hlim,hb,fun _=>⟨by simp,by omega⟩⟩,by simp⟩
def D4 (s:aK S φ H w) (dp:DP) (hk:0<k) :
  ∃ φ',aK S φ' (H ++ [.row 0 k dp []]) w/\Tr H.length S φ H w S φ' (H ++ [.row 0 k dp []]) w/\Ext S φ w S φ' w/\
   V S φ' (H ++ [.row 0 k dp []]) w (.sl H.length 0 k 0 0) (.slice none 0 0):=by
 obtain⟨g1,g2,g3⟩:=s.push (w':=w) (r':=.row 0 k dp []) (fp':=[]) ⟨rfl,rfl,rfl,aC _,fun _ _ _=>rfl,by simp,by simp⟩ (fun t=>⟨hk,by simp,by simp[flat],kr _,.inl ⟨rfl,rfl⟩⟩);refine⟨_,g1,g2,g3,.sl (by simp) (by simp) (fun dp' l' hl'=>⟨.inl ⟨At s _,rfl,rfl,rfl⟩,by simp⟩) rfl⟩
def nj (T:Nat->Option TI) (H:List R) (e:Nat) (x:I):Option (Prop×I×List R):=
 match T e with
 | some ti=>
  match g9 ti x with
  | some (vc,cs)=>some (vc,.ptr H.length 0,H ++ [.box cs])
  | none=>none
 | none=>none
def LH (s:aK S φ H w) {x:I}{vx:Value}(hx:V S φ H w x vx) (h:nj T H e x=some (vc,y,H')) (hvc:vc) :
  pg S φ H w (((do pure (.value (←Instr.box e vx)):Sem Next)).run P w) y H':=by
 unfold nj at h;split at h
 ·rename_i ti hti;split at h
  ·rename_i vc' cs hc;simp only[aD,aH] at h;obtain⟨rfl,rfl,rfl⟩:=h;obtain⟨h1,h2,h3⟩:=uk hx hc hvc;obtain⟨φ',a1,a2,a3,a4⟩:=Ka s (cs:=cs) (arr:=vx.cells) ⟨by omega,fun j hj=>h3 j (by omega)⟩ e;exact⟨_,_,φ',.inl (by simp[Instr.box,newVar,newRow]),a1,a2,a3,a4⟩
  ·simp at h
 ·simp at h
def vK (T:Nat->Option TI) (H:List R) (e:Nat):Option (Prop×I×List R):=
 match T e with
 | some ti=>some (True,.ptr H.length 0,H ++ [.box ((bT ti.zero 0 ti.size).map .d)])
 | none=>none
def MM (hT:bO P T) (s:aK S φ H w) (h:vK T H e=some (vc,y,H')) (hvc:vc) :
  pg S φ H w (((do pure (.value (←Instr.alloc e true (.tuple #[]))):Sem Next)).run P w) y H':=by
 unfold vK at h;split at h
 ·rename_i ti hti;simp only[aD,aH] at h;obtain⟨rfl,rfl,rfl⟩:=h;have ht:=hT _ _ hti;obtain⟨φ',a1,a2,a3,a4⟩:=Ka s (C9 (S:=S) (φ:=φ) (H:=H) (w:=w) ht) e;exact⟨_,_,φ',.inl (by simp[Instr.alloc,newVar,newRow,ht.df]),a1,a2,a3,a4⟩
 ·simp at h
def mi (size:Nat):Nat->List (Nat×I)->Option (Prop×List D)
 | _,[]=>some (True,[])
 | i,(j,.d x)::r=>
  match mi size (i+1) r with
  | some (vc,l)=>some (j=i/\x.cells.length=size/\x.eq/\vc,x::l)
  | none=>none
 | _,_::_=>none
def ar:List D->Bool
 | []=>true
 | x::r=>x.cells.all D.scalar&&ar r
def jg (T:Nat->Option TI) (H:List R) (t len:Nat) (parts:List (Nat×I)):Option (Prop×I×List R):=
 match T t with
 | some ti=>
  match ti.ty with
  | .slice e=>
   match T e with
   | some ei=>
    match mi ei.size 0 parts with
    | some (vc,l)=>some (vc/\l.length=len/\0<ei.size/\len*ei.size<=1000,.sl H.length 0 ei.size 0 l.length,H ++ [.row 0 ei.size (.nL (ar l)) l])
    | none=>none
   | none=>none
  | _=>none
 | none=>none
def Mz (h:FZ S w x v) (ht:x.eq):v.cells.size=x.cells.length/\(∀ c∈x.cells,c.one=true)/\∀ j,j<x.cells.length->FZ S w (x.cells.getD j .nil) (v.cells.getD j undef):=by
 cases h <;> simp[D.eq] at ht
 case agg cs vs hl h1 hj=>exact⟨by simp[Value.cells,D.cells,hl],h1,hj⟩
 case raw hv=>
  have hc:v.cells = #[v]:=by cases v <;> first|rfl|simp[zB] at hv
  rw[hc];exact⟨rfl,by simp[D.cells,D.one],fun j hj=>by simp[D.cells] at hj;subst hj;exact .raw hv⟩
 all_goals
  refine⟨rfl,by simp[D.cells,D.one],fun j hj=>?_⟩;simp[D.cells] at hj;subst hj;simp only[D.cells,Value.cells];first
   | exact .int (by assumption)
   | exact .bool
   | exact .nil
   | exact .lst0 (by assumption)
   | exact .lst _ (by assumption) (by assumption) (by assumption) (by assumption) (by assumption) (by assumption) (by assumption) (by assumption)
   | exact .ptr _ (by assumption) (by assumption) (by assumption) (by assumption)
   | exact .fn (by assumption) (by assumption)
def AJ (h:ar l=true) : ∀ c∈flat l,c.scalar=true:=by
 induction l with
 | nil=>simp[flat]
 | cons x r ih=>
  simp only[ar,gN,lj] at h;intro c hc;simp only[flat,mA,fV] at hc;rcases hc with hc|hc
  ·exact h.1 c hc
  ·exact ih h.2 c hc
def uo (h:FZ S w x v) (hx:x.scalar=true):OW w x v []:=by
 cases h <;> simp[D.scalar] at hx
 ·exact .int (by assumption)
 ·exact .bool
 ·exact .raw (by assumption)
 ·exact .nil
def Kp (b:Bool) (hd:b=true->∀ c∈l,c.scalar=true) (h : ∀ j,j<l.length->FZ S w (l.getD j .nil) (arr.getD j undef)):aT S φ H w k (.nL b) l arr []:=by
 cases b with
 | false=>exact⟨rfl,h⟩
 | true=>
  refine⟨fun _=>[],by simp,by simp,fun j hj=>uo (h j hj) (hd rfl _ (av hj))⟩
def GK {size:Nat}(hs:0<size) : ∀ (parts:List (Nat×I)) (vps:List (Nat×Value)) (i:Nat),parts.length=vps.length->(∀ (j i:Nat) (x:I),parts[j]?=some (i,x)->∃ v:Value,vps[j]?=some (i,v)/\V S φ H w x v)->
  ∀ {vc:Prop}{l:List D},mi size i parts=some (vc,l)->vc->∀ (done:List D) (arr:Array Value),done.length=i*size->done.length+l.length*size<=arr.size->
  (∀ j,j<done.length->FZ S w (done.getD j .nil) (arr.getD j undef))->
  ∃ arr',Instr.fill (fun i=>some (i*size,size)) arr vps=some arr'/\arr'.size=arr.size/\(∀ x∈l,x.cells.length=size)/\(∀ c∈flat l,c.one=true)/\
   ∀ j,j<(done++flat l).length->FZ S w ((done++flat l).getD j .nil) (arr'.getD j undef)
 | [],[],i,_,_,vc,l,h,hvc,done,arr,hd,hfit,hfz=>by
  simp only[mi,aD,aH] at h;obtain⟨_,rfl⟩:=h;exact⟨arr,rfl,rfl,by simp,by simp[flat],by simpa [flat] using hfz⟩
 | [],_::_,_,hl,_,_,_,_,_,_,_,_,_,_=>by simp at hl
 | _::_,[],_,hl,_,_,_,_,_,_,_,_,_,_=>by simp at hl
 | (j0,y)::rest,(j1,v)::vrest,i,hl,hv,vc,l,h,hvc,done,arr,hd,hfit,hfz=>by
  cases y with
  | d x=>
   simp only[mi] at h;split at h
   ·rename_i vc' l' hr;simp only[aD,aH] at h;obtain⟨rfl,rfl⟩:=h;obtain⟨rfl,hxs,hnt,hvc'⟩:=hvc;obtain⟨v0,hv0,hx⟩:=hv 0 j0 (.d x) rfl;simp only[List.getElem?_cons_zero,aD,aH] at hv0;obtain⟨rfl,rfl⟩:=hv0;obtain⟨c1,c2,c3⟩:=Mz hx.fz hnt;simp only[cU,iX,Nat.one_mul] at hfit;obtain⟨f1,f2⟩:=B7 v.cells (j1*size) arr (by omega);have hlen1:(done++x.cells).length=(j1+1)*size:=by rw[cr,hd,hxs,iX];omega
    obtain⟨arr',e1,e2,e3,e4,e5⟩:=GK hs rest vrest (j1+1) (by simpa using hl) (fun j i x hj=>hv (j+1) i x (by simpa using hj)) hr hvc' (done++x.cells)
     (v.cells.zipIdx.foldl (fun cs (c,j)=>cs.setIfInBounds (j1*size+j) c) arr) hlen1 (by rw[cr,f1];omega) (by
      intro j hj;rw[f2];by_cases hjd:j<done.length
      ·rw[if_neg (by omega)];have:(done++x.cells).getD j .nil=done.getD j .nil:=by simp[List.getD,List.getElem?_append_left hjd]
       rw[this];exact hfz j hjd
      ·rw[cr] at hj;rw[if_pos (by omega)];have:(done++x.cells).getD j .nil=x.cells.getD (j-j1*size) .nil:=by simp[List.getD,List.getElem?_append_right (Nat.le_of_not_lt hjd),hd]
       rw[this];exact c3 _ (by omega))
    refine⟨arr',?_,by rw[e2,f1],?_,?_,?_⟩
    ·simp only[Instr.fill];rw[if_neg (by simp;omega)];exact e1
    ·intro z hz;rcases List.mem_cons.1 hz with rfl|hz
     ·exact hxs
     ·exact e3 z hz
    ·intro c hc;simp only[flat,mA,fV] at hc;rcases hc with hc|hc
     ·exact c2 c hc
     ·exact e4 c hc
    ·have:done++flat (x::l')=done++x.cells++flat l':=by simp[flat]
     rw[this];exact e5
   ·simp at h
  | _=>simp[mi] at h
end Go.VL
namespace Go.VL
set_option linter.defProp false
variable {t b:Nat}{vc:Prop}{y:I}{H':List R}{ti:TI}
variable {P:Program}{S:Nat->Prop}{φ : List (List Nat)}{H:List R}{w:World}{T:Nat->Option TI}{fr:Fr}{a:Act}
def Lh (hT:bO P T) (s:aK S φ H w) {len:Nat}{parts:List (Nat×I)}{vps:List (Nat×Value)}(hl:parts.length=vps.length)
  (hv : ∀ (j i:Nat) (x:I),parts[j]?=some (i,x)->∃ v:Value,vps[j]?=some (i,v)/\V S φ H w x v) (h:jg T H t len parts=some (vc,y,H')) (hvc:vc) :
  pg S φ H w ((do pure (.value (←Instr.buildSlice t len vps.toArray)):Sem Next).run P w) y H':=by
 unfold jg at h;split at h
 ·rename_i ti hti;have ht:=hT _ _ hti;split at h
  ·rename_i e hy;split at h
   ·rename_i ei hei;have he:=hT _ _ hei;split at h
    ·rename_i vc' l hp;simp only[aD,aH] at h;obtain⟨rfl,rfl,rfl⟩:=h;obtain⟨hvc',hlen,hs,hsmall⟩:=hvc;have hu:=ht.aF hy;obtain⟨zc,hzc⟩ : ∃ zc:Array Value,zc=(if len*ei.size=0 then #[] else(bc ei.zero).cells):=⟨_,rfl⟩;obtain⟨arr',f1,f2,f3,f4,f5⟩:=GK (S:=S) (φ:=φ) (H:=H) (w:=w) hs parts vps 0 hl hv hp hvc' [] ((Array.range (len*ei.size)).map (zc[· % zc.size]!)) (by simp) (by simp[hlen]) (by simp);simp only[List.nil_append] at f5;have hb:=heap_alloc_new w (.cells arr' e);have hlim:l.length<=fj:=by
      have:len*1<=len*ei.size:=Nat.mul_le_mul_left _ hs;unfold fj;omega
     obtain⟨φ',a1,a2,a3,a4⟩:=zb s (cap:=l.length) (dp:=.nL (ar l)) hs f3 f4 hlim (aC _) (by unfold fj at hlim;unfold maxLen;omega) (by rw[f2];simp[hlen]) e (yu s _) hb
      (Kp _ (fun hd=>AJ hd) f5)
     refine⟨_,_,φ',.inl ?_,a1,a2,a3,a4⟩;have hrun:(Instr.buildSlice t len vps.toArray).run P w=.ok (.slice (some ⟨w.heap.size,0,none⟩) l.length l.length) (w.alloc (.cells arr' e)):=by
      simp only[Instr.buildSlice,Sem.run_bind,run_underlying hu,Result.andThen_ok,he.run_sizeOf];rw[if_neg (by omega)];by_cases h0:len*ei.size=0
      ·rw[if_pos h0] at hzc ⊢;subst hzc;simp only[Sem.run_bind,Sem.run_pure,Result.andThen_ok,List.toList_toArray,f1,newRow,run_newObj,hlen];rfl
      ·rw[if_neg h0] at hzc ⊢;subst hzc;simp only[Sem.run_bind,Sem.run_pure,Result.andThen_ok,he.df,List.toList_toArray,f1,newRow,run_newObj,hlen];rfl
     simp only[Sem.run_bind,hrun,Result.andThen_ok,Sem.run_pure]
    ·simp at h
   ·simp at h
  ·simp at h
 ·simp at h
def wY (T:Nat->Option TI) (H:List R) (t:Nat) (l c:I):Option (Prop×I×List R):=
 match T t,l,c with
 | some ti,.d l,.d c=>
  match ti.ty with
  | .slice e=>
   match T e with
   | some ei=>some (l.isInt .i64/\c.isInt .i64/\0<=l.toInt/\l.toInt<=c.toInt/\(ei.bytes:Int)*c.toInt<=281474976710656/\0<ei.bytes/\0<ei.size,
     .sl H.length 0 ei.size 0 l.toInt.toNat,H ++ [.row 0 ei.size (.own []) (List.replicate l.toInt.toNat ei.zero)])
   | none=>none
  | _=>none
 | _,_,_=>none
def Nn {x:D}(h:qA x=true):OW w x (lx x) []:=by
 cases x <;> simp[qA] at h
 ·exact .int h
 ·exact .bool
 ·exact .raw h
 ·exact .nil
def Og (n:Nat) (z:D) (k:Nat) (hz:z.cells.length=k) (hk:0<k) (j:Nat) (hj:j<n*k):(flat (List.replicate n z)).getD j .nil=z.cells.getD (j%k) .nil:=by
 have hq:j/k<n:=Nat.div_lt_of_lt_mul (by rw[oP];exact hj);have hr:j%k<k:=Nat.mod_lt _ hk;have e:=nn (l:=List.replicate n z) (k:=k) (fun x hx=>by rw[ws hx];exact hz) (i:=j/k) (by simpa using hq) hr .nil;have hj':(j/k)*k+j%k=j:=by rw[oP];exact Nat.div_add_mod j k
 rw[hj'] at e;rw[e];congr 2;simp[List.getD,hq]
def xk (ht:aZ P t ti) {j:Nat}(hj:j<ti.size):qA (ti.zero.cells.getD j .nil)=true/\(bc ti.zero).cells.getD j undef=lx (ti.zero.cells.getD j .nil)/\(bc ti.zero).cells.size=ti.size:=by
 have hc:=ht.const;have hs:=ht.size;generalize ti.zero=z at *
 cases z with
 | agg cs=>
  simp only[rK,lj] at hc;simp only[D.cells] at hs;refine⟨hc _ (av (by show j<cs.length;omega)),?_,by simp[bc,Value.cells,hs]⟩;simp[bc,Value.cells,D.cells,Array.getD,List.getD,hs,hj]
 | _=>
  first
   | (simp[rK,qA] at hc;done)
   | (
     simp only[D.cells,cU,fm] at hs;obtain rfl:j=0:=by omega
     have hcell : ∀ v:Value,v.oneCell'=true->v.cells = #[v]:=fun v hv=>by cases v <;> first|rfl|simp[Value.oneCell'] at hv
     have ho:=(xl (S:=fun _=>False) (w:=default) hc).one rfl;rw[hcell _ ho];exact⟨hc,rfl,by simp[hs]⟩)
def Np (hT:bO P T) (s:aK S φ H w) {l c:I}{vl vc':Value}(hl:V S φ H w l vl) (hc:V S φ H w c vc') (h:wY T H t l c=some (vc,y,H')) (hvc:vc) :
  pg S φ H w ((do pure (.value (←Instr.makeSlice t vl vc')):Sem Next).run P w) y H':=by
 unfold wY at h;split at h
 ·rename_i ti l c hti;have ht:=hT _ _ hti;split at h
  ·rename_i e hy;split at h
   ·rename_i ei hei;have he:=hT _ _ hei;simp only[aD,aH] at h;obtain⟨rfl,rfl,rfl⟩:=h;obtain⟨il,ic,h0,h1,hb,hb0,hs0⟩:=hvc;obtain⟨_,rfl,kl⟩:=hl.fz.al il;obtain⟨_,rfl,kc⟩:=hc.fz.al ic;obtain⟨i,d,i1,i2,i3,i4,i5,i6⟩:=he.ex;have hr:=run_make (P:=P) w t e i (bc ei.zero) (ht.aF hy) i1 i4 .i64 .i64 l.toInt c.toInt h0 h1 (by rw[i3];exact hb) (by have:=kc.2;simpa using this);have hbl:=heap_alloc_new w (.cells (madeCells (bc ei.zero).cells (c.toInt.toNat*i.size)) e);have hcl:c.toInt.toNat<=fj:=by
     have h2:(ei.bytes:Int)*c.toInt≥1*c.toInt:=Int.mul_le_mul_of_nonneg_right (by omega) (by omega);unfold fj;omega
    have hzs:=(xk he hs0).2.2;have hmul:l.toInt.toNat*ei.size<=c.toInt.toNat*ei.size:=jS _ (by omega);have he' : ∀ x∈List.replicate l.toInt.toNat ei.zero,x.cells.length=ei.size:=fun x hx=>by rw[ws hx];exact he.size
    have hfl:=ao he';simp only[mB] at hfl;have hcell : ∀ j,j<l.toInt.toNat*ei.size->(madeCells (bc ei.zero).cells (c.toInt.toNat*i.size)).getD j undef=lx (ei.zero.cells.getD (j%ei.size) .nil):=by
     intro j hj;have:=(xk he (Nat.mod_lt j hs0)).2.1;rw[<-this];have hm:j%(bc ei.zero).cells.size<(bc ei.zero).cells.size:=Nat.mod_lt _ (by omega);rw[hzs] at hm;simp[madeCells,Array.getD,i2,show j<c.toInt.toNat*ei.size by omega,hzs,hm]
    obtain⟨φ',a1,a2,a3,a4⟩:=zb s (k:=ei.size) (l:=List.replicate l.toInt.toNat ei.zero) (cap:=c.toInt.toNat) (dp:=.own []) hs0 he'
     (by
      intro c hc;obtain⟨x,hx,hcx⟩:=nB.1 hc;rw[ws hx] at hcx;obtain⟨j,hj,rfl⟩:=fM hcx;rw[ko _ _ _ .nil];exact It (xk he (by rw[<-he.size];exact hj)).1)
     (by simp;omega) (by simp;omega) (by unfold fj at hcl;unfold maxLen;omega) (by simp[madeCells,i2]) e (yu s _) hbl
     ⟨fun _=>[],by simp,by simp,fun j hj=>by
      rw[hfl] at hj;rw[Og _ _ _ he.size hs0 _ hj,hcell j hj];exact Nn (xk he (Nat.mod_lt j hs0)).1⟩
    simp only[mB] at a4;exact⟨_,_,φ',.inl (by simp[hr]),a1,a2,a3,a4⟩
   ·simp at h
  ·simp at h
 ·simp at h
def cX:List D->Nat->List D->List D
 | cs,_,[]=>cs
 | cs,off,x::r=>cX (cs.set off x) (off+1) r
def cellsD (ti:TI) (x:I):Option (Prop×List D):=
 match ti.ty.agg,x with
 | true,.d xd=>some (xd.cells.length=ti.size/\xd.one=false/\(∀ n,xd≠.tup n),bT xd 0 ti.size)
 | false,.d xd=>some (ti.size=1/\xd.one=true,[xd])
 | _,_=>none
def De (s:aK S φ H w) {i:Nat}{rest:List Nat}(hfp : φ.getD i []=b::rest) (cs:Array Value):nS φ w i (b::rest) (w.setRow b cs):=
 ⟨rfl,rfl,rfl,by simp,fun b' hb hn=>setRow_other w b b' cs (fun e=>hn (by rw[hfp,e];simp)),hfp▸s.nd i,fun b' hb=>⟨.inl (by rw[hfp];exact hb),by simpa using s.lt b' ⟨i,by rw[hfp];exact hb⟩⟩⟩
def aG (cur:Array Value) (o:Nat) (vs:List Value):Array Value:=(cur.toList.take o++vs++cur.toList.drop (o+vs.length)).toArray
def x8 (cur:Array Value) (o:Nat) (vs:List Value) (h:o+vs.length<=cur.size):(aG cur o vs).size=cur.size:=by
 simp[aG];omega
def tC (cur:Array Value) (o:Nat) (vs:List Value) (h:o+vs.length<=cur.size) (j:Nat):(aG cur o vs).getD j undef=if o<=j/\j<o+vs.length then vs.getD (j-o) undef else cur.getD j undef:=by
 simp only[aG,Array.getD_eq_getD_getElem?,List.getElem?_toArray];by_cases h1:j<o
 ·rw[if_neg (by omega),fS,List.getElem?_append_left (by simp;omega)];simp[h1]
 ·by_cases h2:j<o+vs.length
  ·rw[if_pos (by omega),List.getElem?_append_left (by simp;omega),List.getElem?_append_right (by simp;omega)];have:min o cur.size=o:=by omega
   simp[this,List.getD]
  ·rw[if_neg (by omega),List.getElem?_append_right (by simp;omega)];have:min o cur.size=o:=by omega
   simp only[cr,fW,Array.length_toList,this,List.getElem?_drop,Array.getElem?_toList];congr 2;omega
def IL (ht:aZ P t ti) {o:Nat}{cur:Array Value}{ty:TypeId}{w:World}(hb:w.heap[b]?=some (.cells cur ty (0,0))) {v:Value}(hv:v.cells.size=ti.size)
  (hfit:o+ti.size<=cur.size) (h1 : ∀ j,j<ti.size->(v.cells.getD j undef).oneCell'=true) :
  (storeVar t ⟨b,o,none⟩ v).run P w=.ok () (w.setRow b (aG cur o v.cells.toList)):=by
 have:=run_storeCells_at P b o ty v.cells.toList 0 cur w hb (by simp;omega) (by
  intro u hu;obtain⟨j,hj,rfl⟩:=fM hu;have:=h1 j (by simpa [hv] using hj);simpa [Array.getD,show j<v.cells.size by simpa using hj] using this)
 simp only[ms] at this;simp only[storeVar,Sem.run_bind,ht.run_sizeOf,Result.andThen_ok];rw[if_neg (by omega)];simpa [aG] using this
def D1 (cs:List D) (off:Nat) (xs:List D):(cX cs off xs).length=cs.length:=by
 induction xs generalizing cs off with
 | nil=>rfl
 | cons x r ih=>simp[cX,ih]
def Ed (cs:List D) (off:Nat) (xs:List D) (h:off+xs.length<=cs.length) (j:Nat) :
  (cX cs off xs).getD j .nil=if off<=j/\j<off+xs.length then xs.getD (j-off) .nil else cs.getD j .nil:=by
 induction xs generalizing cs off with
 | nil=>simp[cX];omega
 | cons x r ih=>
  simp only[cU] at h ⊢;simp only[cX];rw[ih _ _ (by simp;omega)];by_cases h1:off+1<=j/\j<off+1+r.length
  ·rw[if_pos h1,if_pos (by omega)];rw[show j-off=(j-(off+1))+1 by omega];simp[List.getD]
  ·rw[if_neg h1];by_cases h2:j=off
   ·subst h2;rw[if_pos (by omega)];simp[List.getD,show j<cs.length by omega]
   ·rw[if_neg (by omega)];simp[List.getD,List.getElem?_set,Ne.symm h2]
def B8 {k:Nat}{l:List D}(he : ∀ x∈l,x.cells.length=k) (hk:0<k) {idx:Nat}(hi:idx<l.length) {y:D}(hy:y.cells.length=k) (j:Nat) (hj:j<l.length*k) :
  (flat (l.set idx y)).getD j .nil=if j/k=idx then y.cells.getD (j%k) .nil else(flat l).getD j .nil:=by
 have hq:j/k<l.length:=Nat.div_lt_of_lt_mul (by rw[oP];exact hj);have hr:j%k<k:=Nat.mod_lt _ hk;have hj':(j/k)*k+j%k=j:=by rw[oP];exact Nat.div_add_mod j k
 have he' : ∀ x∈l.set idx y,x.cells.length=k:=fun x hx=>by
  rcases ui hx with h|h
  ·exact he x h
  ·rw[h];exact hy
 have e1:=nn he' (i:=j/k) (by simpa using hq) hr .nil;have e2:=nn he (i:=j/k) hq hr .nil;rw[hj'] at e1 e2;rw[e1,e2];by_cases h:j/k=idx
 ·rw[if_pos h,h];simp[List.getD,hi]
 ·rw[if_neg h];simp[List.getD,List.getElem?_set,Ne.symm h]
end Go.VL
namespace Go.VL
set_option linter.defProp false
variable {x:I}{vx:Value}{vc:Prop}{xs:List I}{i k b idx:Nat}{dp:DP}{l l':List D}{rest:List Nat}{cur arr':Array Value}{ty:TypeId}
variable {P:Program}{S:Nat->Prop}{φ : List (List Nat)}{H:List R}{w:World}{T:Nat->Option TI}{fr:Fr}{a:Act}
def Ce {ti:TI}(hx:V S φ H w x vx) {xs:List D}(h:cellsD ti x=some (vc,xs)) (hvc:vc) :
  xs.length=ti.size/\vx.cells.size=ti.size/\∀ j,j<ti.size->(xs.getD j .nil).one=true/\FZ S w (xs.getD j .nil) (vx.cells.getD j undef):=by
 unfold cellsD at h;split at h
 ·rename_i xd hagg;simp only[aD,aH] at h;obtain⟨rfl,rfl⟩:=h;obtain⟨hl,hone,htup⟩:=hvc;have hz:=hx.fz;cases hz <;> simp[D.one] at hone
  ·rename_i cs vs hl' h1 hj;simp only[D.cells] at hl;refine⟨iw _ _ _,by simp[Value.cells,<-hl',hl],fun j hj'=>?_⟩;rw[mN _ _ _ _ hj',lc];exact⟨h1 _ (av (by omega)),hj j (by omega)⟩
  ·exact absurd rfl (htup _)
 ·rename_i xd hagg;simp only[aD,aH] at h;obtain⟨rfl,rfl⟩:=h;obtain⟨h1,h2⟩:=hvc;have ho:=hx.fz.one h2;have hc:vx.cells = #[vx]:=by cases vx <;> first|rfl|simp[Value.oneCell'] at ho
  refine⟨by simp[h1],by simp[hc,h1],fun j hj=>?_⟩;obtain rfl:j=0:=by omega
  rw[hc];exact⟨h2,hx.fz⟩
 ·simp at h
def Eb (s:aK S φ H w) {g:Nat}{dp':DP}(hi:H[i]?=some (.row g k dp l)) {rest':List Nat}
  (hfp : φ.getD i []=b::rest) (hb:w.heap[b]?=some (.cells cur ty (0,0))) (hsz:arr'.size=cur.size) (he : ∀ x∈l',x.cells.length=k) (h1 : ∀ c∈flat l',c.one=true)
  (hlen:l'.length=l.length) (hsub:rest'.Sublist rest) (hr:aT S φ H w k dp' (flat l') arr' rest') :
  ∃ φ',aK S φ' (H.set i (.row g k dp' l')) (w.setRow b arr')/\Tr H.length S φ H w S φ' (H.set i (.row g k dp' l')) (w.setRow b arr')/\Ext S φ w S φ' (w.setRow b arr'):=by
 have hlt:i<H.length:=(List.getElem?_eq_some_iff.1 hi).1;have hgetD:H.getD i (.dead 0)=.row g k dp l:=by simp[List.getD,hi]
 obtain⟨hk,_,_,hlim,hrel⟩:=s.rel i _ hi;have hnd:=s.nd i;rw[hfp] at hnd;have hu:nS φ w i (b::rest') (w.setRow b arr'):=
  ⟨rfl,rfl,rfl,by simp,fun b' hb hn=>setRow_other w b b' arr' (fun e=>hn (by rw[hfp,e];simp)),(hsub.cons_cons b).nodup hnd,fun b' hb'=>by
   have hm:b'∈φ.getD i []:=by rw[hfp];exact(hsub.cons_cons b).mem hb'
   exact⟨.inl hm,by simpa using s.lt b' ⟨i,hm⟩⟩⟩
 obtain⟨q1,q2,q3⟩:=s.update hlt hu (r':=.row g k dp' l') (by rw[hgetD];exact aC _) (by
   intro g' k' dp'' l'' he';simp at he';obtain⟨rfl,rfl,rfl,rfl⟩:=he';refine .inr ⟨dp,l,hi,by rw[hfp];rfl,by omega,fun b' rest' arr ty' e1 e2=>?_⟩;rw[hfp] at e1;simp at e1;obtain⟨rfl,rfl⟩:=e1;rw[hb] at e2;simp at e2;obtain⟨rfl,rfl⟩:=e2;exact⟨arr',ty,setRow_heap w b cur arr' ty (0,0) hb,by omega⟩) (by simp) (by simp) (by simp) (by
   intro t;refine⟨hk,he,h1,by omega,.inr ⟨b,rest',arr',ty,rfl,setRow_heap w b cur arr' ty (0,0) hb,?_,hr.bi t ?_⟩⟩
   ·rcases hrel with⟨e,_⟩|⟨b',rest',arr,ty',e,hb',hsz',_⟩
    ·rw[hfp] at e;simp at e
    ·rw[hfp] at e;simp at e;obtain⟨rfl,rfl⟩:=e;rw[hb] at hb';simp at hb';obtain⟨rfl,rfl⟩:=hb';rw[hlen];omega
   ·intro b' hb';refine setRow_other w b b' arr' ?_;intro e;subst e;exact(List.nodup_cons.1 hnd).1 (hsub.mem hb'))
 exact⟨_,q1,q2,q3⟩
def Hh (s:aK S φ H w) {cs cs':List I}(hi:H[i]?=some (.box cs)) (hfp : φ.getD i []=[b]) (hb:w.heap[b]?=some (.cells cur ty (0,0)))
  (h:ep S φ H w cs' arr') :
  ∃ φ',aK S φ' (H.set i (.box cs')) (w.setRow b arr')/\Tr H.length S φ H w S φ' (H.set i (.box cs')) (w.setRow b arr')/\Ext S φ w S φ' (w.setRow b arr'):=by
 have hlt:i<H.length:=(List.getElem?_eq_some_iff.1 hi).1;have hgetD:H.getD i (.dead 0)=.box cs:=by simp[List.getD,hi]
 obtain⟨q1,q2,q3⟩:=s.update hlt (De s hfp arr') (r':=.box cs') (by rw[hgetD];exact aC _) (by simp) (fun cs'' e=>⟨cs,hi,hfp.symm⟩) (by simp) (by simp)
  (fun t=>⟨b,arr',ty,rfl,setRow_heap w b cur arr' ty (0,0) hb,h.1,fun j hj=>⟨(h.2 j hj).1,(h.2 j hj).2.tr t⟩⟩)
 exact⟨_,q1,q2,q3⟩
def ED {F G:Nat->List Nat}(h : ∀ j,(G j).Sublist (F j)) : ∀ (l:List Nat),(l.flatMap G).Sublist (l.flatMap F)
 | []=>by simp
 | x::r=>by simpa using (h x).append (ED h r)
def D6 (h:aT S φ H w k dp l cur rest) (hl:l'.length=l.length)
  (hcell : ∀ j,j<l.length->(arr'.getD j undef=cur.getD j undef/\l'.getD j .nil=l.getD j .nil)∨
   ((dp.o=true->(l.getD j .nil).scalar=true/\(l'.getD j .nil).scalar=true)/\FZ S w (l'.getD j .nil) (arr'.getD j undef))):aT S φ H w k dp l' arr' rest:=by
 cases dp with
 | fz=>
  refine⟨h.1,fun j hj=>?_⟩;rw[hl] at hj;rcases hcell j hj with⟨e1,e2⟩|⟨_,hz⟩
  ·rw[e1,e2];exact h.2 j hj
  ·exact hz
 | own hs=>
  obtain⟨F,rfl,hw,hF⟩:=h;refine⟨F,by rw[hl],by rw[hl];exact hw,fun j hj=>?_⟩;rw[hl] at hj;rcases hcell j hj with⟨e1,e2⟩|⟨hss,hz⟩
  ·rw[e1,e2];exact hF j hj
  ·obtain⟨hs,hs'⟩:=hss rfl;obtain⟨e0,e,_⟩:=xp (hF j hj) hs;rw[e,e0];exact uo hz hs'
def ij:I->D
 | .d c=>c
 | _=>.lst 1 []
def qR:I->Option I
 | .d _=>none
 | x=>some x
def uz:I->Prop
 | .d c=>c.scalar=true
 | _=>True
def lq:List I->Prop
 | []=>True
 | x::r=>uz x/\lq r
def fb (idx:Nat):Nat->List I->List (Nat×Nat×I)
 | _,[]=>[]
 | o,.d _::r=>fb idx (o+1) r
 | o,x::r=>(idx,o,x)::fb idx (o+1) r
def zR : ∀ {xs:List I}{j:Nat},lq xs->j<xs.length->uz (xs.getD j .junk)
 | [],j,h,hj=>by simp at hj
 | x::r,0,h,hj=>h.1
 | x::r,j+1,h,hj=>by simpa [List.getD] using zR h.2 (by simpa using hj)
def zi {idx:Nat} : ∀ {xs:List I}{o:Nat}{h:Nat×Nat×I},h∈fb idx o xs->h.1=idx/\o<=h.2.1/\h.2.1<o+xs.length
 | [],o,h,hm=>by simp[fb] at hm
 | x::r,o,h,hm=>by
  by_cases hx : ∃ c,x=.d c
  ·obtain⟨c,rfl⟩:=hx;simp only[fb] at hm;have:=zi hm;simp only[cU];omega
  ·have:fb idx o (x::r)=(idx,o,x)::fb idx (o+1) r:=by
    cases x <;> first|rfl|exact absurd ⟨_,rfl⟩ hx
   rw[this] at hm;rcases List.mem_cons.1 hm with rfl|hm
   ·simp
   ·have:=zi hm;simp only[cU];omega
def A9 {k idx:Nat} : ∀ {xs:List I}{o j:Nat},j<xs.length->cu k (fb idx o xs) (idx*k+(o+j))=qR (xs.getD j .junk)
 | [],o,j,hj=>by simp at hj
 | x::r,o,j,hj=>by
  have none_at : ∀ {xs:List I}{o p:Nat},p<o->cu k (fb idx o xs) (idx*k+p)=none:=by
   intro xs;induction xs with
   | nil=>intro o p hp;rfl
   | cons y t ih=>
    intro o p hp;by_cases hx : ∃ c,y=.d c
    ·obtain⟨c,rfl⟩:=hx;exact ih (by omega)
    ·have:fb idx o (y::t)=(idx,o,y)::fb idx (o+1) t:=by
      cases y <;> first|rfl|exact absurd ⟨_,rfl⟩ hx
     rw[this];simp only[cu];rw[if_neg (by omega)];exact ih (by omega)
  by_cases hx : ∃ c,x=.d c
  ·obtain⟨c,rfl⟩:=hx;simp only[fb];cases j with
   | zero=>simpa [qR,List.getD] using none_at (by omega)
   | succ j=>
    have:=A9 (k:=k) (idx:=idx) (xs:=r) (o:=o+1) (j:=j) (by simpa using hj);rw[show o+1+j=o+(j+1) by omega] at this;simpa [List.getD] using this
  ·have e:fb idx o (x::r)=(idx,o,x)::fb idx (o+1) r:=by
    cases x <;> first|rfl|exact absurd ⟨_,rfl⟩ hx
   have ed:qR x=some x:=by cases x <;> first|rfl|exact absurd ⟨_,rfl⟩ hx
   rw[e];simp only[cu];cases j with
   | zero=>simp[List.getD,ed]
   | succ j=>
    rw[if_neg (by omega)];have:=A9 (k:=k) (idx:=idx) (xs:=r) (o:=o+1) (j:=j) (by simpa using hj);rw[show o+1+j=o+(j+1) by omega] at this;simpa [List.getD] using this
def La {o j:Nat}(h : ∀ h∈fb idx o xs,h.1*k+h.2.1≠j):cu k (fb idx o xs) j=none:=by
 generalize fb idx o xs=hs at h;induction hs with
 | nil=>rfl
 | cons x r ih=>
  obtain⟨a,b,c⟩:=x;simp only[cu];rw[if_neg (h (a,b,c) (by simp))];exact ih fun h' hm=>h h' (by simp[hm])
def pb (idx off n:Nat):List (Nat×Nat×I)->Prop
 | []=>True
 | h::r=>(h.1=idx/\off<=h.2.1/\h.2.1<off+n)/\pb idx off n r
def F6 {k idx off n j:Nat} : ∀ {hs:List (Nat×Nat×I)},pb idx off n hs->¬ (idx*k+off<=j/\j<idx*k+off+n)->cu k hs j=none
 | [],_,_=>rfl
 | (a,b,x)::r,h,hj=>by
  have h1:a=idx:=h.1.1;have h2:=h.1.2;subst h1;simp only at h2;simp only[cu];rw[if_neg (by omega)];exact F6 h.2 hj
def NQ {hs0:List (Nat×Nat×I)}(h:aT S φ H w k (.own hs0) l cur rest) (hl:l'.length=l.length) {off:Nat}(hcov:pb idx off xs.length hs0)
  (hfit:idx*k+off+xs.length<=l.length) (hsc:lq xs) (hin : ∀ j,j<xs.length->l'.getD (idx*k+off+j) .nil=ij (xs.getD j .junk)/\
   (arr'.getD (idx*k+off+j) undef).oneCell'=true/\V S φ H w (xs.getD j .junk) (arr'.getD (idx*k+off+j) undef))
  (hout : ∀ j,j<l.length->¬ (idx*k+off<=j/\j<idx*k+off+xs.length)->arr'.getD j undef=cur.getD j undef/\l'.getD j .nil=l.getD j .nil) :
  ∃ rest',rest'.Sublist rest/\aT S φ H w k (.own (fb idx off xs)) l' arr' rest':=by
 obtain⟨F,rfl,hw,hF⟩:=h;refine⟨_,?_,fun j=>if idx*k+off<=j/\j<idx*k+off+xs.length then [] else F j,rfl,?_,fun j hj=>?_⟩
 ·rw[hl];exact ED (fun j=>by split <;> simp) _
 ·intro h hm;have:=zi hm;rw[hl];have e:h.1*k=idx*k:=by rw[this.1]
  omega
 ·rw[hl] at hj;by_cases hr:idx*k+off<=j/\j<idx*k+off+xs.length
  ·simp only[if_pos hr];obtain⟨m,rfl⟩ : ∃ m,j=idx*k+off+m:=⟨j-(idx*k+off),by omega⟩;have hm:m<xs.length:=by omega
   obtain⟨p1,p2,p3⟩:=hin m hm;rw[p1,show idx*k+off+m=idx*k+(off+m) by omega,A9 hm,show idx*k+(off+m)=idx*k+off+m by omega];have hs:=zR hsc hm;generalize xs.getD m .junk=x at *
   cases x with
   | d c=>exact uo p3.fz hs
   | _=>exact⟨rfl,rfl,p2,p3⟩
  ·simp only[if_neg hr];obtain⟨e1,e2⟩:=hout j hj hr;rw[e1,e2,La]
   ·have hFj:=hF j hj;rw[F6 hcov hr] at hFj;exact hFj
   ·intro h hm e;have:=zi hm;have e2:h.1*k=idx*k:=by rw[this.1]
    omega
def wZ (T:Nat->Option TI) (H:List R) (t:Nat) (p x:I):Option (Prop×List R):=
 match T t,p with
 | some ti,.ptr i off=>
  match H[i]? with
  | some (.box cs)=>
   match g9 ti x with
   | some (vc,xs)=>some (vc/\off+ti.size<=cs.length,H.set i (.box (setCells cs off xs)))
   | none=>none
  | _=>none
 | some ti,.eptr i g k idx off z=>
  match H[i]? with
  | some (.row g' k' dp l)=>
   match cellsD ti x with
   | some (vc,xs)=>
    match decide (k=1) with
    | true=>some (vc/\g=g'/\k=k'/\idx<l.length/\off=0/\ti.size=1/\(dp.o=true->(l.getD idx z).scalar=true/\(xs.getD 0 .nil).scalar=true),H.set i (.row g' k' dp (l.set idx (xs.getD 0 .nil))))
    | false=>some (vc/\g=g'/\k=k'/\idx<l.length/\off+ti.size<=k/\1<k/\(dp.o=true->(∀ c∈bT (l.getD idx z) off ti.size,c.scalar=true)/\(∀ c∈xs,c.scalar=true)),
      H.set i (.row g' k' dp (l.set idx (.agg (cX (bT (l.getD idx z) 0 k) off xs)))))
   | none=>
    match dp,g9 ti x with
    | .own hs,some (vc,xs)=>
     match decide (k=1) with
     | true=>some (vc/\g=g'/\k=k'/\idx<l.length/\off=0/\ti.size=1/\lq xs/\pb idx off ti.size hs,H.set i (.row g' k' (.own (fb idx off xs)) (l.set idx (ij (xs.getD 0 .junk)))))
     | false=>some (vc/\g=g'/\k=k'/\idx<l.length/\off+ti.size<=k/\1<k/\lq xs/\pb idx off ti.size hs,
       H.set i (.row g' k' (.own (fb idx off xs)) (l.set idx (.agg (cX (bT (l.getD idx z) 0 k) off (xs.map ij))))))
    | _,_=>none
  | _=>none
 | _,_=>none
def O0 (hT:bO P T) (s:aK S φ H w) {t:Nat}{p:I}{vp:Value}(hp:V S φ H w p vp) (hx:V S φ H w x vx) {H':List R}(h:wZ T H t p x=some (vc,H')) (hvc:vc) :
  pg S φ H w ((do Instr.storeAt t vp vx;pure .skip:Sem Next).run P w) .junk H':=by
 unfold wZ at h;split at h
 ·rename_i ti i off hti;have ht:=hT _ _ hti;split at h
  ·rename_i cs hi;split at h
   ·rename_i vc' xs hc;simp only[aD,aH] at h;obtain⟨rfl,rfl⟩:=h;obtain⟨hvc',hfit⟩:=hvc;obtain⟨c1,c2,c3⟩:=uk hx hc hvc';obtain⟨b,arr,ty,hfp,hb,hsz,hv⟩:=s.rel i _ hi;cases hp with
    | ptr hlt hrel h1=>
     obtain⟨b',hfp',rfl⟩:=hrel cs hi;rw[hfp] at hfp';simp at hfp';subst hfp';have hrun:=IL ht hb c2 (o:=off) (by omega) (fun j hj=>(c3 j hj).1);have hl:vx.cells.toList.length=ti.size:=by simp[c2]
     obtain⟨φ',a1,a2,a3⟩:=Hh s hi hfp hb (cs':=setCells cs off xs) (arr':=aG arr off vx.cells.toList) (by
      refine⟨by rw[x8 _ _ _ (by omega),BM];exact hsz,fun j hj=>?_⟩;rw[BM] at hj;rw[tC _ _ _ (by omega),H8 _ _ _ (by omega)];by_cases hin:off<=j/\j<off+xs.length
      ·rw[if_pos hin,if_pos (by omega)];have:=c3 (j-off) (by omega);simpa [List.getD,Array.getD_eq_getD_getElem?] using this
      ·rw[if_neg hin,if_neg (by omega)];exact hv j hj)
     refine⟨undef,_,φ',.inr ⟨?_,rfl⟩,a1,a2,a3,.junk⟩;simp only[Instr.storeAt,Instr.sureAddr,Sem.run_bind,Sem.run_pure,Result.andThen_ok,hrun]
   ·simp at h
  ·simp at h
 ·rename_i ti i g k idx off z hti;have ht:=hT _ _ hti;split at h
  ·rename_i g' k' dp l hi;have key : ∀ {dp':DP},g=g'/\k=k'->idx<l.length->off+ti.size<=k->vx.cells.size=ti.size->(∀ j,j<ti.size->(vx.cells.getD j undef).oneCell'=true)->∀ (y:D),y.cells.length=k->(∀ c∈y.cells,c.one=true)->
     (∀ arr rest,0<k->(∀ x∈l,x.cells.length=k)->l.length*k<=arr.size->aT S φ H w k dp (flat l) arr rest->∃ rest',rest'.Sublist rest/\aT S φ H w k dp' (flat (l.set idx y)) (aG arr (idx*k+off) vx.cells.toList) rest')->
     pg S φ H w ((do Instr.storeAt t vp vx;pure .skip:Sem Next).run P w) .junk (H.set i (.row g' k' dp' (l.set idx y))):=by
    intro dp' hgk hidx hfit c2 hone y hy hy1 hrow;obtain⟨rfl,rfl⟩:=hgk;obtain⟨hk,he,ho,hlim,hrel⟩:=s.rel i _ hi;rcases hrel with⟨_,rfl⟩|⟨b,rest,arr,ty,hfp,hb,hsz,hr⟩
    ·simp at hidx
    ·cases hp with
     | eptr hlt hg hpr h1=>
      obtain⟨b',rest',hfp',rfl⟩:=hpr dp l hi;rw[hfp] at hfp';simp at hfp';obtain⟨rfl,rfl⟩:=hfp';have hm:=jS k hidx;rw[Nat.succ_mul] at hm;have hl:vx.cells.toList.length=ti.size:=by simp[c2]
      have hrun:=IL ht hb c2 (o:=idx*k+off) (by omega) hone;have he' : ∀ x∈l.set idx y,x.cells.length=k:=fun x hx=>by
       rcases ui hx with h|h
       ·exact he x h
       ·rw[h];exact hy
      obtain⟨rest',hsub,hrr⟩:=hrow arr rest hk he hsz hr;obtain⟨φ',a1,a2,a3⟩:=Eb s hi hfp hb (arr':=aG arr (idx*k+off) vx.cells.toList) (l':=l.set idx y) (x8 _ _ _ (by omega)) he' (by
       intro c hc;obtain⟨x,hx,hcx⟩:=nB.1 hc;rcases ui hx with h|h
       ·exact ho c (nB.2 ⟨x,h,hcx⟩)
       ·subst h;exact hy1 c hcx) (by simp) hsub hrr
      refine⟨undef,_,φ',.inr ⟨?_,rfl⟩,a1,a2,a3,.junk⟩;simp only[Instr.storeAt,Instr.sureAddr,Sem.run_bind,Sem.run_pure,Result.andThen_ok,hrun]
   have place : ∀ {arr:Array Value},0<k->(∀ x∈l,x.cells.length=k)->l.length*k<=arr.size->idx<l.length->off+ti.size<=k->vx.cells.size=ti.size->∀ (y:D),y.cells.length=k->∀ (ys:List D),
     (∀ j,j<k->y.cells.getD j .nil=if off<=j/\j<off+ti.size then ys.getD (j-off) .nil else(l.getD idx z).cells.getD j .nil)->
     (flat (l.set idx y)).length=(flat l).length/\idx*k+off+ti.size<=(flat l).length/\
     (∀ j,j<ti.size->(flat (l.set idx y)).getD (idx*k+off+j) .nil=ys.getD j .nil/\(aG arr (idx*k+off) vx.cells.toList).getD (idx*k+off+j) undef=vx.cells.getD j undef/\
      (flat l).getD (idx*k+off+j) .nil=(l.getD idx z).cells.getD (off+j) .nil)/\
     (∀ j,j<(flat l).length->¬ (idx*k+off<=j/\j<idx*k+off+ti.size)->(aG arr (idx*k+off) vx.cells.toList).getD j undef=arr.getD j undef/\(flat (l.set idx y)).getD j .nil=(flat l).getD j .nil):=by
    intro arr hk he hsz hidx hfit c2 y hy ys hcells;have hm:=jS k hidx;rw[Nat.succ_mul] at hm;have hl:vx.cells.toList.length=ti.size:=by simp[c2]
    have hfl:=ao he;have he' : ∀ x∈l.set idx y,x.cells.length=k:=fun x hx=>by
     rcases ui hx with h|h
     ·exact he x h
     ·rw[h];exact hy
    have hfl':=ao he';simp only[fB] at hfl';have spot : ∀ j,j<k->(idx*k+j)/k=idx/\(idx*k+j)%k=j:=fun j hj=>by
     rw[oP,Nat.mul_add_div hk,Nat.mul_add_mod,Nat.div_eq_of_lt hj,Nat.mod_eq_of_lt hj];exact⟨rfl,rfl⟩
    refine⟨by rw[hfl,hfl'],by omega,fun j hj=>?_,fun j hj hn=>?_⟩
    ·obtain⟨s1,s2⟩:=spot (off+j) (by omega);rw[<-jy] at s1 s2;refine⟨?_,?_,?_⟩
     ·rw[B8 he hk hidx hy _ (by omega),if_pos s1,s2,hcells _ (by omega),if_pos (by omega)];congr 1;omega
     ·rw[tC _ _ _ (by omega),if_pos (by omega)];rw[show idx*k+off+j-(idx*k+off)=j by omega];simp[List.getD,Array.getD_eq_getD_getElem?]
     ·have:=nn he hidx (j:=off+j) (by omega) z;rw[<-jy] at this;exact this
    ·rw[tC _ _ _ (by omega),if_neg (by omega)];refine⟨rfl,?_⟩;rw[hfl] at hj;rw[B8 he hk hidx hy j hj];split
     ·rename_i hq;have hrm:j%k<k:=Nat.mod_lt _ hk;have hj':(j/k)*k+j%k=j:=by rw[oP];exact Nat.div_add_mod j k
      rw[hq] at hj';rw[hcells _ hrm,if_neg (by omega)];have:=nn he hidx hrm z;rw[hj'] at this;exact this.symm
     ·rfl
   have elem:idx<l.length->k=k'->off+ti.size<=k->∀ (ys:List D),ys.length=ti.size->(∀ c∈ys,c.one=true)->
     (∀ c∈(D.agg (cX (bT (l.getD idx z) 0 k) off ys)).cells,c.one=true)/\(D.agg (cX (bT (l.getD idx z) 0 k) off ys)).cells.length=k/\
     ∀ j,j<k->(D.agg (cX (bT (l.getD idx z) 0 k) off ys)).cells.getD j .nil=if off<=j/\j<off+ti.size then ys.getD (j-off) .nil else(l.getD idx z).cells.getD j .nil:=by
    rintro hidx rfl hfit ys c1 h1;obtain⟨hk,he,ho,hlim,hrel⟩:=s.rel i _ hi;have hmemE:l.getD idx z∈l:=av hidx;have hcl:=he _ hmemE;have hcf:bT (l.getD idx z) 0 k=(l.getD idx z).cells:=by
     apply sq (by rw[iw,hcl]);intro m h1 h2;rw[ko _ _ _ .nil,ko _ _ _ .nil,mN _ _ _ _ (by omega),lc,sP _ _ (by omega)]
    refine⟨?_,by simp only[D.cells,D1,iw],?_⟩
    ·intro c hc;obtain⟨m,hm,rfl⟩:=fM hc;simp only[D.cells] at hm ⊢;rw[D1,iw] at hm;rw[ko _ _ _ .nil,Ed _ _ _ (by rw[iw];omega)];split
     ·exact h1 _ (av (by omega))
     ·rw[hcf];exact ho _ (nB.2 ⟨_,hmemE,av (by omega)⟩)
    ·intro j hj;show(cX (bT (l.getD idx z) 0 k) off ys).getD j .nil=_
     rw[Ed _ _ _ (by rw[iw];omega),c1,hcf]
   have one1 : ∀ {y:D},y.one=true->y.cells=[y]:=fun {y} hy=>by cases y <;> first|rfl|simp[D.one] at hy
   split at h
   ·rename_i vc' xs hc;have dR:vc'->k=k'->idx<l.length->off+ti.size<=k->∀ (y:D),y.cells.length=k->
      (∀ j,j<k->y.cells.getD j .nil=if off<=j/\j<off+ti.size then xs.getD (j-off) .nil else(l.getD idx z).cells.getD j .nil)->
      (dp.o=true->(∀ c∈bT (l.getD idx z) off ti.size,c.scalar=true)/\(∀ c∈xs,c.scalar=true))->
      ∀ arr rest,0<k->(∀ x∈l,x.cells.length=k)->l.length*k<=arr.size->aT S φ H w k dp (flat l) arr rest->∃ rest',rest'.Sublist rest/\aT S φ H w k dp (flat (l.set idx y)) (aG arr (idx*k+off) vx.cells.toList) rest':=by
     intro hvc' hkk hidx hfit y hy hcells hss arr rest hk he hsz hr;obtain⟨c1,c2,c3⟩:=Ce hx hc hvc';obtain⟨p1,p2,p3,p4⟩:=place hk he hsz hidx hfit c2 y hy xs hcells;refine⟨rest,List.Sublist.refl _,D6 hr p1 fun j hj=>?_⟩;by_cases hin:idx*k+off<=j/\j<idx*k+off+ti.size
     ·obtain⟨m,rfl⟩ : ∃ m,j=idx*k+off+m:=⟨j-(idx*k+off),by omega⟩;obtain⟨r1,r2,r3⟩:=p3 m (by omega);rw[r1,r2];refine .inr ⟨fun hd=>⟨?_,(hss hd).2 _ (av (by omega))⟩,(c3 m (by omega)).2⟩;rw[r3];have:=mN (l.getD idx z) off ti.size m (by omega);rw[sP _ _ (by rw[he _ (av hidx)];omega)] at this;rw[<-this];exact(hss hd).1 _ (av (by rw[iw];omega))
     ·exact .inl (p4 j hj hin)
    split at h
    ·rename_i hk1;simp only[aD,aH] at h;obtain⟨rfl,rfl⟩:=h;obtain⟨hvc',rfl,rfl,hidx,rfl,hts,hs⟩:=hvc;have hk1:k=1:=by simpa using hk1
     subst hk1;obtain⟨c1,c2,c3⟩:=Ce hx hc hvc';have hone1:(xs.getD 0 .nil).one=true:=(c3 0 (by omega)).1;have hcy:=one1 hone1;have hsc : ∀ {y:D},y.scalar=true->y.cells=[y]:=fun {y} hy=>by cases y <;> first|rfl|simp[D.scalar] at hy
     have hx1:xs=[xs.getD 0 .nil]:=by
      match xs,c1 with
      | [a],_=>rfl
      | [],c1=>simp at c1;omega
      | _::_::_,c1=>simp at c1;omega
     have hcl:(xs.getD 0 .nil).cells.length=1:=by rw[hcy];rfl
     refine key ⟨rfl,rfl⟩ hidx (by omega) c2 (fun j hj=>(c3 j hj).2.one (c3 j hj).1) _ hcl (by rw[hcy];intro c hc;simp only[mv] at hc;subst hc;exact hone1)
      (dR hvc' rfl hidx (by omega) _ hcl (fun j hj=>?_) (fun hd=>⟨?_,?_⟩))
     ·obtain rfl:j=0:=by omega
      rw[if_pos (by omega),hcy];rfl
     ·rw[hts];simp only[bT,mv];rintro c rfl;have hsd:=(hs hd).1;rw[show(l.getD idx z).cellAt 0=l.getD idx z from by rw[sP _ _ (by rw[hsc hsd];simp),hsc hsd];rfl];exact hsd
     ·intro c hc;rw[hx1] at hc;simp only[mv] at hc;rw[hc];exact(hs hd).2
    ·rename_i hk1;simp only[aD,aH] at h;obtain⟨rfl,rfl⟩:=h;obtain⟨hvc',rfl,rfl,hidx,hfit,hk2,hss⟩:=hvc;obtain⟨c1,c2,c3⟩:=Ce hx hc hvc';obtain⟨q1,q2,q3⟩:=elem hidx rfl hfit xs c1 (by
      intro c hc;obtain⟨m,hm,rfl⟩:=fM hc;rw[ko _ _ _ .nil];exact(c3 m (by omega)).1)
     exact key ⟨rfl,rfl⟩ hidx hfit c2 (fun j hj=>(c3 j hj).2.one (c3 j hj).1) _ q2 q1 (dR hvc' rfl hidx hfit _ q2 q3 hss)
   ·split at h
    ·rename_i hs vc' xs hc;have hol:vc'->k=k'->idx<l.length->off+ti.size<=k->lq xs->pb idx off ti.size hs->∀ (y:D),y.cells.length=k->
       (∀ j,j<k->y.cells.getD j .nil=if off<=j/\j<off+ti.size then(xs.map ij).getD (j-off) .nil else(l.getD idx z).cells.getD j .nil)->
       ∀ arr rest,0<k->(∀ x∈l,x.cells.length=k)->l.length*k<=arr.size->aT S φ H w k (.own hs) (flat l) arr rest->
        ∃ rest',rest'.Sublist rest/\aT S φ H w k (.own (fb idx off xs)) (flat (l.set idx y)) (aG arr (idx*k+off) vx.cells.toList) rest':=by
      intro hvc' hkk hidx hfit hsc hcov y hy hcells arr rest hk he hsz hr;obtain⟨c1,c2,c3⟩:=uk hx hc hvc';obtain⟨p1,p2,p3,p4⟩:=place hk he hsz hidx hfit c2 y hy _ hcells;refine NQ hr p1 (by rw[c1];exact hcov) (by rw[c1];exact p2) hsc (fun j hj=>?_) (fun j hj hn=>p4 j hj (by rw[c1] at hn;exact hn));obtain⟨r1,r2,r3⟩:=p3 j (by omega);rw[r1,r2];refine⟨?_,c3 j (by omega)⟩;simp[List.getD,hj]
     have plc:vc'->lq xs->(∀ c∈xs.map ij,c.one=true):=by
      intro hvc' hsc c hc';obtain⟨c1,c2,c3⟩:=uk hx hc hvc';obtain⟨x,hx',rfl⟩:=List.mem_map.1 hc';obtain⟨m,hm,rfl⟩:=fM hx';have:=zR hsc hm;rw[<-ko _ _ hm] at this;generalize xs[m]=x at this;cases x with
      | d c=>simp only[uz] at this;cases c <;> first|rfl|simp[D.scalar] at this
      | _=>rfl
     split at h
     ·rename_i hk1;simp only[aD,aH] at h;obtain⟨rfl,rfl⟩:=h;obtain⟨hvc',rfl,rfl,hidx,rfl,hts,hsc,hcov⟩:=hvc;have hk1:k=1:=by simpa using hk1
      subst hk1;obtain⟨c1,c2,c3⟩:=uk hx hc hvc';have hp1:=plc hvc' hsc;have hone1:(ij (xs.getD 0 .junk)).one=true:=hp1 _ (List.mem_map.2 ⟨_,av (by omega),rfl⟩);have hcy:=one1 hone1;have hcl:(ij (xs.getD 0 .junk)).cells.length=1:=by rw[hcy];rfl
      refine key ⟨rfl,rfl⟩ hidx (by omega) c2 (fun j hj=>(c3 j hj).1) _ hcl (by rw[hcy];intro c hc;simp only[mv] at hc;subst hc;exact hone1)
       (hol hvc' rfl hidx (by omega) hsc hcov _ hcl (fun j hj=>?_))
      obtain rfl:j=0:=by omega
      rw[if_pos (by omega),hcy];have hx0:0<xs.length:=by omega
      simp[List.getD,hx0]
     ·rename_i hk1;simp only[aD,aH] at h;obtain⟨rfl,rfl⟩:=h;obtain⟨hvc',rfl,rfl,hidx,hfit,hk2,hsc,hcov⟩:=hvc;obtain⟨c1,c2,c3⟩:=uk hx hc hvc';obtain⟨q1,q2,q3⟩:=elem hidx rfl hfit (xs.map ij) (by simp[c1]) (plc hvc' hsc);exact key ⟨rfl,rfl⟩ hidx hfit c2 (fun j hj=>(c3 j hj).1) _ q2 q1 (hol hvc' rfl hidx hfit hsc hcov _ q2 q3)
    ·simp at h
  ·simp at h
 ·simp at h
end Go.VL
