/- Contracts, plain definitions and lemmas. Conditions: none; lemmas. -/
import Derived.Test.YteikeianenfhaaaGreatC96
import Derived.Test.YteikeianenfhaaaGreatC61
import Derived.Test.YteikeianenfhaaaGreatC93
set_option maxRecDepth 20000
set_option linter.unusedVariables false
set_option linter.unusedSimpArgs false
set_option maxHeartbeats 2000000
set_option linter.defProp false
namespace Go.Proofs
open Go Go.VL Tryz
variable {c:ac}{N n:Nat}{l:List ZA}{α:Type}{x:ZA}
def ne (c:ac) (N:Nat) (l:List ZA):ZD:=iZ c l++List.replicate (N-l.length) .nil
def je (N:Nat) (l:ZA):ZA:=l++List.replicate (N-l.length) 0
def Dr (h:c.first.toNat<=l.length) (hN:l.length<=N):(ne c N l).length=N:=by
 simp[ne,vL h];omega
def DM {l:ZA}(hN:l.length<=N):(je N l).length=N:=by
 simp[je];omega
def O9 {l:ZA}{v:Nat}(h:v<l.length):(je N l).getD v 0=l.getD v 0:=by
 simp[je,List.getD,List.getElem?_append_left h]
def Hd {x : α}(h:0<n):List.replicate n x=x::List.replicate (n-1) x:=by
 obtain⟨m,rfl⟩ : ∃ m,n=m+1:=⟨n-1,by omega⟩;rfl
def Mt {l r:List α}{x y : α}(h:n=l.length):(l++x::r).set n y=l++y::r:=by
 subst h;simp
def EB (h:c.first.toNat<=l.length) (hN:l.length<N):(ne c N l).set l.length (aj x)=ne c N (l ++ [x]):=by
 unfold ne;rw[Hd (show 0<N-l.length by omega),Mt (by rw[vL h]),FA h,fA];simp[show N-(l.length+1)=N-l.length-1 by omega]
def PS (h:c.first.toNat<=l.length) (hN:l.length<N) {y:ZA}:(ne c N (l ++ [x])).set l.length (aj y)=ne c N (l ++ [y]):=by
 rw[<-EB h hN,<-EB h hN,List.set_set]
def RN (h:c.first.toNat<=l.length) {z:D}:(ne c N (l ++ [x])).getD l.length z=aj x:=by
 unfold ne;rw[FA h,fA,List.getD_eq_getElem?_getD,List.getElem?_append_right (by rw[vL h];omega),vL h];simp
def Ph {l:ZA}(hN:l.length<N) {x:Int}:(je N l).set l.length x=je N (l ++ [x]):=by
 unfold je;rw[Hd (show 0<N-l.length by omega),Mt rfl,fA];simp[show N-(l.length+1)=N-l.length-1 by omega]
def Tryz.nz (c:ac) (hc:c.Valid):aA prog 102 [.ptr 0 0] [.box [.d (dI c.inputs),.d (aj c.next),.d (aY c.gates),.d (aj c.outs)]] (fun r H'=>r=.d (.tup [.lst 1 (iZ c (cY c)),aj (tZ c)])/\H'=[.box [.d (dI c.inputs),.d (aj c.next),.d (aY c.gates),.d (aj c.outs)]]):=by
 have hf:=hc.al;have hi0:=hc.i0;have hi1:=hc.i1;have hfst:=bi c (by omega);have hcu:=yl c hc;have hbd:=GP c (iF c);have hcl:=lS (c:=c) hf.1 c.gates.length;have hco:=qv hc c.gates.length (aD _);have hlg:=hc.lg;rw[<-iF] at hcl hco;refine i9 rfl 1000 func102 rfl rfl ntmps102 (by simp) ?_;simp only[go_sem,seval]
 repeat' first|simp (disch:=omega) only[ag,cx,dJ];try simp only[go_sem,seval]|(with_reducible first|apply aa|intro)|(refine az hfst ?_;simp only[go_sem,seval])|(refine kN hcu ?_;simp only[go_sem,seval])|exact ah|(try rw[ae]);omega
 have hgate : ∀ i,i<c.gates.length->∃ x r,(iF c).getD (c.first.toNat+i) []=x::r/\r≠[]:=fun i hi=>by
  have h1:=Gf hc hi;rw[iF,wE hf.1 hi];cases hj:nq ((bC c i).getD (cV c i/2).toNat []) ((bC c i).getD (cU c i/2).toNat []) with
  | nil=>rw[hj] at h1;simp at h1
  | cons x r=>exact⟨x,r ++ [[c.first+(i:Int)]],rfl,by simp⟩
 have hleaf : ∀ i,i<c.gates.length->∀ cut∈((iF c).getD (c.first.toNat+i) []).dropLast,∀ z∈cut,0<=z/\z<c.first+(i:Int):=fun i hi cut hcut z hz=>by
  rw[iF,wE hf.1 hi,List.dropLast_concat] at hcut;have hl:=lS (c:=c) hf.1 i;obtain⟨g1,g2⟩:=hc.g i hi;have ha:(cV c i/2).toNat<c.first.toNat+i:=by unfold cV;unfold bm at g1;omega
  have hb:(cU c i/2).toNat<c.first.toNat+i:=by unfold cU;unfold bm at g2;omega
  obtain⟨a1,-⟩:=qv hc i (by omega) _ (by rw[hl];exact ha);obtain⟨b1,-⟩:=qv hc i (by omega) _ (by rw[hl];exact hb);refine AM (P:=fun cut=>∀ z∈cut,0<=z/\z<c.first+(i:Int)) (fun x hx y hy hle z hz=>?_) cut hcut z hz;rcases(pQ _ _).1 hz with h2|h2
  ·have:=(a1 x hx).rng z h2;omega
  ·have:=(b1 y hy).rng z h2;omega
 have efin:cY c=(cc c (iF c) c.gates.length).1/\tZ c=(cc c (iF c) c.gates.length).2:=⟨rfl,rfl⟩;rw[efin.1,efin.2];generalize iF c=cuts at *
 have hbl:=wZ c cuts;refine nl (σ:=Nat) (fun i=>[(7,.d (dI (c.first+(i:Int)))),(6,.sl 2 0 1 0 cuts.length),(5,.sl 1 0 1 0 cuts.length),(4,.d (wn cuts)),(0,.ptr 0 0)])
  (fun i=>[.box [.d (dI c.inputs),.d (aj c.next),.d (aY c.gates),.d (aj c.outs)],.row 0 1 false (ne c cuts.length (cc c cuts i).1),.row 0 1 true ((je cuts.length (cc c cuts i).2).map (D.int .i64))])
  (fun i=>i<=c.gates.length) (fun i=>c.gates.length-i) [] [] 1000 1000 ?_ ?_
 ·simp only[go_sem,seval];refine⟨0,by omega,by omega,?_,?_⟩
  ·simp[cc,ne,iZ,hcl]
  ·simp[cc,je,hcl]
 ·intro i hi;have hbli:=hbl i;by_cases hlt:i<c.gates.length
  ·have hsu:cc c cuts (i+1)=((cc c cuts i).1 ++ [gU (cc c cuts i).2 (cuts.getD (c.first.toNat+i) []).dropLast],(cc c cuts i).2 ++ [1+mc (cc c cuts i).2 (gU (cc c cuts i).2 (cuts.getD (c.first.toNat+i) []).dropLast)]):=rfl;have hlf:=hleaf i hlt;obtain⟨x,r,hxr,hr0⟩:=hgate i hlt;have hle:=(hco (c.first.toNat+i) (by omega)).2.2.2;have hM3 : ∀ z∈(cuts.getD (c.first.toNat+i) []).dropLast,z.length<=3:=fun z hz=>((hco (c.first.toNat+i) (by omega)).1 z (List.dropLast_subset _ hz)).len
   have hbdi:=hbd i;generalize hL:cuts.getD (c.first.toNat+i) []=L at *
   generalize (cc c cuts i).2=A at *
   generalize (cc c cuts i).1=B at *
   have eL:(c.first+(i:Int)).toNat=c.first.toNat+i:=by omega
   have hL2:2<=L.length:=by
    rw[hxr];cases r with
    | nil=>exact absurd rfl hr0
    | cons y r=>simp
   have eM:List.take ((L.length:Int)-1).toNat (L.map fun x=>aj x)=L.dropLast.map fun x=>aj x:=by
    rw[List.dropLast_eq_take,List.map_take,show((L.length:Int)-1).toNat=L.length-1 by omega]
   have hML:L.dropLast.length=L.length-1:=by simp
   simp only[go_sem,seval,eL,hL,eM]
   repeat' first|simp (disch:=omega) only[ag,cx,dJ];try simp only[go_sem,seval,eL,hL,eM]|(with_reducible first|apply aa|intro)|exact ah|(try rw[ae]);omega
   generalize L.dropLast=M at *
   have hBL:B.length=c.first.toNat+i:=hbli.1
   have hAL:A.length=c.first.toNat+i:=hbli.2
   have harb:=fun cut (hcut:cut∈M)=>AS (arr:=A) (cut:=cut) (m:=i) (fun z _=>(hbdi z.toNat).2) (by omega)
   refine nl (σ:=Nat) (fun j=>[(44,.d (dI j)),(43,.d (dI M.length)),(42,.d (cg M)),(8,.d (dI (if j=0 then -1 else mc A (gU A (M.take j))))),(7,.d (dI (c.first+(i:Int)))),(6,.sl 2 0 1 0 cuts.length),(5,.sl 1 0 1 0 cuts.length),(4,.d (wn cuts)),(0,.ptr 0 0)])
    (fun j=>[.box [.d (dI c.inputs),.d (aj c.next),.d (aY c.gates),.d (aj c.outs)],.row 0 1 false (if j=0 then ne c cuts.length B else ne c cuts.length (B ++ [gU A (M.take j)])),.row 0 1 true ((je cuts.length A).map (D.int .i64))])
    (fun j=>j<=M.length) (fun j=>M.length-j) [] [] 1000 1000 ?_ ?_
   ·simp only[go_sem,seval];refine⟨0,by omega,?_⟩;simp
   ·intro j hj;by_cases hjt:j<M.length
    ·have hxm:=aO hjt (z:=([]:ZA));have hlx:=hlf _ hxm;have hx3:=hM3 _ hxm;have hts:M.take (j+1)=M.take j ++ [M.getD j []]:=by simpa using nm (f:=fun x:ZA=>x) [] hjt
     generalize hX:M.getD j []=X at *
     simp only[go_sem,seval,eL,hL,hX]
     repeat' first|simp (disch:=omega) only[ag,cx,dJ];try simp only[go_sem,seval,eL,hL,hX]|(with_reducible first|apply aa|intro)|exact ah|(try rw[ae]);omega
     refine nl (σ:=Nat) (fun k=>[(50,.d (dI k)),(49,.d (dI X.length)),(48,.d (aj X)),(11,.d (dI (mc A (X.take k)))),(10,.d (aj X)),(44,.d (dI j)),(43,.d (dI M.length)),(42,.d (cg M)),(8,.d (dI (if j=0 then -1 else mc A (gU A (M.take j))))),(7,.d (dI (c.first+(i:Int)))),(6,.sl 2 0 1 0 cuts.length),(5,.sl 1 0 1 0 cuts.length),(4,.d (wn cuts)),(0,.ptr 0 0)])
      (fun k=>[.box [.d (dI c.inputs),.d (aj c.next),.d (aY c.gates),.d (aj c.outs)],.row 0 1 false (if j=0 then ne c cuts.length B else ne c cuts.length (B ++ [gU A (M.take j)])),.row 0 1 true ((je cuts.length A).map (D.int .i64))])
      (fun k=>k<=X.length) (fun k=>X.length-k) [] [] 1000 1000 ?_ ?_
     ·simp only[go_sem,seval];refine⟨0,by omega,?_⟩;simp[mc]
     ·intro k hk;by_cases hkt:k<X.length
      ·have e1:mc A (X.take (k+1))=max (mc A (X.take k)) (A.getD (X.getD k 0).toNat 0):=iH (f:=fun(t v:Int)=>max t (A.getD v.toNat 0)) (b:=0) (0:Int) hkt;have hxk:=hlx _ (aO hkt:X.getD k 0∈X);have hxr2:=hbdi (X.getD k 0).toNat;have hag:=O9 (N:=cuts.length) (l:=A) (v:=(X.getD k 0).toNat) (by omega);have hal:=DM (N:=cuts.length) (l:=A) (by omega);have hfb:=AS (arr:=A) (cut:=X.take k) (m:=i) (fun z _=>(hbdi z.toNat).2) (by omega);simp only[go_sem,seval,eL,hL,hX]
       repeat' first|simp (disch:=omega) only[ag,cx,dJ];try simp only[go_sem,seval,eL,hL,hX]|(with_reducible first|apply aa|intro)|exact ah|(try rw[ae]);omega
       ·exact⟨k+1,by omega,by omega,rfl,by rw[hag,<-e1]⟩
      ·obtain rfl:k=X.length:=by omega
       rw[ig];have hfb:=AS (arr:=A) (cut:=X) (m:=i) (fun z _=>(hbdi z.toNat).2) (by omega);by_cases hj0:j=0
       ·subst hj0;rw[if_pos rfl,if_pos rfl];simp only[go_sem,seval,eL,hL,hX]
        repeat' first|simp (disch:=omega) only[ag,cx,dJ];try simp only[go_sem,seval,eL,hL,hX]|(with_reducible first|apply aa|intro)|exact ah|(try rw[ae]);omega
        ·rw[Dr (by omega) (by omega)];omega
        ·have h1:gU A (M.take 1)=X:=by
          have:M.take 1=[X]:=by simpa using hts
          rw[this];rfl
         refine⟨1,by omega,by omega,⟨rfl,?_⟩,?_⟩
         ·rw[if_neg (by decide),h1]
         ·rw[if_neg (by decide),h1,<-hBL];exact EB (by omega) (by omega)
       ·rw[if_neg hj0,if_neg hj0];have hbm:gU A (M.take j)∈M:=kG (Gd (by simp;omega));have hsn:=LG (arr:=A) (l:=M.take j) (y:=X) (by simp;omega);rw[<-hts] at hsn;have hbb:=harb _ hbm;have hbg:=fun z=>RN (c:=c) (N:=cuts.length) (l:=B) (x:=gU A (M.take j)) (z:=z) (by omega)
        rw[hBL] at hbg;generalize gU A (M.take j)=Y at *
        simp only[go_sem,seval,eL,hL,hX,hbg]
        repeat' first|simp (disch:=omega) only[ag,cx,dJ];try simp only[go_sem,seval,eL,hL,hX,hbg]|(with_reducible first|apply aa|intro)|exact ah|(try rw[ae]);omega
        ·rw[Dr (by simp;omega) (by simp;omega)];omega
        ·rw[Dr (by simp;omega) (by simp;omega)];omega
        ·refine⟨j+1,by omega,by omega,⟨rfl,?_⟩,?_⟩
         ·rw[if_neg (by omega),hsn,if_pos (show kU _ _ _ by unfold kU;omega)]
         ·rw[if_neg (by omega),hsn,if_pos (show kU _ _ _ by unfold kU;omega),<-hBL];exact PS (by omega) (by omega)
        ·refine⟨j+1,by omega,by omega,⟨rfl,?_⟩,?_⟩
         ·rw[if_neg (by omega),hsn,if_neg (show ¬ kU _ _ _ by unfold kU;omega)]
         ·rw[if_neg (by omega),hsn,if_neg (show ¬ kU _ _ _ by unfold kU;omega)]
    ·obtain rfl:j=M.length:=by omega
     rw[ig,if_neg (by omega),if_neg (by omega)];simp only[go_sem,seval,eL,hL];have hfb:=harb _ (Gd (arr:=A) (l:=M) (by omega))
     repeat' first|simp (disch:=omega) only[ag,cx,dJ];try simp only[go_sem,seval,eL,hL]|(with_reducible first|apply aa|intro)|exact ah|(try rw[ae]);omega
     ·rw[DM (by omega)];omega
     ·refine⟨i+1,by omega,by omega,by omega,?_,?_⟩
      ·rw[hsu]
      ·rw[hsu,Int.add_comm 1,<-hAL];exact Ph (by omega)
  ·obtain rfl:i=c.gates.length:=by omega
   simp only[go_sem,seval]
   repeat' first|simp (disch:=omega) only[ag,cx,dJ];try simp only[go_sem,seval]|(with_reducible first|apply aa|intro)|exact ah|(try rw[ae]);omega
   refine sF (by simp) (by simp only[go_sem,seval]) ?_;simp only[go_sem,seval]
   repeat' first|simp (disch:=omega) only[ag,cx,dJ];try simp only[go_sem,seval]|(with_reducible first|apply aa|intro)|exact ah|(try rw[ae]);omega
   rw[ag (by rw[Dr (by omega) (by omega)];omega),ag (by rw[DM (by omega)];omega)];simp[ne,je,hcl,hbli.1,hbli.2]
end Go.Proofs

namespace Go.VL
variable {i v:Nat}{L:ZA}
def valOf (c:ac) (st ins:ZB) (v:Int):Bool:=(values c st ins).getD v.toNat false
def zf {c:ac}{st ins:ZB}{n:Nat}(h:i<=n) (hv:v<1+ins.length+st.length+i):(iR c st ins n).getD v false=(iR c st ins i).getD v false:=by
 obtain⟨k,rfl⟩ : ∃ k,n=i+k:=⟨n-i,by omega⟩;obtain⟨r,hr⟩:=MU c st ins (i:=i) k;rw[hr,cW (by rw[A6];exact hv)]
section vals
variable {c:ac}{st ins:ZB}
def Ff:valOf c st ins 0=false:=by
 rw[valOf,values,zf (i:=0) (by omega) (by simp;omega)];rfl
def xw (h2:(ins.length:Int)=c.inputs) {v:Int}(h0:1<=v) (hv:v<=c.inputs):valOf c st ins v=ins.getD (v-1).toNat false:=by
 rw[valOf,values,zf (i:=0) (by omega) (by omega),Fq];obtain⟨m,hm⟩ : ∃ m:Nat,v=(m:Int)+1:=⟨(v-1).toNat,by omega⟩;subst hm;rw[show((m:Int)+1).toNat=m+1 by omega,show((m:Int)+1-1).toNat=m by omega];show(ins++st).getD m false=_
 exact cW (by omega)
def RJ (h1:st.length=c.next.length) (h2:(ins.length:Int)=c.inputs) (hi:i<c.next.length):valOf c st ins (c.inputs+1+(i:Int))=st.getD i false:=by
 rw[valOf,values,zf (i:=0) (by omega) (by omega),Fq];rw[show(c.inputs+1+(i:Int)).toNat=(ins.length+i)+1 by omega];show(ins++st).getD (ins.length+i) false=_
 simp[List.getD,List.getElem?_append_right]
def Pg (hc:c.Valid) (h1:st.length=c.next.length) (h2:(ins.length:Int)=c.inputs) (hi:i<c.gates.length) :
  valOf c st ins (c.first+(i:Int))=((valOf c st ins (cV c i/2) != decide (cV c i%2=1))&&(valOf c st ins (cU c i/2) != decide (cU c i%2=1))):=by
 have hf:c.first=1+(ins.length:Int)+st.length:=by rw[ac.first];omega
 obtain⟨g1,g2⟩:=hc.g i hi;have q1:valOf c st ins (cV c i/2)=(iR c st ins i).getD (cV c i/2).toNat false:=by
  unfold bm at g1;rw[valOf,values,zf (i:=i) (by omega) (by unfold cV;omega)]
 have q2:valOf c st ins (cU c i/2)=(iR c st ins i).getD (cU c i/2).toNat false:=by
  unfold bm at g2;rw[valOf,values,zf (i:=i) (by omega) (by unfold cU;omega)]
 rw[q1,q2,valOf,values,zf (i:=i+1) (by omega) (by omega),iR];have e:(c.first+(i:Int)).toNat=(iR c st ins i).length:=by rw[A6];omega
 rw[e,show ∀ (l:ZB) (b:Bool),(l ++ [b]).getD l.length false=b from fun l b=>by simp[List.getD]];rfl
def lC (c:ac) (st ins:ZB) (L:ZA) (x:Nat):Prop:=∀ z∈L,x.testBit (L.idxOf z)=valOf c st ins z
def KX {x:Nat}(he:lC c st ins L x) {v:Int}{d:Bool}(hd:d=valOf c st ins v):n9 L x v d=valOf c st ins v:=by
 unfold n9;split
 ·exact he v (by assumption)
 ·exact hd
def td (hc:c.Valid) (h1:st.length=c.next.length) (h2:(ins.length:Int)=c.inputs) : ∀ i,i<=c.gates.length->∀ v,v<(bC c i).length->∀ cut∈(bC c i).getD v [],∀ (L:ZA) (x:Nat),(∀ z∈cut,z∈L)->lC c st ins L x->gA c L x (v:Int)=valOf c st ins (v:Int):=by
 have hf:=hc.al;intro i;induction i with
 | zero=>
  intro _ v hv cut hcut L x hL he;rw[lS hf.1] at hv;rw[BT (by omega) (by omega)];cases v with
  | zero=>
   refine KX he ?_;have:=Ff (c:=c) (st:=st) (ins:=ins);exact this.symm
  | succ v=>
   have e:(bC c 0).getD (v+1) []=[[(v:Int)+1]]:=by
    simp[bC,List.getD,show v<c.first.toNat-1 by omega]
   rw[e] at hcut;obtain rfl:cut=[(v:Int)+1]:=by simpa using hcut
   have hm:=hL ((v:Int)+1) (by simp);unfold n9;rw[if_pos (by rw[show((v+1:Nat):Int)=(v:Int)+1 by omega];exact hm)];exact he _ (by rw[show((v+1:Nat):Int)=(v:Int)+1 by omega];exact hm)
 | succ i ih=>
  intro hi v hv cut hcut L x hL he;have hl:=lS (c:=c) hf.1 i;rw[lS hf.1] at hv;by_cases h:v<c.first.toNat+i
  ·have e:(bC c (i+1)).getD v []=(bC c i).getD v []:=by rw[bC];exact cW (by omega)
   rw[e] at hcut;exact ih (by omega) v (by omega) cut hcut L x hL he
  ·have hv2:v=c.first.toNat+i:=by omega
   subst hv2;rw[wE hf.1 (by omega:i<i+1)] at hcut;obtain⟨g1,g2⟩:=hc.g i (by omega);have ha:0<=cV c i/2/\(cV c i/2).toNat<c.first.toNat+i:=by unfold cV;unfold bm at g1;omega
   have hb:0<=cU c i/2/\(cU c i/2).toNat<c.first.toNat+i:=by unfold cU;unfold bm at g2;omega
   have ev:((c.first.toNat+i:Nat):Int)=c.first+(i:Int):=by omega
   rw[ev,CO hc (by omega)];rcases List.mem_append.1 hcut with h3|h3
   ·obtain⟨xa,ya,hxa,hya,rfl⟩ : ∃ xa ya,xa∈(bC c i).getD (cV c i/2).toNat []/\ya∈(bC c i).getD (cU c i/2).toNat []/\cut=cG xa ya:=
     AM (P:=fun cut=>∃ xa ya,xa∈(bC c i).getD (cV c i/2).toNat []/\ya∈(bC c i).getD (cU c i/2).toNat []/\cut=cG xa ya) (fun x hx y hy _=>⟨x,y,hx,hy,rfl⟩) cut h3
    have ia:=ih (by omega) _ (by rw[hl];exact ha.2) xa hxa L x (fun z hz=>hL z ((pQ _ _).2 (.inl hz))) he;have ib:=ih (by omega) _ (by rw[hl];exact hb.2) ya hya L x (fun z hz=>hL z ((pQ _ _).2 (.inr hz))) he;rw[Int.toNat_of_nonneg ha.1] at ia;rw[Int.toNat_of_nonneg hb.1] at ib;refine KX he ?_;rw[ia,ib,Pg hc h1 h2 (by omega)]
   ·obtain rfl:cut=[c.first+(i:Int)]:=by simpa using h3
    have hm:=hL (c.first+(i:Int)) (by simp);unfold n9;rw[if_pos hm];exact he _ hm
def dL (f:Int->Bool):ZA->Nat
 | []=>0
 | z::r=>(if f z then 1 else 0)+2*dL f r
def yY {f:Int->Bool} : ∀ (L:ZA),dL f L<2 ^ L.length
 | []=>by simp[dL]
 | z::r=>by
  have:=yY (f:=f) r;rw[dL,eD,Nat.pow_succ];split <;> omega
def Hb {f:Int->Bool} : ∀ (L:ZA) (k:Nat),k<L.length->(dL f L).testBit k=f (L.getD k 0)
 | [],k,h=>by simp at h
 | z::r,0,_=>by
  rw[dL,Nat.testBit_zero];cases hz:f z <;> simp[hz] <;> omega
 | z::r,k+1,h=>by
  rw[dL,Nat.testBit_succ,show((if f z=true then 1 else 0)+2*dL f r)/2=dL f r by split <;> omega];exact Hb r k (by simpa using h)
def Qq:lC c st ins L (dL (valOf c st ins) L):=by
 intro z hz;have hk:L.idxOf z<L.length:=List.idxOf_lt_length_iff.2 hz;rw[Hb L _ hk];congr 1;simp[List.getD,hk]
def RC (hc:c.Valid) (h1:st.length=c.next.length) (h2:(ins.length:Int)=c.inputs) (hi:i<c.gates.length) :
  (mj c (c.first+(i:Int)) ((cY c).getD (c.first.toNat+i) []) (2 ^ ((cY c).getD (c.first.toNat+i) []).length)).testBit (dL (valOf c st ins) ((cY c).getD (c.first.toNat+i) []))=valOf c st ins (c.first+(i:Int)):=by
 have hf:=hc.al;have hm:=IG hc hi;rw[Lg _ _ _ _ _ (yY _)];have hl:=lS (c:=c) hf.1 (i+1);have:=td hc h1 h2 (i+1) (by omega) (c.first.toNat+i) (by omega) _ (by rw[wE hf.1 (by omega:i<i+1)];exact np _ hm) _ _ (fun z hz=>hz) (Qq (c:=c) (st:=st) (ins:=ins) (L:=(cY c).getD (c.first.toNat+i) []));rw[show((c.first.toNat+i:Nat):Int)=c.first+(i:Int) by omega] at this;exact this
end vals
noncomputable def mm (c:ac) (i:Nat):lR:=⟨c.first+(i:Int),(cY c).getD (c.first.toNat+i) [],uY c (c.first+(i:Int)) ((cY c).getD (c.first.toNat+i) [])⟩
structure vP (c:ac) (j:Nat) (need:ZB) (new:List lR):Prop where
 each : ∀ l∈new,∃ i,i<j/\l=mm c i
 iq:new.Pairwise fun a b=>a.var<b.var
 all : ∀ i,i<j->((∃ l∈new,l.var=c.first+(i:Int))↔need.getD (c.first.toNat+i) false=true∨∃ l∈new,c.first+(i:Int)∈l.leaves)
def EA {c:ac}(hc:c.Valid) : ∀ (j:Nat),j<=c.gates.length->∀ (need:ZB) (out:List lR),need.length=c.vars.toNat->∃ new,gk c j need out=new++out/\vP c j need new
 | 0,_,need,out,_=>⟨[],rfl,by simp,by simp,by omega⟩
 | j+1,hj,need,out,hn=>by
  have hf:=hc.al;have hv:=hc.aN;have hvv:c.vars=c.first+(c.gates.length:Int):=rfl
  have hb:=ri hc (i:=j) (by omega);simp only[gk];split
  ·rename_i hnd;obtain⟨new,e,m⟩:=EA hc j (by omega) (fQ need ((cY c).getD (c.first.toNat+j) [])) (mm c j::out) (by rw[uS];exact hn);refine⟨new ++ [mm c j],by rw[fA];exact e,fun l hl=>?_,?_,fun i hi=>?_⟩
   ·rcases List.mem_append.1 hl with h|h
    ·obtain⟨i,h1,h2⟩:=m.each l h;exact⟨i,by omega,h2⟩
    ·obtain rfl:l=mm c j:=by simpa using h
     exact⟨j,by omega,rfl⟩
   ·rw[List.pairwise_append];refine⟨m.iq,by simp,fun a ha b hb2=>?_⟩;obtain rfl:b=mm c j:=by simpa using hb2
    obtain⟨i,h1,rfl⟩:=m.each a ha;show c.first+(i:Int)<c.first+(j:Int)
    omega
   ·have hleaf : ∀ i',i'<j->(c.first+(i':Int)∈(mm c j).leaves↔c.first+(i':Int)∈(cY c).getD (c.first.toNat+j) []):=fun i' _=>Iff.rfl
    by_cases hij:i=j
    ·subst hij;constructor
     ·exact fun _=>.inl hnd
     ·exact fun _=>⟨mm c i,by simp,rfl⟩
    ·have bJ:i<j:=by omega
     have hset:=An ((cY c).getD (c.first.toNat+j) []) need (c.first.toNat+i) (fun v hv=>by have:=hb.2.2 v hv;omega);have hmi:=m.all i bJ;rw[hset,nM,decide_eq_true_eq] at hmi;have hlt:c.first.toNat+i<need.length:=by omega
     have ev:((c.first.toNat+i:Nat):Int)=c.first+(i:Int):=by omega
     rw[ev] at hmi;constructor
     ·rintro⟨l,hl,hlv⟩;rcases List.mem_append.1 hl with h|h
      ·rcases hmi.1 ⟨l,h,hlv⟩ with(h2|⟨_,h2⟩)|⟨l2,h2,h3⟩
       ·exact .inl h2
       ·exact .inr ⟨mm c j,by simp,h2⟩
       ·exact .inr ⟨l2,np _ h2,h3⟩
      ·obtain rfl:l=mm c j:=by simpa using h
       have:c.first+(j:Int)=c.first+(i:Int):=hlv
       omega
     ·rintro(h|⟨l,hl,hlv⟩)
      ·obtain⟨l,h1,h2⟩:=hmi.2 (.inl (.inl h));exact⟨l,np _ h1,h2⟩
      ·rcases List.mem_append.1 hl with h|h
       ·obtain⟨l,h1,h2⟩:=hmi.2 (.inr ⟨l,h,hlv⟩);exact⟨l,np _ h1,h2⟩
       ·obtain rfl:l=mm c j:=by simpa using h
        obtain⟨l,h1,h2⟩:=hmi.2 (.inl (.inr ⟨hlt,hlv⟩));exact⟨l,np _ h1,h2⟩
  ·rename_i hnd;obtain⟨new,e,m⟩:=EA hc j (by omega) need out hn;refine⟨new,e,fun l hl=>?_,m.iq,fun i hi=>?_⟩
   ·obtain⟨i,h1,h2⟩:=m.each l hl;exact⟨i,by omega,h2⟩
   ·by_cases hij:i=j
    ·subst hij;constructor
     ·rintro⟨l,hl,hlv⟩;obtain⟨i2,h1,rfl⟩:=m.each l hl;have:c.first+(i2:Int)=c.first+(i:Int):=hlv
      omega
     ·rintro(h|⟨l,hl,hlv⟩)
      ·exact absurd h hnd
      ·obtain⟨i2,h1,rfl⟩:=m.each l hl;have:=(ri hc (i:=i2) (by omega)).2.2 _ hlv;omega
    ·exact m.all i (by omega)
def Fv (c:ac):(mv c).length=c.vars.toNat:=by rw[mv,uS];simp
def Gc {c:ac}(hc:c.Valid) : ∀ v∈k7 c,0<=v/\v<c.vars:=by
 intro v hv;obtain⟨l,hl,rfl⟩:=List.mem_map.1 hv;have:bm l c.vars:=by
  rcases List.mem_append.1 hl with h|h
  ·exact hc.o l h
  ·exact hc.n l h
 unfold bm at this;omega
def OB {c:ac}(hc:c.Valid) (hv:(v:Int)<c.vars):(mv c).getD v false=decide ((v:Int)∈k7 c):=by
 rw[mv,An _ _ _ fun z hz=>(Gc hc z hz).1];have e:(List.replicate c.vars.toNat false).getD v false=false:=by
  rw[List.getD_eq_getElem?_getD,List.getElem?_replicate];split <;> rfl
 rw[e,Bool.false_or];exact decide_eq_decide.2 ⟨fun h=>h.2,fun h=>⟨by simp;omega,h⟩⟩
def sB {c:ac}(hc:c.Valid):vP c c.gates.length (mv c) (jE c):=by
 obtain⟨new,e,m⟩:=EA hc c.gates.length (aD _) (mv c) [] (Fv c);rw[jq] at e;rw[jE,e];exact m
def OR {c:ac}(hc:c.Valid) (hi:i<c.gates.length):mm c i∈jE c↔c.first+(i:Int)∈k7 c∨∃ l∈jE c,c.first+(i:Int)∈l.leaves:=by
 have hf:=hc.al;have m:=sB hc;have:=m.all i hi;have hvv:c.vars=c.first+(c.gates.length:Int):=rfl
 rw[OB hc (by omega),decide_eq_true_eq,show((c.first.toNat+i:Nat):Int)=c.first+(i:Int) by omega] at this;rw[<-this];constructor
 ·exact fun h=>⟨_,h,rfl⟩
 ·rintro⟨l,hl,hv⟩;obtain⟨i2,h1,rfl⟩:=m.each l hl;have:c.first+(i2:Int)=c.first+(i:Int):=hv
  obtain rfl:i2=i:=by omega
  exact hl
def DH {c:ac}(hc:c.Valid):(jE c).length<=c.gates.length:=by
 have m:=sB hc;have h1:((jE c).map fun l=>(l.var-c.first).toNat).Nodup:=by
  rw[List.nodup_iff_pairwise_ne,List.pairwise_map];refine m.iq.imp_of_mem fun {a b} ha hb h=>?_
  obtain⟨i,-,rfl⟩:=m.each a ha;obtain⟨j,-,rfl⟩:=m.each b hb;have:c.first+(i:Int)<c.first+(j:Int):=h
  show(c.first+(i:Int)-c.first).toNat≠(c.first+(j:Int)-c.first).toNat
  omega
 have h2:((jE c).map fun l=>(l.var-c.first).toNat) ⊆ List.range c.gates.length:=by
  intro x hx;obtain⟨l,hl,rfl⟩:=List.mem_map.1 hx;obtain⟨i,hi,rfl⟩:=m.each l hl;have:(mm c i).var=c.first+(i:Int):=rfl
  exact List.mem_range.2 (by omega)
 have:=h1.length_le_of_subset h2;simpa using this
def qX {c:ac}(hc:c.Valid):(aw c).length<=17:=by
 have:=DH hc;have:=hc.ln;have:=hc.lg;simp only[aw,b8,gQ,v7];omega
end Go.VL

namespace Go.Proofs
open Go Go.VL
def Tryz.pm (c:ac) (hc:c.Valid) (leaves:ZA) (hl:leaves.length<=3) (v:Int) (hv0:0<=v) (hv:v<c.vars):Pure prog 191 [dC c,dI v,aj leaves] (dI (uY c v leaves)):=by
 have hpw:=vw (n:=2) (by omega) hl;have hI:(2:Int) ^ leaves.length=((2 ^ leaves.length:Nat):Int):=by simp
 have hfin:uY c v leaves=((mj c v leaves (2 ^ leaves.length):Nat):Int):=rfl;rw[hfin];generalize 2 ^ leaves.length=N at *
 refine bz func191 rfl ntmps191 fun ok=>?_
 simp only[go_sem,seval] at ok⊢
 repeat' first|simp (disch:=first|assumption|omega|simp;try omega) only[ag];try simp only[go_sem,seval]|(with_reducible first|apply aa|intro)|(try rw[ae]);omega
 refine cQ (σ:=Nat) (fun x=>[(0,.d (dC c)),(1,.d (dI v)),(2,.d (aj leaves)),(3,.ptr 0 0),(7,.d (dI (mj c v leaves x:Nat))),(8,.d (dI x))]) (fun _=>[.box [.d (dI c.inputs),.d (aj c.next),.d (aY c.gates),.d (aj c.outs)]]) (fun x=>x<=N) (fun x=>N-x) [] 1000 1000 ?_ ?_ ?_
 ·simp only[go_sem,seval]
 ·simp only[go_sem,seval];exact⟨0,by omega,rfl,rfl⟩
 ·intro x hx;have htl:=z7 c v leaves x;have htp:=vw (n:=2) (by omega) (show x<=8 by omega);have hI2:(2:Int) ^ x=((2 ^ x:Nat):Int):=by simp
  have hts:mj c v leaves (x+1)=mj c v leaves x+(if gA c leaves x v then 2 ^ x else 0):=rfl;generalize 2 ^ x=M at *
  by_cases hlt:x<N
  ·have q:=qQ c hc leaves hl x (by omega) (v.toNat+1) v (by omega) hv0 hv;simp only[go_sem,seval,hI,hI2]
   repeat' first|simp (disch:=first|assumption|omega|simp;try omega) only[ag];try simp only[go_sem,seval,hI,hI2]|(with_reducible first|apply aa|intro)|(refine az q ?_;simp only[go_sem,seval,hI,hI2])|(try rw[ae]);omega
   ·rename_i h9;exact⟨x+1,by omega,by omega,by rw[hts,if_pos h9];omega,rfl⟩
   ·rename_i h9;exact⟨x+1,by omega,by omega,by rw[hts,if_neg (by rw[h9];simp)];omega,rfl⟩
  ·simp only[go_sem,seval,hI,hI2]
   repeat' first|simp (disch:=first|assumption|omega|simp;try omega) only[ag];try simp only[go_sem,seval,hI,hI2]|(with_reducible first|apply aa|intro)|(try rw[ae]);omega
   rw[show x=N by omega]
abbrev v9 (l:lR):D:=.agg [dI l.var,aj l.leaves,dI l.table]
abbrev qf (l:List lR):D:=.lst 3 (l.map fun x=>v9 x)
def kI:lR:=⟨0,[],0⟩
def eC {l:List lR}{i:Nat}{z:D}(h:i<l.length):(l.map fun x=>v9 x).getD i z=v9 (l.getD i kI):=cn _ _ _ _ _ h
set_option maxHeartbeats 4000000 in
def Tryz.ta (c:ac) (hc:c.Valid):bk prog 137 [dC c] (qf (jE c)):=by
 have hf:=hc.al;have hi0:=hc.i0;have hi1:=hc.i1;have hfst:=br c (by omega);have hcu:=rE c hc;have hbe:=sg c hc;have hlo:=hc.lo;have hln:=hc.ln;have hlg:=hc.lg;refine BE (E:=dM 0) tok rfl 1000 func137 rfl rfl ntmps137 (by simp) fun ok=>?_
 simp only[go_sem,seval] at ok⊢;have hvr:(c.first+(c.gates.length:Int)).toNat=c.vars.toNat:=rfl;have hvv:c.vars=c.first+(c.gates.length:Int):=rfl
 have hrl:(c.outs++c.next).length=c.outs.length+c.next.length:=by simp
 have hrv:=Gc hc;have hrd:k7 c=(c.outs++c.next).map (· / 2):=rfl;have hn0:mv c=fQ (List.replicate c.vars.toNat false) (k7 c):=rfl;apply yr
 ·intro key;refine z2 (E:=dM 0) tok Tryz.follows 1000 1000 [] (ax [0,1] (.one 2 (.one 3 (ax [4,5,6,7,8] .done)))) (by kernel_rfl) ?_;simp only[go_sem,seval]
  repeat' first|simp (disch:=first|assumption|omega|simp;try omega) only[ag];try simp only[go_sem,seval]|(with_reducible first|apply aa|intro)|(refine az hfst ?_;simp only[go_sem,seval])|(refine kN hcu ?_;simp only[go_sem,seval])|(refine kN hbe ?_;simp only[go_sem,seval])|(try rw[ae]);omega
  all_goals (
   refine z2 (E:=dM 0) tok Tryz.follows 1000 1000 [3,6] (ax [1,4,2] (.two 0 (.two 3 (.one 5 (.one 6 (.fst 7 .done))) 5 (.one 3 (.one 6 (.fst 7 .done)))) 5 (.one 0 (.one 3 (.one 6 (.fst 7 .done)))))) (by kernel_rfl) ?_;simp only[go_sem,seval]
   repeat' first|simp (disch:=first|assumption|omega|simp;try omega) only[ag];try simp only[go_sem,seval]|(with_reducible first|apply aa|intro)|(refine az hfst ?_;simp only[go_sem,seval])|(try rw[ae]);omega)
  all_goals (
   rw[hvr];refine GW (E:=dM 0) [(0,.d (dC c)),(1,.ptr 0 0),(3,.d (.lst 1 (iZ c (cY c)))),(5,.d (dI c.first)),(6,.sl 1 0 1 0 c.vars.toNat),(7,.sl 2 2 1 0 (c.outs.length+c.next.length)),(8,.d (dI 0))]
    [.box [.d (dI c.inputs),.d (aj c.next),.d (aY c.gates),.d (aj c.outs)],.row 0 1 true ((List.replicate c.vars.toNat false).map D.bool),.row 2 1 true ((c.outs++c.next).map (D.int .i64))] rfl ?_ ?_
   ·simp only[go_sem,seval];done
   ·exact key.get)
 generalize hroots:c.outs++c.next=roots at *
 refine om (E:=dM 0) tok (σ:=Nat) (fun i=>[(0,.d (dC c)),(1,.ptr 0 0),(3,.d (.lst 1 (iZ c (cY c)))),(5,.d (dI c.first)),(6,.sl 1 0 1 0 c.vars.toNat),(7,.d (aj roots)),(8,.d (dI i))])
  (fun i=>[.box [.d (dI c.inputs),.d (aj c.next),.d (aY c.gates),.d (aj c.outs)],.row 0 1 true ((fQ (List.replicate c.vars.toNat false) ((k7 c).take i)).map D.bool)])
  (fun i=>i<=roots.length) (fun i=>roots.length-i) [] [] 1000 1000 ?_ ?_
 ·simp only[go_sem,seval];refine⟨0,by omega,?_⟩;simp[fQ,<-hrl]
 ·intro i hi;have hsl:=uS ((k7 c).take i) (List.replicate c.vars.toNat false);rw[m9] at hsl;by_cases hlt:i<roots.length
  ·have hrg:(k7 c).getD i 0=roots.getD i 0/2:=by rw[hrd];simp[List.getD,hlt]
   have hbd:=hrv _ (aO (by rw[hrd];simpa using hlt):(k7 c).getD i 0∈k7 c);have hst:fQ (List.replicate c.vars.toNat false) ((k7 c).take (i+1))=(fQ (List.replicate c.vars.toNat false) ((k7 c).take i)).set (roots.getD i 0/2).toNat true:=by
    rw[<-hrg];exact iH (f:=fun(n:ZB) (v:Int)=>n.set v.toNat true) (b:=List.replicate c.vars.toNat false) (0:Int) (by rw[hrd];simpa using hlt)
   rw[hrg] at hbd;simp only[go_sem,seval]
   repeat' first|simp (disch:=first|assumption|omega|simp;try omega) only[ag];try simp only[go_sem,seval]|(with_reducible first|apply aa|intro)|(try rw[ae]);omega
   exact⟨i+1,by omega,by omega,rfl,by rw[hst]⟩
  ·have hst:fQ (List.replicate c.vars.toNat false) ((k7 c).take i)=mv c:=by rw[hn0,ag (by rw[hrd];simp;omega)]
   rw[hst];simp only[go_sem,seval]
   repeat' first|simp (disch:=first|assumption|omega|simp;try omega) only[ag];try simp only[go_sem,seval]|(with_reducible first|apply aa|intro)|(try rw[ae]);omega
   have hne0:=Fv c;have hlu:jE c=gk c c.gates.length (mv c) []:=rfl;refine om (E:=dM 0) tok (σ:=Nat×ZB×List lR) (fun s=>[(0,.d (dC c)),(1,.ptr 0 0),(3,.d (.lst 1 (iZ c (cY c)))),(5,.d (dI c.first)),(6,.sl 1 0 1 0 c.vars.toNat),(9,.d (qf s.2.2)),(10,.d (dI (c.first+(s.1:Int)-1)))])
    (fun s=>[.box [.d (dI c.inputs),.d (aj c.next),.d (aY c.gates),.d (aj c.outs)],.row 0 1 true (s.2.1.map D.bool)])
    (fun s=>s.1<=c.gates.length/\s.2.1.length=c.vars.toNat/\s.2.2.length+s.1<=c.gates.length/\gk c s.1 s.2.1 s.2.2=jE c) (fun s=>s.1) [] [] 1000 1000 ?_ ?_
   ·simp only[go_sem,seval];refine⟨(c.gates.length,mv c,[]),⟨by simp,hne0,by simp,hlu.symm⟩,?_⟩;simp;omega
   ·rintro⟨j,need,out⟩ ⟨hj,hnl,hol,hinv⟩;simp only at hj hnl hol hinv;cases j with
    | zero=>
     simp only[go_sem,seval]
     repeat' first|simp (disch:=first|assumption|omega|simp;try omega) only[ag];try simp only[go_sem,seval]|(with_reducible first|apply aa|intro)|(try rw[ae]);omega
     rw[<-hinv];rfl
    | succ m=>
     have hbo:=ri hc (i:=m) (by omega);have hbl:=Lv c;have ev:(c.first+((m+1:Nat):Int)-1)=c.first+(m:Int):=by omega
     have ev2:(c.first+(m:Int)).toNat=c.first.toNat+m:=by omega
     have hbg : ∀ z,(iZ c (cY c)).getD (c.first.toNat+m) z=aj ((cY c).getD (c.first.toNat+m) []):=fun z=>Lt (by omega) (by omega)
     have hstep:gk c (m+1) need out=if need.getD (c.first.toNat+m) false=true then
       gk c m (fQ need ((cY c).getD (c.first.toNat+m) [])) (⟨c.first+(m:Int),(cY c).getD (c.first.toNat+m) [],uY c (c.first+(m:Int)) ((cY c).getD (c.first.toNat+m) [])⟩::out)
      else gk c m need out:=rfl
     have htb:=pm c hc ((cY c).getD (c.first.toNat+m) []) hbo.2.1 (c.first+(m:Int)) (by omega) (by omega);have hbD:(iZ c (cY c)).length=c.first.toNat+c.gates.length:=by rw[vL (by omega)];exact hbl
     rw[ev];generalize hL:(cY c).getD (c.first.toNat+m) []=L at *
     by_cases hnd:need.getD (c.first.toNat+m) false=true
     ·rw[if_pos hnd] at hstep;simp only[go_sem,seval,ev2,hnd,hbg]
      repeat' first|simp (disch:=first|assumption|omega|simp;try omega) only[ag];try simp only[go_sem,seval,ev2,hnd,hbg]|(with_reducible first|apply aa|intro)|(try rw[ae]);omega
      refine om (E:=dM 0) tok (σ:=Nat) (fun k=>[(0,.d (dC c)),(1,.ptr 0 0),(3,.d (.lst 1 (iZ c (cY c)))),(5,.d (dI c.first)),(6,.sl 1 0 1 0 c.vars.toNat),(9,.d (qf out)),(10,.d (dI (c.first+(m:Int)))),(11,.d (dI k))])
       (fun k=>[.box [.d (dI c.inputs),.d (aj c.next),.d (aY c.gates),.d (aj c.outs)],.row 0 1 true ((fQ need (L.take k)).map D.bool)])
       (fun k=>k<=L.length) (fun k=>L.length-k) [] [] 1000 1000 ?_ ?_
      ·simp only[go_sem,seval];exact⟨0,by omega,rfl,rfl⟩
      ·intro k hk;have hsl:=uS (L.take k) need;by_cases hkt:k<L.length
       ·have hst:fQ need (L.take (k+1))=(fQ need (L.take k)).set (L.getD k 0).toNat true:=iH (f:=fun(n:ZB) (v:Int)=>n.set v.toNat true) (b:=need) (0:Int) hkt;have hz:=hbo.2.2 _ (aO hkt:L.getD k 0∈L);simp only[go_sem,seval,ev2,hbg]
        repeat' first|simp (disch:=first|assumption|omega|simp;try omega) only[ag];try simp only[go_sem,seval,ev2,hbg]|(with_reducible first|apply aa|intro)|(try rw[ae]);omega
        exact⟨k+1,by omega,by omega,rfl,hst.symm⟩
       ·have hst:fQ need (L.take k)=fQ need L:=by rw[ag (by omega)]
        rw[hst];rw[hst] at hsl;simp only[go_sem,seval,ev2,hbg]
        repeat' first|simp (disch:=first|assumption|omega|simp;try omega) only[ag];try simp only[go_sem,seval,ev2,hbg]|(with_reducible first|apply aa|intro)|(try rw[ae]);omega
        refine z2 (E:=dM 0) tok Tryz.follows 1000 1000 [6,17] (ax [0,2,3,4,8,9,10,11,16,5] (.three 1 (.three 6 (.two 7 (.one 12 (.one 13 (.fst 14 (.one 15 (.one 17 (.fst 18 .done)))))) 12 (.one 7 (.one 13 (.fst 14 (.one 15 (.one 17 (.fst 18 .done))))))) 7 (.two 6 (.one 12 (.one 13 (.fst 14 (.one 15 (.one 17 (.fst 18 .done)))))) 12 (.one 6 (.one 13 (.fst 14 (.one 15 (.one 17 (.fst 18 .done))))))) 12 (.two 6 (.one 7 (.one 13 (.fst 14 (.one 15 (.one 17 (.fst 18 .done)))))) 7 (.one 6 (.one 13 (.fst 14 (.one 15 (.one 17 (.fst 18 .done)))))))) 7 (.two 1 (.two 6 (.one 12 (.one 13 (.fst 14 (.one 15 (.one 17 (.fst 18 .done)))))) 12 (.one 6 (.one 13 (.fst 14 (.one 15 (.one 17 (.fst 18 .done))))))) 12 (.one 1 (.one 6 (.one 13 (.fst 14 (.one 15 (.one 17 (.fst 18 .done)))))))) 12 (.two 1 (.two 6 (.one 7 (.one 13 (.fst 14 (.one 15 (.one 17 (.fst 18 .done)))))) 7 (.one 6 (.one 13 (.fst 14 (.one 15 (.one 17 (.fst 18 .done))))))) 7 (.one 1 (.one 6 (.one 13 (.fst 14 (.one 15 (.one 17 (.fst 18 .done)))))))))) (by kernel_rfl) ?_;simp only[go_sem,seval,ev2,hbg]
        repeat' first|simp (disch:=first|assumption|omega|simp;try omega) only[ag];try simp only[go_sem,seval,ev2,hbg]|(with_reducible first|apply aa|intro)|(refine az htb ?_;simp only[go_sem,seval,ev2,hbg])|(try rw[ae]);omega
        all_goals exact⟨(m,fQ need L,⟨c.first+(m:Int),L,uY c (c.first+(m:Int)) L⟩::out),⟨by simp only;omega,hsl.trans hnl,by simp only[eD];omega,by rw[<-hinv,hstep]⟩,by simp only;omega,⟨rfl,by simp only⟩,rfl⟩
     ·rw[if_neg hnd] at hstep;rw[Bool.not_eq_true] at hnd;simp only[go_sem,seval,ev2,hnd,hbg]
      repeat' first|simp (disch:=first|assumption|omega|simp;try omega) only[ag];try simp only[go_sem,seval,ev2,hnd,hbg]|(with_reducible first|apply aa|intro)|(try rw[ae]);omega
      exact⟨(m,need,out),⟨by simp only;omega,hnl,by simp only;omega,by rw[<-hinv,hstep]⟩,by simp only;omega,⟨rfl,by simp only⟩,rfl⟩
end Go.Proofs

namespace Go.Proofs
open Go Go.VL
variable {m l:List lR}{i:Nat}
structure ik (l m:List lR) (i:Nat):Prop where
 len:m.length=l.length
 get : ∀ p,p<l.length->m.getD p kI=if p<i∨l.length<=p+i then l.getD (l.length-1-p) kI else l.getD p kI
def ik.start (l:List lR):ik l l 0:=⟨rfl,fun p hp=>by rw[if_neg (by omega)]⟩
def JD {a p:Nat}{x:lR}(h:a<m.length):(m.set a x).getD p kI=if p=a then x else m.getD p kI:=by
 by_cases e:p=a
 ·subst e;simp[List.getD,h]
 ·simp[List.getD,List.getElem?_set,show ¬ a=p by omega,e]
def ik.step (h:ik l m i) (hi:i+i+1<l.length):ik l ((m.set i (m.getD (l.length-1-i) kI)).set (l.length-1-i) (m.getD i kI)) (i+1):=by
 have hl:=h.len;refine⟨by simp[hl],fun p hp=>?_⟩;rw[JD (by simp;omega),JD (by omega)];have g1:=h.get p hp;have g2:=h.get i (by omega);have g3:=h.get (l.length-1-i) (by omega);rw[if_neg (by omega)] at g2 g3;rw[g1,g2,g3];by_cases e1:p=l.length-1-i
 ·subst e1;rw[if_pos rfl,if_pos (by omega),show l.length-1-(l.length-1-i)=i by omega]
 ·rw[if_neg e1];by_cases e2:p=i
  ·subst e2;rw[if_pos rfl,if_pos (by omega)]
  ·rw[if_neg e2];by_cases e3:p<i∨l.length<=p+i
   ·rw[if_pos e3,if_pos (by omega)]
   ·rw[if_neg e3,if_neg (by omega)]
def ik.done (h:ik l m i) (hi:l.length<=i+i+1):m=l.reverse:=by
 refine wq kI (by simp[h.len]) fun p hp=>?_
 have hl:=h.len;have e:l.reverse.getD p kI=l.getD (l.length-1-p) kI:=by simp[List.getD,show p<l.length by omega,show l.length-1-p<l.length by omega]
 rw[e,h.get p (by omega)];split
 ·rfl
 ·rw[show l.length-1-p=p by omega]
def Tryz.nR (g:Nat) (l:List lR) (hl:l.length<=1000000):aA prog 175 [.sl 0 g 3 0 l.length] [.row g 3 false (l.map fun x=>v9 x)] (fun _ H'=>H'=[.row g 3 false (l.reverse.map fun x=>v9 x)]):=by
 refine i9 rfl 1000 func175 rfl rfl ntmps175 (by simp) ?_
 repeat' first|simp (disch:=omega) only[go_sem,seval,eC]|(with_reducible first|apply aa|intro)|(try rw[ae]);omega
 refine pA (σ:=Nat×List lR) (fun s=>[(3,.d (dI ((l.length:Int)-1-(s.1:Int)))),(2,.d (dI s.1)),(0,.sl 0 g 3 0 l.length)]) (fun s=>[.row g 3 false (s.2.map fun x=>v9 x)])
  (fun s=>s.1<=l.length/\ik l s.2 s.1) (fun s=>l.length-s.1) [] 1000 1000 ?_ ?_ ?_
 ·simp only[go_sem,seval]
 ·simp only[go_sem,seval];exact⟨(0,l),⟨kM _,ik.start l⟩,⟨by simp,rfl⟩,rfl⟩
 ·rintro⟨i,m⟩ ⟨hi,hm⟩;simp only at hi hm;have hml:=hm.len;by_cases hlt:i+i+1<l.length
  ·have ej:((l.length:Int)-1-(i:Int)).toNat=l.length-1-i:=by omega
   repeat' first|simp (disch:=omega) only[go_sem,seval,ej,eC]|(with_reducible first|apply aa|intro)|(try rw[ae]);omega
   refine co (n:=1) [13,15] (ax [0,1,2,3,4,5,6,8,9,10,7,11,12] (.one 13 (.fst 14 (.one 15 .done)))) ?_
   repeat' first|simp (disch:=omega) only[go_sem,seval,ej,eC]|(with_reducible first|apply aa|intro)|(try rw[ae]);omega
   refine⟨(i+1,_),⟨by simp only;omega,hm.step hlt⟩,by simp only;omega,⟨by simp only;omega,rfl⟩,?_⟩;rw[List.map_set,List.map_set]
  ·repeat' first|simp (disch:=omega) only[go_sem,seval,eC]|(with_reducible first|apply aa|intro)|(try rw[ae]);omega
   exact n5 (by rw[hm.done (by omega)])
def Tryz.rn (l:ZA) (hl:l.length<=1048576):Pure prog 173 [aj l] (aj l):=by
 refine Lz (T:=tyT) tok func173 rfl rfl (by simp[ntmps173]) ?_;rw[ntmps173];refine EI (E:=env 0) (ks:=[]) (It (KO tok rfl rfl trivial (Sq (EI (EI (It (KO tok rfl rfl ?_ (QX tok rfl rfl ?_ rfl fun b hb=>PK tok 1000 ?_))))))))
 ·simp only[go_sem,seval]
 ·simp only[go_sem,seval]
 ·simp only[go_sem,seval];exact⟨hb,fun h=>by omega⟩
def NW {c:ac}(hb : ∀ z∈k7 c,0<=z):fQ (List.replicate c.vars.toNat false) (c.roots.map (· / 2))=mv c:=by
 have hm : ∀ z:Int,z∈c.roots.map (· / 2)↔z∈k7 c:=fun z=>by simp[ac.roots,k7,or_and_right,exists_or,or_comm]
 refine wq false (by rw[mv,uS,uS]) fun j hj=>?_
 rw[mv,An _ _ _ (fun v hv=>hb v ((hm v).1 hv)),An _ _ _ hb];simp only[hm]
end Go.Proofs
