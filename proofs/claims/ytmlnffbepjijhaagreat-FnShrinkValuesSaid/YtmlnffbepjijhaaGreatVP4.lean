/- Helper of the proof (see the last text). -/
import Derived.Test.YtmlnffbepjijhaaGreatVC1
set_option linter.unusedVariables false
set_option linter.unusedSimpArgs false
namespace Go.LN
def noP:zC:=⟨[],[]⟩
def shF (P:zC) (nm:List UInt8):zC×Bool:=if validP P then (match fnN nm (nmsP P) 0 with | none=>(noP,false) | some k=>(shP P k,true)) else (noP,false)
theorem zMl (x v:Int) (ds:List Int):∀ pre:List Int,(pre++x::ds).set pre.length v=pre++v::ds
  | []=>rfl
  | a::pre=>by simp [zMl x v ds pre]
theorem zKb (x:Int) (ds pre:List Int):idx (pre++x::ds) (pre.length:Int)=some x:=by
  rw [zCz]; simp
theorem zJG (x v:Int) (ds pre:List Int):(pre++x::ds).set ((pre.length:Int).toNat) v=pre++v::ds:=by
  rw [iN]; exact zMl x v ds pre
theorem zPT (A:List zE) (nm:Str) (hA:A.length<=100000):∀ (j i:Nat),i+j=A.length->xQ A (fun x0=>sW x0 nm) (i:Int)=some (match fnN nm.l ((A.map fun x=>x.Name.l).drop i) i with | none=>.done () | some k=>.ret (k:Int)):=by
  intro j
  induction j with
  | zero =>
    intro i hi;rw [xQ];have:¬((i:Int)<(A.length:Int)):=by omega
    simp only [this,dF,bF,if_false];rw [show (A.map fun x=>x.Name.l).drop i=[] from dN.2 (by simp; omega)];rfl
  | succ j ih =>
    intro i hi;rw [xQ];have aD:i<A.length:=by omega
    have hc:((i:Int)<(A.length:Int)):=by omega
    have e:(A.map fun x=>x.Name.l).drop i=A[i].Name.l::(A.map fun x=>x.Name.l).drop (i+1):=by
      rw [gC (by simpa using aD)]; simp
    simp only [hc,dT,if_true,yV aD,oB,oS,sW,oP];rw [vH (by omega),e,fnN];by_cases hn:A[i].Name.l=nm.l
    · have hb:(A[i].Name.l==nm.l)=true:=by simpa using hn
      rw [hb,if_pos hn]; rfl
    · have hb:(A[i].Name.l==nm.l)=false:=by simpa using hn
      rw [hb,if_neg hn];exact ih (i+1) (by omega)
theorem idxA (A:List zE) (nm:Str) (hA:A.length<=100000):wW A (fun x0=>sW x0 nm)=some (match fnN nm.l (A.map fun x=>x.Name.l) 0 with | none=>-1 | some k=>(k:Int)):=by
  unfold wW;have:=zPT A nm hA _ 0 (cr _);rw [nZ,ck] at this;rw [this];cases fnN nm.l (A.map fun x=>x.Name.l) 0 <;> rfl
theorem zPz (x:zE) (hx:x.Dims.length<=1000):∀ (j i:Nat) (d:List Int),i+j=x.Dims.length->d.length=x.Dims.length->(∀ k,k<i->d[k]?=some 1)->uP x d (i:Int)=some (List.replicate x.Dims.length 1):=by
  intro j
  induction j with
  | zero =>
    intro i d hi hd h;rw [uP];have:¬((i:Int)<(x.Dims.length:Int)):=by omega
    simp only [this,dF,bF,if_false,oP,id]
    congr 1
    refine ey fun k=>?_;by_cases hk:k<x.Dims.length
    · rw [h k (by omega),List.getElem?_replicate,if_pos hk]
    · rw [dd (by omega),dd (by simp; omega)]
  | succ j ih =>
    intro i d hi hd h;rw [uP];have aD:i<d.length:=by omega
    have hc:((i:Int)<(x.Dims.length:Int)):=by omega
    simp only [hc,dT,if_true,yV aD,oB,oS,oP,iN];rw [vH (by omega)];refine ih (i+1) _ (by omega) (by rw [cE]; exact hd) fun k hk=>?_;rw [List.getElem?_set];by_cases e:i=k
    · rw [if_pos e,if_pos (by omega)]
    · rw [if_neg e]; exact h k (by omega)
theorem zOZ (z:zN) (a:zG) (hp:z.Point.length<=4) (ha:AV a) (hev:∀ s∈a.Subs,0<=evA s z.Point/\evA s z.Point<6):∀ (ds pre:List Int),pre.length+ds.length=a.Subs.length->uQ z a (pre++ds) (pre.length:Int)=some (pre++mx1 z.Point ds (a.Subs.drop pre.length))
  | [],pre,hl=>by
    rw [uQ]
    simp only [cF,ew] at hl
    have:¬((pre.length:Int)<(a.Subs.length:Int)):=by omega
    simp only [this,dF,bF,if_false]
    rw [show a.Subs.drop pre.length=[] from dN.2 (by omega)]
    rfl
  | x::ds,pre,hl=>by
    rw [uQ]
    rw [cj] at hl
    have ha2:=ha.2.1
    have aD:pre.length<a.Subs.length:=by omega
    have hc:((pre.length:Int)<(a.Subs.length:Int)):=by omega
    have he:=hev _ (gM aD)
    have hcf:=ha.2.2 _ (gM aD)
    have hW:W (evA a.Subs[pre.length] z.Point+1)=evA a.Subs[pre.length] z.Point+1:=rA (by omega) (by omega)
    simp only [hc,dT,if_true,yV aD,zKb,zJG,oB,oS,oP,implEval a.Subs[pre.length] z.Point (by omega) (by omega),hW]
    rw [vH (by omega),gC aD,mx1]
    have hmax:(if evA a.Subs[pre.length] z.Point+1>x then evA a.Subs[pre.length] z.Point+1 else x)=max x (evA a.Subs[pre.length] z.Point+1):=by
      split <;> omega
    rw [hmax]
    have ih:=zOZ z a hp ha hev ds (pre++[max x (evA a.Subs[pre.length] z.Point+1)]) (by simp; omega)
    simp only [co,dk,lA,ef] at ih
    exact ih
theorem zQA (nm:Str) (z:zN) (L:List zG) (n:Nat) (hL:L.length<=100000) (hp:z.Point.length<=4) (ha:∀ a∈L,AV a) (hev:∀ a∈L,a.Array.l=nm.l->a.Subs.length=n/\∀ s∈a.Subs,0<=evA s z.Point/\evA s z.Point<6):∀ (j i:Nat) (d:List Int),i+j=L.length->d.length=n->vO nm z L d (i:Int)=some ((L.drop i).foldl (mxA nm.l z.Point) d):=by
  intro j
  induction j with
  | zero =>
    intro i d hi hd;rw [vO];have:¬((i:Int)<(L.length:Int)):=by omega
    simp only [this,dF,bF,if_false];rw [show L.drop i=[] from dN.2 (by omega)];rfl
  | succ j ih =>
    intro i d hi hd;rw [vO];have aD:i<L.length:=by omega
    have hc:((i:Int)<(L.length:Int)):=by omega
    simp only [hc,dT,if_true,yV aD,oB,oS];rw [vH (by omega),gC aD,cR];by_cases hn:L[i].Array.l=nm.l
    · have hb:(L[i].Array.l==nm.l)=true:=by simpa using hn
      obtain ⟨h1,h2⟩:=hev _ (gM aD) hn;have h4:=zOZ z L[i] hp (ha _ (gM aD)) h2 d [] (by simp; omega);simp only [cx,cF,nZ,ck] at h4;have e:mxA nm.l z.Point d L[i]=mx1 z.Point d L[i].Subs:=by unfold mxA; rw [if_pos hn]
      simp only [hb,bT,bF,if_false,h4,oS];rw [e];exact ih (i+1) _ (by omega) (by rw [zK8]; exact hd)
    · have hb:(L[i].Array.l==nm.l)=false:=by simpa using hn
      have e:mxA nm.l z.Point d L[i]=d:=by unfold mxA; rw [if_neg hn]
      simp only [hb,cT,if_true];rw [e];exact ih (i+1) _ (by omega) hd
theorem zMm {P:zC}{nm:List UInt8} (z:zN):∀ (L:List zG) (d:List Int),(L.foldl (mxA nm z.Point) d).length=d.length
  | [],d=>rfl
  | a::L,d=>by
    rw [cR,zMm (P:=P) z L]
    unfold mxA
    split
    · rw [zK8]
    · rfl
theorem zO0 {p:List Int}:∀ {ds:List Int}{ss:List zA},fitA p ds ss->(∀ d∈ds,d<=6)->∀ s∈ss,0<=evA s p/\evA s p<6
  | [],[],_,_,s,hs=>by cases hs
  | d::ds,t::ss,h,hd,s,hs=>by
    rcases cJ.1 hs with rfl | hs
    · have h1:=h.1
      have h2:=hd d (ce ..)
      omega
    · exact zO0 h.2 (fun e he=>hd e (cb _ he)) s hs
theorem zP6 {x:zE} (h:DA x):∀ d∈x.Dims,d<=6:=by
  intro d hd;have:=bZ.1 h.arr.2 d hd;simp only [dimB,bA,decide_eq_true_eq] at this;exact this.2
theorem zMn {P:zC}{z:zN} (h:InP P z):(accI P z).length<=33:=by
  obtain ⟨d,hd⟩:=h.st;have:=jE 5 (stI P z).Value (fL hd).2.1;unfold accI;rw [lA]; simp; omega
theorem zO1 {P:zC} (hb:BG P) (hv:validP P=true) {k:Nat} (hk:k<P.Arrays.length) {z:zN} (hz:z∈progI P) {a:zG} (ha:a∈accI P z) (hn:a.Array.l=P.Arrays[k].Name.l):a.Subs.length=P.Arrays[k].Dims.length/\∀ s∈a.Subs,0<=evA s z.Point/\evA s z.Point<6:=by
  have hf:=zJz (zAM hv) hk (zJC hb hv hz ha) hn;exact ⟨zGa hf,zO0 hf (zP6 ((zAM hv).2.1 _ (gM hk)))⟩
theorem zQB {P:zC} (hb:BG P) (hv:validP P=true) (nm:Str) {k:Nat} (hk:k<P.Arrays.length) (hn:P.Arrays[k].Name.l=nm.l):∀ (j i:Nat) (d:List Int),i+j=(progI P).length->d.length=P.Arrays[k].Dims.length->uR P nm (progI P) d (i:Int)=some (((progI P).drop i).foldl (mxI P nm.l) d):=by
  have ba:=(jO hv).2.2.2;intro j
  induction j with
  | zero =>
    intro i d hi hd;rw [uR];have:¬((i:Int)<((progI P).length:Int)):=by omega
    simp only [this,dF,bF,if_false];rw [show (progI P).drop i=[] from dN.2 (by omega)];rfl
  | succ j ih =>
    intro i d hi hd;rw [uR];have aD:i<(progI P).length:=by omega
    have hc:((i:Int)<((progI P).length:Int)):=by omega
    have hz:=gM aD;have h:=zFg hb hv hz;obtain ⟨e,he⟩:=h.st;obtain ⟨s1,s2,s3⟩:=fL he;have hrl:=jE 5 (stI P (progI P)[i]).Value s2;have hst:pM P (progI P)[i]=some (stI P (progI P)[i]):=by
      unfold pM;simp only [h.idxP,h.idxS,oB,oS,oP,id]
    have happ:app 40 (readsF 5 (stI P (progI P)[i]).Value) [(stI P (progI P)[i]).Write]=some (accI P (progI P)[i]):=oL (by simp; omega);have h3:=zQA nm (progI P)[i] (accI P (progI P)[i]) P.Arrays[k].Dims.length (by have:=zMn h; omega) h.pt (fun a ha=>zOU h ha) (fun a ha hna=>zO1 hb hv hk hz ha (hna.trans hn.symm)) _ 0 d (cr _) hd;rw [nZ,ck] at h3;simp only [hc,dT,if_true,yV aD,hst,implReads 5 _ s2 (by omega),happ,h3,oB,oS];rw [vH (by omega),gC aD,cR];exact ih (i+1) _ (by omega) (by rw [zMm (P:=P)]; exact hd)
theorem implSh (P:zC) (hb:BG P) (nm:Str):jY P nm=some (shF P nm.l):=by
  unfold jY shF validP;rw [implInstances P hb];have hi:=idxA P.Arrays nm hb.1.1;cases hp:progB P with
  | false=>simp [hi,noP]
  | true =>
    by_cases hl:(progI P).length<=120
    · have hv:validP P=true:=by unfold validP; rw [hp,decide_eq_true hl]; rfl
      simp only [hl,dT,if_true,cy,hi,oB,oS,bT,bF,if_false,oP];show _=some (match fnN nm.l (nmsP P) 0 with | none=>(noP,false) | some k=>(shP P k,true));have hnm:(P.Arrays.map fun x=>x.Name.l)=nmsP P:=rfl;rw [hnm];cases hf:fnN nm.l (nmsP P) 0 with
      | none=>rfl
      | some k =>
        obtain ⟨hk,hn⟩:=zOW hf;have hk0:¬((k:Int)<0):=by omega
        have h1:=zPz P.Arrays[k] (hb.1.2 _ (gM hk)) _ 0 P.Arrays[k].Dims (cr _) rfl (fun k h=>by omega);rw [nZ] at h1;have h2:=zQB hb hv nm hk hn _ 0 (List.replicate P.Arrays[k].Dims.length 1) (cr _) (by simp);rw [nZ,ck] at h2;simp only [hk0,dF,bF,if_false,ownPg hb hv,yV hk,h1,h2,oS,iN]
        congr 1
        unfold shP shA shD;rw [zGb hk,hn]
    · simp [hl,hi,noP]
def mx0 (p:List Int):List Int->List zA->List Int
  | d::ds,s::ss=>max d (evA s p)::mx0 p ds ss
  | ds,[]=>ds
  | [],_::_=>[]
theorem zKc (p:List Int):∀ (d:List Int) (ss:List zA),(mx0 p d ss).length=d.length
  | d::ds,s::ss=>by rw [mx0,cj,cj,zKc p ds ss]
  | ds,[]=>by cases ds <;> rw [mx0]
  | [],_::_=>by rw [mx0]
theorem zMo (p:List Int):∀ (d:List Int) (ss:List zA),(mx0 p d ss).map (· + 1)=mx1 p (d.map (· + 1)) ss
  | d::ds,s::ss=>by
    rw [mx0,cz,cz,mx1,zMo p ds ss]
    congr 1
    show max d (evA s p)+1=max (d+1) (evA s p+1)
    omega
  | [],[]=>rfl
  | d::ds,[]=>by rw [mx0,cz,mx1]
  | [],_::_=>by rw [mx0]; rfl
def mxA0 (nm:List UInt8) (p:List Int) (d:List Int) (a:zG):List Int:=if a.Array.l=nm then mx0 p d a.Subs else d
theorem zJH (nm:List UInt8) (p:List Int):∀ (L:List zG) (d:List Int),(L.foldl (mxA0 nm p) d).length=d.length
  | [],d=>rfl
  | a::L,d=>by
    rw [cR,zJH nm p L]
    unfold mxA0
    split
    · rw [zKc]
    · rfl
theorem zLg (nm:List UInt8) (p:List Int):∀ (L:List zG) (d:List Int),(L.foldl (mxA0 nm p) d).map (· + 1)=L.foldl (mxA nm p) (d.map (· + 1))
  | [],d=>rfl
  | a::L,d=>by
    rw [cR,cR,zLg nm p L]
    congr 1
    unfold mxA0 mxA
    split
    · exact zMo ..
    · rfl
def mxI0 (P:zC) (nm:List UInt8) (d:List Int) (z:zN):List Int:=(accI P z).foldl (mxA0 nm z.Point) d
theorem zLh (P:zC) (nm:List UInt8):∀ (L:List zN) (d:List Int),(L.foldl (mxI0 P nm) d).length=d.length
  | [],d=>rfl
  | a::L,d=>by rw [cR,zLh P nm L]; exact zJH ..
theorem zLi (P:zC) (nm:List UInt8):∀ (L:List zN) (d:List Int),(L.foldl (mxI0 P nm) d).map (· + 1)=L.foldl (mxI P nm) (d.map (· + 1))
  | [],d=>rfl
  | a::L,d=>by
    rw [cR,cR,zLi P nm L]
    congr 1
    exact zLg ..
theorem zO2 (nm:Str) (Z:List zN) (i:Nat) (hi:i<Z.length) (L:List zG) (k:Nat) (hk:k<L.length) (hp:Z[i].Point.length<=4) (ha:AV L[k]) (hn:L[k].Array.l=nm.l):∀ (ds pre:List Int),pre.length+ds.length=L[k].Subs.length->qG nm (L[k].Subs.length:Int) Z (i:Int) L (k:Int) (pre++ds) (pre.length:Int)=some (pre++mx0 Z[i].Point ds (L[k].Subs.drop pre.length))
  | [],pre,hl=>by
    rw [qG]
    simp only [cF,ew] at hl
    have:¬((pre.length:Int)<(L[k].Subs.length:Int)):=by omega
    simp only [this,dF,bF,if_false,oB,oS,oP]
    rw [show L[k].Subs.drop pre.length=[] from dN.2 (by omega)]
    rfl
  | x::ds,pre,hl=>by
    rw [qG]
    rw [cj] at hl
    have ha2:=ha.2.1
    have aD:pre.length<L[k].Subs.length:=by omega
    have hc:((pre.length:Int)<(L[k].Subs.length:Int)):=by omega
    have hcf:=ha.2.2 _ (gM aD)
    have hb:(L[k].Array.l==nm.l)=true:=by simpa using hn
    have ih:=zO2 nm Z i hi L k hk hp ha hn ds (pre++[max x (evA L[k].Subs[pre.length] Z[i].Point)]) (by simp; omega)
    simp only [co,dk,lA,ef] at ih
    rw [gC aD,mx0,<- ih]
    simp only [hc,dT,if_true,yV hk,yV hi,yV aD,hb,zKb,zJG,oB,oS,oP,specEval L[k].Subs[pre.length] Z[i].Point (by omega) (by omega),id]
    by_cases hg:evA L[k].Subs[pre.length] Z[i].Point>x
    · simp only [hg,dT,if_true,oS]
      rw [vH (by omega),show max x (evA L[k].Subs[pre.length] Z[i].Point)=evA L[k].Subs[pre.length] Z[i].Point by omega]
    · simp only [hg,dF,bF,if_false,oS]
      rw [vH (by omega),show max x (evA L[k].Subs[pre.length] Z[i].Point)=x by omega]
theorem zQC (nm:Str) (n:Nat) (hn4:n<=1000) (Z:List zN) (i:Nat) (hi:i<Z.length) (L:List zG) (hL:L.length<=100000) (hp:Z[i].Point.length<=4) (ha:∀ a∈L,AV a) (hev:∀ a∈L,a.Array.l=nm.l->a.Subs.length=n):∀ (j k:Nat) (d:List Int),k+j=L.length->d.length=n->nP nm (n:Int) Z (i:Int) L d (k:Int)=some ((L.drop k).foldl (mxA0 nm.l Z[i].Point) d):=by
  intro j
  induction j with
  | zero =>
    intro k d hk hd;rw [nP];have:¬((k:Int)<(L.length:Int)):=by omega
    simp only [this,dF,bF,if_false];rw [show L.drop k=[] from dN.2 (by omega)];rfl
  | succ j ih =>
    intro k d hk hd;rw [nP];have aD:k<L.length:=by omega
    have hc:((k:Int)<(L.length:Int)):=by omega
    have h3:qG nm (n:Int) Z (i:Int) L (k:Int) d 0=some (mxA0 nm.l Z[i].Point d L[k]):=by
      unfold mxA0;by_cases hn:L[k].Array.l=nm.l
      · have hs:=hev _ (gM aD) hn;rw [if_pos hn];have h4:=zO2 nm Z i hi L k aD hp (ha _ (gM aD)) hn d [] (by simp; omega);simp only [cx,cF,nZ,ck,hs] at h4;exact h4
      · have hb:(L[k].Array.l==nm.l)=false:=by simpa using hn
        rw [if_neg hn,qG];by_cases h0:(0:Int)<(n:Int)
        · simp only [h0,dT,if_true,yV aD,hb,oB,oS,oP,bF,if_false,id]
        · simp only [h0,dF,oB,oS,oP,bF,if_false,id]
    simp only [hc,dT,if_true,h3,oB,oS];rw [vH (by omega),gC aD,cR];refine ih (k+1) _ (by omega) ?_;unfold mxA0;split
    · rw [zKc]; exact hd
    · exact hd
theorem zQD {P:zC} (hb:BG P) (hv:validP P=true) (nm:Str) {q:Nat} (hq:q<P.Arrays.length) (hn:P.Arrays[q].Name.l=nm.l):∀ (j i:Nat) (d:List Int),i+j=(progI P).length->d.length=P.Arrays[q].Dims.length->nQ P nm (P.Arrays[q].Dims.length:Int) (progI P) d (i:Int)=some (((progI P).drop i).foldl (mxI0 P nm.l) d):=by
  have ba:=(jO hv).2.2.2;have hdl:=hb.1.2 _ (gM hq);intro j
  induction j with
  | zero =>
    intro i d hi hd;rw [nQ];have:¬((i:Int)<((progI P).length:Int)):=by omega
    simp only [this,dF,bF,if_false];rw [show (progI P).drop i=[] from dN.2 (by omega)];rfl
  | succ j ih =>
    intro i d hi hd;rw [nQ];have aD:i<(progI P).length:=by omega
    have hc:((i:Int)<((progI P).length:Int)):=by omega
    have hz:=gM aD;have h:=zFg hb hv hz;obtain ⟨e,he⟩:=h.st;obtain ⟨s1,s2,s3⟩:=fL he;have hrl:=jE 5 (stI P (progI P)[i]).Value s2;obtain ⟨_,m,hbe⟩:=h.bs;have hrd:=specReads 5 m (stI P (progI P)[i]).Value [] s2 hbe (by omega) (by simp);rw [cx] at hrd;have happ:app 40 (readsF 5 (stI P (progI P)[i]).Value) [(stI P (progI P)[i]).Write]=some (accI P (progI P)[i]):=oL (by simp; omega);have h2:=zQC nm P.Arrays[q].Dims.length hdl (progI P) i aD (accI P (progI P)[i]) (by have:=zMn h; omega) h.pt (fun a ha=>zOU h ha) (fun a ha hna=>(zO1 hb hv hq hz ha (hna.trans hn.symm)).1) _ 0 d (cr _) hd;rw [nZ,ck] at h2;simp only [hc,dT,if_true,yV aD,h.idxP,h.idxS,hrd,happ,h2,oB,oS];rw [vH (by omega),gC aD,cR];exact ih (i+1) _ (by omega) (by rw [zJH]; exact hd)
theorem zPU (n:Nat) (hn:n<=1000000):mkrow 8 (n:Int) (0:Int)=some (List.replicate n 0):=by
  unfold mkrow;rw [if_pos ⟨by omega,by omega⟩,iN]
def mostF (P:zC) (nm:List UInt8) (n:Nat):List Int:=(progI P).foldl (mxI0 P nm) (List.replicate n 0)
theorem zLj (P:zC) (nm:List UInt8) (n:Nat):(mostF P nm n).length=n:=by unfold mostF; rw [zLh]; simp
theorem zMp (P:zC) (nm:List UInt8) (n:Nat):(mostF P nm n).map (· + 1)=shD P nm n:=by
  unfold mostF shD;rw [zLi]
  congr 1
  simp
theorem specMost {P:zC} (hb:BG P) (hv:validP P=true) (nm:Str) {q:Nat} (hq:q<P.Arrays.length) (hn:P.Arrays[q].Name.l=nm.l):zAH P nm (P.Arrays[q].Dims.length:Int)=some (mostF P nm.l P.Arrays[q].Dims.length):=by
  have hdl:=hb.1.2 _ (gM hq);unfold zAH mostF;have h:=zQD hb hv nm hq hn _ 0 (List.replicate P.Arrays[q].Dims.length 0) (cr _) (by simp);rw [nZ,ck] at h;simp only [zPU _ (show P.Arrays[q].Dims.length<=1000000 by omega),specInst4 P hv,h,oB,oS,oP,id]
theorem zO3 (m:List Int) (hm:∀ v∈m,0<=v/\v<=1000) (hl:m.length<=1000):∀ (ds pre:List Int),pre.length+ds.length=m.length->qB m (pre.length:Int) (pre++ds)=some (pre++(m.drop pre.length).map (· + 1))
  | [],pre,h=>by
    rw [qB]
    simp only [cF,ew] at h
    have:¬((pre.length:Int)<(m.length:Int)):=by omega
    simp only [this,dF,bF,if_false]
    rw [show m.drop pre.length=[] from dN.2 (by omega)]
    rfl
  | x::ds,pre,h=>by
    rw [qB]
    rw [cj] at h
    have aD:pre.length<m.length:=by omega
    have hc:((pre.length:Int)<(m.length:Int)):=by omega
    have hv:=hm _ (gM aD)
    have hW:W (m[pre.length]+1)=m[pre.length]+1:=rA (by omega) (by omega)
    have ih:=zO3 m hm hl ds (pre++[m[pre.length]+1]) (by simp; omega)
    simp only [co,dk,lA,ef] at ih
    rw [gC aD,cz,<- ih]
    simp only [hc,dT,if_true,yV aD,zKb,zJG,hW,oB,oS]
    rw [vH (by omega)]
theorem zMq:∀ {a b:List Int},leD a b->∀ {c:Int},(∀ x∈b,x<=c)->∀ x∈a,x<=c
  | [],[],_,c,_,x,hx=>by cases hx
  | u::a,v::b,h,c,hc,x,hx=>by
    rcases cJ.1 hx with rfl | hx
    · have:=hc v (ce ..); have:=h.1; omega
    · exact zMq h.2 (fun y hy=>hc y (cb _ hy)) x hx
theorem zLk:∀ {a b:List Int},leD a b->∀ {c:Int},(∀ x∈a,c<=x)->∀ x∈b,c<=x
  | [],[],_,c,_,x,hx=>by cases hx
  | u::a,v::b,h,c,hc,x,hx=>by
    rcases cJ.1 hx with rfl | hx
    · have:=hc u (ce ..); have:=h.1; omega
    · exact zLk h.2 (fun y hy=>hc y (cb _ hy)) x hx
theorem zO4 {P:zC} (hb:BG P) (hv:validP P=true) {q:Nat} (hq:q<P.Arrays.length):∀ v∈mostF P P.Arrays[q].Name.l P.Arrays[q].Dims.length,0<=v/\v<=1000:=by
  intro v hv';obtain ⟨h1,h2,_⟩:=zK9 hb hv hq;have e:(shA P q).Dims=shD P P.Arrays[q].Name.l P.Arrays[q].Dims.length:=by unfold shA; rw [zGb hq]
  rw [e,<- zMp] at h1 h2;have hm:v+1∈(mostF P P.Arrays[q].Name.l P.Arrays[q].Dims.length).map (· + 1):=ex.2 ⟨v,hv',rfl⟩;have a:=zMq h2 (c:=6) (zP6 ((zAM hv).2.1 _ (gM hq))) _ hm;have b:=zLk h1 (c:=1) (fun x hx=>by rw [List.eq_of_mem_replicate hx]; exact Int.le_refl _) _ hm;omega
theorem zPV {P:zC} (hb:BG P) (hv:validP P=true) (nm:Str):∀ (j i:Nat),i+j=P.Arrays.length->qC P nm P.Arrays P.Parts (i:Int)=some (match fnN nm.l ((nmsP P).drop i) i with | none=>.done () | some k=>.ret (shP P k,true)):=by
  have hA:=hb.1.1;intro j
  induction j with
  | zero =>
    intro i hi;rw [qC];have:¬((i:Int)<(P.Arrays.length:Int)):=by omega
    simp only [this,dF,bF,if_false];rw [show (nmsP P).drop i=[] from dN.2 (by unfold nmsP; simp; omega)];rfl
  | succ j ih =>
    intro i hi;rw [qC];have aD:i<P.Arrays.length:=by omega
    have hc:((i:Int)<(P.Arrays.length:Int)):=by omega
    have e:(nmsP P).drop i=P.Arrays[i].Name.l::(nmsP P).drop (i+1):=by
      unfold nmsP;rw [gC (by simpa using aD)]; simp
    simp only [hc,dT,if_true,yV aD,oB,oS,oP];rw [vH (by omega),e,fnN];by_cases hn:P.Arrays[i].Name.l=nm.l
    · have hb':(P.Arrays[i].Name.l==nm.l)=true:=by simpa using hn
      have hr:=zO4 hb hv aD;rw [hn] at hr;have hp:=zO3 (mostF P nm.l P.Arrays[i].Dims.length) hr (by rw [zLj]; exact hb.1.2 _ (gM aD)) P.Arrays[i].Dims [] (by rw [zLj]; simp);simp only [cx,cF,nZ,ck,zMp] at hp;simp only [hb',bT,bF,if_false,specMost hb hv nm aD hn,hp,oS,iN];rw [if_pos hn];show some (Out.ret (_,true))=some (Out.ret (shP P i,true));unfold shP shA;rw [zGb aD,hn]
    · have hb':(P.Arrays[i].Name.l==nm.l)=false:=by simpa using hn
      simp only [hb',cT,if_true];rw [if_neg hn];exact ih (i+1) (by omega)
theorem specSh (P:zC) (hb:BG P) (nm:Str):jZ P nm=some (shF P nm.l):=by
  unfold jZ shF;rw [sowPg P hb];simp only [specValidP P hb,oB,oS];cases hv:validP P with
  | false=>rfl
  | true =>
    have h:=zPV hb hv nm _ 0 (cr _);rw [nZ,ck] at h;simp only [bT,bF,if_false,copyProg P hb,oS,h,if_true];cases fnN nm.l (nmsP P) 0 <;> rfl
theorem drawSh (code:List UInt8):Ok (nI code) (fun y=>BG y.1):=by
  unfold nI;refine Ok.call (zLH code) trivial fun s hs=>Ok.bind (args11 s hs) fun p hp=>?_;obtain ⟨P,part,t⟩:=p;exact Ok.call (zAP t _) ⟨by decide,hp.2.1,by have:=hp.2.2; dsimp only at this; omega⟩ fun y s2 _ k5=>Ok.pure hp.1
end Go.LN
namespace Go.LN
theorem sNo:qM noP noP=some true:=sNil
theorem zO5 {P:zC} (nm:List UInt8):(shF P nm=(noP,false)/\(validP P=true->fnN nm (nmsP P) 0=none))∨∃ k,validP P=true/\(∃ hk:k<P.Arrays.length,P.Arrays[k].Name.l=nm)/\fnN nm (nmsP P) 0=some k/\shF P nm=(shP P k,true):=by
  unfold shF;cases hv:validP P with
  | false=>exact .inl ⟨rfl,fun h=>by cases h⟩
  | true =>
    cases hf:fnN nm (nmsP P) 0 with
    | none=>exact .inl ⟨rfl,fun _=>rfl⟩
    | some k=>exact .inr ⟨k,rfl,zOW hf,rfl,rfl⟩
theorem zNT (code more:List UInt8):∃ r,gD code more=some r/\r=true:=by
  obtain ⟨⟨P,nm⟩,hy,hb⟩:=drawSh code;have hb:BG P:=hb;unfold gD;refine ⟨true,?_,rfl⟩;by_cases h1:(code.length:Int)>1048576
  · simp [h1]
  · by_cases h2:(more.length:Int)>1048576
    · simp [h2]
    · rcases zO5 (P:=P) nm.l with ⟨e,_⟩ | ⟨k,hv,⟨hk,hn⟩,hf,e⟩
      · simp only [h1,h2,dF,bF,if_false,hy,implSh P hb nm,specSh P hb nm,implInstP _ hb,e,sNo,bQ,bT,cT,if_true,oB,oS,oP,id]
      · have hbQ:=zQR hb hv hk;have hvQ:=zJD hb hv hk;by_cases h0:(progI P).length=0
        · have e0:(((progI P).length:Int)==0)=true:=by rw [h0]; rfl
          simp only [h1,h2,dF,bF,if_false,hy,implSh P hb nm,specSh P hb nm,implInstP _ hb,hv,e,e0,sPg _ hbQ,bQ,bT,cT,if_true,oB,oS,oP,id]
        · have e0:(((progI P).length:Int)==0)=false:=by
            rw [beq_eq_false_iff_ne]; omega
          have ba:=(jO hv).2.2.2;have hr:rem (more.length:Int) ((progI P).length:Int)=some ((more.length:Int).tmod ((progI P).length:Int)):=by
            unfold rem;rw [if_neg (by omega)]
          have q0:=Int.tmod_nonneg (a:=(more.length:Int)) ((progI P).length:Int) (by omega);have q1:=Int.tmod_lt_of_pos (more.length:Int) (b:=((progI P).length:Int)) (by omega);have hp:progI (shP P k)=progI P:=rfl;generalize hq:(more.length:Int).tmod ((progI P).length:Int)=q at *;have f1:fsF P q=(srcL P q.toNat,true):=by unfold fsF; rw [if_pos ⟨hv,q0,q1⟩]
          have f2:fsF (shP P k) q=(srcL P q.toNat,true):=by
            unfold fsF;rw [if_pos ⟨hvQ,q0,by rw [hp]; exact q1⟩,zPx hb hv hk (by omega)]
          have hll:(srcL P q.toNat).length<=1048576:=by
            have hin:=zIF (zFg hb hv (zH1 (P:=P) (a:=q.toNat) (by omega)));unfold srcL;rw [lM]; omega
          have hdl:=zPN (P:=P);simp only [h1,h2,dF,bF,if_false,hy,implSh P hb nm,specSh P hb nm,implInstP _ hb,hv,e,e0,hr,implFs _ hb,implFs _ hbQ,f1,f2,zNL _ hll,implDeps _ hb,implDeps _ hbQ,zPS hb hv hk,zNS _ (show (dpF P).length<=1048576 by omega),sPg _ hbQ,bQ,bT,cT,if_true,oB,oS,oP,id]
end Go.LN
