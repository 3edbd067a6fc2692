/- Helper of the proof (see the last text). -/
import Derived.Test.YtmlnffbepjijhaaGreatVB8
set_option linter.unusedVariables false
set_option linter.unusedSimpArgs false
namespace Go.LN
def noP:zF:=⟨[],[]⟩
def shF (P:zF) (nm:List UInt8):zF×Bool:=if validP P then (match fnN nm (nmsP P) 0 with | none=>(noP,false) | some k=>(shP P k,true)) else (noP,false)
theorem zL4 (x v:Int) (ds:List Int):∀ pre:List Int,(pre++x::ds).set pre.length v=pre++v::ds
  | []=>rfl
  | a::pre=>by simp [zL4 x v ds pre]
theorem zJY (x:Int) (ds pre:List Int):idx (pre++x::ds) (pre.length:Int)=some x:=by
  rw [zCZ]; simp
theorem zIG (x v:Int) (ds pre:List Int):(pre++x::ds).set ((pre.length:Int).toNat) v=pre++v::ds:=by
  rw [iN]; exact zL4 x v ds pre
theorem zNr (A:List zD) (nm:Str) (hA:A.length<=100000):∀ (j i:Nat),i+j=A.length->xP A (fun x0=>sX x0 nm) (i:Int)=some (match fnN nm.l ((A.map fun x=>x.Name.l).drop i) i with | none=>.done () | some k=>.ret (k:Int)):=by
  intro j
  induction j with
  | zero =>
    intro i hi;rw [xP];have:¬((i:Int)<(A.length:Int)):=by omega
    simp only [this,dF,bF,if_false];rw [show (A.map fun x=>x.Name.l).drop i=[] from dN.2 (by simp; omega)];rfl
  | succ j ih =>
    intro i hi;rw [xP];have hlt:i<A.length:=by omega
    have hc:((i:Int)<(A.length:Int)):=by omega
    have e:(A.map fun x=>x.Name.l).drop i=A[i].Name.l::(A.map fun x=>x.Name.l).drop (i+1):=by
      rw [gC (by simpa using hlt)]; simp
    simp only [hc,dT,if_true,yP hlt,oB,oS,sX,oP];rw [wY (by omega),e,fnN];by_cases hn:A[i].Name.l=nm.l
    · have hb:(A[i].Name.l==nm.l)=true:=by simpa using hn
      rw [hb,if_pos hn]; rfl
    · have hb:(A[i].Name.l==nm.l)=false:=by simpa using hn
      rw [hb,if_neg hn];exact ih (i+1) (by omega)
theorem idxA (A:List zD) (nm:Str) (hA:A.length<=100000):wX A (fun x0=>sX x0 nm)=some (match fnN nm.l (A.map fun x=>x.Name.l) 0 with | none=>-1 | some k=>(k:Int)):=by
  unfold wX;have:=zNr A nm hA _ 0 (Nat.zero_add _);rw [nZ,List.drop_zero] at this;rw [this];cases fnN nm.l (A.map fun x=>x.Name.l) 0 <;> rfl
theorem zO4 (x:zD) (hx:x.Dims.length<=1000):∀ (j i:Nat) (d:List Int),i+j=x.Dims.length->d.length=x.Dims.length->(∀ k,k<i->d[k]?=some 1)->uU x d (i:Int)=some (List.replicate x.Dims.length 1):=by
  intro j
  induction j with
  | zero =>
    intro i d hi hd h;rw [uU];have:¬((i:Int)<(x.Dims.length:Int)):=by omega
    simp only [this,dF,bF,if_false,oP,id]
    congr 1
    refine List.ext_getElem? fun k=>?_;by_cases hk:k<x.Dims.length
    · rw [h k (by omega),List.getElem?_replicate,if_pos hk]
    · rw [List.getElem?_eq_none (by omega),List.getElem?_eq_none (by simp; omega)]
  | succ j ih =>
    intro i d hi hd h;rw [uU];have hlt:i<d.length:=by omega
    have hc:((i:Int)<(x.Dims.length:Int)):=by omega
    simp only [hc,dT,if_true,yP hlt,oB,oS,oP,iN];rw [wY (by omega)];refine ih (i+1) _ (by omega) (by rw [List.length_set]; exact hd) fun k hk=>?_;rw [List.getElem?_set];by_cases e:i=k
    · rw [if_pos e,if_pos (by omega)]
    · rw [if_neg e]; exact h k (by omega)
theorem zMz (z:zN) (a:zG) (hp:z.Point.length<=4) (ha:AV a) (hev:∀ s∈a.Subs,0<=evA s z.Point/\evA s z.Point<6):∀ (ds pre:List Int),pre.length+ds.length=a.Subs.length->uV z a (pre++ds) (pre.length:Int)=some (pre++mx1 z.Point ds (a.Subs.drop pre.length))
  | [],pre,hl=>by
    rw [uV]
    simp only [List.length_nil,Nat.add_zero] at hl
    have:¬((pre.length:Int)<(a.Subs.length:Int)):=by omega
    simp only [this,dF,bF,if_false]
    rw [show a.Subs.drop pre.length=[] from dN.2 (by omega)]
    rfl
  | x::ds,pre,hl=>by
    rw [uV]
    rw [List.length_cons] at hl
    have ha2:=ha.2.1
    have hlt:pre.length<a.Subs.length:=by omega
    have hc:((pre.length:Int)<(a.Subs.length:Int)):=by omega
    have he:=hev _ (gM hlt)
    have hcf:=ha.2.2 _ (gM hlt)
    have hW:W (evA a.Subs[pre.length] z.Point+1)=evA a.Subs[pre.length] z.Point+1:=rF (by omega) (by omega)
    simp only [hc,dT,if_true,yP hlt,zJY,zIG,oB,oS,oP,implEval a.Subs[pre.length] z.Point (by omega) (by omega),hW]
    rw [wY (by omega),gC hlt,mx1]
    have hmax:(if evA a.Subs[pre.length] z.Point+1>x then evA a.Subs[pre.length] z.Point+1 else x)=max x (evA a.Subs[pre.length] z.Point+1):=by
      split <;> omega
    rw [hmax]
    have ih:=zMz z a hp ha hev ds (pre++[max x (evA a.Subs[pre.length] z.Point+1)]) (by simp; omega)
    simp only [List.append_assoc,List.singleton_append,lA,List.length_singleton] at ih
    exact ih
theorem zO5 (nm:Str) (z:zN) (L:List zG) (n:Nat) (hL:L.length<=100000) (hp:z.Point.length<=4) (ha:∀ a∈L,AV a) (hev:∀ a∈L,a.Array.l=nm.l->a.Subs.length=n/\∀ s∈a.Subs,0<=evA s z.Point/\evA s z.Point<6):∀ (j i:Nat) (d:List Int),i+j=L.length->d.length=n->vW nm z L d (i:Int)=some ((L.drop i).foldl (mxA nm.l z.Point) d):=by
  intro j
  induction j with
  | zero =>
    intro i d hi hd;rw [vW];have:¬((i:Int)<(L.length:Int)):=by omega
    simp only [this,dF,bF,if_false];rw [show L.drop i=[] from dN.2 (by omega)];rfl
  | succ j ih =>
    intro i d hi hd;rw [vW];have hlt:i<L.length:=by omega
    have hc:((i:Int)<(L.length:Int)):=by omega
    simp only [hc,dT,if_true,yP hlt,oB,oS];rw [wY (by omega),gC hlt,List.foldl_cons];by_cases hn:L[i].Array.l=nm.l
    · have hb:(L[i].Array.l==nm.l)=true:=by simpa using hn
      obtain ⟨h1,h2⟩:=hev _ (gM hlt) hn;have h4:=zMz z L[i] hp (ha _ (gM hlt)) h2 d [] (by simp; omega);simp only [List.nil_append,List.length_nil,nZ,List.drop_zero] at h4;have e:mxA nm.l z.Point d L[i]=mx1 z.Point d L[i].Subs:=by unfold mxA; rw [if_pos hn]
      simp only [hb,bT,bF,if_false,h4,oS];rw [e];exact ih (i+1) _ (by omega) (by rw [zJW]; exact hd)
    · have hb:(L[i].Array.l==nm.l)=false:=by simpa using hn
      have e:mxA nm.l z.Point d L[i]=d:=by unfold mxA; rw [if_neg hn]
      simp only [hb,Bool.not_false,if_true];rw [e];exact ih (i+1) _ (by omega) hd
theorem zL5 {P:zF}{nm:List UInt8} (z:zN):∀ (L:List zG) (d:List Int),(L.foldl (mxA nm z.Point) d).length=d.length
  | [],d=>rfl
  | a::L,d=>by
    rw [List.foldl_cons,zL5 (P:=P) z L]
    unfold mxA
    split
    · rw [zJW]
    · rfl
theorem zNA {p:List Int}:∀ {ds:List Int}{ss:List zA},fitA p ds ss->(∀ d∈ds,d<=6)->∀ s∈ss,0<=evA s p/\evA s p<6
  | [],[],_,_,s,hs=>by cases hs
  | d::ds,t::ss,h,hd,s,hs=>by
    rcases List.mem_cons.1 hs with rfl | hs
    · have h1:=h.1
      have h2:=hd d (List.mem_cons_self ..)
      omega
    · exact zNA h.2 (fun e he=>hd e (List.mem_cons_of_mem _ he)) s hs
theorem zOD {x:zD} (h:DA x):∀ d∈x.Dims,d<=6:=by
  intro d hd;have:=List.all_eq_true.1 h.arr.2 d hd;simp only [dimB,bA,decide_eq_true_eq] at this;exact this.2
theorem zL6 {P:zF}{z:zN} (h:InP P z):(accI P z).length<=33:=by
  obtain ⟨d,hd⟩:=h.st;have:=gW 5 (stI P z).Value (dQ hd).2.1;unfold accI;rw [lA]; simp; omega
theorem zNB {P:zF} (hb:BG P) (hv:validP P=true) {k:Nat} (hk:k<P.Arrays.length) {z:zN} (hz:z∈progI P) {a:zG} (ha:a∈accI P z) (hn:a.Array.l=P.Arrays[k].Name.l):a.Subs.length=P.Arrays[k].Dims.length/\∀ s∈a.Subs,0<=evA s z.Point/\evA s z.Point<6:=by
  have hf:=zIv (zAN hv) hk (zLC hb hv hz ha) hn;exact ⟨zJV hf,zNA hf (zOD ((zAN hv).2.1 _ (gM hk)))⟩
theorem zO6 {P:zF} (hb:BG P) (hv:validP P=true) (nm:Str) {k:Nat} (hk:k<P.Arrays.length) (hn:P.Arrays[k].Name.l=nm.l):∀ (j i:Nat) (d:List Int),i+j=(progI P).length->d.length=P.Arrays[k].Dims.length->uW P nm (progI P) d (i:Int)=some (((progI P).drop i).foldl (mxI P nm.l) d):=by
  have hlen:=(zAk hv).2.2.2;intro j
  induction j with
  | zero =>
    intro i d hi hd;rw [uW];have:¬((i:Int)<((progI P).length:Int)):=by omega
    simp only [this,dF,bF,if_false];rw [show (progI P).drop i=[] from dN.2 (by omega)];rfl
  | succ j ih =>
    intro i d hi hd;rw [uW];have hlt:i<(progI P).length:=by omega
    have hc:((i:Int)<((progI P).length:Int)):=by omega
    have hz:=gM hlt;have h:=zKz hb hv hz;obtain ⟨e,he⟩:=h.st;obtain ⟨s1,s2,s3⟩:=dQ he;have hrl:=gW 5 (stI P (progI P)[i]).Value s2;have hst:kV P (progI P)[i]=some (stI P (progI P)[i]):=by
      unfold kV;simp only [h.idxP,h.idxS,oB,oS,oP,id]
    have happ:app 40 (readsF 5 (stI P (progI P)[i]).Value) [(stI P (progI P)[i]).Write]=some (accI P (progI P)[i]):=qB (by simp; omega);have h3:=zO5 nm (progI P)[i] (accI P (progI P)[i]) P.Arrays[k].Dims.length (by have:=zL6 h; omega) h.pt (fun a ha=>zMs h ha) (fun a ha hna=>zNB hb hv hk hz ha (hna.trans hn.symm)) _ 0 d (Nat.zero_add _) hd;rw [nZ,List.drop_zero] at h3;simp only [hc,dT,if_true,yP hlt,hst,implReads 5 _ s2 (by omega),happ,h3,oB,oS];rw [wY (by omega),gC hlt,List.foldl_cons];exact ih (i+1) _ (by omega) (by rw [zL5 (P:=P)]; exact hd)
theorem implSh (P:zF) (hb:BG P) (nm:Str):mS P nm=some (shF P nm.l):=by
  unfold mS shF validP;rw [implInstances P hb];have hi:=idxA P.Arrays nm hb.1.1;cases hp:progB P with
  | false=>simp [hi,noP]
  | true =>
    by_cases hl:(progI P).length<=120
    · have hv:validP P=true:=by unfold validP; rw [hp,decide_eq_true hl]; rfl
      simp only [hl,dT,if_true,Bool.true_and,hi,oB,oS,bT,bF,if_false,oP];show _=some (match fnN nm.l (nmsP P) 0 with | none=>(noP,false) | some k=>(shP P k,true));have hnm:(P.Arrays.map fun x=>x.Name.l)=nmsP P:=rfl;rw [hnm];cases hf:fnN nm.l (nmsP P) 0 with
      | none=>rfl
      | some k =>
        obtain ⟨hk,hn⟩:=zMv hf;have hk0:¬((k:Int)<0):=by omega
        have h1:=zO4 P.Arrays[k] (hb.1.2 _ (gM hk)) _ 0 P.Arrays[k].Dims (Nat.zero_add _) rfl (fun k h=>by omega);rw [nZ] at h1;have h2:=zO6 hb hv nm hk hn _ 0 (List.replicate P.Arrays[k].Dims.length 1) (Nat.zero_add _) (by simp);rw [nZ,List.drop_zero] at h2;simp only [hk0,dF,bF,if_false,ownPg hb hv,yP hk,h1,h2,oS,iN]
        congr 1
        unfold shP shA shD;rw [zDp hk,hn]
    · simp [hl,hi,noP]
def mx0 (p:List Int):List Int->List zA->List Int
  | d::ds,s::ss=>max d (evA s p)::mx0 p ds ss
  | ds,[]=>ds
  | [],_::_=>[]
theorem zJZ (p:List Int):∀ (d:List Int) (ss:List zA),(mx0 p d ss).length=d.length
  | d::ds,s::ss=>by rw [mx0,List.length_cons,List.length_cons,zJZ p ds ss]
  | ds,[]=>by cases ds <;> rw [mx0]
  | [],_::_=>by rw [mx0]
theorem zL7 (p:List Int):∀ (d:List Int) (ss:List zA),(mx0 p d ss).map (· + 1)=mx1 p (d.map (· + 1)) ss
  | d::ds,s::ss=>by
    rw [mx0,List.map_cons,List.map_cons,mx1,zL7 p ds ss]
    congr 1
    show max d (evA s p)+1=max (d+1) (evA s p+1)
    omega
  | [],[]=>rfl
  | d::ds,[]=>by rw [mx0,List.map_cons,mx1]
  | [],_::_=>by rw [mx0]; rfl
def mxA0 (nm:List UInt8) (p:List Int) (d:List Int) (a:zG):List Int:=if a.Array.l=nm then mx0 p d a.Subs else d
theorem zIH (nm:List UInt8) (p:List Int):∀ (L:List zG) (d:List Int),(L.foldl (mxA0 nm p) d).length=d.length
  | [],d=>rfl
  | a::L,d=>by
    rw [List.foldl_cons,zIH nm p L]
    unfold mxA0
    split
    · rw [zJZ]
    · rfl
theorem zKZ (nm:List UInt8) (p:List Int):∀ (L:List zG) (d:List Int),(L.foldl (mxA0 nm p) d).map (· + 1)=L.foldl (mxA nm p) (d.map (· + 1))
  | [],d=>rfl
  | a::L,d=>by
    rw [List.foldl_cons,List.foldl_cons,zKZ nm p L]
    congr 1
    unfold mxA0 mxA
    split
    · exact zL7 ..
    · rfl
def mxI0 (P:zF) (nm:List UInt8) (d:List Int) (z:zN):List Int:=(accI P z).foldl (mxA0 nm z.Point) d
theorem zK0 (P:zF) (nm:List UInt8):∀ (L:List zN) (d:List Int),(L.foldl (mxI0 P nm) d).length=d.length
  | [],d=>rfl
  | a::L,d=>by rw [List.foldl_cons,zK0 P nm L]; exact zIH ..
theorem zK1 (P:zF) (nm:List UInt8):∀ (L:List zN) (d:List Int),(L.foldl (mxI0 P nm) d).map (· + 1)=L.foldl (mxI P nm) (d.map (· + 1))
  | [],d=>rfl
  | a::L,d=>by
    rw [List.foldl_cons,List.foldl_cons,zK1 P nm L]
    congr 1
    exact zKZ ..
theorem zNC (nm:Str) (Z:List zN) (i:Nat) (hi:i<Z.length) (L:List zG) (k:Nat) (hk:k<L.length) (hp:Z[i].Point.length<=4) (ha:AV L[k]) (hn:L[k].Array.l=nm.l):∀ (ds pre:List Int),pre.length+ds.length=L[k].Subs.length->rZ nm (L[k].Subs.length:Int) Z (i:Int) L (k:Int) (pre++ds) (pre.length:Int)=some (pre++mx0 Z[i].Point ds (L[k].Subs.drop pre.length))
  | [],pre,hl=>by
    rw [rZ]
    simp only [List.length_nil,Nat.add_zero] at hl
    have:¬((pre.length:Int)<(L[k].Subs.length:Int)):=by omega
    simp only [this,dF,bF,if_false,oB,oS,oP]
    rw [show L[k].Subs.drop pre.length=[] from dN.2 (by omega)]
    rfl
  | x::ds,pre,hl=>by
    rw [rZ]
    rw [List.length_cons] at hl
    have ha2:=ha.2.1
    have hlt:pre.length<L[k].Subs.length:=by omega
    have hc:((pre.length:Int)<(L[k].Subs.length:Int)):=by omega
    have hcf:=ha.2.2 _ (gM hlt)
    have hb:(L[k].Array.l==nm.l)=true:=by simpa using hn
    have ih:=zNC nm Z i hi L k hk hp ha hn ds (pre++[max x (evA L[k].Subs[pre.length] Z[i].Point)]) (by simp; omega)
    simp only [List.append_assoc,List.singleton_append,lA,List.length_singleton] at ih
    rw [gC hlt,mx0,<- ih]
    simp only [hc,dT,if_true,yP hk,yP hi,yP hlt,hb,zJY,zIG,oB,oS,oP,specEval L[k].Subs[pre.length] Z[i].Point (by omega) (by omega),id]
    by_cases hg:evA L[k].Subs[pre.length] Z[i].Point>x
    · simp only [hg,dT,if_true,oS]
      rw [wY (by omega),show max x (evA L[k].Subs[pre.length] Z[i].Point)=evA L[k].Subs[pre.length] Z[i].Point by omega]
    · simp only [hg,dF,bF,if_false,oS]
      rw [wY (by omega),show max x (evA L[k].Subs[pre.length] Z[i].Point)=x by omega]
theorem zO7 (nm:Str) (n:Nat) (hn4:n<=1000) (Z:List zN) (i:Nat) (hi:i<Z.length) (L:List zG) (hL:L.length<=100000) (hp:Z[i].Point.length<=4) (ha:∀ a∈L,AV a) (hev:∀ a∈L,a.Array.l=nm.l->a.Subs.length=n):∀ (j k:Nat) (d:List Int),k+j=L.length->d.length=n->nC nm (n:Int) Z (i:Int) L d (k:Int)=some ((L.drop k).foldl (mxA0 nm.l Z[i].Point) d):=by
  intro j
  induction j with
  | zero =>
    intro k d hk hd;rw [nC];have:¬((k:Int)<(L.length:Int)):=by omega
    simp only [this,dF,bF,if_false];rw [show L.drop k=[] from dN.2 (by omega)];rfl
  | succ j ih =>
    intro k d hk hd;rw [nC];have hlt:k<L.length:=by omega
    have hc:((k:Int)<(L.length:Int)):=by omega
    have h3:rZ nm (n:Int) Z (i:Int) L (k:Int) d 0=some (mxA0 nm.l Z[i].Point d L[k]):=by
      unfold mxA0;by_cases hn:L[k].Array.l=nm.l
      · have hs:=hev _ (gM hlt) hn;rw [if_pos hn];have h4:=zNC nm Z i hi L k hlt hp (ha _ (gM hlt)) hn d [] (by simp; omega);simp only [List.nil_append,List.length_nil,nZ,List.drop_zero,hs] at h4;exact h4
      · have hb:(L[k].Array.l==nm.l)=false:=by simpa using hn
        rw [if_neg hn,rZ];by_cases h0:(0:Int)<(n:Int)
        · simp only [h0,dT,if_true,yP hlt,hb,oB,oS,oP,bF,if_false,id]
        · simp only [h0,dF,oB,oS,oP,bF,if_false,id]
    simp only [hc,dT,if_true,h3,oB,oS];rw [wY (by omega),gC hlt,List.foldl_cons];refine ih (k+1) _ (by omega) ?_;unfold mxA0;split
    · rw [zJZ]; exact hd
    · exact hd
theorem zO8 {P:zF} (hb:BG P) (hv:validP P=true) (nm:Str) {q:Nat} (hq:q<P.Arrays.length) (hn:P.Arrays[q].Name.l=nm.l):∀ (j i:Nat) (d:List Int),i+j=(progI P).length->d.length=P.Arrays[q].Dims.length->nD P nm (P.Arrays[q].Dims.length:Int) (progI P) d (i:Int)=some (((progI P).drop i).foldl (mxI0 P nm.l) d):=by
  have hlen:=(zAk hv).2.2.2;have hdl:=hb.1.2 _ (gM hq);intro j
  induction j with
  | zero =>
    intro i d hi hd;rw [nD];have:¬((i:Int)<((progI P).length:Int)):=by omega
    simp only [this,dF,bF,if_false];rw [show (progI P).drop i=[] from dN.2 (by omega)];rfl
  | succ j ih =>
    intro i d hi hd;rw [nD];have hlt:i<(progI P).length:=by omega
    have hc:((i:Int)<((progI P).length:Int)):=by omega
    have hz:=gM hlt;have h:=zKz hb hv hz;obtain ⟨e,he⟩:=h.st;obtain ⟨s1,s2,s3⟩:=dQ he;have hrl:=gW 5 (stI P (progI P)[i]).Value s2;obtain ⟨_,m,hbe⟩:=h.bs;have hrd:=specReads 5 m (stI P (progI P)[i]).Value [] s2 hbe (by omega) (by simp);rw [List.nil_append] at hrd;have happ:app 40 (readsF 5 (stI P (progI P)[i]).Value) [(stI P (progI P)[i]).Write]=some (accI P (progI P)[i]):=qB (by simp; omega);have h2:=zO7 nm P.Arrays[q].Dims.length hdl (progI P) i hlt (accI P (progI P)[i]) (by have:=zL6 h; omega) h.pt (fun a ha=>zMs h ha) (fun a ha hna=>(zNB hb hv hq hz ha (hna.trans hn.symm)).1) _ 0 d (Nat.zero_add _) hd;rw [nZ,List.drop_zero] at h2;simp only [hc,dT,if_true,yP hlt,h.idxP,h.idxS,hrd,happ,h2,oB,oS];rw [wY (by omega),gC hlt,List.foldl_cons];exact ih (i+1) _ (by omega) (by rw [zIH]; exact hd)
theorem zNs (n:Nat) (hn:n<=1000000):mkrow 8 (n:Int) (0:Int)=some (List.replicate n 0):=by
  unfold mkrow;rw [if_pos ⟨by omega,by omega⟩,iN]
def mostF (P:zF) (nm:List UInt8) (n:Nat):List Int:=(progI P).foldl (mxI0 P nm) (List.replicate n 0)
theorem zK2 (P:zF) (nm:List UInt8) (n:Nat):(mostF P nm n).length=n:=by unfold mostF; rw [zK0]; simp
theorem zL8 (P:zF) (nm:List UInt8) (n:Nat):(mostF P nm n).map (· + 1)=shD P nm n:=by
  unfold mostF shD;rw [zK1]
  congr 1
  simp
theorem specMost {P:zF} (hb:BG P) (hv:validP P=true) (nm:Str) {q:Nat} (hq:q<P.Arrays.length) (hn:P.Arrays[q].Name.l=nm.l):dM P nm (P.Arrays[q].Dims.length:Int)=some (mostF P nm.l P.Arrays[q].Dims.length):=by
  have hdl:=hb.1.2 _ (gM hq);unfold dM mostF;have h:=zO8 hb hv nm hq hn _ 0 (List.replicate P.Arrays[q].Dims.length 0) (Nat.zero_add _) (by simp);rw [nZ,List.drop_zero] at h;simp only [zNs _ (show P.Arrays[q].Dims.length<=1000000 by omega),specInst4 P hv,h,oB,oS,oP,id]
theorem zND (m:List Int) (hm:∀ v∈m,0<=v/\v<=1000) (hl:m.length<=1000):∀ (ds pre:List Int),pre.length+ds.length=m.length->rW m (pre.length:Int) (pre++ds)=some (pre++(m.drop pre.length).map (· + 1))
  | [],pre,h=>by
    rw [rW]
    simp only [List.length_nil,Nat.add_zero] at h
    have:¬((pre.length:Int)<(m.length:Int)):=by omega
    simp only [this,dF,bF,if_false]
    rw [show m.drop pre.length=[] from dN.2 (by omega)]
    rfl
  | x::ds,pre,h=>by
    rw [rW]
    rw [List.length_cons] at h
    have hlt:pre.length<m.length:=by omega
    have hc:((pre.length:Int)<(m.length:Int)):=by omega
    have hv:=hm _ (gM hlt)
    have hW:W (m[pre.length]+1)=m[pre.length]+1:=rF (by omega) (by omega)
    have ih:=zND m hm hl ds (pre++[m[pre.length]+1]) (by simp; omega)
    simp only [List.append_assoc,List.singleton_append,lA,List.length_singleton] at ih
    rw [gC hlt,List.map_cons,<- ih]
    simp only [hc,dT,if_true,yP hlt,zJY,zIG,hW,oB,oS]
    rw [wY (by omega)]
theorem zL9:∀ {a b:List Int},leD a b->∀ {c:Int},(∀ x∈b,x<=c)->∀ x∈a,x<=c
  | [],[],_,c,_,x,hx=>by cases hx
  | u::a,v::b,h,c,hc,x,hx=>by
    rcases List.mem_cons.1 hx with rfl | hx
    · have:=hc v (List.mem_cons_self ..); have:=h.1; omega
    · exact zL9 h.2 (fun y hy=>hc y (List.mem_cons_of_mem _ hy)) x hx
theorem zK3:∀ {a b:List Int},leD a b->∀ {c:Int},(∀ x∈a,c<=x)->∀ x∈b,c<=x
  | [],[],_,c,_,x,hx=>by cases hx
  | u::a,v::b,h,c,hc,x,hx=>by
    rcases List.mem_cons.1 hx with rfl | hx
    · have:=hc u (List.mem_cons_self ..); have:=h.1; omega
    · exact zK3 h.2 (fun y hy=>hc y (List.mem_cons_of_mem _ hy)) x hx
theorem zNE {P:zF} (hb:BG P) (hv:validP P=true) {q:Nat} (hq:q<P.Arrays.length):∀ v∈mostF P P.Arrays[q].Name.l P.Arrays[q].Dims.length,0<=v/\v<=1000:=by
  intro v hv';obtain ⟨h1,h2,_⟩:=zHK hb hv hq;have e:(shA P q).Dims=shD P P.Arrays[q].Name.l P.Arrays[q].Dims.length:=by unfold shA; rw [zDp hq]
  rw [e,<- zL8] at h1 h2;have hm:v+1∈(mostF P P.Arrays[q].Name.l P.Arrays[q].Dims.length).map (· + 1):=List.mem_map.2 ⟨v,hv',rfl⟩;have a:=zL9 h2 (c:=6) (zOD ((zAN hv).2.1 _ (gM hq))) _ hm;have b:=zK3 h1 (c:=1) (fun x hx=>by rw [List.eq_of_mem_replicate hx]; exact Int.le_refl _) _ hm;omega
theorem zNt {P:zF} (hb:BG P) (hv:validP P=true) (nm:Str):∀ (j i:Nat),i+j=P.Arrays.length->rX P nm P.Arrays P.Parts (i:Int)=some (match fnN nm.l ((nmsP P).drop i) i with | none=>.done () | some k=>.ret (shP P k,true)):=by
  have hA:=hb.1.1;intro j
  induction j with
  | zero =>
    intro i hi;rw [rX];have:¬((i:Int)<(P.Arrays.length:Int)):=by omega
    simp only [this,dF,bF,if_false];rw [show (nmsP P).drop i=[] from dN.2 (by unfold nmsP; simp; omega)];rfl
  | succ j ih =>
    intro i hi;rw [rX];have hlt:i<P.Arrays.length:=by omega
    have hc:((i:Int)<(P.Arrays.length:Int)):=by omega
    have e:(nmsP P).drop i=P.Arrays[i].Name.l::(nmsP P).drop (i+1):=by
      unfold nmsP;rw [gC (by simpa using hlt)]; simp
    simp only [hc,dT,if_true,yP hlt,oB,oS,oP];rw [wY (by omega),e,fnN];by_cases hn:P.Arrays[i].Name.l=nm.l
    · have hb':(P.Arrays[i].Name.l==nm.l)=true:=by simpa using hn
      have hr:=zNE hb hv hlt;rw [hn] at hr;have hp:=zND (mostF P nm.l P.Arrays[i].Dims.length) hr (by rw [zK2]; exact hb.1.2 _ (gM hlt)) P.Arrays[i].Dims [] (by rw [zK2]; simp);simp only [List.nil_append,List.length_nil,nZ,List.drop_zero,zL8] at hp;simp only [hb',bT,bF,if_false,specMost hb hv nm hlt hn,hp,oS,iN];rw [if_pos hn];show some (Out.ret (_,true))=some (Out.ret (shP P i,true));unfold shP shA;rw [zDp hlt,hn]
    · have hb':(P.Arrays[i].Name.l==nm.l)=false:=by simpa using hn
      simp only [hb',Bool.not_false,if_true];rw [if_neg hn];exact ih (i+1) (by omega)
theorem specSh (P:zF) (hb:BG P) (nm:Str):jK P nm=some (shF P nm.l):=by
  unfold jK shF;rw [sowPg P hb];simp only [specValidP P hb,oB,oS];cases hv:validP P with
  | false=>rfl
  | true =>
    have h:=zNt hb hv nm _ 0 (Nat.zero_add _);rw [nZ,List.drop_zero] at h;simp only [bT,bF,if_false,copyProg P hb,oS,h,if_true];cases fnN nm.l (nmsP P) 0 <;> rfl
theorem drawSh (code:List UInt8):Ok (oZ code) (fun y=>BG y.1):=by
  unfold oZ;refine Ok.call (zJu code) trivial fun s hs=>Ok.bind (args11 s hs) fun p hp=>?_;obtain ⟨P,part,t⟩:=p;exact Ok.call (dV t _) ⟨by decide,hp.2.1,by have:=hp.2.2; dsimp only at this; omega⟩ fun y s2 _ k5=>Ok.pure hp.1
end Go.LN
namespace Go.LN
theorem sNo:rD noP noP=some true:=sNil
theorem zNF {P:zF} (nm:List UInt8):(shF P nm=(noP,false)/\(validP P=true->fnN nm (nmsP P) 0=none))∨∃ k,validP P=true/\(∃ hk:k<P.Arrays.length,P.Arrays[k].Name.l=nm)/\fnN nm (nmsP P) 0=some k/\shF P nm=(shP P k,true):=by
  unfold shF;cases hv:validP P with
  | false=>exact .inl ⟨rfl,fun h=>by cases h⟩
  | true =>
    cases hf:fnN nm (nmsP P) 0 with
    | none=>exact .inl ⟨rfl,fun _=>rfl⟩
    | some k=>exact .inr ⟨k,rfl,zMv hf,rfl,rfl⟩
theorem zO9 {P:zF}{nm:List UInt8} (hv:validP P=true) {k:Nat} (h:fnN nm (nmsP P) 0=some k):shF P nm=(shP P k,true):=by
  unfold shF;rw [hv,h]; rfl
theorem zMG (code:List UInt8):∃ r,gG code=some r/\r=true:=by
  obtain ⟨⟨P,nm⟩,hy,hb⟩:=drawSh code;have hb:BG P:=hb;unfold gG;refine ⟨true,?_,rfl⟩;by_cases h1:(code.length:Int)>1048576
  · simp [h1]
  · rcases zNF (P:=P) nm.l with ⟨e,_⟩ | ⟨k,hv,⟨hk,hn⟩,hf,e⟩
    · simp only [h1,dF,bF,if_false,hy,implSh P hb nm,specSh P hb nm,e,sNo,bQ,bT,Bool.not_false,if_true,oB,oS,oP,id]
    · have hbQ:=zOk hb hv hk;have hvQ:=zKX hb hv hk;have e2:shF (shP P k) nm.l=(shP P k,true):=by
        rw [zO9 hvQ (by rw [zO2 hk]; exact hf),zNq hb hv hk]
      have ht:=zO1 hb hv hk;have hp:progI (shP P k)=progI P:=rfl;simp only [h1,dF,bF,if_false,hy,implSh P hb nm,specSh P hb nm,e,sPg _ hbQ,implSh _ hbQ nm,e2,implValidP _ hbQ,hvQ,implCount _ hbQ,implCount _ hb,hv,ht,dT,implInstP _ hbQ,implInstP _ hb,hp,bQ,bT,Bool.not_false,if_true,oB,oS,oP,id]
end Go.LN
