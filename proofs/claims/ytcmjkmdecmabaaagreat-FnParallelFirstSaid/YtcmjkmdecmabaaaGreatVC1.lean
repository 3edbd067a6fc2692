/- Helper of the proof (see the last text). -/
import Derived.Test.YtcmjkmdecmabaaaGreatVB1
import Derived.Test.YtcmjkmdecmabaaaGreatQZ
set_option linter.unusedVariables false
set_option linter.unusedSimpArgs false
namespace Go.LN
theorem eU {α:Type}{l:List α}{f:Int->List α->Option (List α)} (step:∀ (i:Nat) (h:i<l.length) (o:List α),o.length=i->f (i:Int) o=f ((i+1:Nat):Int) (o++[l[i]])) (fin:∀ o,f (l.length:Int) o=some o):f 0 []=some l:=by
  have key:∀ j i,i+j=l.length->f (i:Int) (l.take i)=some l:=by
    intro j
    induction j with
    | zero =>
      intro i hi;rw [show i=l.length by omega,fin,cV (dj _)]
    | succ j ih =>
      intro i hi;have aF:i<l.length:=by omega
      have:=ih (i+1) (by omega);rw [List.take_add_one,ce aF,Option.toList_some] at this;rw [step i aF _ (by rw [cp]; omega)];exact this
  exact key _ 0 (cw _)
theorem copyExpr:∀ (m:Nat) (e:zG),BE m e->qT e=some e
  | m,e,h=>by
    obtain ⟨h1,h2,h3⟩:=h.own
    rw [qT]
    have hl:=eU (l:=e.Kids) (f:=fun i o=>vX e i o) (fun i hi o ho=>by
        show vX e (i:Int) o=_
        rw [vX]
        have k1:((i:Int)<(e.Kids.length:Int)):=by omega
        obtain ⟨m',hm,hm'⟩:=h.kid (gM hi)
        have happ:app 112 o [e.Kids[i]]=some (o++[e.Kids[i]]):=nI (by simp; omega)
        have hr:=copyExpr m' e.Kids[i] hm'
        simp only [k1,dT,if_true,yS hi,oB,oS,same,hr,happ]
        rw [wP (by omega)]) (fun o=>by
        show vX e (e.Kids.length:Int) o=_
        rw [vX]; simp)
    simp only [specCopyAff _ h1,specCopyAcc _ h2,oB,oS,same]
    rw [show vX e 0 []=some e.Kids from hl]
    clear hl h h1 h2 h3
    cases e; rfl
theorem copyStmt (s:zO) (h:BS s):jO s=some s:=by
  obtain ⟨h1,m,h2⟩:=h;unfold jO;rw [specCopyAcc _ h1,copyExpr m _ h2];rfl
theorem copyNest (nest:List zE) (h:BN nest):nQ nest=some nest:=by
  obtain ⟨h1,h2⟩:=h;unfold nQ;have hl:=eU (l:=nest) (f:=fun i o=>uN nest o i) (fun i hi o ho=>by
      show uN nest o (i:Int)=_;rw [uN];have k1:((i:Int)<(nest.length:Int)):=by omega
      obtain ⟨⟨q1,q2⟩,q3,q4⟩:=h2 _ (gM hi);have happ:app 48 o [nest[i]]=some (o++[nest[i]]):=nI (by simp; omega);have hlo:=eU (l:=nest[i].Lo) (f:=fun k o=>sM nest (i:Int) k o) (fun k hk o ho=>by
          show sM nest (i:Int) (k:Int) o=_;rw [sM];have k2:((k:Int)<(nest[i].Lo.length:Int)):=by omega
          have hp:app 32 o [nest[i].Lo[k]]=some (o++[nest[i].Lo[k]]):=nI (by simp; omega);have ha:=q2 _ (gM hk);have hpn:app 8 ([]:List Int) nest[i].Lo[k].Coefs=some nest[i].Lo[k].Coefs:=dY _ (by unfold BA at ha; omega);simp only [yS hi,k2,dT,if_true,yS hk,oB,oS,hpn,hp];rw [wP (by omega)]) (fun o=>by
          show sM nest (i:Int) (nest[i].Lo.length:Int) o=_;rw [sM]; simp [yS hi])
      have hhi:=eU (l:=nest[i].Hi) (f:=fun k o=>sN nest (i:Int) k o) (fun k hk o ho=>by
          show sN nest (i:Int) (k:Int) o=_;rw [sN];have k2:((k:Int)<(nest[i].Hi.length:Int)):=by omega
          have hp:app 32 o [nest[i].Hi[k]]=some (o++[nest[i].Hi[k]]):=nI (by simp; omega);have ha:=q4 _ (gM hk);have hpn:app 8 ([]:List Int) nest[i].Hi[k].Coefs=some nest[i].Hi[k].Coefs:=dY _ (by unfold BA at ha; omega);simp only [yS hi,k2,dT,if_true,yS hk,oB,oS,hpn,hp];rw [wP (by omega)]) (fun o=>by
          show sN nest (i:Int) (nest[i].Hi.length:Int) o=_;rw [sN]; simp [yS hi])
      simp only [k1,dT,if_true,oB,oS,hlo,hhi,happ];rw [wP (by omega)]) (fun o=>by
      show uN nest o (nest.length:Int)=_;rw [uN]; simp)
  rw [hl]; rfl
theorem copyProg (P:zD) (h:BG P):qQ P=some P:=by
  obtain ⟨⟨h1,h1'⟩,h2,h3⟩:=h;unfold qQ;have ha:=eU (l:=P.Arrays) (f:=fun i o=>sO P i o) (fun i hi o ho=>by
      show sO P (i:Int) o=_;rw [sO];have k1:((i:Int)<(P.Arrays.length:Int)):=by omega
      have hd:=h1' _ (gM hi);have happ:app 40 o [P.Arrays[i]]=some (o++[P.Arrays[i]]):=nI (by simp; omega);have hpn:app 8 ([]:List Int) P.Arrays[i].Dims=some P.Arrays[i].Dims:=dY _ (by omega);simp only [k1,dT,if_true,yS hi,oB,oS,hpn,happ];rw [wP (by omega)]) (fun o=>by
      show sO P (P.Arrays.length:Int) o=_;rw [sO]; simp)
  have hp:=eU (l:=P.Parts) (f:=fun i o=>uO P i o) (fun i hi o ho=>by
      show uO P (i:Int) o=_;rw [uO];have k1:((i:Int)<(P.Parts.length:Int)):=by omega
      obtain ⟨b1,b2,b3⟩:=h3 _ (gM hi);have happ:app 48 o [P.Parts[i]]=some (o++[P.Parts[i]]):=nI (by simp; omega);have hb:=eU (l:=P.Parts[i].Body) (f:=fun k o=>sP P (i:Int) k o) (fun k hk o ho=>by
          show sP P (i:Int) (k:Int) o=_;rw [sP];have k2:((k:Int)<(P.Parts[i].Body.length:Int)):=by omega
          have hp:app 152 o [P.Parts[i].Body[k]]=some (o++[P.Parts[i].Body[k]]):=nI (by simp; omega);simp only [yS hi,k2,dT,if_true,yS hk,oB,oS,copyStmt _ (b3 _ (gM hk)),hp];rw [wP (by omega)]) (fun o=>by
          show sP P (i:Int) (P.Parts[i].Body.length:Int) o=_;rw [sP]; simp [yS hi])
      simp only [k1,dT,if_true,yS hi,oB,oS,copyNest _ b1,hb,happ];rw [wP (by omega)]) (fun o=>by
      show uO P (P.Parts.length:Int) o=_;rw [uO]; simp)
  rw [ha,hp]; rfl
end Go.LN
namespace Go.LN
theorem BE.up1:∀ {n:Nat}{e:zG},BE n e->BE (n+1) e
  | 0,e,⟨h1,h2,h3⟩=>⟨h1,h2,by rw [h3]; simp,by rw [h3]; intro k hk; cases hk⟩
  | n+1,e,⟨h1,h2,h3,h4⟩=>⟨h1,h2,h3,fun k hk=>BE.up1 (h4 k hk)⟩
theorem BE.up {n m:Nat}{e:zG} (h:BE n e) (hm:n<=m):BE m e:=by
  obtain ⟨k,rfl⟩:=Nat.exists_eq_add_of_le hm
  induction k with
  | zero=>exact h
  | succ k ih=>exact BE.up1 (ih (by omega))
def QL (q:Nat) (l:List zA):Prop:=l.length<=q/\∀ a∈l,BA a
def QN (q:Nat) (nest:List zE):Prop:=nest.length<=2000/\∀ x∈nest,QL q x.Lo/\QL q x.Hi
def QS (q:Nat) (s:zO):Prop:=QL q s.Write.Subs/\BA s.Value.Index/\BL s.Value.Read.Subs/\s.Value.Kids.length<=q/\∀ k∈s.Value.Kids,BE 6 k
theorem QL.up {q r:Nat}{l:List zA} (h:QL q l) (hq:q<=r):QL r l:=⟨cS h.1 hq,h.2⟩
theorem QL.bl {q:Nat}{l:List zA} (h:QL q l) (hq:q<=1000):BL l:=⟨cS h.1 hq,h.2⟩
theorem QL.app {q k:Nat}{l m:List zA} (h:QL q l) (hm:QL k m):QL (q+k) (l++m):=by
  refine ⟨by rw [lA]; exact Nat.add_le_add h.1 hm.1,fun a ha=>?_⟩;rcases cQ.1 ha with ha | ha
  · exact h.2 a ha
  · exact hm.2 a ha
theorem QL.nil {q:Nat}:QL q []:=⟨ee _,fun _ h=>by cases h⟩
theorem QL.one {a:zA} (h:BA a):QL 1 [a]:=⟨dj _,fun _ h'=>ck.1 h' ▸ h⟩
theorem QL.two {a b:zA} (h:BA a) (h2:BA b):QL 2 [a,b]:=QL.app (QL.one h) (QL.one h2)
theorem QN.up {q r:Nat}{l:List zE} (h:QN q l) (hq:q<=r):QN r l:=⟨h.1,fun x hx=>⟨(h.2 x hx).1.up hq,(h.2 x hx).2.up hq⟩⟩
theorem QN.bn {q:Nat}{l:List zE} (h:QN q l) (hq:q<=1000):BN l:=⟨by have:=h.1; omega,fun x hx=>⟨(h.2 x hx).1.bl hq,(h.2 x hx).2.bl hq⟩⟩
theorem QN.set {q:Nat}{l:List zE} (h:QN q l) {x:zE} (hx:QL q x.Lo/\QL q x.Hi) (k:Nat):QN q (l.set k x):=⟨by rw [cR]; exact h.1,zE4 h.2 hx k⟩
theorem QS.up {q r:Nat}{s:zO} (h:QS q s) (hq:q<=r):QS r s:=⟨h.1.up hq,h.2.1,h.2.2.1,cS h.2.2.2.1 hq,h.2.2.2.2⟩
theorem QS.bs {q:Nat}{s:zO} (h:QS q s) (hq:q<=1000):BS s:=⟨h.1.bl hq,7,h.2.1,h.2.2.1,by have:=h.2.2.2.1; omega,h.2.2.2.2⟩
theorem zHq {a:zA} (h:a.Coefs.length=4):BA a:=by unfold BA; omega
theorem zKW (q:Nat):∀ (j:Nat) (out:List zE),5<=out.length+j->1<=out.length->QN q out->Ok (qC out) (QN q)
  | 0,out,hj,h1,h=>by
    rw [qC]
    refine Ok.ite_dec (fun hc=>absurd hc (by omega)) fun _=>Ok.pure h
  | j+1,out,hj,h1,h=>by
    rw [qC]
    refine Ok.ite_dec (fun hc=>?_) fun _=>Ok.pure h
    refine Ok.idx (by omega) (by omega) fun x hx _=>Ok.app (by simp; omega) ?_
    refine zKW q j _ (by rw [lA]; simp; omega) (by rw [lA]; omega) ⟨by rw [lA]; simp; omega,fun y hy=>?_⟩
    rcases cQ.1 hy with hy | hy
    · exact h.2 y hy
    · rw [ck.1 hy]; exact h.2 x hx
theorem mut2 (q:Nat) (hq:q<=300) (r:zK) (nest:List zE) (h:QN q nest) (h0:0<=r.p) (h1:r.p<=900000000):Ok (nD r nest) (fun y=>QN (q+2) y.1/\0<=y.2.p/\y.2.p<=r.p+2):=by
  have hup:=h.up (show q<=q+2 by omega);unfold nD;rw [copyNest nest (h.bn (by omega))];refine Ok.bind_some (Ok.ite_beq (fun _=>Ok.pure ⟨hup,h0,by dsimp only; omega⟩) fun hne=>?_);have hpos:0<nest.length:=by omega
  have bh:=h.1;have hW:W ((nest.length:Int) - 1)=((nest.length - 1:Nat):Int):=by rw [sL (by omega) (by omega)]; omega
  refine Ok.call (fH r 40) ⟨h0,by omega⟩ fun y2 s g1 g2 g3=>?_;refine Ok.ite_beq (fun _=>?_) fun _=>Ok.ite_beq (fun _=>?_) fun _=>Ok.ite_beq (fun _=>?_) fun _=>Ok.ite_beq (fun _=>?_) fun _=>Ok.ite_beq (fun _=>?_) fun _=>?_
  · refine Ok.idx (by omega) (by omega) fun x hx _=>Ok.call (fH s 2) ⟨by omega,by omega⟩ fun y5 s2 k1 k2 k3=>Ok.call (zC9 y5) ⟨k1,by omega⟩ fun a c1 c2=>?_;have hxx:=h.2 x hx;refine Ok.app (by have:=hxx.1.1; simp; omega) (Ok.pure ⟨QN.set (x:=⟨x.Lo++[a],x.Hi⟩) hup ⟨(hxx.1.app (QL.one (zHq c1))).up (show q+1<=q+2 by omega),hxx.2.up (show q<=q+2 by omega)⟩ _,by dsimp only; omega,by dsimp only; omega⟩)
  · rw [hW];refine Ok.idx (by omega) (by omega) fun x hx _=>?_;have hxx:=h.2 x hx;exact Ok.pure ⟨QN.set (x:=⟨x.Lo,[]⟩) hup ⟨hxx.1.up (show q<=q+2 by omega),QL.nil⟩ _,by dsimp only; omega,by dsimp only; omega⟩
  · rw [hW];refine Ok.idx (by omega) (by omega) fun x hx _=>Ok.call (mR 1) trivial (Ok.call (mR 2) trivial ?_);have hxx:=h.2 x hx;exact Ok.app (by have:=hxx.2.1; simp; omega) (Ok.pure ⟨QN.set (x:=⟨x.Lo,x.Hi++[⟨[0,0,0,0],1⟩,⟨[0,0,0,0],2⟩]⟩) hup ⟨hxx.1.up (show q<=q+2 by omega),hxx.2.app (QL.two (zHq rfl) (zHq rfl))⟩ _,by dsimp only; omega,by dsimp only; omega⟩)
  · refine Ok.call (mR 99) trivial (Ok.idx (by omega) (by omega) fun x hx _=>?_);have hxx:=h.2 x hx;exact Ok.pure ⟨QN.set (x:=⟨x.Lo,[⟨[0,0,0,0],99⟩]⟩) hup ⟨hxx.1.up (show q<=q+2 by omega),(QL.one (zHq rfl)).up (show 1<=q+2 by omega)⟩ _,by dsimp only; omega,by dsimp only; omega⟩
  · refine Ok.bind (zKW q 5 nest (by omega) hpos h) fun z hz=>Ok.pure ⟨hz.up (by omega),by dsimp only; omega,by dsimp only; omega⟩
  · exact Ok.pure ⟨hup,by dsimp only; omega,by dsimp only; omega⟩
theorem mut3 (q:Nat) (hq:q<=300) (r:zK) (s:zO) (h:QS q s) (h0:0<=r.p) (h1:r.p<=900000000):Ok (sJ r s) (fun y=>QS (q+2) y.1/\0<=y.2.p/\y.2.p<=r.p+2):=by
  obtain ⟨w1,w2,w3,w4,w5⟩:=h.up (show q<=q+2 by omega);obtain ⟨v1,_,_,v4,_⟩:=id h;have v11:=v1.1;unfold sJ;rw [copyStmt s (h.bs (by omega))];refine Ok.bind_some (Ok.call (fH r 40) ⟨h0,by omega⟩ fun y2 y3 g1 g2 g3=>?_);have fin:∀ (o:Str×List zA×Int×Int×List zG×zK),(QL (q+2) o.2.1/\(o.2.2.2.2.1.length<=q+2/\∀ k∈o.2.2.2.2.1,BE 6 k)/\0<=o.2.2.2.2.2.p/\o.2.2.2.2.2.p<=r.p+2)->QS (q+2) (zO.mk (zJ.mk o.1 o.2.1) (zG.mk o.2.2.1 o.2.2.2.1 s.Value.Index s.Value.Read o.2.2.2.2.1))/\0<=o.2.2.2.2.2.p/\o.2.2.2.2.2.p<=r.p+2 :=
    fun o ⟨a,b,c⟩=>⟨⟨a,w2,w3,b.1,b.2⟩,c⟩
  refine Ok.bind (φ:=fun o:Str×List zA×Int×Int×List zG×zK=>QL (q+2) o.2.1/\(o.2.2.2.2.1.length<=q+2/\∀ k∈o.2.2.2.2.1,BE 6 k)/\0<=o.2.2.2.2.2.p/\o.2.2.2.2.2.p<=r.p+2) ?_ fun o ho=>by
    obtain ⟨o1,o2,o3,o4,o5,o6⟩:=o;exact Ok.pure (fin _ ho)
  refine Ok.ite_beq (fun _=>?_) fun _=>?_
  · exact Ok.call (dX y3 _) ⟨by decide,by omega,by omega⟩ fun z t _ k3=>Ok.pure ⟨w1,⟨w4,w5⟩,by dsimp only; omega,by dsimp only; omega⟩
  refine Ok.bind (φ:=fun o:List zA×Int×Int×List zG×zK=>QL (q+2) o.1/\(o.2.2.2.1.length<=q+2/\∀ k∈o.2.2.2.1,BE 6 k)/\0<=o.2.2.2.2.p/\o.2.2.2.2.p<=r.p+2) ?_ fun o ho=>by
    obtain ⟨o2,o3,o4,o5,o6⟩:=o;exact Ok.pure ho
  refine Ok.ite_beq (fun _=>?_) fun _=>?_
  · exact Ok.call (zC9 3) (by omega) fun a c1 c2=>Ok.call eN trivial (Ok.app (by simp; omega) (Ok.pure ⟨v1.app (QL.two (zHq c1) (zHq rfl)),⟨w4,w5⟩,by dsimp only; omega,by dsimp only; omega⟩))
  refine Ok.bind (φ:=fun o:Int×Int×List zG×zK=>(o.2.2.1.length<=q+2/\∀ k∈o.2.2.1,BE 6 k)/\0<=o.2.2.2.p/\o.2.2.2.p<=r.p+2) ?_ fun o ho=>by
    obtain ⟨o3,o4,o5,o6⟩:=o;exact Ok.pure ⟨w1,ho⟩
  refine Ok.ite_beq (fun _=>?_) fun _=>?_
  · exact Ok.call (wA y3 _) ⟨by decide,by omega,by omega,by decide⟩ fun z t _ _ k3=>Ok.pure ⟨⟨w4,w5⟩,by dsimp only; omega,by dsimp only; omega⟩
  refine Ok.bind (φ:=fun o:Int×List zG×zK=>(o.2.1.length<=q+2/\∀ k∈o.2.1,BE 6 k)/\0<=o.2.2.p/\o.2.2.p<=r.p+2) ?_ fun o ho=>by
    obtain ⟨o4,o5,o6⟩:=o;exact Ok.pure ho
  refine Ok.ite_beq (fun _=>?_) fun _=>?_
  · exact Ok.call (wA y3 _) ⟨by decide,by omega,by omega,by decide⟩ fun z t _ _ k3=>Ok.pure ⟨⟨w4,w5⟩,by dsimp only; omega,by dsimp only; omega⟩
  refine Ok.bind (φ:=fun o:List zG=>o.length<=q+2/\∀ k∈o,BE 6 k) ?_ fun o ho=>Ok.pure ⟨ho,by dsimp only; omega,by dsimp only; omega⟩;refine Ok.ite_beq (fun _=>?_) fun _=>Ok.pure ⟨w4,w5⟩;refine Ok.app (by show (_+1)*112<=_; omega) (Ok.pure ⟨by show (_++_:List zG).length<=_; rw [lA]; show _+1<=_; omega,fun k hk=>?_⟩);rcases cQ.1 hk with hk | hk
  · exact w5 k hk
  · rw [ck.1 hk];exact BE.up (n:=0) ⟨ee _,⟨ee _,fun _ h=>by cases h⟩,rfl⟩ (by omega)
end Go.LN
namespace Go.LN
def DX (x:zN):Prop:=QN 100 x.Nest/\x.Body.length<=1000/\∀ s∈x.Body,QS 100 s
def DP (P:zD):Prop:=(P.Arrays.length<=1000/\∀ a∈P.Arrays,a.Dims.length<=1000)/\P.Parts.length<=1000/\∀ x∈P.Parts,DX x
theorem DX.bp {x:zN} (h:DX x):BP x:=⟨h.1.bn (by omega),by have:=h.2.1; omega,fun s hs=>(h.2.2 s hs).bs (by omega)⟩
theorem DP.bg {P:zD} (h:DP P):BG P:=⟨⟨by have:=h.1.1; omega,h.1.2⟩,by have:=h.2.1; omega,fun x hx=>(h.2.2 x hx).bp⟩
def PB (l:List zN):Prop:=l.length<=1000/\∀ x∈l,BP x
theorem PB.set {l:List zN} (h:PB l) {x:zN} (hx:BP x) (k:Nat):PB (l.set k x):=⟨by rw [cR]; exact h.1,zE4 h.2 hx k⟩
def AR (l:List zF):Prop:=l.length<=2000/\∀ a∈l,a.Dims.length<=1000
def RD (s:zK):Prop:=0<=s.p/\s.p<=700001000
theorem mut4 (r:zK) (P:zD) (h:DP P) (h0:0<=r.p) (h1:r.p<=700000000):Ok (pI r P) (fun y=>(BG y.1/\AR y.1.Arrays)/\RD y.2):=by
  obtain ⟨⟨a1,a2⟩,p1,p2⟩:=id h;have hA:AR P.Arrays:=⟨by omega,a2⟩;have hP:PB P.Parts:=⟨p1,fun x hx=>(p2 x hx).bp⟩;have hW:0<P.Parts.length->W ((P.Parts.length:Int) - 1)=((P.Parts.length - 1:Nat):Int):=fun hp=>by rw [sL (by omega) (by omega)]; omega
  unfold pI;rw [copyProg P h.bg];refine Ok.bind_some (Ok.call (fH r 60) ⟨h0,by omega⟩ fun y2 y3 g1 g2 g3=>?_);have hR:RD y3:=⟨by omega,by omega⟩;refine Ok.bind (φ:=fun o:List zF×List zN×zK=>AR o.1/\PB o.2.1/\RD o.2.2) ?_ fun o ho=>by
    obtain ⟨o1,o2,o3⟩:=o;exact Ok.pure ⟨⟨⟨⟨by have:=ho.1.1; dsimp only at this ⊢; omega,ho.1.2⟩,by have:=ho.2.1.1; dsimp only at this ⊢; omega,ho.2.1.2⟩,ho.1⟩,ho.2.2⟩
  refine Ok.ite_beq (fun _=>?_) fun _=>?_
  · refine Ok.call (dX y3 _) ⟨by decide,by omega,by omega⟩ fun z t _ k3=>Ok.call (wA t _) ⟨by decide,by omega,by omega,by decide⟩ fun z2 t2 _ _ k4=>Ok.app (by show (_+1)*40<=_; omega) (Ok.pure ⟨⟨by show (_++_:List zF).length<=_; rw [lA]; show _+1<=_; omega,fun a ha=>?_⟩,hP,⟨by dsimp only; omega,by dsimp only; omega⟩⟩);rcases cQ.1 ha with ha | ha
    · exact a2 a ha
    · rw [ck.1 ha]; show 1<=1000; omega
  refine Ok.bind (φ:=fun o:List zF×List zN×zK=>AR o.1/\PB o.2.1/\RD o.2.2) ?_ fun o ho=>by
    obtain ⟨o1,o2,o3⟩:=o;exact Ok.pure ho
  refine Ok.ite_beq (fun _=>?_) fun _=>?_
  · refine Ok.bind (φ:=fun o:List zF×zK=>AR o.1/\RD o.2) ?_ fun o ho=>by
      obtain ⟨o1,o3⟩:=o;exact Ok.pure ⟨ho.1,hP,ho.2⟩
    refine Ok.ite_dec (fun hc=>?_) fun _=>Ok.pure ⟨hA,hR⟩;refine Ok.call (wA y3 _) ⟨by decide,by omega,by omega,by decide⟩ fun z t _ _ k3=>Ok.idx (by omega) (by omega) fun x hx _=>Ok.bind_pure (Ok.pure ⟨⟨by show (List.set _ _ _).length<=_; rw [cR]; exact hA.1,zE4 hA.2 (show ([z]:List Int).length<=1000 by simp) _⟩,⟨by dsimp only; omega,by dsimp only; omega⟩⟩)
  refine Ok.bind (φ:=fun o:List zN×zK=>PB o.1/\RD o.2) ?_ fun o ho=>by
    obtain ⟨o1,o3⟩:=o;exact Ok.pure ⟨hA,ho⟩
  refine Ok.ite_beq (fun _=>?_) fun _=>?_
  · refine Ok.bind (φ:=fun o:List zN×zK=>PB o.1/\RD o.2) ?_ fun o ho=>by
      obtain ⟨o1,o3⟩:=o;exact Ok.pure ho
    refine Ok.ite_dec (fun hc=>?_) fun _=>Ok.pure ⟨hP,hR⟩;refine Ok.idx (by omega) (by omega) fun x hx _=>?_;refine Ok.bind (mut2 100 (by omega) y3 x.Nest (p2 x hx).1 (by omega) (by omega)) fun q1 k1=>?_;obtain ⟨n1,s1⟩:=q1;obtain ⟨c1,c2,c3⟩:=k1;refine Ok.bind (mut2 (100+2) (by omega) s1 n1 c1 c2 (by dsimp only at c3; omega)) fun q2 k2=>?_;obtain ⟨n2,s2⟩:=q2;obtain ⟨d1,d2,d3⟩:=k2;refine Ok.bind (mut2 (100+2+2) (by omega) s2 n2 d1 d2 (by dsimp only at c3 d3; omega)) fun q3 k3=>?_;obtain ⟨n,s⟩:=q3;have hn:=k3.1;refine Ok.idx (by omega) (by omega) fun x7 hx7 _=>Ok.bind_pure (Ok.pure ⟨hP.set (x:=⟨n,x7.Body⟩) ⟨hn.bn (by omega),(p2 x7 hx7).bp.2.1,(p2 x7 hx7).bp.2.2⟩ _,⟨k3.2.1,by have:=k3.2.2; dsimp only at this c3 d3 ⊢; omega⟩⟩)
  refine Ok.bind (φ:=fun o:List zN×zK=>PB o.1/\RD o.2) ?_ fun o ho=>by
    obtain ⟨o1,o3⟩:=o;exact Ok.pure ho
  refine Ok.ite_beq (fun _=>?_) fun _=>?_
  · refine Ok.bind (φ:=fun b=>b=true->0<P.Parts.length/\∀ x,P.Parts[P.Parts.length - 1]?=some x->0<x.Body.length) ?_ fun b hb=>?_
    · refine Ok.ite_dec (fun hc=>?_) fun _=>Ok.pure (fun h=>by cases h);have hp:0<P.Parts.length:=by omega
      rw [hW hp];refine Ok.idx (by omega) (by omega) fun x hx he=>Ok.pure fun hd=>⟨hp,fun x' hx'=>?_⟩;rw [iN] at he;rw [he] at hx';cases hx'
      have:=of_decide_eq_true hd;omega
    · refine Ok.bind (φ:=fun o:List zN×zK=>PB o.1/\RD o.2) ?_ fun o ho=>by
        obtain ⟨o1,o3⟩:=o;exact Ok.pure ho
      refine Ok.ite (fun hc=>?_) fun _=>Ok.pure ⟨hP,hR⟩;obtain ⟨hp,hbody⟩:=hb hc;rw [hW hp];refine Ok.idx (by omega) (by omega) fun x hx he=>?_;rw [iN] at he;have hb0:=hbody x he;have hdx:=p2 x hx;refine Ok.idx (by omega) (by omega) fun x0 hx0 _=>?_;refine Ok.bind (mut3 100 (by omega) y3 x0 (hdx.2.2 x0 hx0) (by omega) (by omega)) fun q1 k1=>?_;obtain ⟨n1,s1⟩:=q1;obtain ⟨c1,c2,c3⟩:=k1;refine Ok.bind (mut3 (100+2) (by omega) s1 n1 c1 c2 (by dsimp only at c3; omega)) fun q2 k2=>?_;obtain ⟨n2,s2⟩:=q2;obtain ⟨d1,d2,d3⟩:=k2;refine Ok.bind (mut3 (100+2+2) (by omega) s2 n2 d1 d2 (by dsimp only at c3 d3; omega)) fun q3 k3=>?_;obtain ⟨n,s⟩:=q3;have hn:=k3.1;refine Ok.bind_pure (Ok.pure ⟨hP.set (x:=⟨x.Nest,x.Body.set 0 n⟩) ⟨hdx.bp.1,by rw [cR]; exact hdx.bp.2.1,zE4 hdx.bp.2.2 (hn.bs (by omega)) _⟩ _,⟨k3.2.1,by have:=k3.2.2; dsimp only at this c3 d3 ⊢; omega⟩⟩)
  refine Ok.bind (φ:=fun o:List zN=>PB o) ?_ fun o ho=>Ok.pure ⟨ho,hR⟩;refine Ok.ite_beq (fun _=>?_) fun _=>Ok.pure hP;refine Ok.bind (φ:=fun o:List zN=>PB o) ?_ fun o ho=>Ok.pure ho;refine Ok.ite_dec (fun hc=>?_) fun _=>Ok.pure hP;have hp:0<P.Parts.length:=by omega
  rw [hW hp];refine Ok.idx (by omega) (by omega) fun x hx he=>Ok.bind_pure (Ok.pure (hP.set (x:=⟨x.Nest,[]⟩) ⟨(p2 x hx).bp.1,by show 0<=100000; omega,fun _ h=>by cases h⟩ _))
theorem SE.be:∀ {n:Nat}{e:zG},SE n e->BE n e
  | 0,e,⟨h1,h2,h3⟩=>⟨by have:=h1.1; unfold BA; omega,⟨by have:=h2.2.1; omega,fun a ha=>by have:=(h2.2.2 a ha).1; unfold BA; omega⟩,h3⟩
  | n+1,e,⟨h1,h2,h3,h4⟩=>⟨by have:=h1.1; unfold BA; omega,⟨by have:=h2.2.1; omega,fun a ha=>by have:=(h2.2.2 a ha).1; unfold BA; omega⟩,by omega,fun k hk=>SE.be (h4 k hk)⟩
theorem SS.qs {s:zO} (h:SS s):QS 100 s:=by
  obtain ⟨h1,h2⟩:=h;have hb:=SE.be h2;exact ⟨⟨h1.2.1,fun a ha=>by have:=(h1.2.2 a ha).1; unfold BA; omega⟩,hb.1,hb.2.1,by have:=h2.2.2.1; omega,fun k hk=>BE.up (n:=4) (m:=6) (hb.2.2.2 k hk) (by omega)⟩
theorem LL.ql {l:List zA} (h:LL l):QL 100 l:=⟨h.1,fun a ha=>by have:=(h.2 a ha).1; unfold BA; omega⟩
theorem SG.dp {P:zD} (h:SG 1000 P):DP P:=by
  obtain ⟨⟨h1,h2⟩,h3,h4⟩:=h;refine ⟨⟨h1,fun a ha=>by have:=(h2 a ha).2; omega⟩,h3,fun x hx=>?_⟩;obtain ⟨⟨k1,k2⟩,k3,k4⟩:=h4 x hx;exact ⟨⟨by omega,fun y hy=>⟨(k2 y hy).1.ql,(k2 y hy).2.ql⟩⟩,k3,fun s hs=>(k4 s hs).qs⟩
end Go.LN
namespace Go.LN
theorem zJO {A:List zF}{x:zN} (h:partB A x=true):(nestPts x.Nest).1=pts x.Nest []/\nestB x.Nest=true/\(pts x.Nest []).length<=120:=by
  simp only [partB,bA] at h;have h1:=h.1.1;unfold nestPts at h1 ⊢;split at h1
  · rename_i hc;rw [if_pos hc];exact ⟨rfl,hc.1,hc.2.2⟩
  · cases h1
theorem zJP (P:zD) (i:Nat) (hi:i<P.Parts.length) (y:List (List Int)) (k:Nat) (hk:k<y.length) (hq:y[k].length<=4) (hb:P.Parts[i].Body.length<=4) :
    ∀ (j s:Nat) (o:List zL),s+j=P.Parts[i].Body.length->o.length+j<=1000000->wI P (i:Int) y (k:Int) o (s:Int)=some (o++instR (i:Int) y[k] s j):=by
  intro j
  induction j with
  | zero =>
    intro s o hs ho
    rw [wI]
    have:¬((s:Int)<(P.Parts[i].Body.length:Int)):=by omega
    simp only [yS hi,this,dF,bF,if_false,oB,oS,oP]
    simp [instR]
  | succ j ih =>
    intro s o hs ho
    rw [wI]
    have hc:((s:Int)<(P.Parts[i].Body.length:Int)):=by omega
    have hpn:app 8 ([]:List Int) y[k]=some y[k]:=dY _ (by omega)
    have happ:app 40 o [(⟨(i:Int),(s:Int),y[k]⟩:zL)]=some (o++[⟨(i:Int),(s:Int),y[k]⟩]):=nI (by simp; omega)
    simp only [yS hi,hc,dT,if_true,yS hk,oB,oS,hpn,happ]
    rw [wP (by omega),ih (s+1) _ (by omega) (by simp; omega),co]
    simp only [instR,de,cE,fm]
theorem zJQ (P:zD) (i:Nat) (hi:i<P.Parts.length) (y:List (List Int)) (hy:y.length<=120) (hq:∀ q∈y,q.length<=4) (hb:P.Parts[i].Body.length<=4) :
    ∀ (j k:Nat) (o:List zL),k+j=y.length->o.length+4*j<=1000000->wJ P (i:Int) y o (k:Int)=some (o++(y.drop k).flatMap fun q=>instR (i:Int) q 0 P.Parts[i].Body.length):=by
  intro j
  induction j with
  | zero =>
    intro k o hk ho
    rw [wJ]
    have:¬((k:Int)<(y.length:Int)):=by omega
    simp only [this,dF,bF,if_false]
    rw [show y.drop k=[] from dN.2 (by omega)]
    simp
  | succ j ih =>
    intro k o hk ho
    rw [wJ]
    have aF:k<y.length:=by omega
    have hc:((k:Int)<(y.length:Int)):=by omega
    have h3:=zJP P i hi y k aF (hq _ (gM aF)) hb P.Parts[i].Body.length 0 o (cw _) (by omega)
    rw [nZ] at h3
    simp only [hc,dT,if_true,oB,oS,h3]
    rw [wP (by omega),ih (k+1) _ (by omega) (by rw [lA,zFT]; omega),gC aF,cm,co]
theorem zJR (P:zD) (hP:P.Parts.length<=4) (hb:∀ i,i<P.Parts.length->partB P.Arrays (gP P i)=true) :
    ∀ (j i:Nat) (o:List zL),i+j=P.Parts.length->o.length<=480*i->wK P o (i:Int)=some (o++(List.range' i j).flatMap fun (i:Nat)=>partI (i:Int) (gP P i)):=by
  intro j
  induction j with
  | zero =>
    intro i o hi ho
    rw [wK]
    have:¬((i:Int)<(P.Parts.length:Int)):=by omega
    simp [this]
  | succ j ih =>
    intro i o hi ho
    rw [wK]
    have aF:i<P.Parts.length:=by omega
    have hc:((i:Int)<(P.Parts.length:Int)):=by omega
    have hg:gP P i=P.Parts[i]:=by simp [gP,aF]
    have hp:=hb i aF
    rw [hg] at hp
    obtain ⟨p1,p2,p3⟩:=zJO hp
    obtain ⟨n1,n2⟩:=zE7 p2
    have hpp:=hp
    simp only [partB,bA] at hpp
    obtain ⟨_,q2,_⟩:=zB7 hpp.1.2
    have hpts:=specPts P.Parts[i].Nest P.Parts[i].Nest [] [] n2 rfl (by simp) n1 (by simp)
    rw [cv,cV (by omega)] at hpts
    have h2:=zJQ P i aF (pts P.Parts[i].Nest []) p3 (fun q hq=>by have:=zIR _ _ q hq; simp at this; omega) q2 _ 0 o (cw _) (by omega)
    rw [nZ,cq] at h2
    simp only [hc,dT,if_true,yS aF,oB,oS,hpts,h2]
    have hI:((pts P.Parts[i].Nest []).flatMap fun q=>instR (i:Int) q 0 P.Parts[i].Body.length)=partI (i:Int) P.Parts[i]:=by rw [partI,p1]
    have bK:=zGx (i:Int) hp
    rw [hI,wP (by omega),ih (i+1) _ (by omega) (by rw [lA]; omega),de,cm,hg,co]
theorem rJ {P:zD} (h:validP P=true):arrB P.Arrays=true/\P.Parts.length<=4/\(∀ i,i<P.Parts.length->partB P.Arrays (gP P i)=true)/\(progI P).length<=120:=by
  simp only [validP,progB,bA,decide_eq_true_eq] at h;obtain ⟨⟨⟨h1,h2⟩,h3⟩,h4⟩:=h;exact ⟨h1,h2,fun i hi=>ci.1 h3 i (ga.2 ⟨ee _,by omega⟩),h4⟩
theorem specInst4 (P:zD) (hv:validP P=true):qI P=some (progI P):=by
  obtain ⟨_,v2,v3,_⟩:=rJ hv;have hl:=zJR P v2 v3 _ 0 [] (cw _) (by simp);rw [nZ,cv] at hl;simp only [qI,hl,oB,oS,oP,id];rfl
end Go.LN
namespace Go.LN
def DA (x:zF):Prop:=(∃ d,x.Dims=[d]/\1<=d/\d<=6)∨∃ d e,x.Dims=[d,e]/\(1<=d/\d<=6)/\1<=e/\e<=6
theorem mul36 {d e:Int} (h1:1<=d) (h2:d<=6) (h3:1<=e) (h4:e<=6):1<=d*e/\d*e<=36:=by
  have:d=1∨d=2∨d=3∨d=4∨d=5∨d=6:=by omega
  rcases this with rfl | rfl | rfl | rfl | rfl | rfl <;> omega
theorem zNR {x:zF}{d:Int} (h:x.Dims=[d]) (h1:1<=d) (h2:d<=6):sizeF x=d:=by
  unfold sizeF;rw [h,szL,szL,Int.one_mul,sL (by omega) (by omega)]
theorem zNS {x:zF}{d e:Int} (h:x.Dims=[d,e]) (h1:1<=d) (h2:d<=6) (h3:1<=e) (h4:e<=6):sizeF x=d*e:=by
  unfold sizeF;have:=mul36 h1 h2 h3 h4;rw [h,szL,szL,szL,Int.one_mul,sL (x:=d) (by omega) (by omega),sL (by omega) (by omega)]
theorem DA.size {x:zF} (h:DA x):1<=sizeF x/\sizeF x<=36:=by
  rcases h with ⟨d,h,h1,h2⟩ | ⟨d,e,h,⟨h1,h2⟩,h3,h4⟩
  · rw [zNR h h1 h2]; omega
  · rw [zNS h h1 h2 h3 h4]; exact mul36 h1 h2 h3 h4
def nm (l:List zF) (i:Nat):Nat:=match (l.getD i ⟨⟨[]⟩,[]⟩).Name.l with | c::_=>c.toNat | []=>0
end Go.LN
namespace Go.LN
end Go.LN
namespace Go.LN
end Go.LN
namespace Go.LN
def c0 (n:Int):zA:=⟨[0,0,0,0],n⟩
end Go.LN
namespace Go.LN
theorem zLe {P:zD} (h:BG P) (hv:validP P=true):RVa P.Arrays:=by
  simp only [validP,progB,bA] at hv;exact RVa.of h.1 hv.1.1.1
theorem zNT {p:List Int} (h:ptB p=true):p.length<=4:=by
  simp only [ptB,bA,decide_eq_true_eq] at h;exact h.1
end Go.LN
namespace Go.LN
end Go.LN
namespace Go.LN
theorem zGz:∀ {k:Nat}{a v:Int},v∈rngK k a↔a<=v/\v<a+(k:Int)
  | 0,a,v=>by simp [rngK]
  | k+1,a,v=>by rw [rngK,cT,zGz]; omega
theorem zM7 {a b v:Int}:v∈rng a b↔a<=v/\v<b:=by
  unfold rng;rw [zGz]; omega
theorem zKX:∀ (k:Nat) (a:Int),(rngK k a).Pairwise (· < ·)
  | 0,a=>List.Pairwise.nil
  | k+1,a=>by
    rw [rngK]
    refine List.Pairwise.cons (fun v hv=>?_) (zKX k (a+1))
    have:=(zGz.1 hv).1
    omega
def inP:List zE->List Int->List Int->Prop
  | [],_,[]=>True
  | l::ls,p,v::r=>(loF l p<=v/\v<hiF l p)/\inP ls (p++[v]) r
  | _,_,_=>False
theorem zFy:∀ {ls:List zE}{p q:List Int},q∈pts ls p->∃ r,q=p++r/\inP ls p r
  | [],p,q,h=>by
    rw [pts,ck] at h
    exact ⟨[],by rw [h,cu],trivial⟩
  | l::ls,p,q,h=>by
    rw [pts,cD] at h
    obtain ⟨v,hv,hq⟩:=h
    obtain ⟨r,e,hr⟩:=zFy hq
    exact ⟨v::r,by rw [e,co]; rfl,zM7.1 hv,hr⟩
def lexlt:List Int->List Int->Prop
  | x::xs,y::ys=>x<y∨(x=y/\lexlt xs ys)
  | _,_=>False
theorem zKY:∀ (ls:List zE) (p:List Int),(pts ls p).Pairwise fun q w=>∃ r s,q=p++r/\w=p++s/\lexlt r s
  | [],p=>by rw [pts]; exact List.pairwise_singleton ..
  | l::ls,p=>by
    rw [pts,List.pairwise_flatMap]
    refine ⟨fun v hv=>(zKY ls (p++[v])).imp ?_,(zKX _ _).imp ?_⟩
    · rintro q w ⟨r,s,e1,e2,h⟩
      exact ⟨v::r,v::s,by rw [e1,co]; rfl,by rw [e2,co]; rfl,.inr ⟨rfl,h⟩⟩
    · intro v w hvw q hq z hz
      obtain ⟨r,e1,_⟩:=zFy hq
      obtain ⟨s,e2,_⟩:=zFy hz
      exact ⟨v::r,w::s,by rw [e1,co]; rfl,by rw [e2,co]; rfl,.inl hvw⟩
def Ch {α:Type} (R:α->α->Prop):List α->Prop
  | a::b::l=>R a b/\Ch R (b::l)
  | _=>True
theorem Ch.append {α:Type}{R:α->α->Prop}:∀ {l m:List α},Ch R l->Ch R m->(∀ a∈l,∀ b∈m,R a b)->Ch R (l++m)
  | [],m,_,h2,_=>h2
  | [a],[],_,_,_=>trivial
  | [a],b::m,_,h2,h=>⟨h a (cf ..) b (cf ..),h2⟩
  | a::b::l,m,h1,h2,h=>⟨h1.1,Ch.append (l:=b::l) h1.2 h2 fun x hx=>h x (cg _ hx)⟩
theorem Ch.flat {α β:Type}{R:β->β->Prop}{f:α->List β}:∀ {l:List α},(∀ x∈l,Ch R (f x))->(l.Pairwise fun x y=>∀ a∈f x,∀ b∈f y,R a b)->Ch R (l.flatMap f)
  | [],_,_=>trivial
  | x::l,h1,h2=>by
    rw [cm]
    have h2':=f1.1 h2
    refine Ch.append (h1 x (cf ..)) (Ch.flat (fun y hy=>h1 y (cg _ hy)) h2'.2) fun a ha b hb=>?_
    obtain ⟨y,hy,hb⟩:=cD.1 hb
    exact h2'.1 y hy a ha b hb
theorem Ch.get {α:Type}{R:α->α->Prop}:∀ {l:List α} (i:Nat) (h:i+1<l.length),Ch R l->R l[i] l[i+1]
  | a::b::l,0,_,hc=>hc.1
  | a::b::l,i+1,h,hc=>Ch.get (l:=b::l) i (by simpa using h) hc.2
  | [a],i,h,_=>by simp at h
  | [],i,h,_=>by simp at h
def nxt (a b:zL):Prop:=a.Part<b.Part∨(a.Part=b.Part/\(lexlt a.Point b.Point∨(a.Point=b.Point/\a.Stmt+1=b.Stmt)))
theorem zJS (k:Int) (q:List Int):∀ (j i:Nat),Ch nxt (instR k q i j)
  | 0,_=>trivial
  | 1,_=>trivial
  | j+2,i=>by
    have:=zJS k q (j+1) (i+1)
    unfold instR at this ⊢
    rw [de,cE,de,cE]
    rw [de,cE] at this
    exact ⟨.inr ⟨rfl,.inr ⟨rfl,by dsimp only; omega⟩⟩,this⟩
theorem zCa {k:Int}{q:List Int}{i j:Nat}{z:zL} (h:z∈instR k q i j):z.Part=k/\z.Point=q/\∃ s:Nat,z.Stmt=(s:Int)/\s<i+j:=by
  unfold instR at h;obtain ⟨s,hs,rfl⟩:=eq.1 h;exact ⟨rfl,rfl,s,rfl,(ga.1 hs).2⟩
theorem zJT (nest:List zE):(nestPts nest).1.Pairwise lexlt:=by
  unfold nestPts;split
  · refine (zKY nest []).imp ?_;rintro q w ⟨r,s,e1,e2,h⟩;rw [e1,e2]; exact h
  · exact List.Pairwise.nil
theorem zLf (k:Int) (x:zN):Ch nxt (partI k x):=by
  unfold partI;refine Ch.flat (fun q _=>zJS k q _ 0) ((zJT x.Nest).imp ?_);intro q w h a ha b hb;obtain ⟨a1,a2,_⟩:=zCa ha;obtain ⟨b1,b2,_⟩:=zCa hb;exact .inr ⟨by rw [a1,b1],.inl (by rw [a2,b2]; exact h)⟩
theorem zHA {k:Int}{x:zN}{z:zL} (h:z∈partI k x):z.Part=k:=by
  unfold partI at h;obtain ⟨q,_,hz⟩:=cD.1 h;exact (zCa hz).1
theorem zLg (P:zD):Ch nxt (progI P):=by
  unfold progI;refine Ch.flat (fun i _=>zLf _ _) ((List.pairwise_lt_range' 1).imp ?_);intro i j h a ha b hb;exact .inl (by rw [zHA ha,zHA hb]; omega)
end Go.LN
namespace Go.LN
theorem zKA {P:zD} (h:validP P=true) {i:Nat} (hi:i<P.Parts.length):partB P.Arrays P.Parts[i]=true:=by
  simp only [validP,progB,bA,decide_eq_true_eq] at h;have:=ci.1 h.1.2 i (ga.2 ⟨ee _,by omega⟩);have hg:gP P i=P.Parts[i]:=by simp [gP,hi]
  rwa [hg] at this
theorem zM8 {nest:List zE}{q:List Int} (h:q∈(nestPts nest).1):nestB nest=true/\inP nest [] q:=by
  unfold nestPts at h;split at h
  · rename_i hc;obtain ⟨r,e,hr⟩:=zFy h;rw [cv] at e;exact ⟨hc.1,e ▸ hr⟩
  · cases h
theorem zHr {P:zD} (h:validP P=true) {z:zL} (hz:z∈progI P):∃ (i s:Nat) (hi:i<P.Parts.length) (hs:s<P.Parts[i].Body.length),z.Part=(i:Int)/\z.Stmt=(s:Int)/\nestB P.Parts[i].Nest=true/\inP P.Parts[i].Nest [] z.Point/\ptB z.Point=true/\stOk P.Arrays P.Parts[i].Body[s] z.Point=true/\stmtB P.Parts[i].Body[s] (P.Parts[i].Nest.length:Int)=true:=by
  unfold progI at hz;obtain ⟨i,hi,hz⟩:=cD.1 hz;have hi:i<P.Parts.length:=by have:=(ga.1 hi).2; omega
  have hg:gP P i=P.Parts[i]:=by simp [gP,hi]
  rw [hg] at hz;have hp:=zKA h hi;unfold partI at hz;obtain ⟨q,hq,hz⟩:=cD.1 hz;obtain ⟨z1,z2,s,z3,hs⟩:=zCa hz;have hs:s<P.Parts[i].Body.length:=by omega
  obtain ⟨n1,n2⟩:=zM8 hq;simp only [partB,bA] at hp;have hq2:=ci.1 hp.2 q hq;rw [bA] at hq2;refine ⟨i,s,hi,hs,z1,z3,n1,?_,?_,?_,?_⟩
  · rw [z2]; exact n2
  · rw [z2]; exact hq2.1
  · rw [z2]; exact ci.1 hq2.2 _ (gM hs)
  · exact (zB7 hp.1.2).2.2 _ (gM hs)
theorem zIS:∀ {ls:List zE}{p r:List Int},inP ls p r->r.length=ls.length
  | [],_,[],_=>rfl
  | l::ls,p,v::r,h=>by rw [cr,cr,zIS h.2]
  | [],_,_::_,h=>h.elim
  | _::_,_,[],h=>h.elim
end Go.LN
namespace Go.LN
theorem zJU:∀ {a:List Int},¬lexlt a a
  | [],h=>h.elim
  | x::a,h=>by
    rcases h with h | ⟨_,h⟩
    · omega
    · exact zJU h
theorem intsV (a b:List Int) (h:a.length<=1048576):jU a b=some (decide (a=b)):=by
  unfold jU;by_cases hl:a.length=b.length
  · have hf:=fI (n:=a.length) (f:=oM a b) (P:=fun i=>a.getD i 0==b.getD i 0) (fun i hi=>by
      rw [oM];have h1:((i:Int)<(a.length:Int)):=by omega
      have hib:i<b.length:=by omega
      have g1:a.getD i 0=a[i]:=by simp [hi]
      have g2:b.getD i 0=b[i]:=by simp [hib]
      simp only [h1,dT,if_true,yS hi,yS hib,oB,oS,oP,g1,g2];by_cases e:a[i]=b[i]
      · simp only [e,bne_self_eq_false,bF,if_false,bQ,if_true];rw [wP (by omega)]
      · simp [e]) (by rw [oM]; simp)
    rw [hf];have cb:((a.length:Int) != (b.length:Int))=false:=by simp [hl]
    simp only [cb,bF,if_false,oB,oS];by_cases e:a=b
    · subst e; simp
    · have:((List.range a.length).all fun i=>a.getD i 0==b.getD i 0)=false:=by
        cases hq:((List.range a.length).all fun i=>a.getD i 0==b.getD i 0) with
        | false=>rfl
        | true =>
          refine absurd (List.ext_getElem hl fun i h1 h2=>?_) e;have:=ci.1 hq i (cy.2 h1);simpa [h1,h2] using this
      simp only [this,bF,if_false,e,dF,oP]
  · have cb:((a.length:Int) != (b.length:Int))=true:=by simp; omega
    have e:a ≠ b:=fun e=>hl (by rw [e]);simp [cb,e]
end Go.LN
namespace Go.LN
theorem zKB (P:zD) (x:zL) (ys:List zJ) (hy:ys.length<=1048576) (ha:∀ a∈ys,AV a) (hp:x.Point.length<=4) (hR:RVa P.Arrays):∀ (j i:Nat) (o:List Int),i+j=ys.length->o.length=i->vL P x ys o (i:Int)=some (o++(ys.drop i).map (cellA P.Arrays x.Point)):=by
  intro j
  induction j with
  | zero =>
    intro i o hi ho;rw [vL];have:¬((i:Int)<(ys.length:Int)):=by omega
    simp only [this,dF,bF,if_false,oP,id];rw [dN.2 (by omega),er,cu]
  | succ j ih =>
    intro i o hi ho;rw [vL];have aF:i<ys.length:=by omega
    have hc:((i:Int)<(ys.length:Int)):=by omega
    simp only [hc,dT,if_true,yS aF,implCell P ys[i] x.Point (ha _ (gM aF)) hp hR,oB,oS,nI (show (o.length+[cellF ys[i] x.Point P.Arrays 0].length)*8<=140737488355328 by simp; omega)];rw [wP (by omega),ih (i+1) _ (by omega) (by rw [lA]; simp; omega),gC aF,cE,co];rfl
end Go.LN
namespace Go.LN
def STz:zO:=zO.mk (zJ.mk ⟨[]⟩ []) EXz
def stI (P:zD) (z:zL):zO:=(gP P z.Part.toNat).Body.getD z.Stmt.toNat STz
def rdI (P:zD) (z:zL):List Int:=(readsF 5 (stI P z).Value).map (cellA P.Arrays z.Point)
def wrI (P:zD) (z:zL):Int:=cellA P.Arrays z.Point (stI P z).Write
structure InP (P:zD) (z:zL):Prop where
  idxP:idx P.Parts z.Part=some (gP P z.Part.toNat)
  idxS:idx (gP P z.Part.toNat).Body z.Stmt=some (stI P z)
  part:0<=z.Part/\z.Part<(P.Parts.length:Int)
  stmt:0<=z.Stmt/\z.Stmt<((gP P z.Part.toNat).Body.length:Int)
  pin:BN (gP P z.Part.toNat).Nest/\nestB (gP P z.Part.toNat).Nest=true/\ptB z.Point=true/\inP (gP P z.Part.toNat).Nest [] z.Point
  pt:z.Point.length<=4
  bs:BS (stI P z)
  st:∃ d,stmtB (stI P z) d=true
  ok:stOk P.Arrays (stI P z) z.Point=true
theorem zIT {P:zD} (hb:BG P) (h:validP P=true) {z:zL} (hz:z∈progI P):InP P z:=by
  obtain ⟨i,s,hi,hs,z1,z2,hn,hin,hpt,hst,hsb⟩:=zHr h hz;have hbp:=hb.2.2 _ (gM hi);have hg:gP P z.Part.toNat=P.Parts[i]:=by rw [z1,iN]; simp [gP,hi]
  have hS:stI P z=P.Parts[i].Body[s]:=by unfold stI; rw [hg,z2,iN]; simp [hs]
  refine ⟨?_,?_,by rw [z1]; omega,by rw [hg,z2]; omega,?_,zNT hpt,?_,?_,?_⟩
  · rw [hg,z1,yS hi]
  · rw [hS,hg,z2,yS hs]
  · rw [hg]; exact ⟨hbp.1,hn,hpt,hin⟩
  · rw [hS]; exact hbp.2.2 _ (gM hs)
  · rw [hS]; exact ⟨_,hsb⟩
  · rw [hS]; exact hst
theorem touchedV {P:zD} (hb:BG P) (hv:validP P=true) {z:zL} (h:InP P z):pF P z=some (rdI P z,wrI P z):=by
  obtain ⟨d,hd⟩:=h.st;obtain ⟨s1,s2,s3⟩:=zDa hd;have hR:=zLe hb hv;have hrd:=implReads 5 (stI P z).Value s2 (by omega);have hrl:=gN 5 (stI P z).Value s2;have htl:=zKB P z (readsF 5 (stI P z).Value) (by omega) s3 h.pt hR _ 0 [] (cw _) rfl;rw [nZ,cq,cv] at htl;have hw:=implCell P (stI P z).Write z.Point s1 h.pt hR;unfold pF kF;simp only [h.idxP,h.idxS,hrd,htl,hw,oB,oS,oP,id];rfl
def trcP (P:zD):tG:=⟨P,progI P,(progI P).map (rdI P),(progI P).map (wrI P)⟩
theorem zLh {P:zD} (hb:BG P) (hv:validP P=true):∀ (j i:Nat) (rs:List (List Int)) (ws:List Int),i+j=(progI P).length->rs.length=i->ws.length=i->nH P (progI P) (i:Int) rs ws=some (rs++((progI P).drop i).map (rdI P),ws++((progI P).drop i).map (wrI P)):=by
  have bh:=(rJ hv).2.2.2;intro j
  induction j with
  | zero =>
    intro i rs ws hi hr hw;rw [nH];have:¬((i:Int)<((progI P).length:Int)):=by omega
    simp only [this,dF,bF,if_false,oP];rw [dN.2 (by omega),er,er,cu,cu]
  | succ j ih =>
    intro i rs ws hi hr hw;rw [nH];have aF:i<(progI P).length:=by omega
    have hc:((i:Int)<((progI P).length:Int)):=by omega
    have hz:=zIT hb hv (gM aF);simp only [hc,dT,if_true,yS aF,touchedV hb hv hz,oB,oS,nI (show (rs.length+[rdI P (progI P)[i]].length)*24<=140737488355328 by simp; omega),nI (show (ws.length+[wrI P (progI P)[i]].length)*8<=140737488355328 by simp; omega)];rw [wP (by omega),ih (i+1) _ _ (by omega) (by rw [lA]; simp; omega) (by rw [lA]; simp; omega),gC aF,cE,cE,co,co];rfl
theorem implTrace (P:zD) (hb:BG P):eA P=some (if validP P then (some (trcP P),true) else (none,false)):=by
  unfold eA;rw [implInstances P hb];cases hv:validP P with
  | false =>
    unfold validP at hv;cases hp:progB P with
    | false=>rfl
    | true =>
      rw [hp,cx] at hv;simp [hv]
  | true =>
    have hv':=hv;unfold validP at hv';rw [bA] at hv';have hl:=zLh hb hv _ 0 [] [] (cw _) rfl rfl;rw [nZ,cq,cv,cv] at hl;simp only [hv'.1,hv'.2,if_true,oB,oS,bT,bF,if_false,hl,oP];rfl
end Go.LN
namespace Go.LN
end Go.LN
namespace Go.LN
def zIns (P:zD) (a:Nat):zL:=(progI P).getD a ⟨0,0,[]⟩
theorem zIU {P:zD}{a:Nat} (h:a<(progI P).length):zIns P a=(progI P)[a]:=by simp [zIns,h]
theorem zKZ {P:zD}{a:Nat} (h:a<(progI P).length):zIns P a∈progI P:=by rw [zIU h]; exact gM h
end Go.LN
namespace Go.LN
end Go.LN
namespace Go.LN
end Go.LN
namespace Go.LN
end Go.LN
namespace Go.LN
structure Kn where
  k:Nat->Nat->Int
  n:Nat
def kG (P:Kn) (i m:Nat):Int:=if m<P.n then P.k i m else 0
end Go.LN
namespace Go.LN
end Go.LN
namespace Go.LN
end Go.LN
namespace Go.LN
end Go.LN
namespace Go.LN
end Go.LN
namespace Go.LN
end Go.LN
namespace Go.LN
theorem AV.bl {a:zJ} (h:AV a):BL a.Subs:=⟨by have:=h.2.1; omega,fun s hs=>by have:=h.2.2 s hs; unfold BA; omega⟩
end Go.LN
namespace Go.LN
end Go.LN
namespace Go.LN
end Go.LN
namespace Go.LN
end Go.LN
namespace Go.LN
end Go.LN
namespace Go.LN
end Go.LN
namespace Go.LN
def eqR:List Int->List Int->Bool
  | [],[]=>true
  | x::a,y::b=>(x==y)&&eqR a b
  | _,_=>false
theorem zIV:∀ a b:List Int,eqR a b=decide (a=b)
  | [],[]=>rfl
  | [],_::_=>by simp [eqR]
  | _::_,[]=>by simp [eqR]
  | x::a,y::b=>by
    rw [eqR,zIV a b]
    by_cases h:x=y <;> simp [h]
theorem zJV {a b:List Int}{f:Int->Option (Out Unit Bool)} (hl:a.length=b.length) (step:∀ (i:Nat) (h1:i<a.length) (h2:i<b.length),f (i:Int)=if a[i]=b[i] then f ((i+1:Nat):Int) else some (.ret false)) (fin:f (a.length:Int)=some (.done ())):f 0=some (if eqR a b then .done () else .ret false):=by
  have key:∀ (j i:Nat),i+j=a.length->f (i:Int)=some (if eqR (a.drop i) (b.drop i) then .done () else .ret false):=by
    intro j
    induction j with
    | zero =>
      intro i hi;rw [show i=a.length by omega,fin,dN.2 (dj a.length),dN.2 (show b.length<=a.length by omega)]; rfl
    | succ j ih =>
      intro i hi;have h1:i<a.length:=by omega
      have h2:i<b.length:=by omega
      rw [step i h1 h2,ih (i+1) (by omega),gC h1,gC h2,eqR];by_cases e:a[i]=b[i] <;> simp [e]
  have:=key a.length 0 (cw _);rwa [nZ,cq,cq] at this
theorem implEqR (a b:List Int) (h:a.length<=1048576):pG a b=some (decide (a=b)):=by
  unfold pG;by_cases hl:a.length=b.length
  · have hf:=zJV hl (f:=vM a b) (fun i h1 h2=>by
      rw [vM];have c:((i:Int)<(a.length:Int)):=by omega
      simp only [c,dT,if_true,yS h1,yS h2,oB,oS,oP];rw [wP (by omega)];by_cases e:a[i]=b[i]
      · simp [e]
      · simp [e]) (by rw [vM]; simp)
    have e:((a.length:Int) != (b.length:Int))=false:=by simp [hl]
    rw [hf,e,zIV];by_cases h:a=b <;> simp [h]
  · have e:((a.length:Int) != (b.length:Int))=true:=by simp; omega
    have hne:a ≠ b:=fun h=>hl (by rw [h]);rw [e];simp [hne]
theorem specEqR (a b:List Int) (h:a.length<=1048576):jT a b=some (decide (a=b)):=by
  unfold jT;by_cases hl:a.length=b.length
  · have hf:=zJV hl (f:=oL a b) (fun i h1 h2=>by
      rw [oL];have c:((i:Int)<(a.length:Int)):=by omega
      simp only [c,dT,if_true,yS h1,yS h2,oB,oS,oP];rw [wP (by omega)];by_cases e:a[i]=b[i]
      · simp [e]
      · simp [e]) (by rw [oL]; simp)
    have e:((a.length:Int) != (b.length:Int))=false:=by simp [hl]
    rw [hf,e,zIV];by_cases h:a=b <;> simp [h]
  · have e:((a.length:Int) != (b.length:Int))=true:=by simp; omega
    have hne:a ≠ b:=fun h=>hl (by rw [h]);rw [e];simp [hne]
theorem zM9 {P:zD} (hb:BG P) (hv:validP P=true) {i k:Nat} (hi:i<(progI P).length) (hk:k<(progI P).length) (hp:(zIns P i).Part=(zIns P k).Part):(zIns P i).Point.length=(zIns P k).Point.length/\(zIns P k).Point.length=(gP P (zIns P k).Part.toNat).Nest.length:=by
  have a:=zIS (zIT hb hv (zKZ hi)).pin.2.2.2;have b:=zIS (zIT hb hv (zKZ hk)).pin.2.2.2;rw [hp] at a;exact ⟨by rw [a,b],b⟩
theorem zBM (P:zD):(trcP P).list=progI P:=rfl
theorem isPartL {P:zD} (hb:BG P) (part:Int):pR P part=some (decide (0<=part)&&decide (part<=(P.Parts.length:Int) - 1)):=by
  have:=hb.2.1;unfold pR;simp only [nA,sL (x:=(P.Parts.length:Int) - 1) (by omega) (by omega),oB,oS,oP,id]
end Go.LN
namespace Go.LN
theorem zC0:∀ {a b c:List Int},lexlt a b->lexlt b c->lexlt a c
  | x::a,y::b,z::c,h1,h2=>by
    rcases h1 with h1 | ⟨rfl,h1⟩
    · rcases h2 with h2 | ⟨rfl,h2⟩
      · exact .inl (by omega)
      · exact .inl h1
    · rcases h2 with h2 | ⟨rfl,h2⟩
      · exact .inl h2
      · exact .inr ⟨rfl,zC0 h1 h2⟩
  | [],_,_,h1,_=>h1.elim
  | _::_,[],_,h1,_=>h1.elim
  | _::_,_::_,[],_,h2=>h2.elim
def ordI (a b:zL):Prop:=a.Part<b.Part∨(a.Part=b.Part/\(lexlt a.Point b.Point∨(a.Point=b.Point/\a.Stmt<b.Stmt)))
theorem zKC {a b c:zL} (h1:ordI a b) (h2:ordI b c):ordI a c:=by
  rcases h1 with h1 | ⟨e1,h1⟩
  · rcases h2 with h2 | ⟨e2,_⟩
    · exact .inl (by omega)
    · exact .inl (by omega)
  · rcases h2 with h2 | ⟨e2,h2⟩
    · exact .inl (by omega)
    · refine .inr ⟨by omega,?_⟩;rcases h1 with h1 | ⟨p1,h1⟩
      · rcases h2 with h2 | ⟨p2,_⟩
        · exact .inl (zC0 h1 h2)
        · exact .inl (p2 ▸ h1)
      · rcases h2 with h2 | ⟨p2,h2⟩
        · exact .inl (p1 ▸ h2)
        · exact .inr ⟨p1.trans p2,by omega⟩
theorem zK0 {a b:zL} (h:nxt a b):ordI a b:=by
  rcases h with h | ⟨e,h | ⟨p,h⟩⟩
  · exact .inl h
  · exact .inr ⟨e,.inl h⟩
  · exact .inr ⟨e,.inr ⟨p,by omega⟩⟩
theorem zK1:∀ {l:List zL},Ch nxt l->l.Pairwise ordI
  | [],_=>List.Pairwise.nil
  | [a],_=>List.pairwise_singleton ..
  | a::b::l,h=>by
    have ih:=zK1 (l:=b::l) h.2
    refine f1.2 ⟨fun x hx=>?_,ih⟩
    rcases cT.1 hx with rfl | hx
    · exact zK0 h.1
    · exact zKC (zK0 h.1) ((f1.1 ih).1 x hx)
theorem zJW {P:zD}{i k:Nat} (h:i<k) (hk:k<(progI P).length):ordI (zIns P i) (zIns P k):=by
  have hp:=List.pairwise_iff_getElem.1 (zK1 (zLg P)) i k (by omega) hk h;rw [zIU (by omega),zIU hk]; exact hp
end Go.LN
namespace Go.LN
end Go.LN
namespace Go.LN
end Go.LN
namespace Go.LN
theorem zLi {P:zD}{part:Int} (h:0<=part/\part<=(P.Parts.length:Int) - 1):idx P.Parts part=some (gP P part.toNat):=by
  have b2:part.toNat<P.Parts.length:=by omega
  rw [show part=((part.toNat:Nat):Int) by omega,yS b2,iN];simp [gP,b2]
theorem nest4 {P:zD} (hv:validP P=true) {i:Nat} (hi:i<P.Parts.length):(gP P i).Nest.length<=4 :=
  (zE7 (zJO ((rJ hv).2.2.1 i hi)).2.1).1
theorem zMa {P:zD}{part:Int} (h:¬(0<=part/\part<=(P.Parts.length:Int) - 1)):(decide (0<=part)&&decide (part<=(P.Parts.length:Int) - 1))=false:=by
  cases hq:(decide (0<=part)&&decide (part<=(P.Parts.length:Int) - 1)) with
  | false=>rfl
  | true=>simp only [bA,decide_eq_true_eq] at hq; exact absurd hq h
end Go.LN
namespace Go.LN
end Go.LN
namespace Go.LN
end Go.LN
namespace Go.LN
section
variable {κ:Type} [DecidableEq κ] (f:Nat->κ)
def addC (out:List (List Nat)) (i:Nat):List (List Nat) :=
  match out.getLast? with
  | some g=>if g.getLast?.map f=some (f i) then out.dropLast++[g++[i]] else out++[[i]]
  | none=>[[i]]
def grp (l:List Nat):List (List Nat):=l.foldl (addC f) []
theorem zAN (l:List Nat) (i:Nat):grp f (l++[i])=addC f (grp f l) i:=by unfold grp; rw [List.foldl_append]; rfl
def keyOf (g:List Nat):Option κ:=g.head?.map f
theorem zBN:∀ (l:List Nat),l ≠ []->∃ gs g,grp f l=gs++[g]/\g ≠ []/\g.getLast?=l.getLast?:=by
  intro l hl;rcases List.eq_nil_or_concat l with h | ⟨l',i,h⟩
  · exact absurd h hl
  · rw [h,fq,zAN];unfold addC;split
    · split
      · exact ⟨_,_,rfl,by simp,by simp⟩
      · exact ⟨_,_,rfl,by simp,by simp⟩
    · exact ⟨[],[i],rfl,by simp,by simp⟩
theorem zBO (gs:List (List Nat)) (g:List Nat) (b i:Nat) (hb:g.getLast?=some b):addC f (gs++[g]) i=if f b=f i then gs++[g++[i]] else gs++[g]++[[i]]:=by
  unfold addC;simp only [List.getLast?_append,List.getLast?_singleton,Option.some_or,hb,Option.map_some,Option.some.injEq,List.dropLast_concat]
theorem zHB {P:List Nat->Prop} (h0:P []) (h1:∀ l i,P l->P (l++[i])):∀ l,P l:=by
  intro l;have:∀ n (l:List Nat),l.length=n->P l:=by
    intro n
    induction n with
    | zero=>intro l h; rw [da.1 h]; exact h0
    | succ n ih =>
      intro l h;rcases List.eq_nil_or_concat l with e | ⟨l',i,e⟩
      · rw [e] at h; simp at h
      · rw [e,fq];rw [e,fq] at h;exact h1 l' i (ih l' (by simp at h; omega))
  exact this l.length l rfl
theorem sW (l:List Nat):(grp f l).flatten=l:=by
  refine zHB (P:=fun l=>(grp f l).flatten=l) rfl (fun l i ih=>?_) l;rw [zAN];by_cases hl:l=[]
  · subst hl; rfl
  · obtain ⟨gs,g,e,hg,hb⟩:=zBN f l hl;obtain ⟨b,hb'⟩:∃ b,g.getLast?=some b:=by rw [dw hg]; exact ⟨_,rfl⟩
    rw [e] at ih ⊢;rw [zBO f gs g b i hb'];split
    · rw [List.flatten_append,dx,List.flatten_nil,cu,<- co];rw [List.flatten_append,dx,List.flatten_nil,cu] at ih;rw [ih]
    · rw [List.flatten_append,ih]; rfl
theorem jV (l:List Nat):∀ g∈grp f l,g ≠ []/\∀ a∈g,keyOf f g=some (f a):=by
  refine zHB (P:=fun l=>∀ g∈grp f l,g ≠ []/\∀ a∈g,keyOf f g=some (f a)) (fun _ h=>by cases h) (fun l i ih=>?_) l;rw [zAN];by_cases hl:l=[]
  · subst hl;intro g hg;have:g=[i]:=ck.1 hg;subst this;exact ⟨by simp,fun a ha=>by rw [ck.1 ha]; rfl⟩
  · obtain ⟨gs,g,e,hg,hb⟩:=zBN f l hl;obtain ⟨b,hb'⟩:∃ b,g.getLast?=some b:=by rw [dw hg]; exact ⟨_,rfl⟩
    rw [e] at ih ⊢;rw [zBO f gs g b i hb'];split
    · rename_i hk;intro g' hg';rcases cQ.1 hg' with h | h
      · exact ih g' (cY _ h)
      · rw [ck.1 h];obtain ⟨h1,h2⟩:=ih g (dt _ (ck.2 rfl));have hkey:keyOf f (g++[i])=keyOf f g:=by unfold keyOf; cases g with | nil=>exact absurd rfl hg | cons a t=>rfl
        refine ⟨by simp,fun a ha=>?_⟩;rw [hkey];rcases cQ.1 ha with ha | ha
        · exact h2 a ha
        · rw [ck.1 ha,<- hk];exact h2 b (ek hb')
    · intro g' hg';rcases cQ.1 hg' with h | h
      · exact ih g' h
      · rw [ck.1 h];exact ⟨by simp,fun a ha=>by rw [ck.1 ha]; rfl⟩
def Cont (l:List Nat):Prop:=∀ (J:List Nat) (i:Nat) (K:List Nat),l=J++i::K->∀ a∈J,f a=f i->∀ b,J.getLast?=some b->f b=f i
theorem Cont.init {κ:Type} (f:Nat->κ) {l:List Nat}{i:Nat} (h:Cont f (l++[i])):Cont f l:=fun J a K e=>h J a (K++[i]) (by rw [e,co]; rfl)
theorem zJX {l:List Nat}{g:List Nat} (hg:g∈grp f l) {k:κ} (hk:keyOf f g=some k):∃ a∈l,f a=k:=by
  unfold keyOf at hk;cases g with
  | nil=>cases hk
  | cons a t =>
    refine ⟨a,?_,Option.some.inj hk⟩;rw [<- sW f l];exact fu.2 ⟨_,hg,cf ..⟩
theorem zE8:∀ (l:List Nat),Cont f l->(∀ g∈grp f l,∀ k,keyOf f g=some k->l.filter (fun a=>decide (f a=k))=g)/\((grp f l).map (keyOf f)).Nodup:=by
  refine zHB (P:=fun l=>Cont f l->(∀ g∈grp f l,∀ k,keyOf f g=some k->l.filter (fun a=>decide (f a=k))=g)/\((grp f l).map (keyOf f)).Nodup) (fun _=>⟨fun _ h=>(by cases h),List.nodup_nil⟩) (fun l i ih hc=>?_);obtain ⟨ih1,ih2⟩:=ih hc.init;rw [zAN];by_cases hl:l=[]
  · subst hl;refine ⟨fun g hg k hk=>?_,by simp [addC,grp]⟩;have:g=[i]:=ck.1 hg;subst this;have:f i=k:=Option.some.inj hk;simp [this]
  · obtain ⟨gs,g,e,hg,hb⟩:=zBN f l hl;obtain ⟨b,hb'⟩:∃ b,g.getLast?=some b:=by rw [dw hg]; exact ⟨_,rfl⟩
    have cb:l.getLast?=some b:=hb ▸ hb';have hgk:keyOf f g=some (f b):=(jV f l g (by rw [e]; simp)).2 b (ek hb');rw [e] at ih1 ih2 ⊢;rw [zBO f gs g b i hb'];have hkey:keyOf f (g++[i])=keyOf f g:=by unfold keyOf; cases g with | nil=>exact absurd rfl hg | cons a t=>rfl
    rw [cW,cC] at ih2;split
    · rename_i hk;refine ⟨fun g' hg' k hk'=>?_,?_⟩
      · rw [List.filter_append];rcases cQ.1 hg' with h | h
        · have hne:¬f i=k:=fun hik=>by
            refine ih2.2.2 _ (List.mem_map_of_mem h) _ (List.mem_map_of_mem (ck.2 rfl)) ?_;rw [hk',hgk,hk,hik]
          rw [ih1 g' (cY _ h) k hk'];simp [hne]
        · rw [ck.1 h] at hk' ⊢;rw [hkey] at hk';have hik:f i=k:=by rw [hgk] at hk'; rw [<- hk]; exact Option.some.inj hk'
          rw [ih1 g (dt _ (ck.2 rfl)) k hk'];simp [hik]
      · rw [cW,dc,hkey,<- dc,cC];exact ih2
    · rename_i hk;have hno:∀ a∈l,¬f a=f i:=fun a ha hai=>hk (hc l i [] rfl a ha hai b cb);refine ⟨fun g' hg' k hk'=>?_,?_⟩
      · rw [List.filter_append];rcases cQ.1 hg' with h | h
        · obtain ⟨a,ha,hak⟩:=zJX f (l:=l) (by rw [e]; exact h) hk';have hne:¬f i=k:=fun hik=>hno a ha (hak.trans hik.symm);rw [ih1 g' h k hk'];simp [hne]
        · rw [ck.1 h] at hk' ⊢;have hik:f i=k:=Option.some.inj hk';have:l.filter (fun a=>decide (f a=k))=[]:=List.filter_eq_nil_iff.2 fun a ha=>by simp [<- hik,hno a ha]
          rw [this]; simp [hik]
      · rw [cW,cC];refine ⟨by rw [cW,cC]; exact ih2,by simp,fun x hx y hy hxy=>?_⟩;rw [dc,ck] at hy;obtain ⟨g',hg',rfl⟩:=eq.1 hx;have hk':keyOf f g'=some (f i):=by rw [hxy,hy]; rfl
        obtain ⟨a,ha,hak⟩:=zJX f (l:=l) (by rw [e]; exact hg') hk';exact hno a ha hak
theorem zMb {κ:Type} (f:Nat->κ) {R:κ->κ->Prop} (ha:∀ a b,R a b->R b a->a=b) {l:List Nat} (h:l.Pairwise fun i j=>R (f i) (f j)):Cont f l:=by
  intro J i K e a haJ hai b hb;subst e;obtain ⟨h1,h2,h3⟩:=db.1 h;have hbJ:=ek hb;have hbi:=h3 b hbJ i (cf ..);obtain ⟨J',rfl⟩:∃ J',J=J'++[b]:=by
    rcases List.eq_nil_or_concat J with e | ⟨l',c,e⟩
    · rw [e] at hb; cases hb
    · rw [e,fq] at hb ⊢;rw [List.getLast?_append] at hb;simp at hb;exact ⟨l',by rw [hb]⟩
  rcases cQ.1 haJ with h' | h'
  · have:=(db.1 h1).2.2 a h' b (ck.2 rfl);rw [hai] at this;exact ha _ _ hbi this
  · rw [<- ck.1 h']; exact hai
theorem Cont.mid {κ:Type} (f:Nat->κ) {p g q:List Nat} (hc:Cont f (p++g++q)):Cont f g:=by
  intro J i K e a ha hai b hb;refine hc (p++J) i (K++q) (by rw [e]; simp) a (dt _ ha) hai b ?_;rw [List.getLast?_append,hb]; rfl
end
end Go.LN
namespace Go.LN
def chF (cs:List Int) (n0 many:Nat):Int:=if cs.length=0 then 0 else if (cs.getD (n0 % cs.length) 0).tmod (many:Int)>0 then (cs.getD (n0 % cs.length) 0).tmod (many:Int) else 0
theorem zK2 (cs:List Int) (n0:Nat) {many:Nat} (hm:0<many):0<=chF cs n0 many/\chF cs n0 many<(many:Int):=by
  unfold chF;have aF:=Int.tmod_lt_of_pos (cs.getD (n0 % cs.length) 0) (show (0:Int)<(many:Int) by omega);split
  · omega
  · split <;> omega
theorem zJY {cs:List Int} (h:¬cs.length=0) (n0:Nat) {many:Nat} (hm:0<many):rem (n0:Int) (cs.length:Int)=some ((n0 % cs.length:Nat):Int)/\idx cs ((n0 % cs.length:Nat):Int)=some (cs.getD (n0 % cs.length) 0)/\rem (cs.getD (n0 % cs.length) 0) (many:Int)=some ((cs.getD (n0 % cs.length) 0).tmod (many:Int)):=by
  have hq:n0 % cs.length<cs.length:=Nat.mod_lt _ (by omega);refine ⟨?_,?_,?_⟩
  · unfold rem;rw [if_neg (by omega)]; rfl
  · rw [yS hq]; simp [hq]
  · unfold rem;rw [if_neg (by omega)]
theorem implCh (cs:List Int) (n0:Nat) {many:Nat} (hm:0<many):fG cs (n0:Int) (many:Int)=some (chF cs n0 many):=by
  unfold fG chF;by_cases h:cs.length=0
  · have e:((cs.length:Int)==0)=true:=by simp [h]
    rw [if_pos e,if_pos h]; rfl
  · have e:¬(((cs.length:Int)==0)=true):=by simp; intro e; exact h (by rw [e]; rfl)
    obtain ⟨h1,h2,h3⟩:=zJY h n0 hm;rw [if_neg e,if_neg h];simp only [h1,h2,h3,oB,oS,oP,id]
theorem specCh (cs:List Int) (n0:Nat) {many:Nat} (hm:0<many):mJ cs (n0:Int) (many:Int)=some (chF cs n0 many):=by
  unfold mJ chF;by_cases h:cs.length=0
  · have e:((cs.length:Int)==0)=true:=by simp [h]
    rw [if_pos e,if_pos h]; rfl
  · have e:¬(((cs.length:Int)==0)=true):=by simp; intro e; exact h (by rw [e]; rfl)
    obtain ⟨h1,h2,h3⟩:=zJY h n0 hm;rw [if_neg e,if_neg h];simp only [h1,h2,h3,oB,oS,oP,id];generalize (cs.getD (n0 % cs.length) 0).tmod (many:Int)=q;by_cases h4:q<0
    · rw [if_pos (by simpa using h4),if_neg (by omega)]
    · rw [if_neg (by simpa using h4)];by_cases h5:q>0
      · rw [if_pos h5]
      · rw [if_neg h5]; exact congrArg some (by omega)
def asI (l:List Nat):List Int:=l.map fun x:Nat=>(x:Int)
def aI2 (l:List (List Nat)):List (List Int):=l.map asI
def aI3 (l:List (List (List Nat))):List (List (List Int)):=l.map aI2
theorem zLj (l:List Nat) (i:Nat):asI (l++[i])=asI l++[(i:Int)]:=by simp [asI]
theorem zAa (l m:List Nat):asI (l++m)=asI l++asI m:=by simp [asI]
theorem pO (l:List Nat):(asI l).length=l.length:=by simp [asI]
theorem zK3 {l:List Nat}{i:Nat} (h:i<l.length):idx (asI l) (i:Int)=some ((l[i]:Nat):Int):=by rw [yS (by rw [pO]; exact h)]; simp [asI]
theorem zHC (l:List (List Nat)) (i:List Nat):aI2 (l++[i])=aI2 l++[asI i]:=by simp [aI2]
theorem zE9 (l:List (List (List Nat))) (i:List (List Nat)):aI3 (l++[i])=aI3 l++[aI2 i]:=by simp [aI3]
def Jf (P:zD) (part:Int) (i:Nat):List Nat:=(List.range i).filter fun i=>(zIns P i).Part==part
def ptl (P:zD) (part:Int):List Nat:=Jf P part (progI P).length
def ky (P:zD) (k i:Nat):List Int:=(zIns P i).Point.take k
theorem zMc (P:zD) (part:Int) (i:Nat):Jf P part (i+1)=if (zIns P i).Part=part then Jf P part i++[i] else Jf P part i:=by
  unfold Jf;rw [List.range_succ,List.filter_append];by_cases h:(zIns P i).Part=part <;> simp [h]
theorem zC1 {P:zD}{part:Int}{n i:Nat}:i∈Jf P part n↔i<n/\(zIns P i).Part=part:=by
  unfold Jf;rw [d5,cy];simp
theorem zLk (P:zD) (part:Int) (n:Nat):(Jf P part n).Pairwise (· < ·):=List.Pairwise.filter _ fh
theorem zLl (P:zD) (part:Int) (n:Nat):(Jf P part n).length<=n:=by
  unfold Jf;exact cS (fo _ _) (by simp)
theorem zJZ:∀ (k:Nat) {a b:List Int},lexlt a b->a.take k=b.take k∨lexlt (a.take k) (b.take k)
  | 0,a,b,_=>.inl (by simp)
  | k+1,x::a,y::b,h=>by
    rcases h with h | ⟨rfl,h⟩
    · exact .inr (.inl h)
    · rcases zJZ k h with e | e
      · exact .inl (by simp [e])
      · exact .inr (.inr ⟨rfl,e⟩)
  | k+1,[],_,h=>h.elim
  | k+1,_::_,[],h=>h.elim
def leP (a b:List Int):Prop:=a=b∨lexlt a b
theorem zLm (a b:List Int) (h:leP a b) (h2:leP b a):a=b:=by
  rcases h with h | h
  · exact h
  · rcases h2 with h2 | h2
    · exact h2.symm
    · exact (zJU (zC0 h h2)).elim
theorem zNc {P:zD}{i j:Nat} (k:Nat) (h:i<j) (hj:j<(progI P).length) (hp:(zIns P i).Part=(zIns P j).Part):leP (ky P k i) (ky P k j):=by
  rcases zJW h hj with h | ⟨_,h | ⟨h,_⟩⟩
  · omega
  · exact zJZ k h
  · exact .inl (by unfold ky; rw [h])
theorem zIW (P:zD) (part:Int) (k:Nat):Cont (ky P k) (ptl P part):=by
  refine zMb (ky P k) zLm ((zLk P part _).imp_of_mem fun {i j} hi hj h=>?_);have hi:=zC1.1 hi;have hj:=zC1.1 hj;exact zNc k h hj.1 (by rw [hi.2,hj.2])
theorem zMd {P:zD}{k i j:Nat} (h:ky P (k+1) i=ky P (k+1) j):ky P k i=ky P k j:=by
  have:=congrArg (List.take k) h;unfold ky at this ⊢;rwa [d7,d7,Nat.min_eq_left (by omega)] at this
theorem zHD {L:List (List Nat)}{l g:List Nat} (h:L.flatten=l) (hg:g∈L):∃ p q,l=p++g++q:=by
  obtain ⟨s,t,rfl⟩:=List.append_of_mem hg;exact ⟨s.flatten,t.flatten,by rw [<- h]; simp⟩
theorem zJ0 {P:zD}{part:Int}{k:Nat}{g:List Nat} (hg:g∈grp (ky P k) (ptl P part)) (k2:Nat):Cont (ky P k2) g:=by
  obtain ⟨p,q,e⟩:=zHD (sW (ky P k) (ptl P part)) hg;have:=zIW P part k2;rw [e] at this;exact this.mid
theorem zFz {P:zD}{part:Int}{k:Nat}{g:List Nat} (hg:g∈grp (ky P k) (ptl P part)) {a:Nat} (ha:a∈g):a∈ptl P part:=by
  rw [<- sW (ky P k) (ptl P part)];exact fu.2 ⟨g,hg,ha⟩
theorem zKD {P:zD}{part:Int}{k:Nat}{g:List Nat} (hg:g∈grp (ky P k) (ptl P part)) {r:List Nat} (hr:r∈grp (ky P (k+1)) g) {c:List Int} (hc:keyOf (ky P (k+1)) r=some c) :
    (ptl P part).filter (fun a=>decide (ky P (k+1) a=c))=r:=by
  have h1:=(zE8 (ky P (k+1)) g (zJ0 hg _)).1 r hr c hc
  obtain ⟨g1,g2⟩:=jV (ky P k) (ptl P part) g hg
  obtain ⟨r1,r2⟩:=jV (ky P (k+1)) g r hr
  obtain ⟨a0,ha0⟩:=List.exists_mem_of_ne_nil r r1
  have ha1:a0∈g:=by rw [<- sW (ky P (k+1)) g]; exact fu.2 ⟨r,hr,ha0⟩
  have hk0:ky P (k+1) a0=c:=by have:=(r2 a0 ha0).symm.trans hc; exact Option.some.inj this
  have hgf:=(zE8 (ky P k) (ptl P part) (zIW P part k)).1 g hg (ky P k a0) (g2 a0 ha1)
  rw [<- h1]
  conv=>rhs; rw [<- hgf]
  rw [f3]
  refine fi fun a ha=>?_
  by_cases h:ky P (k+1) a=c
  · have:=zMd (h.trans hk0.symm)
    simp [h,this]
  · simp [h]
theorem zCb {P:zD} (hb:BG P) (hv:validP P=true) {part:Int}{i:Nat} (hi:i<(progI P).length) (hp:(zIns P i).Part=part):(zIns P i).Point.length=(gP P part.toNat).Nest.length/\(zIns P i).Point.length<=4:=by
  have hs:=zM9 hb hv hi hi rfl;refine ⟨by rw [hs.2,hp],(zIT hb hv (zKZ hi)).pt⟩
theorem zIX {P:zD} (hb:BG P) (hv:validP P=true) {part:Int}{i k:Nat} (hi:i<(progI P).length) (hp:(zIns P i).Part=part) (hk:k<=(gP P part.toNat).Nest.length):slc (zIns P i).Point 0 (k:Int)=some (ky P k i):=by
  have hl:=zCb hb hv hi hp;have s1:=zJy (s:=(zIns P i).Point) (f:=0) (i:=k) (ee _) (by omega);rw [nZ,cq] at s1;exact s1
theorem zNd {P:zD} (hb:BG P) (hv:validP P=true) {part:Int}{a b k:Nat} (ha:a<(progI P).length) (hpa:(zIns P a).Part=part) (hbn:b<(progI P).length) (hpb:(zIns P b).Part=part) (hk:k<(gP P part.toNat).Nest.length) :
    ∃ x y,idx (zIns P a).Point (k:Int)=some x/\idx (zIns P b).Point (k:Int)=some y/\(ky P k a=ky P k b->((x==y)=decide (ky P (k+1) a=ky P (k+1) b))):=by
  have la:=(zCb hb hv ha hpa).1
  have lb:=(zCb hb hv hbn hpb).1
  refine ⟨(zIns P a).Point[k],(zIns P b).Point[k],yS (by omega),yS (by omega),fun h=>?_⟩
  unfold ky at h ⊢
  rw [eh (by omega),eh (by omega),h]
  by_cases e:(zIns P a).Point[k]=(zIns P b).Point[k]
  · simp [e]
  · rw [beq_false_of_ne e]; symm; rw [decide_eq_false_iff_not]; intro h'; exact e (List.cons.inj (List.append_cancel_left h')).1
theorem zIx1 {P:zD}{i:Nat} (h:i<(progI P).length):idx (progI P) (i:Int)=some (zIns P i):=by rw [yS h,zIU h]
theorem fJ {α:Type}{xs:List α}{y:α} (h:xs.length<=1000000):idx (xs++[y]) (W (((xs++[y]).length:Int) - 1))=some y/\∀ z,(xs++[y]).set (W (((xs++[y]).length:Int) - 1)).toNat z=xs++[z]:=by
  have e:W (((xs++[y]).length:Int) - 1)=(xs.length:Int):=by rw [lA,du,sL (by omega) (by omega)]; omega
  rw [e];refine ⟨?_,fun z=>?_⟩
  · unfold idx;rw [if_pos (by omega),iN];simp
  · rw [iN]; simp
end Go.LN
namespace Go.LN
def gg (P:zD) (k:Nat) (l:List Nat):List (List (List Nat)):=(grp (ky P k) l).map (grp (ky P (k+1)))
theorem zMe {P:zD}{k:Nat}{l:List Nat}{gs:List (List Nat)}{g:List Nat}{hs:List (List Nat)}{h:List Nat}{b i:Nat} (e1:grp (ky P k) l=gs++[g]) (e2:grp (ky P (k+1)) g=hs++[h]) (hg:g.getLast?=some b) (hh:h.getLast?=some b) :
    gg P k (l++[i])=if ky P k b=ky P k i then gs.map (grp (ky P (k+1)))++[if ky P (k+1) b=ky P (k+1) i then hs++[h++[i]] else hs++[h]++[[i]]] else gs.map (grp (ky P (k+1)))++[hs++[h]]++[[[i]]]:=by
  unfold gg
  rw [zAN,e1,zBO _ _ _ b i hg]
  by_cases hk:ky P k b=ky P k i
  · rw [if_pos hk,if_pos hk,cW,dc,zAN,e2,zBO _ _ _ b i hh]
  · rw [if_neg hk,if_neg hk,cW,cW,dc,dc,e2]; rfl
def lastI (l:List Nat):Int:=match l.getLast? with | some b=>(b:Int) | none=>-1
theorem app24 {α:Type}{l m:List α} (h:l.length+m.length<=1000000):app 24 l m=some (l++m):=nI (by omega)
theorem app8 {α:Type}{l m:List α} (h:l.length+m.length<=1000000):app 8 l m=some (l++m):=nI (by omega)
theorem zB8 {κ:Type} [DecidableEq κ] (f:Nat->κ) (l:List Nat):(grp f l).length<=l.length:=by
  have h1:=sW f l;have h2:∀ L:List (List Nat),(∀ g∈L,g ≠ [])->L.length<=L.flatten.length:=by
    intro L
    induction L with
    | nil=>intro _; simp
    | cons g L ih =>
      intro h;have:=ih fun x hx=>h x (cg _ hx);have hg:=h g (cf ..);have:0<g.length:=List.length_pos_iff.2 hg;simp only [dx,lA,cr]; omega
  have:=h2 (grp f l) fun g hg=>(jV f l g hg).1;rwa [h1] at this
theorem zMf {P:zD} (hb:BG P) (hv:validP P=true) {part:Int}{k:Nat} (hk:k<(gP P part.toNat).Nest.length):∀ (j i:Nat),i+j=(progI P).length ->
    xR (trcP P) part (k:Int) (aI3 (gg P k (Jf P part i))) (lastI (Jf P part i)) (i:Int)=some (aI3 (gg P k (ptl P part))):=by
  have bh:=(rJ hv).2.2.2
  have hn4:k<4:=by
    by_cases hp:part.toNat<P.Parts.length
    · exact fe hk (nest4 hv hp)
    · exfalso
      have:gP P part.toNat=⟨[],[]⟩:=by unfold gP; simp [hp]
      rw [this] at hk; simp at hk
  intro j
  induction j with
  | zero =>
    intro i hi
    rw [xR]
    have e:i=(progI P).length:=by omega
    subst e
    have:¬(((progI P).length:Int)<((trcP P).list.length:Int)):=by rw [zBM]; omega
    simp only [this,dF,bF,if_false,oP,id]; rfl
  | succ j ih =>
    intro i hi
    have hin:i<(progI P).length:=by omega
    have hc:((i:Int)<((progI P).length:Int)):=by omega
    rw [xR]
    simp only [hc,dT,if_true,zBM,zIx1 hin,oB,oS]
    have ih:=ih (i+1) (by omega)
    rw [zMc] at ih
    by_cases hp:(zIns P i).Part=part
    · rw [if_pos hp] at ih
      have hJl:=zLl P part i
      simp only [hp,bne_self_eq_false,bF,if_false]
      have hpi:=zIX hb hv hin hp (k:=k) (by omega)
      by_cases hJ:Jf P part i=[]
      · rw [hJ] at ih ⊢
        have e0:lastI ([]:List Nat)=-1:=rfl
        have e1:gg P k []=[]:=rfl
        have e2:W (((aI3 ([]:List (List (List Nat)))++[[]]).length:Int) - 1)=0:=by decide
        have e3:W ((([]++[[]]:List (List Int)).length:Int) - 1)=0:=by decide
        rw [e0,e1]
        simp only [show ¬((-1:Int)>=0) by omega,dF,bF,if_false,oS,oP,aI3,er]
        rw [app24 (by simp)]
        simp only [oS,cv,du]
        have e4:W ((((1:Nat):Int)) - 1)=0:=by decide
        rw [e4]
        have e5:idx ([[]]:List (List (List Int))) 0=some []:=rfl
        simp only [e5,oS]
        rw [app24 (by simp)]
        simp only [oS,cv,du]
        rw [e4]
        have e6:idx ([[]]:List (List Int)) 0=some []:=rfl
        simp only [e6,oS]
        rw [app8 (by simp)]
        simp only [oS,cv]
        rw [wP (by omega)]
        have e7:aI3 (gg P k ([]++[i]))=[[[(i:Int)]]]:=rfl
        have e8:lastI ([]++[i])=(i:Int):=rfl
        rw [e7,e8] at ih
        exact ih
      · obtain ⟨gs,g,e1,hg,hgl⟩:=zBN (ky P k) _ hJ
        obtain ⟨hs,h,e2,hh,hhl⟩:=zBN (ky P (k+1)) g hg
        obtain ⟨b,hb'⟩:∃ b,g.getLast?=some b:=by rw [dw hg]; exact ⟨_,rfl⟩
        have hJb:(Jf P part i).getLast?=some b:=hgl ▸ hb'
        obtain ⟨hbi,hbp⟩:=zC1.1 (ek hJb)
        have hbn:b<(progI P).length:=by omega
        have hpb:=zIX hb hv hbn hbp (k:=k) (by omega)
        obtain ⟨x,y,hx,hy,hxy⟩:=zNd hb hv hbn hbp hin hp hk
        have hE:=implEqR (ky P k b) (ky P k i) (by unfold ky; rw [cp]; omega)
        rw [zMe e1 e2 hb' (hhl ▸ hb')] at ih
        have e0:lastI (Jf P part i)=(b:Int):=by unfold lastI; rw [hJb]
        have e8:lastI (Jf P part i++[i])=(i:Int):=by unfold lastI; simp
        have eg:gg P k (Jf P part i)=gs.map (grp (ky P (k+1)))++[hs++[h]]:=by unfold gg; rw [e1,cW,dc,e2]
        rw [e8] at ih
        rw [e0,eg]
        have lg:gs.length+1<=120:=by have:=zB8 (ky P k) (Jf P part i); rw [e1] at this; simp at this; omega
        have lJ:(grp (ky P k) (Jf P part i)).flatten.length<=120:=by rw [sW]; omega
        have lgg:g.length<=120:=by
          rw [e1] at lJ; simp at lJ; omega
        have lh:hs.length+1<=120:=by have:=zB8 (ky P (k+1)) g; rw [e2] at this; simp at this; omega
        have lhh:h.length<=120:=by
          have:(grp (ky P (k+1)) g).flatten.length<=120:=by rw [sW]; exact lgg
          rw [e2] at this; simp at this; omega
        simp only [show ((b:Int)>=0) by omega,dT,if_true,zIx1 hbn,oS,hpb,hpi,hE,oP,id]
        have lx:(aI3 (gs.map (grp (ky P (k+1))))).length<=1000000:=by simp [aI3]; omega
        have ly:(aI2 hs).length<=1000000:=by simp [aI2]; omega
        by_cases hk1:ky P k b=ky P k i
        · rw [if_pos hk1] at ih
          simp only [hk1,dT,if_true,hx,hy,oS]
          rw [zE9]
          simp only [(fJ lx).1,oS]
          rw [hxy hk1]
          by_cases hk2:ky P (k+1) b=ky P (k+1) i
          · rw [if_pos hk2] at ih
            simp only [hk2,dT,if_true,oS]
            rw [zHC]
            simp only [(fJ ly).1,oS]
            rw [app8 (by rw [pO]; simp; omega)]
            simp only [oS]
            rw [(fJ ly).2,(fJ lx).2,wP (by omega)]
            rw [zE9,zHC,zLj] at ih
            exact ih
          · rw [if_neg hk2] at ih
            simp only [hk2,dF,bF,if_false]
            rw [app24 (by simp [aI2]; omega)]
            simp only [oS]
            have lz:(aI2 (hs++[h])).length<=1000000:=by simp [aI2]; omega
            simp only [(fJ lz).1,oS]
            rw [app8 (by simp)]
            simp only [oS]
            rw [(fJ lz).2,(fJ lx).2,wP (by omega)]
            rw [zE9,zHC] at ih
            exact ih
        · rw [if_neg hk1] at ih
          simp only [hk1,dF,bF,if_false,oS]
          have lx2:(aI3 (gs.map (grp (ky P (k+1)))++[hs++[h]])).length<=1000000:=by simp [aI3]; omega
          rw [app24 (by simp [aI3]; omega)]
          simp only [oS,(fJ lx2).1]
          rw [app24 (by simp)]
          simp only [oS,cv,du]
          have e4:W ((((1:Nat):Int)) - 1)=0:=by decide
          rw [e4]
          have e6:idx ([[]]:List (List Int)) 0=some []:=rfl
          simp only [e6,oS]
          rw [app8 (by simp)]
          simp only [oS,cv]
          rw [(fJ lx2).2,wP (by omega)]
          rw [zE9 (l:=_++[hs++[h]])] at ih
          exact ih
    · rw [if_neg hp] at ih
      have:((zIns P i).Part != part)=true:=by simp [hp]
      simp only [this,if_true]
      rw [wP (by omega)]
      exact ih
theorem iterV {P:zD} (hb:BG P) (hv:validP P=true) {part:Int}{k:Nat} (hk:k<(gP P part.toNat).Nest.length):rW (trcP P) part (k:Int)=some (aI3 (gg P k (ptl P part))):=by
  unfold rW;have:=zMf hb hv hk (progI P).length 0 (cw _);have e:aI3 (gg P k (Jf P part 0))=[]:=rfl;have e2:lastI (Jf P part 0)=-1:=rfl;rw [e,e2] at this;have this2:xR (trcP P) part (k:Int) [] (-1) 0=some (aI3 (gg P k (ptl P part))):=this;rw [this2]; rfl
theorem gather {F:List Int->Int->Option (List Int)}{n:Nat} (hn:n<=100000) (p:Nat->Bool) (step:∀ (o:List Int) (i:Nat),i<n->F o (i:Int)=if p i then (app 8 o [(i:Int)]).bind fun o'=>F o' ((i+1:Nat):Int) else F o ((i+1:Nat):Int)) (fin:∀ o,F o (n:Int)=some o) :
    ∀ (j i:Nat) (o:List Int),i+j=n->o.length+j<=900000->F o (i:Int)=some (o++asI ((List.range' i j).filter p)):=by
  intro j
  induction j with
  | zero =>
    intro i o hi _
    rw [show i=n by omega,fin]; simp [asI]
  | succ j ih =>
    intro i o hi ho
    rw [step o i (by omega),de,List.filter_cons]
    cases hp:p i with
    | true =>
      simp only [if_true]
      rw [app8 (by simp; omega)]
      simp only [oS]
      rw [ih (i+1) _ (by omega) (by simp; omega)]
      simp [asI]
    | false =>
      simp only [bF,if_false]
      exact ih (i+1) o (by omega) (by omega)
theorem gather0 {F:List Int->Int->Option (List Int)}{n:Nat} (hn:n<=100000) (p:Nat->Bool) (step:∀ (o:List Int) (i:Nat),i<n->F o (i:Int)=if p i then (app 8 o [(i:Int)]).bind fun o'=>F o' ((i+1:Nat):Int) else F o ((i+1:Nat):Int)) (fin:∀ o,F o (n:Int)=some o) (o:List Int) (ho:o.length<=800000) :
    F o 0=some (o++asI ((List.range n).filter p)):=by
  have:=gather hn p step fin n 0 o (cw _) (by omega)
  rw [List.range_eq_range']
  exact this
def ptR (P:zD) (a b:Int):List Nat:=(List.range (progI P).length).filter fun i=>decide (a<=(zIns P i).Part)&&decide ((zIns P i).Part<b)
theorem specParts {P:zD} (hv:validP P=true) (a b:Int):kW (progI P) a b=some (asI (ptR P a b)):=by
  have bh:=(rJ hv).2.2.2;unfold kW;have:=gather0 (F:=fun o i=>rF (progI P) a b o i) (n:=(progI P).length) (by omega) (fun i=>decide (a<=(zIns P i).Part)&&decide ((zIns P i).Part<b)) (fun o i hi=>by
    rw [rF];have hc:((i:Int)<((progI P).length:Int)):=by omega
    simp only [hc,dT,if_true,zIx1 hi,oB,oS,oP,id];rw [wP (by omega)];by_cases h1:(zIns P i).Part>=a
    · by_cases h2:(zIns P i).Part<b
      · simp [h1,h2]
      · simp [h1,h2]
    · simp [h1,show ¬(a<=(zIns P i).Part) from h1]) (fun o=>by rw [rF]; simp) [] (by simp)
  rw [cv] at this;have this2:rF (progI P) a b [] 0=_:=this;rw [this2]; rfl
theorem specGroup {P:zD} (hb:BG P) (hv:validP P=true) {part:Int}{k:Nat} (hk:k<=(gP P part.toNat).Nest.length) {c:List Int} (hc:c.length=k):sI (progI P) part c=some (asI ((ptl P part).filter fun a=>decide (ky P k a=c))):=by
  have bh:=(rJ hv).2.2.2;unfold sI;have:=gather0 (F:=fun o i=>rH (progI P) part c o i) (n:=(progI P).length) (by omega) (fun i=>(decide (ky P k i=c))&&((zIns P i).Part==part)) (fun o i hi=>by
    rw [rH];have bL:((i:Int)<((progI P).length:Int)):=by omega
    simp only [bL,dT,if_true,zIx1 hi,oB,oS,oP,id];rw [wP (by omega)];by_cases h1:(zIns P i).Part=part
    · have hs:=zIX hb hv hi h1 (k:=k) hk;have hE:=specEqR (ky P k i) c (by unfold ky; rw [cp]; have:=(zCb hb hv hi h1).2; omega);simp only [h1,bQ,if_true,hc,hs,hE,oS,gf];by_cases h2:ky P k i=c <;> simp [h2]
    · have:((zIns P i).Part==part)=false:=by simp [h1]
      simp [this]) (fun o=>by rw [rH]; simp) [] (by simp)
  rw [cv] at this;have this2:rH (progI P) part c [] 0=_:=this;rw [this2];unfold ptl Jf;rw [f3]; rfl
def hds (P:zD) (k:Nat) (l:List Nat):List (List Int):=(grp (ky P k) l).map fun g=>ky P k (g.headD 0)
theorem zLn {P:zD}{k:Nat}{l:List Nat}{i b:Nat} (hb:l.getLast?=some b):(∃ H,hds P k l=H++[ky P k b])/\hds P k (l++[i])=if ky P k b=ky P k i then hds P k l else hds P k l++[ky P k i]:=by
  have hl:l ≠ []:=by intro e; rw [e] at hb; cases hb
  obtain ⟨gs,g,e1,hg,hgl⟩:=zBN (ky P k) l hl;have hgb:g.getLast?=some b:=by rw [hgl,hb]
  have hgk:=(jV (ky P k) l g (by rw [e1]; simp)).2 b (ek hgb);have hgh:ky P k (g.headD 0)=ky P k b:=by
    unfold keyOf at hgk;cases g with
    | nil=>exact absurd rfl hg
    | cons a t=>exact Option.some.inj hgk
  unfold hds;refine ⟨⟨gs.map fun g=>ky P k (g.headD 0),by rw [e1,cW,dc,hgh]⟩,?_⟩;rw [zAN,e1,zBO _ _ _ b i hgb];split
  · rw [cW,cW,dc,dc]
    congr 3
    cases g with
    | nil=>exact absurd rfl hg
    | cons a t=>rfl
  · rw [cW (l₂:=[[i]])]; rfl
theorem zIY {P:zD} (hb:BG P) (hv:validP P=true) {part:Int}{k:Nat} (hk:k<=(gP P part.toNat).Nest.length) {g:List Nat} (hg:∀ a∈g,a∈ptl P part) (hgl:g.length<=120):∀ (j i:Nat),i+j=g.length ->
    rG (progI P) (asI g) (k:Int) (hds P k (g.take i)) (i:Int)=some (hds P k g):=by
  intro j
  induction j with
  | zero =>
    intro i hi
    rw [rG]
    have:¬((i:Int)<((asI g).length:Int)):=by rw [pO]; omega
    simp only [this,dF,bF,if_false,oP,id]
    rw [cV (by omega)]
  | succ j ih =>
    intro i hi
    have aF:i<g.length:=by omega
    rw [rG]
    have hc:((i:Int)<((asI g).length:Int)):=by rw [pO]; omega
    obtain ⟨hin,hip⟩:=zC1.1 (hg _ (gM aF))
    have hs:=zIX hb hv hin hip (k:=k) hk
    simp only [hc,dT,if_true,zK3 aF,zIx1 hin,hs,oB,oS]
    have ih:=ih (i+1) (by omega)
    rw [eh aF] at ih
    rw [wP (by omega)]
    by_cases h0:i=0
    · subst h0
      have e:hds P k ([]++[g[0]])=[ky P k g[0]]:=rfl
      rw [List.take_zero,e] at ih
      have e2:hds P k (g.take 0)=[]:=rfl
      rw [e2]
      simp only [cI,nZ,bQ,if_true,oS,oP,id]
      rw [app24 (by simp)]
      exact ih
    · obtain ⟨b,hbl⟩:∃ b,(g.take i).getLast?=some b:=by
        have:g.take i ≠ []:=by intro e; have:=congrArg List.length e; rw [cp,cI] at this; omega
        rw [dw this]; exact ⟨_,rfl⟩
      obtain ⟨⟨H,eH⟩,e1⟩:=zLn (P:=P) (k:=k) (i:=g[i]) hbl
      rw [e1] at ih
      rw [eH] at ih ⊢
      obtain ⟨hbn,hbp⟩:=zC1.1 (hg b (List.mem_of_mem_take (ek hbl)))
      have hE:=specEqR (ky P k b) (ky P k g[i]) (by unfold ky; rw [cp]; have:=(zCb hb hv hbn hbp).2; omega)
      have hl:(grp (ky P k) (g.take i)).length<=120:=by have:=zB8 (ky P k) (g.take i); rw [cp] at this; omega
      have hHl:H.length+1<=120:=by have:=congrArg List.length eH; unfold hds at this; simp at this; omega
      have hne:(((H++[ky P k b]).length:Int)==0)=false:=by simp; omega
      simp only [hne,bF,if_false,(fJ (xs:=H) (y:=ky P k b) (by omega)).1,oS,hE,oP,id]
      by_cases hk1:ky P k b=ky P k g[i]
      · rw [if_pos hk1] at ih
        simp only [hk1,dT,bT,bF,if_false,oS]
        rw [<- hk1]; exact ih
      · rw [if_neg hk1] at ih
        simp only [hk1,dF,di,if_true]
        rw [app24 (by simp; omega)]
        exact ih
theorem specHeads {P:zD} (hb:BG P) (hv:validP P=true) {part:Int}{k:Nat} (hk:k<=(gP P part.toNat).Nest.length) {g:List Nat} (hg:∀ a∈g,a∈ptl P part) (hgl:g.length<=120):kX (progI P) (asI g) (k:Int)=some (hds P k g):=by
  unfold kX;have:=zIY hb hv hk hg hgl g.length 0 (cw _);have e:hds P k (g.take 0)=[]:=rfl;rw [e] at this;have this2:rG (progI P) (asI g) (k:Int) [] 0=_:=this;rw [this2]; rfl
end Go.LN
namespace Go.LN
def tkF (c:Nat->Nat->Nat):Nat->Nat->List (List Nat)->List Nat×Nat
  | 0,n,_=>([],n)
  | f+1,n,R=>if R.length=0 then ([],n) else ((R.getD (c n R.length) [])++(tkF c f (n+1) (R.eraseIdx (c n R.length))).1,(tkF c f (n+1) (R.eraseIdx (c n R.length))).2)
theorem zIZ {α:Type}{R:List α}{k:Nat} (h:k<R.length):R.Perm (R[k]::R.eraseIdx k):=by
  rw [fk];have e:R=R.take k++R[k]::R.drop (k+1):=by rw [<- gC h,fl]
  conv=>lhs; rw [e]
  exact List.perm_middle
theorem zCc {c:Nat->Nat->Nat} (hc:∀ n m,0<m->c n m<m):∀ (f n:Nat) (R:List (List Nat)),R.length=f->(tkF c f n R).1.Perm R.flatten/\(tkF c f n R).2=n+f
  | 0,n,R,h=>by
    rw [da.1 h]
    exact ⟨List.Perm.refl _,rfl⟩
  | f+1,n,R,h=>by
    rw [tkF,if_neg (by omega)]
    have hk:=hc n R.length (by omega)
    obtain ⟨h1,h2⟩:=zCc hc f (n+1) (R.eraseIdx (c n R.length)) (by rw [fw,if_pos hk]; omega)
    refine ⟨?_,by dsimp only; rw [h2]; omega⟩
    have e:R.getD (c n R.length) []=R[c n R.length]:=by simp [hk]
    dsimp only
    rw [e]
    have hp:=(zIZ hk).flatten
    rw [dx] at hp
    exact (List.Perm.append_left _ h1).trans hp.symm
theorem zJ1 {c:Nat->Nat->Nat} (hc:∀ n m,c n m=0):∀ (f n:Nat) (R:List (List Nat)),R.length=f->(tkF c f n R).1=R.flatten
  | 0,n,R,h=>by rw [da.1 h]; rfl
  | f+1,n,[],h=>by cases h
  | f+1,n,r::R,h=>by
    rw [tkF,if_neg (by omega),hc]
    show r++(tkF c f (n+1) R).1=_
    rw [zJ1 hc f (n+1) R (by simp at h; exact h)]; rfl
section
variable {κ:Type} (f:Nat->κ)
def RunsOk (R:List (List Nat)):Prop:=(R.map (keyOf f)).Nodup/\∀ r∈R,r.Pairwise (· < ·)/\∀ a∈r,keyOf f r=some (f a)
def Keeps (l:List Nat):Prop:=l.Pairwise fun a b=>f a=f b->a<b
theorem RunsOk.sub {κ:Type} (f:Nat->κ) {R S:List (List Nat)} (h:RunsOk f R) (hs:S.Sublist R):RunsOk f S:=⟨h.1.sublist (hs.map _),fun r hr=>h.2 r (hs.subset hr)⟩
theorem zJ2 {c:Nat->Nat->Nat} (hc:∀ n m,0<m->c n m<m):∀ (q n:Nat) (R:List (List Nat)),R.length=q->RunsOk f R->Keeps f (tkF c q n R).1
  | 0,n,R,h,_=>List.Pairwise.nil
  | q+1,n,R,h,hR=>by
    rw [tkF,if_neg (by omega)]
    have hk:=hc n R.length (by omega)
    have hl:(R.eraseIdx (c n R.length)).length=q:=by rw [fw,if_pos hk]; omega
    have e:R.getD (c n R.length) []=R[c n R.length]:=by simp [hk]
    dsimp only
    rw [e]
    refine db.2 ⟨((hR.2 _ (gM hk)).1).imp (fun {a b} (h:a<b) (_:f a=f b)=>h),zJ2 hc q (n+1) _ hl (hR.sub f (List.eraseIdx_sublist ..)),fun a ha b hb hab=>?_⟩
    exfalso
    have hb2:=(zCc hc q (n+1) _ hl).1.mem_iff.1 hb
    obtain ⟨r,hr,hbr⟩:=fu.1 hb2
    have k1:=(hR.2 _ (gM hk)).2 a ha
    have k2:=(hR.2 r ((List.eraseIdx_sublist ..).subset hr)).2 b hbr
    have hp:=((zIZ hk).map (keyOf f)).nodup_iff.1 hR.1
    rw [cE,List.nodup_cons] at hp
    exact hp.1 (eq.2 ⟨r,hr,by rw [k2,k1,hab]⟩)
def row (t:Nat) (R:List (List Nat)):List Nat:=R.flatMap fun l=>l[t]?.toList
end
def foldT (T:Nat->List (List Nat)->List Nat×Nat):Nat->List (List (List Nat))->List Nat×Nat
  | n,[]=>([],n)
  | n,R::A=>((T n R).1++(foldT T (T n R).2 A).1,(foldT T (T n R).2 A).2)
theorem zDb {T:Nat->List (List Nat)->List Nat×Nat}:∀ (A:List (List (List Nat))) (n:Nat),(∀ R∈A,∀ n,(T n R).1.Perm R.flatten)->(foldT T n A).1.Perm (A.map List.flatten).flatten
  | [],n,_=>List.Perm.refl _
  | R::A,n,h=>by
    rw [foldT,cE,dx]
    exact (h R (cf ..) n).append (zDb A _ fun S hS=>h S (cg _ hS))
theorem zJ3 {T:Nat->List (List Nat)->List Nat×Nat}:∀ (A:List (List (List Nat))) (n:Nat),(∀ R∈A,∀ n,(T n R).1=R.flatten)->(foldT T n A).1=(A.map List.flatten).flatten
  | [],n,_=>rfl
  | R::A,n,h=>by
    rw [foldT,cE,dx,h R (cf ..) n,zJ3 A _ fun S hS=>h S (cg _ hS)]
end Go.LN
namespace Go.LN
def cF (cs:List Int) (n m:Nat):Nat:=(chF cs n m).toNat
theorem zHE (cs:List Int):∀ n m,0<m->cF cs n m<m:=fun n m h=>by
  have:=zK2 cs n h;unfold cF; omega
theorem zMs (cs:List Int) {n m:Nat} (h:0<m):chF cs n m=((cF cs n m:Nat):Int):=by
  have:=zK2 cs n h;unfold cF; omega
def tkP (cs:List Int) (n:Nat) (R:List (List Nat)):List Nat×Nat:=tkF (cF cs) R.length n R
theorem zGA (R:List (List Nat)):(aI2 R).length=R.length:=by simp [aI2]
theorem zMg {R:List (List Nat)}{k:Nat} (h:k<R.length):idx (aI2 R) (k:Int)=some (asI R[k]):=by rw [yS (by rw [zGA]; exact h)]; simp [aI2]
theorem zHF {R:List (List Nat)}{k:Nat} (h:k<R.length):R.flatten.length=R[k].length+(R.eraseIdx k).flatten.length:=by
  have:=(zIZ h).flatten.length_eq;rw [dx,lA] at this;exact this
theorem zLo (cs:List Int):∀ (f n:Nat) (R:List (List Nat)) (out:List Int),R.length=f->R.flatten.length+out.length<=500000->f<=1000->n+f<=1000000 ->
    vO cs out (aI2 R) (n:Int)=some (out++asI (tkF (cF cs) f n R).1,(((tkF (cF cs) f n R).2:Nat):Int))
  | 0,n,R,out,h,_,_,_=>by
    rw [da.1 h,vO]
    simp [aI2,asI,tkF]
  | f+1,n,R,out,h,hb,hf,hn=>by
    rw [vO,tkF,if_neg (show ¬R.length=0 by omega)]
    have hm:0<R.length:=by omega
    have hk:=zHE cs n R.length hm
    have hc:(R.length:Int)>0:=by omega
    have e:R.getD (cF cs n R.length) []=R[cF cs n R.length]:=by simp [hk]
    have hfl:=zHF hk
    simp only [hc,dT,if_true,zGA,implCh cs n hm,zMs cs hm,zMg hk,oB,oS]
    rw [app8 (by rw [pO]; omega)]
    simp only [oS]
    rw [wP (by omega),wP (by omega)]
    have hd:mQ (aI2 R) ((cF cs n R.length:Nat):Int) ((cF cs n R.length+1:Nat):Int)=some (aI2 (R.eraseIdx (cF cs n R.length))):=by
      unfold mQ delG
      rw [if_pos ⟨by omega,by omega,by rw [zGA]; omega,by rw [zGA]; omega⟩,iN,iN,fk]
      simp [aI2]
    simp only [hd,oS]
    rw [zLo cs f (n+1) _ _ (by rw [fw,if_pos hk]; omega) (by rw [lA,pO]; omega) (by omega) (by omega)]
    rw [e,zAa,co]
theorem tkI (cs:List Int) (R:List (List Nat)) (n:Nat) (hb:R.flatten.length<=400000) (hf:R.length<=1000) (hn:n<=900000):wZ (aI2 R) cs (n:Int)=some (asI (tkP cs n R).1,(((tkP cs n R).2:Nat):Int)):=by
  unfold wZ kH;rw [app24 (by simp [aI2]; omega)];simp only [oB,oS,cv];rw [zLo cs R.length n R [] rfl (by rw [cI]; omega) hf (by omega)];rfl
theorem specCh2 (cs:List Int) {n m:Nat} (h:0<m):mJ cs (n:Int) (m:Int)=some ((cF cs n m:Nat):Int):=by rw [specCh cs n h,zMs cs h]
theorem zLp {Z:List zL}{part:Int} (cs:List Int) {key:List Nat->List Int}:∀ (f n:Nat) (R:List (List Nat)) (out:List Int),(∀ r∈R,sI Z part (key r)=some (asI r))->R.length=f->R.flatten.length+out.length<=500000->f<=1000->n+f<=1000000 ->
    vJ part cs Z out (n:Int) (R.map key)=some (out++asI (tkF (cF cs) f n R).1,(((tkF (cF cs) f n R).2:Nat):Int))
  | 0,n,R,out,_,h,_,_,_=>by
    rw [da.1 h,vJ]
    simp [asI,tkF]
  | f+1,n,R,out,hg,h,hb,hf,hn=>by
    rw [vJ,tkF,if_neg (show ¬R.length=0 by omega)]
    have hm:0<R.length:=by omega
    have hk:=zHE cs n R.length hm
    have hc:(R.length:Int)>0:=by omega
    have e:R.getD (cF cs n R.length) []=R[cF cs n R.length]:=by simp [hk]
    have hfl:=zHF hk
    have hx:idx (R.map key) ((cF cs n R.length:Nat):Int)=some (key R[cF cs n R.length]):=by rw [yS (by rw [lM]; exact hk)]; simp
    simp only [hc,dT,if_true,lM,specCh2 cs hm,hx,hg _ (gM hk),oB,oS]
    rw [app8 (by rw [pO]; omega)]
    have s1:=zJy (s:=R.map key) (f:=0) (i:=cF cs n R.length) (ee _) (by rw [lM]; omega)
    rw [nZ,cq] at s1
    have s2:=zJy (s:=R.map key) (f:=cF cs n R.length+1) (i:=R.length) (by omega) (by rw [lM]; omega)
    simp only [oS,s1]
    rw [wP (by omega),wP (by omega)]
    rw [app24 (by simp; omega)]
    simp only [oS,s2]
    rw [app24 (by simp; omega)]
    simp only [oS]
    have e2:[]++(R.map key).take (cF cs n R.length)++((R.map key).take R.length).drop (cF cs n R.length+1)=(R.eraseIdx (cF cs n R.length)).map key:=by
      have e3:(R.map key).take R.length=R.map key:=cV (by rw [lM]; omega)
      rw [cv,e3,fk,cW,List.map_take,List.map_drop]
    rw [e2,zLp cs f (n+1) _ _ (fun r hr=>hg r ((List.eraseIdx_sublist ..).subset hr)) (by rw [fw,if_pos hk]; omega) (by rw [lA,pO]; omega) (by omega) (by omega)]
    rw [e,zAa,co]
theorem zFU {T:Nat->List (List Nat)->List Nat×Nat}{R:List (List Nat)}{A:List (List (List Nat))}{n:Nat}:foldT T n (R::A)=((T n R).1++(foldT T (T n R).2 A).1,(foldT T (T n R).2 A).2):=rfl
theorem zNU {σ:Type}{taken:List (List Int)->σ->Option (List Int×σ)}{enc:Nat->σ}{T:Nat->List (List Nat)->List Nat×Nat} (A:List (List (List Nat))) (hA:A.length<=1000) (hT:∀ R∈A,∀ n,n<=500000->taken (aI2 R) (enc n)=some (asI (T n R).1,enc (T n R).2)/\(T n R).2<=n+120/\(T n R).1.length<=120) :
    ∀ (j i n:Nat) (out:List Int),i+j=A.length->n+120*j<=400000->out.length+120*j<=800000->oK taken (aI3 A) out (enc n) (i:Int)=some (out++asI (foldT T n (A.drop i)).1,enc (foldT T n (A.drop i)).2):=by
  intro j
  induction j with
  | zero =>
    intro i n out hi _ _
    rw [oK]
    have:¬((i:Int)<((aI3 A).length:Int)):=by simp [aI3]; omega
    simp only [this,dF,bF,if_false,oP]
    rw [dN.2 (show A.length<=i by omega)]
    simp [foldT,asI]
  | succ j ih =>
    intro i n out hi hn ho
    have aF:i<A.length:=by omega
    rw [oK]
    have hc:((i:Int)<((aI3 A).length:Int)):=by simp [aI3]; omega
    have hx:idx (aI3 A) (i:Int)=some (aI2 A[i]):=by rw [yS (by simp [aI3]; omega)]; simp [aI3]
    obtain ⟨t1,t2,t3⟩:=hT _ (gM aF) n (by omega)
    simp only [hc,dT,if_true,hx,t1,oB,oS]
    rw [app8 (by rw [pO]; omega)]
    simp only [oS]
    rw [wP (by omega),ih (i+1) _ _ (by omega) (by omega) (by rw [lA,pO]; omega),gC aF,zFU,zAa,co]
def preI (P:zD) (part:Int):List Nat:=(List.range (progI P).length).filter fun i=>decide ((zIns P i).Part<part)
def posI (P:zD) (part:Int):List Nat:=(List.range (progI P).length).filter fun i=>decide ((zIns P i).Part>part)
def ordT (P:zD) (part:Int) (k:Nat) (T:Nat->List (List Nat)->List Nat×Nat):List Nat:=preI P part++(foldT T 0 (gg P k (ptl P part))).1++posI P part
def rngL (P:zD) (part loop:Int):Prop:=(0<=part/\part<=(P.Parts.length:Int) - 1)/\0<=loop/\loop<=((gP P part.toNat).Nest.length:Int) - 1
instance (P:zD) (part loop:Int):Decidable (rngL P part loop):=inferInstanceAs (Decidable (_/\_))
theorem isLoopV {P:zD} (hb:BG P) (hv:validP P=true) (part loop:Int):pS P part loop=some (decide (rngL P part loop)):=by
  unfold rngL;simp only [pS,isPartL hb,oB,oS,oP,id];by_cases h:0<=part/\part<=(P.Parts.length:Int) - 1
  · have h4:=nest4 hv (show part.toNat<P.Parts.length by omega);simp only [h.1,h.2,dT,Bool.and_self,if_true,zLi h,oS,nA,sL (x:=((gP P part.toNat).Nest.length:Int) - 1) (by omega) (by omega),true_and]
    congr 1
    rw [ed,bA,decide_eq_true_eq,decide_eq_true_eq,decide_eq_true_eq]
  · simp only [zMa h,bF,if_false,h,false_and,dF,oS]
theorem specHas8 {P:zD} (hb:BG P) (part loop:Int):eE P part loop=some (validP P&&decide (rngL P part loop)):=by
  unfold eE rngL;rw [specValidP P hb];cases hv:validP P with
  | false=>simp
  | true =>
    by_cases a:0<=part
    · by_cases b:part<=(P.Parts.length:Int) - 1
      · by_cases c:0<=loop
        · have b':part<(P.Parts.length:Int):=by omega
          simp only [if_true,oB,oS,oP,id,ge_iff_le,a,b,b',c,dT,zLi ⟨a,b⟩,true_and,cx]
          congr 1
          rw [ed,decide_eq_true_eq,decide_eq_true_eq];omega
        · have b':part<(P.Parts.length:Int):=by omega
          simp [a,b',c]
      · have b':¬part<(P.Parts.length:Int):=by omega
        simp [a,b',b]
    · simp [a]
theorem zI0 (P:zD) (k:Nat) (l:List Nat):(gg P k l).map List.flatten=grp (ky P k) l:=by
  unfold gg;rw [List.map_map]
  conv=>rhs; rw [<- List.map_id (grp (ky P k) l)]
  exact List.map_congr_left fun g _=>sW (ky P (k+1)) g
theorem zLq {P:zD}{k:Nat}{l:List Nat} (hl:l.length<=120):(gg P k l).length<=120/\∀ R∈gg P k l,R.flatten.length<=120/\R.length<=120/\∀ r∈R,r.length<=120:=by
  have h1:=zB8 (ky P k) l;refine ⟨by unfold gg; rw [lM]; omega,fun R hR=>?_⟩;obtain ⟨g,hg,rfl⟩:=eq.1 hR;obtain ⟨p,q,e⟩:=zHD (sW (ky P k) l) hg;have hgl:g.length<=120:=by have:=congrArg List.length e; simp at this; omega
  have h2:=zB8 (ky P (k+1)) g;refine ⟨by rw [sW]; exact hgl,by omega,fun r hr=>?_⟩;obtain ⟨p2,q2,e2⟩:=zHD (sW (ky P (k+1)) g) hr;have:=congrArg List.length e2;simp at this; omega
theorem zI1 {P:zD} (hv:validP P=true) (part:Int):(ptl P part).length<=120:=cS (zLl P part _) (rJ hv).2.2.2
theorem zNe {P:zD} (hv:validP P=true) (part:Int) (o:List Int) (ho:o.length<=700000):qK part (trcP P) o 0=some (o++asI (preI P part)):=by
  have bh:=(rJ hv).2.2.2;refine gather0 (F:=fun o i=>qK part (trcP P) o i) (n:=(progI P).length) (by omega) (fun i=>decide ((zIns P i).Part<part)) (fun o i hi=>?_) (fun o=>?_) o (by omega)
  · rw [qK];have hc:((i:Int)<((progI P).length:Int)):=by omega
    simp only [hc,dT,if_true,zBM,zIx1 hi,oB,oS,oP,id];rw [wP (by omega)];by_cases h1:(zIns P i).Part<part <;> simp [h1]
  · rw [qK]; simp [zBM]
theorem zNf {P:zD} (hv:validP P=true) (part:Int) (o:List Int) (ho:o.length<=700000):qL part (trcP P) o 0=some (o++asI (posI P part)):=by
  have bh:=(rJ hv).2.2.2;refine gather0 (F:=fun o i=>qL part (trcP P) o i) (n:=(progI P).length) (by omega) (fun i=>decide ((zIns P i).Part>part)) (fun o i hi=>?_) (fun o=>?_) o (by omega)
  · rw [qL];have hc:((i:Int)<((progI P).length:Int)):=by omega
    simp only [hc,dT,if_true,zBM,zIx1 hi,oB,oS,oP,id];rw [wP (by omega)];by_cases h1:(zIns P i).Part>part <;> simp [h1]
  · rw [qL]; simp [zBM]
def ordF (P:zD) (part loop:Int) (T:Nat->List (List Nat)->List Nat×Nat):List Int×Bool:=if validP P=true/\rngL P part loop then (asI (ordT P part loop.toNat T),true) else ([],false)
theorem aroundV {σ:Type}{P:zD} (hb:BG P) (part loop:Int) {taken:List (List Int)->σ->Option (List Int×σ)}{enc:Nat->σ}{T:Nat->List (List Nat)->List Nat×Nat}
    (hT:∀ R:List (List Nat),R.flatten.length<=120->R.length<=120->(∀ r∈R,r.length<=120)->∀ n,n<=500000->taken (aI2 R) (enc n)=some (asI (T n R).1,enc (T n R).2)/\(T n R).2<=n+120/\(T n R).1.length<=120) :
    ∃ s,jS P part loop taken (enc 0)=some (ordF P part loop T,s):=by
  unfold jS ordF
  rw [implTrace P hb]
  cases hv:validP P with
  | false=>exact ⟨_,rfl⟩
  | true =>
    simp only [if_true,oB,oS,oP,bT,bF,if_false,isLoopV hb hv,true_and]
    by_cases h:rngL P part loop
    · obtain ⟨h1,h2⟩:=h
      have hk:loop.toNat<(gP P part.toNat).Nest.length:=by omega
      have hl:((loop.toNat:Nat):Int)=loop:=by omega
      have bh:=(rJ hv).2.2.2
      have hpl:(preI P part).length<=120:=by unfold preI; exact cS (fo _ _) (by simp; omega)
      have hit:=iterV hb hv (part:=part) hk
      rw [hl] at hit
      obtain ⟨b1,b2⟩:=zLq (P:=P) (k:=loop.toNat) (zI1 hv part)
      have h2':=zNU (taken:=taken) (enc:=enc) (T:=T) (gg P loop.toNat (ptl P part)) (by omega) (fun R hR n hn=>hT R (b2 R hR).1 (b2 R hR).2.1 (b2 R hR).2.2 n hn) _ 0 0 (asI (preI P part)) (cw _) (by omega) (by rw [pO]; omega)
      rw [cq,nZ] at h2'
      have hml:∀ (A:List (List (List Nat))) (n:Nat),(∀ R∈A,∀ n,n<=500000->(T n R).2<=n+120/\(T n R).1.length<=120)->n+120*A.length<=400000->(foldT T n A).1.length<=120*A.length:=by
        intro A
        induction A with
        | nil=>intro n _ _; simp [foldT]
        | cons R A ih =>
          intro n h hn
          rw [zFU,lA]
          have hR:=h R (cf ..) n (by simp at hn; omega)
          have:=ih (T n R).2 (fun S hS=>h S (cg _ hS)) (by simp at hn; omega)
          simp only [cr]; omega
      have hm:=hml (gg P loop.toNat (ptl P part)) 0 (fun R hR n hn=>(hT R (b2 R hR).1 (b2 R hR).2.1 (b2 R hR).2.2 n hn).2) (by omega)
      have a1:=zNe hv part [] (by simp)
      rw [cv] at a1
      have a3:=zNf hv part (asI (preI P part)++asI (foldT T 0 (gg P loop.toNat (ptl P part))).1) (by rw [lA,pO,pO]; omega)
      have hr:rngL P part loop:=⟨h1,h2⟩
      simp only [hr,dT,bT,bF,if_false,if_true,oS,a1,hit,h2',a3]
      refine ⟨enc (foldT T 0 (gg P loop.toNat (ptl P part))).2,?_⟩
      unfold ordT
      rw [zAa,zAa]
    · simp only [h,dF,di,if_true,if_false]
      exact ⟨_,rfl⟩
theorem implPO {P:zD} (hb:BG P) (part loop:Int) (cs:List Int):qM P part loop cs=some (ordF P part loop (tkP cs)):=by
  unfold qM;obtain ⟨s,h⟩:=aroundV hb part loop (taken:=fun x0 n=>wZ x0 cs n) (enc:=fun n:Nat=>(n:Int)) (T:=tkP cs) (fun R h1 h2 h3 n hn=>by
    have hp:=zCc (zHE cs) R.length n R rfl;exact ⟨tkI cs R n (by omega) (by omega) (by omega),by unfold tkP; rw [hp.2]; omega,by unfold tkP; rw [hp.1.length_eq]; exact h1⟩)
  have h':jS P part loop (fun x0 n=>wZ x0 cs n) (0:Int)=some (ordF P part loop (tkP cs),s):=h;rw [h']; rfl
end Go.LN
