/- Helper of the proof (see the last text). -/
import Derived.Test.YtmlnffbepjijhaaGreatVB1
import Derived.Test.YtmlnffbepjijhaaGreatQZ
set_option linter.unusedVariables false
set_option linter.unusedSimpArgs false
namespace Go.LN
theorem zAd {α:Type}{l:List α}{f:Int->List α->Option (List α)} (step:∀ (i:Nat) (h:i<l.length) (o:List α),o.length=i->f (i:Int) o=f ((i+1:Nat):Int) (o++[l[i]])) (fin:∀ o,f (l.length:Int) o=some o):f 0 []=some l:=by
  have key:∀ j i,i+j=l.length->f (i:Int) (l.take i)=some l:=by
    intro j
    induction j with
    | zero =>
      intro i hi;rw [show i=l.length by omega,fin,da (cZ _)]
    | succ j ih =>
      intro i hi;have aD:i<l.length:=by omega
      have:=ih (i+1) (by omega);rw [List.take_add_one,cf aD,Option.toList_some] at this;rw [step i aD _ (by rw [cw]; omega)];exact this
  exact key _ 0 (cr _)
theorem copyExpr:∀ (m:Nat) (e:zH),BE m e->oY e=some e
  | m,e,h=>by
    obtain ⟨h1,h2,h3⟩:=h.own
    rw [oY]
    have hl:=zAd (l:=e.Kids) (f:=fun i o=>tC e i o) (fun i hi o ho=>by
        show tC e (i:Int) o=_
        rw [tC]
        have k1:((i:Int)<(e.Kids.length:Int)):=by omega
        obtain ⟨m',hm,hm'⟩:=h.kid (gM hi)
        have happ:app 112 o [e.Kids[i]]=some (o++[e.Kids[i]]):=oL (by simp; omega)
        have hr:=copyExpr m' e.Kids[i] hm'
        simp only [k1,dT,if_true,yV hi,oB,oS,same,hr,happ]
        rw [vH (by omega)]) (fun o=>by
        show tC e (e.Kids.length:Int) o=_
        rw [tC]; simp)
    simp only [specCopyAff _ h1,specCopyAcc _ h2,oB,oS,same]
    rw [show tC e 0 []=some e.Kids from hl]
    clear hl h h1 h2 h3
    cases e; rfl
theorem copyStmt (s:zL) (h:BS s):dA s=some s:=by
  obtain ⟨h1,m,h2⟩:=h;unfold dA;rw [specCopyAcc _ h1,copyExpr m _ h2];rfl
theorem copyNest (nest:List zF) (h:BN nest):jL nest=some nest:=by
  obtain ⟨h1,h2⟩:=h;unfold jL;have hl:=zAd (l:=nest) (f:=fun i o=>sD nest o i) (fun i hi o ho=>by
      show sD nest o (i:Int)=_;rw [sD];have k1:((i:Int)<(nest.length:Int)):=by omega
      obtain ⟨⟨q1,q2⟩,q3,q4⟩:=h2 _ (gM hi);have happ:app 48 o [nest[i]]=some (o++[nest[i]]):=oL (by simp; omega);have hlo:=zAd (l:=nest[i].Lo) (f:=fun k o=>qT nest (i:Int) k o) (fun k hk o ho=>by
          show qT nest (i:Int) (k:Int) o=_;rw [qT];have k2:((k:Int)<(nest[i].Lo.length:Int)):=by omega
          have hp:app 32 o [nest[i].Lo[k]]=some (o++[nest[i].Lo[k]]):=oL (by simp; omega);have ha:=q2 _ (gM hk);have hpn:app 8 ([]:List Int) nest[i].Lo[k].Coefs=some nest[i].Lo[k].Coefs:=zAk _ (by unfold BA at ha; omega);simp only [yV hi,k2,dT,if_true,yV hk,oB,oS,hpn,hp];rw [vH (by omega)]) (fun o=>by
          show qT nest (i:Int) (nest[i].Lo.length:Int) o=_;rw [qT]; simp [yV hi])
      have hhi:=zAd (l:=nest[i].Hi) (f:=fun k o=>qU nest (i:Int) k o) (fun k hk o ho=>by
          show qU nest (i:Int) (k:Int) o=_;rw [qU];have k2:((k:Int)<(nest[i].Hi.length:Int)):=by omega
          have hp:app 32 o [nest[i].Hi[k]]=some (o++[nest[i].Hi[k]]):=oL (by simp; omega);have ha:=q4 _ (gM hk);have hpn:app 8 ([]:List Int) nest[i].Hi[k].Coefs=some nest[i].Hi[k].Coefs:=zAk _ (by unfold BA at ha; omega);simp only [yV hi,k2,dT,if_true,yV hk,oB,oS,hpn,hp];rw [vH (by omega)]) (fun o=>by
          show qU nest (i:Int) (nest[i].Hi.length:Int) o=_;rw [qU]; simp [yV hi])
      simp only [k1,dT,if_true,oB,oS,hlo,hhi,happ];rw [vH (by omega)]) (fun o=>by
      show sD nest o (nest.length:Int)=_;rw [sD]; simp)
  rw [hl]; rfl
theorem copyProg (P:zC) (h:BG P):rL P=some P:=by
  obtain ⟨⟨h1,h1'⟩,h2,h3⟩:=h;unfold rL;have ha:=zAd (l:=P.Arrays) (f:=fun i o=>sE P i o) (fun i hi o ho=>by
      show sE P (i:Int) o=_;rw [sE];have k1:((i:Int)<(P.Arrays.length:Int)):=by omega
      have hd:=h1' _ (gM hi);have happ:app 40 o [P.Arrays[i]]=some (o++[P.Arrays[i]]):=oL (by simp; omega);have hpn:app 8 ([]:List Int) P.Arrays[i].Dims=some P.Arrays[i].Dims:=zAk _ (by omega);simp only [k1,dT,if_true,yV hi,oB,oS,hpn,happ];rw [vH (by omega)]) (fun o=>by
      show sE P (P.Arrays.length:Int) o=_;rw [sE]; simp)
  have hp:=zAd (l:=P.Parts) (f:=fun i o=>sF P i o) (fun i hi o ho=>by
      show sF P (i:Int) o=_;rw [sF];have k1:((i:Int)<(P.Parts.length:Int)):=by omega
      obtain ⟨b1,b2,b3⟩:=h3 _ (gM hi);have happ:app 48 o [P.Parts[i]]=some (o++[P.Parts[i]]):=oL (by simp; omega);have hb:=zAd (l:=P.Parts[i].Body) (f:=fun k o=>qV P (i:Int) k o) (fun k hk o ho=>by
          show qV P (i:Int) (k:Int) o=_;rw [qV];have k2:((k:Int)<(P.Parts[i].Body.length:Int)):=by omega
          have hp:app 152 o [P.Parts[i].Body[k]]=some (o++[P.Parts[i].Body[k]]):=oL (by simp; omega);simp only [yV hi,k2,dT,if_true,yV hk,oB,oS,copyStmt _ (b3 _ (gM hk)),hp];rw [vH (by omega)]) (fun o=>by
          show qV P (i:Int) (P.Parts[i].Body.length:Int) o=_;rw [qV]; simp [yV hi])
      simp only [k1,dT,if_true,yV hi,oB,oS,copyNest _ b1,hb,happ];rw [vH (by omega)]) (fun o=>by
      show sF P (P.Parts.length:Int) o=_;rw [sF]; simp)
  rw [ha,hp]; rfl
end Go.LN
namespace Go.LN
theorem BE.up1:∀ {n:Nat}{e:zH},BE n e->BE (n+1) e
  | 0,e,⟨h1,h2,h3⟩=>⟨h1,h2,by rw [h3]; simp,by rw [h3]; intro k hk; cases hk⟩
  | n+1,e,⟨h1,h2,h3,h4⟩=>⟨h1,h2,h3,fun k hk=>BE.up1 (h4 k hk)⟩
theorem BE.up {n m:Nat}{e:zH} (h:BE n e) (hm:n<=m):BE m e:=by
  obtain ⟨k,rfl⟩:=Nat.exists_eq_add_of_le hm
  induction k with
  | zero=>exact h
  | succ k ih=>exact BE.up1 (ih (by omega))
def QL (q:Nat) (l:List zA):Prop:=l.length<=q/\∀ a∈l,BA a
def QN (q:Nat) (nest:List zF):Prop:=nest.length<=2000/\∀ x∈nest,QL q x.Lo/\QL q x.Hi
def QS (q:Nat) (s:zL):Prop:=QL q s.Write.Subs/\BA s.Value.Index/\BL s.Value.Read.Subs/\s.Value.Kids.length<=q/\∀ k∈s.Value.Kids,BE 6 k
theorem QL.up {q r:Nat}{l:List zA} (h:QL q l) (hq:q<=r):QL r l:=⟨cY h.1 hq,h.2⟩
theorem QL.bl {q:Nat}{l:List zA} (h:QL q l) (hq:q<=1000):BL l:=⟨cY h.1 hq,h.2⟩
theorem QL.app {q k:Nat}{l m:List zA} (h:QL q l) (hm:QL k m):QL (q+k) (l++m):=by
  refine ⟨by rw [lA]; exact Nat.add_le_add h.1 hm.1,fun a ha=>?_⟩;rcases cX.1 ha with ha | ha
  · exact h.2 a ha
  · exact hm.2 a ha
theorem QL.nil {q:Nat}:QL q []:=⟨ep _,fun _ h=>by cases h⟩
theorem QL.one {a:zA} (h:BA a):QL 1 [a]:=⟨cZ _,fun _ h'=>cv.1 h' ▸ h⟩
theorem QL.two {a b:zA} (h:BA a) (h2:BA b):QL 2 [a,b]:=QL.app (QL.one h) (QL.one h2)
theorem QN.up {q r:Nat}{l:List zF} (h:QN q l) (hq:q<=r):QN r l:=⟨h.1,fun x hx=>⟨(h.2 x hx).1.up hq,(h.2 x hx).2.up hq⟩⟩
theorem QN.bn {q:Nat}{l:List zF} (h:QN q l) (hq:q<=1000):BN l:=⟨by have:=h.1; omega,fun x hx=>⟨(h.2 x hx).1.bl hq,(h.2 x hx).2.bl hq⟩⟩
theorem QN.set {q:Nat}{l:List zF} (h:QN q l) {x:zF} (hx:QL q x.Lo/\QL q x.Hi) (k:Nat):QN q (l.set k x):=⟨by rw [cE]; exact h.1,zD1 h.2 hx k⟩
theorem QS.up {q r:Nat}{s:zL} (h:QS q s) (hq:q<=r):QS r s:=⟨h.1.up hq,h.2.1,h.2.2.1,cY h.2.2.2.1 hq,h.2.2.2.2⟩
theorem QS.bs {q:Nat}{s:zL} (h:QS q s) (hq:q<=1000):BS s:=⟨h.1.bl hq,7,h.2.1,h.2.2.1,by have:=h.2.2.2.1; omega,h.2.2.2.2⟩
theorem zJv {a:zA} (h:a.Coefs.length=4):BA a:=by unfold BA; omega
theorem zMd (q:Nat):∀ (j:Nat) (out:List zF),5<=out.length+j->1<=out.length->QN q out->Ok (oD out) (QN q)
  | 0,out,hj,h1,h=>by
    rw [oD]
    refine Ok.ite_dec (fun hc=>absurd hc (by omega)) fun _=>Ok.pure h
  | j+1,out,hj,h1,h=>by
    rw [oD]
    refine Ok.ite_dec (fun hc=>?_) fun _=>Ok.pure h
    refine Ok.idx (by omega) (by omega) fun x hx _=>Ok.app (by simp; omega) ?_
    refine zMd q j _ (by rw [lA]; simp; omega) (by rw [lA]; omega) ⟨by rw [lA]; simp; omega,fun y hy=>?_⟩
    rcases cX.1 hy with hy | hy
    · exact h.2 y hy
    · rw [cv.1 hy]; exact h.2 x hx
theorem mut2 (q:Nat) (hq:q<=300) (r:zQ) (nest:List zF) (h:QN q nest) (h0:0<=r.p) (h1:r.p<=900000000):Ok (kZ r nest) (fun y=>QN (q+2) y.1/\0<=y.2.p/\y.2.p<=r.p+2):=by
  have hup:=h.up (show q<=q+2 by omega);unfold kZ;rw [copyNest nest (h.bn (by omega))];refine Ok.bind_some (Ok.ite_beq (fun _=>Ok.pure ⟨hup,h0,by dsimp only; omega⟩) fun hne=>?_);have hpos:0<nest.length:=by omega
  have ba:=h.1;have hW:W ((nest.length:Int) - 1)=((nest.length - 1:Nat):Int):=by rw [rA (by omega) (by omega)]; omega
  refine Ok.call (zAJ r 40) ⟨h0,by omega⟩ fun y2 s g1 g2 g3=>?_;refine Ok.ite_beq (fun _=>?_) fun _=>Ok.ite_beq (fun _=>?_) fun _=>Ok.ite_beq (fun _=>?_) fun _=>Ok.ite_beq (fun _=>?_) fun _=>Ok.ite_beq (fun _=>?_) fun _=>?_
  · refine Ok.idx (by omega) (by omega) fun x hx _=>Ok.call (zAJ s 2) ⟨by omega,by omega⟩ fun y5 s2 k1 k2 k3=>Ok.call (zE2 y5) ⟨k1,by omega⟩ fun a c1 c2=>?_;have hxx:=h.2 x hx;refine Ok.app (by have:=hxx.1.1; simp; omega) (Ok.pure ⟨QN.set (x:=⟨x.Lo++[a],x.Hi⟩) hup ⟨(hxx.1.app (QL.one (zJv c1))).up (show q+1<=q+2 by omega),hxx.2.up (show q<=q+2 by omega)⟩ _,by dsimp only; omega,by dsimp only; omega⟩)
  · rw [hW];refine Ok.idx (by omega) (by omega) fun x hx _=>?_;have hxx:=h.2 x hx;exact Ok.pure ⟨QN.set (x:=⟨x.Lo,[]⟩) hup ⟨hxx.1.up (show q<=q+2 by omega),QL.nil⟩ _,by dsimp only; omega,by dsimp only; omega⟩
  · rw [hW];refine Ok.idx (by omega) (by omega) fun x hx _=>Ok.call (gX 1) trivial (Ok.call (gX 2) trivial ?_);have hxx:=h.2 x hx;exact Ok.app (by have:=hxx.2.1; simp; omega) (Ok.pure ⟨QN.set (x:=⟨x.Lo,x.Hi++[⟨[0,0,0,0],1⟩,⟨[0,0,0,0],2⟩]⟩) hup ⟨hxx.1.up (show q<=q+2 by omega),hxx.2.app (QL.two (zJv rfl) (zJv rfl))⟩ _,by dsimp only; omega,by dsimp only; omega⟩)
  · refine Ok.call (gX 99) trivial (Ok.idx (by omega) (by omega) fun x hx _=>?_);have hxx:=h.2 x hx;exact Ok.pure ⟨QN.set (x:=⟨x.Lo,[⟨[0,0,0,0],99⟩]⟩) hup ⟨hxx.1.up (show q<=q+2 by omega),(QL.one (zJv rfl)).up (show 1<=q+2 by omega)⟩ _,by dsimp only; omega,by dsimp only; omega⟩
  · refine Ok.bind (zMd q 5 nest (by omega) hpos h) fun z hz=>Ok.pure ⟨hz.up (by omega),by dsimp only; omega,by dsimp only; omega⟩
  · exact Ok.pure ⟨hup,by dsimp only; omega,by dsimp only; omega⟩
theorem mut3 (q:Nat) (hq:q<=300) (r:zQ) (s:zL) (h:QS q s) (h0:0<=r.p) (h1:r.p<=900000000):Ok (qO r s) (fun y=>QS (q+2) y.1/\0<=y.2.p/\y.2.p<=r.p+2):=by
  obtain ⟨w1,w2,w3,w4,w5⟩:=h.up (show q<=q+2 by omega);obtain ⟨v1,_,_,v4,_⟩:=id h;have v11:=v1.1;unfold qO;rw [copyStmt s (h.bs (by omega))];refine Ok.bind_some (Ok.call (zAJ r 40) ⟨h0,by omega⟩ fun y2 y3 g1 g2 g3=>?_);have fin:∀ (o:Str×List zA×Int×Int×List zH×zQ),(QL (q+2) o.2.1/\(o.2.2.2.2.1.length<=q+2/\∀ k∈o.2.2.2.2.1,BE 6 k)/\0<=o.2.2.2.2.2.p/\o.2.2.2.2.2.p<=r.p+2)->QS (q+2) (zL.mk (zG.mk o.1 o.2.1) (zH.mk o.2.2.1 o.2.2.2.1 s.Value.Index s.Value.Read o.2.2.2.2.1))/\0<=o.2.2.2.2.2.p/\o.2.2.2.2.2.p<=r.p+2 :=
    fun o ⟨a,b,c⟩=>⟨⟨a,w2,w3,b.1,b.2⟩,c⟩
  refine Ok.bind (φ:=fun o:Str×List zA×Int×Int×List zH×zQ=>QL (q+2) o.2.1/\(o.2.2.2.2.1.length<=q+2/\∀ k∈o.2.2.2.2.1,BE 6 k)/\0<=o.2.2.2.2.2.p/\o.2.2.2.2.2.p<=r.p+2) ?_ fun o ho=>by
    obtain ⟨o1,o2,o3,o4,o5,o6⟩:=o;exact Ok.pure (fin _ ho)
  refine Ok.ite_beq (fun _=>?_) fun _=>?_
  · exact Ok.call (zAP y3 _) ⟨by decide,by omega,by omega⟩ fun z t _ k3=>Ok.pure ⟨w1,⟨w4,w5⟩,by dsimp only; omega,by dsimp only; omega⟩
  refine Ok.bind (φ:=fun o:List zA×Int×Int×List zH×zQ=>QL (q+2) o.1/\(o.2.2.2.1.length<=q+2/\∀ k∈o.2.2.2.1,BE 6 k)/\0<=o.2.2.2.2.p/\o.2.2.2.2.p<=r.p+2) ?_ fun o ho=>by
    obtain ⟨o2,o3,o4,o5,o6⟩:=o;exact Ok.pure ho
  refine Ok.ite_beq (fun _=>?_) fun _=>?_
  · exact Ok.call (zE2 3) (by omega) fun a c1 c2=>Ok.call zAv trivial (Ok.app (by simp; omega) (Ok.pure ⟨v1.app (QL.two (zJv c1) (zJv rfl)),⟨w4,w5⟩,by dsimp only; omega,by dsimp only; omega⟩))
  refine Ok.bind (φ:=fun o:Int×Int×List zH×zQ=>(o.2.2.1.length<=q+2/\∀ k∈o.2.2.1,BE 6 k)/\0<=o.2.2.2.p/\o.2.2.2.p<=r.p+2) ?_ fun o ho=>by
    obtain ⟨o3,o4,o5,o6⟩:=o;exact Ok.pure ⟨w1,ho⟩
  refine Ok.ite_beq (fun _=>?_) fun _=>?_
  · exact Ok.call (tW y3 _) ⟨by decide,by omega,by omega,by decide⟩ fun z t _ _ k3=>Ok.pure ⟨⟨w4,w5⟩,by dsimp only; omega,by dsimp only; omega⟩
  refine Ok.bind (φ:=fun o:Int×List zH×zQ=>(o.2.1.length<=q+2/\∀ k∈o.2.1,BE 6 k)/\0<=o.2.2.p/\o.2.2.p<=r.p+2) ?_ fun o ho=>by
    obtain ⟨o4,o5,o6⟩:=o;exact Ok.pure ho
  refine Ok.ite_beq (fun _=>?_) fun _=>?_
  · exact Ok.call (tW y3 _) ⟨by decide,by omega,by omega,by decide⟩ fun z t _ _ k3=>Ok.pure ⟨⟨w4,w5⟩,by dsimp only; omega,by dsimp only; omega⟩
  refine Ok.bind (φ:=fun o:List zH=>o.length<=q+2/\∀ k∈o,BE 6 k) ?_ fun o ho=>Ok.pure ⟨ho,by dsimp only; omega,by dsimp only; omega⟩;refine Ok.ite_beq (fun _=>?_) fun _=>Ok.pure ⟨w4,w5⟩;refine Ok.app (by show (_+1)*112<=_; omega) (Ok.pure ⟨by show (_++_:List zH).length<=_; rw [lA]; show _+1<=_; omega,fun k hk=>?_⟩);rcases cX.1 hk with hk | hk
  · exact w5 k hk
  · rw [cv.1 hk];exact BE.up (n:=0) ⟨ep _,⟨ep _,fun _ h=>by cases h⟩,rfl⟩ (by omega)
end Go.LN
namespace Go.LN
def DX (x:zI):Prop:=QN 100 x.Nest/\x.Body.length<=1000/\∀ s∈x.Body,QS 100 s
def DP (P:zC):Prop:=(P.Arrays.length<=1000/\∀ a∈P.Arrays,a.Dims.length<=1000)/\P.Parts.length<=1000/\∀ x∈P.Parts,DX x
theorem DX.bp {x:zI} (h:DX x):BP x:=⟨h.1.bn (by omega),by have:=h.2.1; omega,fun s hs=>(h.2.2 s hs).bs (by omega)⟩
theorem DP.bg {P:zC} (h:DP P):BG P:=⟨⟨by have:=h.1.1; omega,h.1.2⟩,by have:=h.2.1; omega,fun x hx=>(h.2.2 x hx).bp⟩
def PB (l:List zI):Prop:=l.length<=1000/\∀ x∈l,BP x
theorem PB.set {l:List zI} (h:PB l) {x:zI} (hx:BP x) (k:Nat):PB (l.set k x):=⟨by rw [cE]; exact h.1,zD1 h.2 hx k⟩
def AR (l:List zE):Prop:=l.length<=2000/\∀ a∈l,a.Dims.length<=1000
def RD (s:zQ):Prop:=0<=s.p/\s.p<=700001000
theorem mut4 (r:zQ) (P:zC) (h:DP P) (h0:0<=r.p) (h1:r.p<=700000000):Ok (mB r P) (fun y=>(BG y.1/\AR y.1.Arrays)/\RD y.2):=by
  obtain ⟨⟨a1,a2⟩,p1,p2⟩:=id h;have hA:AR P.Arrays:=⟨by omega,a2⟩;have hP:PB P.Parts:=⟨p1,fun x hx=>(p2 x hx).bp⟩;have hW:0<P.Parts.length->W ((P.Parts.length:Int) - 1)=((P.Parts.length - 1:Nat):Int):=fun hp=>by rw [rA (by omega) (by omega)]; omega
  unfold mB;rw [copyProg P h.bg];refine Ok.bind_some (Ok.call (zAJ r 60) ⟨h0,by omega⟩ fun y2 y3 g1 g2 g3=>?_);have hR:RD y3:=⟨by omega,by omega⟩;refine Ok.bind (φ:=fun o:List zE×List zI×zQ=>AR o.1/\PB o.2.1/\RD o.2.2) ?_ fun o ho=>by
    obtain ⟨o1,o2,o3⟩:=o;exact Ok.pure ⟨⟨⟨⟨by have:=ho.1.1; dsimp only at this ⊢; omega,ho.1.2⟩,by have:=ho.2.1.1; dsimp only at this ⊢; omega,ho.2.1.2⟩,ho.1⟩,ho.2.2⟩
  refine Ok.ite_beq (fun _=>?_) fun _=>?_
  · refine Ok.call (zAP y3 _) ⟨by decide,by omega,by omega⟩ fun z t _ k3=>Ok.call (tW t _) ⟨by decide,by omega,by omega,by decide⟩ fun z2 t2 _ _ k4=>Ok.app (by show (_+1)*40<=_; omega) (Ok.pure ⟨⟨by show (_++_:List zE).length<=_; rw [lA]; show _+1<=_; omega,fun a ha=>?_⟩,hP,⟨by dsimp only; omega,by dsimp only; omega⟩⟩);rcases cX.1 ha with ha | ha
    · exact a2 a ha
    · rw [cv.1 ha]; show 1<=1000; omega
  refine Ok.bind (φ:=fun o:List zE×List zI×zQ=>AR o.1/\PB o.2.1/\RD o.2.2) ?_ fun o ho=>by
    obtain ⟨o1,o2,o3⟩:=o;exact Ok.pure ho
  refine Ok.ite_beq (fun _=>?_) fun _=>?_
  · refine Ok.bind (φ:=fun o:List zE×zQ=>AR o.1/\RD o.2) ?_ fun o ho=>by
      obtain ⟨o1,o3⟩:=o;exact Ok.pure ⟨ho.1,hP,ho.2⟩
    refine Ok.ite_dec (fun hc=>?_) fun _=>Ok.pure ⟨hA,hR⟩;refine Ok.call (tW y3 _) ⟨by decide,by omega,by omega,by decide⟩ fun z t _ _ k3=>Ok.idx (by omega) (by omega) fun x hx _=>Ok.bind_pure (Ok.pure ⟨⟨by show (List.set _ _ _).length<=_; rw [cE]; exact hA.1,zD1 hA.2 (show ([z]:List Int).length<=1000 by simp) _⟩,⟨by dsimp only; omega,by dsimp only; omega⟩⟩)
  refine Ok.bind (φ:=fun o:List zI×zQ=>PB o.1/\RD o.2) ?_ fun o ho=>by
    obtain ⟨o1,o3⟩:=o;exact Ok.pure ⟨hA,ho⟩
  refine Ok.ite_beq (fun _=>?_) fun _=>?_
  · refine Ok.bind (φ:=fun o:List zI×zQ=>PB o.1/\RD o.2) ?_ fun o ho=>by
      obtain ⟨o1,o3⟩:=o;exact Ok.pure ho
    refine Ok.ite_dec (fun hc=>?_) fun _=>Ok.pure ⟨hP,hR⟩;refine Ok.idx (by omega) (by omega) fun x hx _=>?_;refine Ok.bind (mut2 100 (by omega) y3 x.Nest (p2 x hx).1 (by omega) (by omega)) fun q1 k1=>?_;obtain ⟨n1,s1⟩:=q1;obtain ⟨c1,c2,c3⟩:=k1;refine Ok.bind (mut2 (100+2) (by omega) s1 n1 c1 c2 (by dsimp only at c3; omega)) fun q2 k2=>?_;obtain ⟨n2,s2⟩:=q2;obtain ⟨d1,d2,d3⟩:=k2;refine Ok.bind (mut2 (100+2+2) (by omega) s2 n2 d1 d2 (by dsimp only at c3 d3; omega)) fun q3 k3=>?_;obtain ⟨n,s⟩:=q3;have hn:=k3.1;refine Ok.idx (by omega) (by omega) fun x7 hx7 _=>Ok.bind_pure (Ok.pure ⟨hP.set (x:=⟨n,x7.Body⟩) ⟨hn.bn (by omega),(p2 x7 hx7).bp.2.1,(p2 x7 hx7).bp.2.2⟩ _,⟨k3.2.1,by have:=k3.2.2; dsimp only at this c3 d3 ⊢; omega⟩⟩)
  refine Ok.bind (φ:=fun o:List zI×zQ=>PB o.1/\RD o.2) ?_ fun o ho=>by
    obtain ⟨o1,o3⟩:=o;exact Ok.pure ho
  refine Ok.ite_beq (fun _=>?_) fun _=>?_
  · refine Ok.bind (φ:=fun b=>b=true->0<P.Parts.length/\∀ x,P.Parts[P.Parts.length - 1]?=some x->0<x.Body.length) ?_ fun b hb=>?_
    · refine Ok.ite_dec (fun hc=>?_) fun _=>Ok.pure (fun h=>by cases h);have hp:0<P.Parts.length:=by omega
      rw [hW hp];refine Ok.idx (by omega) (by omega) fun x hx he=>Ok.pure fun hd=>⟨hp,fun x' hx'=>?_⟩;rw [iN] at he;rw [he] at hx';cases hx'
      have:=of_decide_eq_true hd;omega
    · refine Ok.bind (φ:=fun o:List zI×zQ=>PB o.1/\RD o.2) ?_ fun o ho=>by
        obtain ⟨o1,o3⟩:=o;exact Ok.pure ho
      refine Ok.ite (fun hc=>?_) fun _=>Ok.pure ⟨hP,hR⟩;obtain ⟨hp,hbody⟩:=hb hc;rw [hW hp];refine Ok.idx (by omega) (by omega) fun x hx he=>?_;rw [iN] at he;have hb0:=hbody x he;have hdx:=p2 x hx;refine Ok.idx (by omega) (by omega) fun x0 hx0 _=>?_;refine Ok.bind (mut3 100 (by omega) y3 x0 (hdx.2.2 x0 hx0) (by omega) (by omega)) fun q1 k1=>?_;obtain ⟨n1,s1⟩:=q1;obtain ⟨c1,c2,c3⟩:=k1;refine Ok.bind (mut3 (100+2) (by omega) s1 n1 c1 c2 (by dsimp only at c3; omega)) fun q2 k2=>?_;obtain ⟨n2,s2⟩:=q2;obtain ⟨d1,d2,d3⟩:=k2;refine Ok.bind (mut3 (100+2+2) (by omega) s2 n2 d1 d2 (by dsimp only at c3 d3; omega)) fun q3 k3=>?_;obtain ⟨n,s⟩:=q3;have hn:=k3.1;refine Ok.bind_pure (Ok.pure ⟨hP.set (x:=⟨x.Nest,x.Body.set 0 n⟩) ⟨hdx.bp.1,by rw [cE]; exact hdx.bp.2.1,zD1 hdx.bp.2.2 (hn.bs (by omega)) _⟩ _,⟨k3.2.1,by have:=k3.2.2; dsimp only at this c3 d3 ⊢; omega⟩⟩)
  refine Ok.bind (φ:=fun o:List zI=>PB o) ?_ fun o ho=>Ok.pure ⟨ho,hR⟩;refine Ok.ite_beq (fun _=>?_) fun _=>Ok.pure hP;refine Ok.bind (φ:=fun o:List zI=>PB o) ?_ fun o ho=>Ok.pure ho;refine Ok.ite_dec (fun hc=>?_) fun _=>Ok.pure hP;have hp:0<P.Parts.length:=by omega
  rw [hW hp];refine Ok.idx (by omega) (by omega) fun x hx he=>Ok.bind_pure (Ok.pure (hP.set (x:=⟨x.Nest,[]⟩) ⟨(p2 x hx).bp.1,by show 0<=100000; omega,fun _ h=>by cases h⟩ _))
theorem SE.be:∀ {n:Nat}{e:zH},SE n e->BE n e
  | 0,e,⟨h1,h2,h3⟩=>⟨by have:=h1.1; unfold BA; omega,⟨by have:=h2.2.1; omega,fun a ha=>by have:=(h2.2.2 a ha).1; unfold BA; omega⟩,h3⟩
  | n+1,e,⟨h1,h2,h3,h4⟩=>⟨by have:=h1.1; unfold BA; omega,⟨by have:=h2.2.1; omega,fun a ha=>by have:=(h2.2.2 a ha).1; unfold BA; omega⟩,by omega,fun k hk=>SE.be (h4 k hk)⟩
theorem SS.qs {s:zL} (h:SS s):QS 100 s:=by
  obtain ⟨h1,h2⟩:=h;have hb:=SE.be h2;exact ⟨⟨h1.2.1,fun a ha=>by have:=(h1.2.2 a ha).1; unfold BA; omega⟩,hb.1,hb.2.1,by have:=h2.2.2.1; omega,fun k hk=>BE.up (n:=4) (m:=6) (hb.2.2.2 k hk) (by omega)⟩
theorem LL.ql {l:List zA} (h:LL l):QL 100 l:=⟨h.1,fun a ha=>by have:=(h.2 a ha).1; unfold BA; omega⟩
theorem SG.dp {P:zC} (h:SG 1000 P):DP P:=by
  obtain ⟨⟨h1,h2⟩,h3,h4⟩:=h;refine ⟨⟨h1,fun a ha=>by have:=(h2 a ha).2; omega⟩,h3,fun x hx=>?_⟩;obtain ⟨⟨k1,k2⟩,k3,k4⟩:=h4 x hx;exact ⟨⟨by omega,fun y hy=>⟨(k2 y hy).1.ql,(k2 y hy).2.ql⟩⟩,k3,fun s hs=>(k4 s hs).qs⟩
end Go.LN
namespace Go.LN
theorem zOJ {A:List zE}{x:zI} (h:partB A x=true):(nestPts x.Nest).1=pts x.Nest []/\nestB x.Nest=true/\(pts x.Nest []).length<=120:=by
  simp only [partB,bA] at h;have h1:=h.1.1;unfold nestPts at h1 ⊢;split at h1
  · rename_i hc;rw [if_pos hc];exact ⟨rfl,hc.1,hc.2.2⟩
  · cases h1
theorem zLY (P:zC) (i:Nat) (hi:i<P.Parts.length) (y:List (List Int)) (k:Nat) (hk:k<y.length) (hq:y[k].length<=4) (hb:P.Parts[i].Body.length<=4) :
    ∀ (j s:Nat) (o:List zN),s+j=P.Parts[i].Body.length->o.length+j<=1000000->vQ P (i:Int) y (k:Int) o (s:Int)=some (o++instR (i:Int) y[k] s j):=by
  intro j
  induction j with
  | zero =>
    intro s o hs ho
    rw [vQ]
    have:¬((s:Int)<(P.Parts[i].Body.length:Int)):=by omega
    simp only [yV hi,this,dF,bF,if_false,oB,oS,oP]
    simp [instR]
  | succ j ih =>
    intro s o hs ho
    rw [vQ]
    have hc:((s:Int)<(P.Parts[i].Body.length:Int)):=by omega
    have hpn:app 8 ([]:List Int) y[k]=some y[k]:=zAk _ (by omega)
    have happ:app 40 o [(⟨(i:Int),(s:Int),y[k]⟩:zN)]=some (o++[⟨(i:Int),(s:Int),y[k]⟩]):=oL (by simp; omega)
    simp only [yV hi,hc,dT,if_true,yV hk,oB,oS,hpn,happ]
    rw [vH (by omega),ih (s+1) _ (by omega) (by simp; omega),co]
    simp only [instR,dl,cz,dk]
theorem zLZ (P:zC) (i:Nat) (hi:i<P.Parts.length) (y:List (List Int)) (hy:y.length<=120) (hq:∀ q∈y,q.length<=4) (hb:P.Parts[i].Body.length<=4) :
    ∀ (j k:Nat) (o:List zN),k+j=y.length->o.length+4*j<=1000000->vR P (i:Int) y o (k:Int)=some (o++(y.drop k).flatMap fun q=>instR (i:Int) q 0 P.Parts[i].Body.length):=by
  intro j
  induction j with
  | zero =>
    intro k o hk ho
    rw [vR]
    have:¬((k:Int)<(y.length:Int)):=by omega
    simp only [this,dF,bF,if_false]
    rw [show y.drop k=[] from dN.2 (by omega)]
    simp
  | succ j ih =>
    intro k o hk ho
    rw [vR]
    have aD:k<y.length:=by omega
    have hc:((k:Int)<(y.length:Int)):=by omega
    have h3:=zLY P i hi y k aD (hq _ (gM aD)) hb P.Parts[i].Body.length 0 o (cr _) (by omega)
    rw [nZ] at h3
    simp only [hc,dT,if_true,oB,oS,h3]
    rw [vH (by omega),ih (k+1) _ (by omega) (by rw [lA,zHQ]; omega),gC aD,cg,co]
theorem zL0 (P:zC) (hP:P.Parts.length<=4) (hb:∀ i,i<P.Parts.length->partB P.Arrays (gP P i)=true) :
    ∀ (j i:Nat) (o:List zN),i+j=P.Parts.length->o.length<=480*i->vU P o (i:Int)=some (o++(List.range' i j).flatMap fun (i:Nat)=>partI (i:Int) (gP P i)):=by
  intro j
  induction j with
  | zero =>
    intro i o hi ho
    rw [vU]
    have:¬((i:Int)<(P.Parts.length:Int)):=by omega
    simp [this]
  | succ j ih =>
    intro i o hi ho
    rw [vU]
    have aD:i<P.Parts.length:=by omega
    have hc:((i:Int)<(P.Parts.length:Int)):=by omega
    have hg:gP P i=P.Parts[i]:=by simp [gP,aD]
    have hp:=hb i aD
    rw [hg] at hp
    obtain ⟨p1,p2,p3⟩:=zOJ hp
    obtain ⟨n1,n2⟩:=zIE p2
    have hpp:=hp
    simp only [partB,bA] at hpp
    obtain ⟨_,q2,_⟩:=zBk hpp.1.2
    have hpts:=specPts P.Parts[i].Nest P.Parts[i].Nest [] [] n2 rfl (by simp) n1 (by simp)
    rw [cx,da (by omega)] at hpts
    have h2:=zLZ P i aD (pts P.Parts[i].Nest []) p3 (fun q hq=>by have:=zK1 _ _ q hq; simp at this; omega) q2 _ 0 o (cr _) (by omega)
    rw [nZ,ck] at h2
    simp only [hc,dT,if_true,yV aD,oB,oS,hpts,h2]
    have hI:((pts P.Parts[i].Nest []).flatMap fun q=>instR (i:Int) q 0 P.Parts[i].Body.length)=partI (i:Int) P.Parts[i]:=by rw [partI,p1]
    have bH:=zIw (i:Int) hp
    rw [hI,vH (by omega),ih (i+1) _ (by omega) (by rw [lA]; omega),dl,cg,hg,co]
theorem jO {P:zC} (h:validP P=true):arrB P.Arrays=true/\P.Parts.length<=4/\(∀ i,i<P.Parts.length->partB P.Arrays (gP P i)=true)/\(progI P).length<=120:=by
  simp only [validP,progB,bA,decide_eq_true_eq] at h;obtain ⟨⟨⟨h1,h2⟩,h3⟩,h4⟩:=h;exact ⟨h1,h2,fun i hi=>bZ.1 h3 i (dg.2 ⟨ep _,by omega⟩),h4⟩
theorem specInst4 (P:zC) (hv:validP P=true):oJ P=some (progI P):=by
  obtain ⟨_,v2,v3,_⟩:=jO hv;have hl:=zL0 P v2 v3 _ 0 [] (cr _) (by simp);rw [nZ,cx] at hl;simp only [oJ,hl,oB,oS,oP,id];rfl
theorem zNL (l:List Int) (h:l.length<=1048576):zA3 l l=some true:=by
  unfold zA3;have hl:=zAK (n:=l.length) (f:=kI l l) (P:=fun _=>true) (fun i hi=>by
      rw [kI];have h1:((i:Int)<(l.length:Int)):=by omega
      simp only [h1,dT,if_true,yV hi,oB,oS,bne_self_eq_false,bF,if_false];rw [vH (by omega)]) (by rw [kI]; simp)
  rw [hl];have:((List.range l.length).all fun _=>true)=true:=by simp
  simp [this]
theorem zFf {α β:Type}{f g:α->List β}:∀ {l:List α},(∀ x∈l,f x=g x)->l.flatMap f=l.flatMap g
  | [],_=>rfl
  | a::l,h=>by rw [cg,cg,h a (ce ..),zFf fun x hx=>h x (cb _ hx)]
end Go.LN
namespace Go.LN
def DA (x:zE):Prop:=(∃ d,x.Dims=[d]/\1<=d/\d<=6)∨∃ d e,x.Dims=[d,e]/\(1<=d/\d<=6)/\1<=e/\e<=6
def GA (l:List zE):Prop:=l.length<=4/\(∀ x∈l,DA x)/\l.Pairwise fun x y=>x.Name.l ≠ y.Name.l
theorem mul36 {d e:Int} (h1:1<=d) (h2:d<=6) (h3:1<=e) (h4:e<=6):1<=d*e/\d*e<=36:=by
  have:d=1∨d=2∨d=3∨d=4∨d=5∨d=6:=by omega
  rcases this with rfl | rfl | rfl | rfl | rfl | rfl <;> omega
theorem zK2 {x:zE}{d:Int} (h:x.Dims=[d]) (h1:1<=d) (h2:d<=6):sizeF x=d:=by
  unfold sizeF;rw [h,szL,szL,Int.one_mul,rA (by omega) (by omega)]
theorem zK3 {x:zE}{d e:Int} (h:x.Dims=[d,e]) (h1:1<=d) (h2:d<=6) (h3:1<=e) (h4:e<=6):sizeF x=d*e:=by
  unfold sizeF;have:=mul36 h1 h2 h3 h4;rw [h,szL,szL,szL,Int.one_mul,rA (x:=d) (by omega) (by omega),rA (by omega) (by omega)]
theorem DA.size {x:zE} (h:DA x):1<=sizeF x/\sizeF x<=36:=by
  rcases h with ⟨d,h,h1,h2⟩ | ⟨d,e,h,⟨h1,h2⟩,h3,h4⟩
  · rw [zK2 h h1 h2]; omega
  · rw [zK3 h h1 h2 h3 h4]; exact mul36 h1 h2 h3 h4
def sumS:List zE->Int
  | []=>0
  | x::l=>sizeF x+sumS l
theorem zIy:∀ {l:List zE},(∀ x∈l,DA x)->0<=sumS l/\sumS l<=36*(l.length:Int)
  | [],_=>⟨Int.le_refl _,Int.le_refl _⟩
  | x::l,h=>by
    have h1:=(h x (ce ..)).size
    have h2:=zIy (l:=l) fun y hy=>h y (cb _ hy)
    rw [sumS,cj]; omega
theorem zL1 {n:Nat}{f:Nat->Nat} (h:∀ i,i+1<n->f i<f (i+1)):∀ (d i:Nat),i+d+1<n->f i<f (i+d+1)
  | 0,i,hi=>h i hi
  | d+1,i,hi=>Nat.lt_trans (zL1 h d i (by omega)) (h (i+d+1) hi)
theorem zL2 {l:List UInt8} (h:nameL l=true):∃ c,l=[c]:=by
  match l with
  | []=>cases h
  | [c]=>exact ⟨c,rfl⟩
  | c::d::r=>cases h
def nm (l:List zE) (i:Nat):Nat:=match (l.getD i ⟨⟨[]⟩,[]⟩).Name.l with | c::_=>c.toNat | []=>0
theorem zOK {l:List zE} (h:arrB l=true):GA l:=by
  simp only [arrB,bA,decide_eq_true_eq] at h;obtain ⟨h4,hall⟩:=h;have hi:∀ i,i<l.length->arrI l i=true:=fun i hi=>bZ.1 hall i (cH.2 hi);refine ⟨h4,fun x hx=>?_,?_⟩
  · obtain ⟨i,hi',rfl⟩:=dq.1 hx;have:=hi i hi';have hg:l.getD i ⟨⟨[]⟩,[]⟩=l[i]:=by simp [hi']
    simp only [arrI,hg,bA,decide_eq_true_eq] at this;obtain ⟨⟨_,h1,h2⟩,h3⟩:=this;have h3:=bZ.1 h3
    match hd:l[i].Dims with
    | []=>rw [hd] at h1; simp at h1
    | [d] =>
      have:=h3 d (by rw [hd]; simp);simp only [dimB,bA,decide_eq_true_eq] at this;exact .inl ⟨d,hd,this⟩
    | [d,e] =>
      have k1:=h3 d (by rw [hd]; simp);have k2:=h3 e (by rw [hd]; simp);simp only [dimB,bA,decide_eq_true_eq] at k1 k2;exact .inr ⟨d,e,hd,k1,k2⟩
    | d::e::f::r=>rw [hd] at h2; simp at h2
  · have aD:∀ i,i+1<l.length->nm l i<nm l (i+1):=by
      intro i hi1;have a1:=hi i (by omega);have a2:=hi (i+1) hi1;simp only [arrI,bA,dt,decide_eq_true_eq] at a1 a2;obtain ⟨c,hc⟩:=zL2 a1.1.1.1;obtain ⟨d,hd⟩:=zL2 a2.1.1.1;have hb:=a2.1.1.2;rw [show i+1 - 1=i by omega] at hb;unfold nm;rw [hc,hd] at hb;rw [hc,hd];rcases hb with hb | hb
      · omega
      · simp only [Op.bytesLess,Bool.and_false,Bool.or_false,decide_eq_true_eq] at hb;exact hb
    refine ff.2 fun i j hi1 hj1 hij e=>?_;have hk:=zL1 (n:=l.length) (f:=nm l) aD (j - i - 1) i (by omega);rw [show i+(j - i - 1)+1=j by omega] at hk;have g1:l.getD i ⟨⟨[]⟩,[]⟩=l[i]:=by simp [hi1]
    have g2:l.getD j ⟨⟨[]⟩,[]⟩=l[j]:=by simp [hj1]
    unfold nm at hk;rw [g1,g2,e] at hk;exact Nat.lt_irrefl _ hk
theorem zAM {P:zC} (h:validP P=true):GA P.Arrays:=by
  simp only [validP,progB,bA] at h;exact zOK h.1.1.1
theorem cellS1 {p:List Int}{d:Int}{s:zA} (h1:1<=d) (h2:d<=6):cellS p [d] [s] 0=if 0<=evA s p/\evA s p<d then some (evA s p) else none:=by
  rw [cellS];by_cases h:0<=evA s p/\evA s p<d
  · rw [if_pos h,if_pos h,cellS,Int.zero_mul,rA (x:=0) (by omega) (by omega),rA (by omega) (by omega),Int.zero_add]
  · rw [if_neg h,if_neg h]
theorem cellS2 {p:List Int}{d e:Int}{s t:zA} (h1:1<=d) (h2:d<=6) (h3:1<=e) (h4:e<=6):cellS p [d,e] [s,t] 0=if 0<=evA s p/\evA s p<d then (if 0<=evA t p/\evA t p<e then some (evA s p*e+evA t p) else none) else none:=by
  rw [cellS];by_cases h:0<=evA s p/\evA s p<d
  · rw [if_pos h,if_pos h,cellS,Int.zero_mul,rA (x:=0) (by omega) (by omega),rA (x:=0+evA s p) (by omega) (by omega),Int.zero_add];by_cases hk:0<=evA t p/\evA t p<e
    · have hm:0<=evA s p*e/\evA s p*e<=36:=by
        have:evA s p=0∨evA s p=1∨evA s p=2∨evA s p=3∨evA s p=4∨evA s p=5:=by omega
        rcases this with e | e | e | e | e | e <;> rw [e] <;> omega
      rw [if_pos hk,if_pos hk,cellS,rA (x:=evA s p*e) (by omega) (by omega),rA (by omega) (by omega)]
    · rw [if_neg hk,if_neg hk]
  · rw [if_neg h,if_neg h]
theorem zHZ {p:List Int}{d n:Int}{s:zA} (h1:1<=d) (h2:d<=6) (h:cellS p [d] [s] 0=some n):(0<=evA s p/\evA s p<d)/\n=evA s p:=by
  rw [cellS1 h1 h2] at h;by_cases k:0<=evA s p/\evA s p<d
  · rw [if_pos k] at h; exact ⟨k,(Option.some.inj h).symm⟩
  · rw [if_neg k] at h; cases h
theorem zH0 {p:List Int}{d e n:Int}{s t:zA} (h1:1<=d) (h2:d<=6) (h3:1<=e) (h4:e<=6) (h:cellS p [d,e] [s,t] 0=some n):(0<=evA s p/\evA s p<d)/\(0<=evA t p/\evA t p<e)/\n=evA s p*e+evA t p:=by
  rw [cellS2 h1 h2 h3 h4] at h;by_cases k:0<=evA s p/\evA s p<d
  · rw [if_pos k] at h;by_cases l:0<=evA t p/\evA t p<e
    · rw [if_pos l] at h; exact ⟨k,l,(Option.some.inj h).symm⟩
    · rw [if_neg l] at h; cases h
  · rw [if_neg k] at h; cases h
theorem zPH {d e i j:Int} (hi:0<=i/\i<d) (hd:d<=6) (hj:0<=j/\j<e) (he:e<=6):0<=i*e+j/\i*e+j<d*e:=by
  have h1:i=0∨i=1∨i=2∨i=3∨i=4∨i=5:=by omega
  have h2:d=1∨d=2∨d=3∨d=4∨d=5∨d=6:=by omega
  rcases h1 with rfl | rfl | rfl | rfl | rfl | rfl <;> rcases h2 with rfl | rfl | rfl | rfl | rfl | rfl <;> omega
theorem zK4 {l:List zA}{d:Int} (h:l.length=[d].length):∃ s,l=[s]:=by
  match l with
  | []=>cases h
  | [s]=>exact ⟨s,rfl⟩
  | a::b::r=>simp at h
theorem zK5 {l:List zA}{d e:Int} (h:l.length=[d,e].length):∃ s t,l=[s,t]:=by
  match l with
  | []=>cases h
  | [s]=>cases h
  | [s,t]=>exact ⟨s,t,rfl⟩
  | a::b::c::r=>simp at h
theorem zNM {x:zE}{subs:List zA}{p:List Int}{n:Int} (h:DA x) (hl:subs.length=x.Dims.length) (hc:cellS p x.Dims subs 0=some n):0<=n/\n<sizeF x:=by
  rcases h with ⟨d,h,h1,h2⟩ | ⟨d,e,h,⟨h1,h2⟩,h3,h4⟩
  · rw [h] at hl hc;obtain ⟨s,rfl⟩:=zK4 hl;rw [zK2 h h1 h2];rw [cellS1 h1 h2] at hc;split at hc
    · cases hc; assumption
    · cases hc
  · rw [h] at hl hc;obtain ⟨s,t,rfl⟩:=zK5 hl;rw [zK3 h h1 h2 h3 h4];rw [cellS2 h1 h2 h3 h4] at hc;split at hc
    · split at hc
      · cases hc
        exact zPH ‹_› h2 ‹_› h4
      · cases hc
    · cases hc
theorem zMe (a:zG) (p:List Int) (x:zE) (post:List zE):∀ (pre:List zE) (first:Int),(∀ y∈pre,DA y)->(∀ y∈pre,y.Name.l ≠ x.Name.l)->0<=first->first+36*(pre.length:Int)<=1000000->a.Array.l=x.Name.l->a.Subs.length=x.Dims.length->cellF a p (pre++x::post) first=(match cellS p x.Dims a.Subs 0 with | none=>-1 | some n=>W (first+sumS pre+n))
  | [],first,_,_,h0,h1,ha,hd=>by
    rw [cx,cellF,if_pos ha.symm,if_pos hd,sumS,Int.add_zero]
    cases cellS p x.Dims a.Subs 0 <;> rfl
  | y::pre,first,h,hn,h0,h1,ha,hd=>by
    have hs:=(h y (ce ..)).size
    rw [cj] at h1
    rw [dv,cellF,if_neg (by rw [ha]; exact hn y (ce ..)),rA (by omega) (by omega),zMe a p x post pre (first+sizeF y) (fun z hz=>h z (cb _ hz)) (fun z hz=>hn z (cb _ hz)) (by omega) (by omega) ha hd,sumS,Int.add_assoc first]
end Go.LN
namespace Go.LN
end Go.LN
namespace Go.LN
end Go.LN
namespace Go.LN
def c0 (n:Int):zA:=⟨[0,0,0,0],n⟩
theorem zIz:∀ (l m:List zE),sumS (l++m)=sumS l+sumS m
  | [],m=>by rw [cx,sumS,Int.zero_add]
  | x::l,m=>by rw [dv,sumS,sumS,zIz l m,Int.add_assoc]
end Go.LN
namespace Go.LN
theorem zOL {P:zC} (h:BG P) (hv:validP P=true):RV P.Arrays:=by
  simp only [validP,progB,bA] at hv;exact RV.of h.1 hv.1.1.1
theorem zPu {p:List Int} (h:ptB p=true):p.length<=4:=by
  simp only [ptB,bA,decide_eq_true_eq] at h;exact h.1
theorem zNN {l:List zE}{i:Nat} (hi:i<l.length):sumS (l.take (i+1))=sumS (l.take i)+sizeF l[i]:=by
  rw [List.take_succ_eq_append_getElem hi,zIz,sumS,sumS,Int.add_zero]
end Go.LN
namespace Go.LN
end Go.LN
namespace Go.LN
theorem zL3:∀ {k:Nat}{a v:Int},v∈rngK k a↔a<=v/\v<a+(k:Int)
  | 0,a,v=>by simp [rngK]
  | k+1,a,v=>by rw [rngK,cJ,zL3]; omega
theorem zPI {a b v:Int}:v∈rng a b↔a<=v/\v<b:=by
  unfold rng;rw [zL3]; omega
def inP:List zF->List Int->List Int->Prop
  | [],_,[]=>True
  | l::ls,p,v::r=>(loF l p<=v/\v<hiF l p)/\inP ls (p++[v]) r
  | _,_,_=>False
theorem zMf:∀ {ls:List zF}{p q:List Int},q∈pts ls p->∃ r,q=p++r/\inP ls p r
  | [],p,q,h=>by
    rw [pts,cv] at h
    exact ⟨[],by rw [h,cu],trivial⟩
  | l::ls,p,q,h=>by
    rw [pts,cD] at h
    obtain ⟨v,hv,hq⟩:=h
    obtain ⟨r,e,hr⟩:=zMf hq
    exact ⟨v::r,by rw [e,co]; rfl,zPI.1 hv,hr⟩
def Ch {α:Type} (R:α->α->Prop):List α->Prop
  | a::b::l=>R a b/\Ch R (b::l)
  | _=>True
theorem Ch.append {α:Type}{R:α->α->Prop}:∀ {l m:List α},Ch R l->Ch R m->(∀ a∈l,∀ b∈m,R a b)->Ch R (l++m)
  | [],m,_,h2,_=>h2
  | [a],[],_,_,_=>trivial
  | [a],b::m,_,h2,h=>⟨h a (ce ..) b (ce ..),h2⟩
  | a::b::l,m,h1,h2,h=>⟨h1.1,Ch.append (l:=b::l) h1.2 h2 fun x hx=>h x (cb _ hx)⟩
theorem Ch.flat {α β:Type}{R:β->β->Prop}{f:α->List β}:∀ {l:List α},(∀ x∈l,Ch R (f x))->(l.Pairwise fun x y=>∀ a∈f x,∀ b∈f y,R a b)->Ch R (l.flatMap f)
  | [],_,_=>trivial
  | x::l,h1,h2=>by
    rw [cg]
    have h2':=List.pairwise_cons.1 h2
    refine Ch.append (h1 x (ce ..)) (Ch.flat (fun y hy=>h1 y (cb _ hy)) h2'.2) fun a ha b hb=>?_
    obtain ⟨y,hy,hb⟩:=cD.1 hb
    exact h2'.1 y hy a ha b hb
theorem Ch.get {α:Type}{R:α->α->Prop}:∀ {l:List α} (i:Nat) (h:i+1<l.length),Ch R l->R l[i] l[i+1]
  | a::b::l,0,_,hc=>hc.1
  | a::b::l,i+1,h,hc=>Ch.get (l:=b::l) i (by simpa using h) hc.2
  | [a],i,h,_=>by simp at h
  | [],i,h,_=>by simp at h
theorem zNO {k:Int}{q:List Int}{i j:Nat}{z:zN} (h:z∈instR k q i j):z.Part=k/\z.Point=q/\∃ s:Nat,z.Stmt=(s:Int)/\s<i+j:=by
  unfold instR at h;obtain ⟨s,hs,rfl⟩:=ex.1 h;exact ⟨rfl,rfl,s,rfl,(dg.1 hs).2⟩
end Go.LN
namespace Go.LN
theorem zMO {P:zC} (h:validP P=true) {i:Nat} (hi:i<P.Parts.length):partB P.Arrays P.Parts[i]=true:=by
  simp only [validP,progB,bA,decide_eq_true_eq] at h;have:=bZ.1 h.1.2 i (dg.2 ⟨ep _,by omega⟩);have hg:gP P i=P.Parts[i]:=by simp [gP,hi]
  rwa [hg] at this
theorem zPJ {nest:List zF}{q:List Int} (h:q∈(nestPts nest).1):nestB nest=true/\inP nest [] q:=by
  unfold nestPts at h;split at h
  · rename_i hc;obtain ⟨r,e,hr⟩:=zMf h;rw [cx] at e;exact ⟨hc.1,e ▸ hr⟩
  · cases h
theorem zNP {P:zC} (h:validP P=true) {z:zN} (hz:z∈progI P):∃ (i s:Nat) (hi:i<P.Parts.length) (hs:s<P.Parts[i].Body.length),z.Part=(i:Int)/\z.Stmt=(s:Int)/\nestB P.Parts[i].Nest=true/\inP P.Parts[i].Nest [] z.Point/\ptB z.Point=true/\stOk P.Arrays P.Parts[i].Body[s] z.Point=true/\stmtB P.Parts[i].Body[s] (P.Parts[i].Nest.length:Int)=true:=by
  unfold progI at hz;obtain ⟨i,hi,hz⟩:=cD.1 hz;have hi:i<P.Parts.length:=by have:=(dg.1 hi).2; omega
  have hg:gP P i=P.Parts[i]:=by simp [gP,hi]
  rw [hg] at hz;have hp:=zMO h hi;unfold partI at hz;obtain ⟨q,hq,hz⟩:=cD.1 hz;obtain ⟨z1,z2,s,z3,hs⟩:=zNO hz;have hs:s<P.Parts[i].Body.length:=by omega
  obtain ⟨n1,n2⟩:=zPJ hq;simp only [partB,bA] at hp;have hq2:=bZ.1 hp.2 q hq;rw [bA] at hq2;refine ⟨i,s,hi,hs,z1,z3,n1,?_,?_,?_,?_⟩
  · rw [z2]; exact n2
  · rw [z2]; exact hq2.1
  · rw [z2]; exact bZ.1 hq2.2 _ (gM hs)
  · exact (zBk hp.1.2).2.2 _ (gM hs)
end Go.LN
namespace Go.LN
end Go.LN
namespace Go.LN
theorem zMP (P:zC) (x:zN) (ys:List zG) (hy:ys.length<=1048576) (ha:∀ a∈ys,AV a) (hp:x.Point.length<=4) (hR:RV P.Arrays):∀ (j i:Nat) (o:List Int),i+j=ys.length->o.length=i->uY P x ys o (i:Int)=some (o++(ys.drop i).map (cellA P.Arrays x.Point)):=by
  intro j
  induction j with
  | zero =>
    intro i o hi ho;rw [uY];have:¬((i:Int)<(ys.length:Int)):=by omega
    simp only [this,dF,bF,if_false,oP,id];rw [dN.2 (by omega),dn,cu]
  | succ j ih =>
    intro i o hi ho;rw [uY];have aD:i<ys.length:=by omega
    have hc:((i:Int)<(ys.length:Int)):=by omega
    simp only [hc,dT,if_true,yV aD,implCell P ys[i] x.Point (ha _ (gM aD)) hp hR,oB,oS,oL (show (o.length+[cellF ys[i] x.Point P.Arrays 0].length)*8<=140737488355328 by simp; omega)];rw [vH (by omega),ih (i+1) _ (by omega) (by rw [lA]; simp; omega),gC aD,cz,co];rfl
end Go.LN
namespace Go.LN
def STz:zL:=zL.mk (zG.mk ⟨[]⟩ []) EXz
def stI (P:zC) (z:zN):zL:=(gP P z.Part.toNat).Body.getD z.Stmt.toNat STz
def rdI (P:zC) (z:zN):List Int:=(readsF 5 (stI P z).Value).map (cellA P.Arrays z.Point)
def wrI (P:zC) (z:zN):Int:=cellA P.Arrays z.Point (stI P z).Write
structure InP (P:zC) (z:zN):Prop where
  idxP:idx P.Parts z.Part=some (gP P z.Part.toNat)
  idxS:idx (gP P z.Part.toNat).Body z.Stmt=some (stI P z)
  part:0<=z.Part/\z.Part<(P.Parts.length:Int)
  stmt:0<=z.Stmt/\z.Stmt<((gP P z.Part.toNat).Body.length:Int)
  pin:BN (gP P z.Part.toNat).Nest/\nestB (gP P z.Part.toNat).Nest=true/\ptB z.Point=true/\inP (gP P z.Part.toNat).Nest [] z.Point
  pt:z.Point.length<=4
  bs:BS (stI P z)
  st:∃ d,stmtB (stI P z) d=true
  ok:stOk P.Arrays (stI P z) z.Point=true
theorem zFg {P:zC} (hb:BG P) (h:validP P=true) {z:zN} (hz:z∈progI P):InP P z:=by
  obtain ⟨i,s,hi,hs,z1,z2,hn,hin,hpt,hst,hsb⟩:=zNP h hz;have hbp:=hb.2.2 _ (gM hi);have hg:gP P z.Part.toNat=P.Parts[i]:=by rw [z1,iN]; simp [gP,hi]
  have hS:stI P z=P.Parts[i].Body[s]:=by unfold stI; rw [hg,z2,iN]; simp [hs]
  refine ⟨?_,?_,by rw [z1]; omega,by rw [hg,z2]; omega,?_,zPu hpt,?_,?_,?_⟩
  · rw [hg,z1,yV hi]
  · rw [hS,hg,z2,yV hs]
  · rw [hg]; exact ⟨hbp.1,hn,hpt,hin⟩
  · rw [hS]; exact hbp.2.2 _ (gM hs)
  · rw [hS]; exact ⟨_,hsb⟩
  · rw [hS]; exact hst
theorem zIF {P:zC}{z:zN} (h:InP P z):(rdI P z).length<=32:=by
  obtain ⟨d,hd⟩:=h.st;have:=jE 5 (stI P z).Value (fL hd).2.1;unfold rdI;rw [lM]; omega
theorem touchedV {P:zC} (hb:BG P) (hv:validP P=true) {z:zN} (h:InP P z):nU P z=some (rdI P z,wrI P z):=by
  obtain ⟨d,hd⟩:=h.st;obtain ⟨s1,s2,s3⟩:=fL hd;have hR:=zOL hb hv;have hrd:=implReads 5 (stI P z).Value s2 (by omega);have hrl:=jE 5 (stI P z).Value s2;have htl:=zMP P z (readsF 5 (stI P z).Value) (by omega) s3 h.pt hR _ 0 [] (cr _) rfl;rw [nZ,ck,cx] at htl;have hw:=implCell P (stI P z).Write z.Point s1 h.pt hR;unfold nU pM;simp only [h.idxP,h.idxS,hrd,htl,hw,oB,oS,oP,id];rfl
def trcP (P:zC):uS:=⟨P,progI P,(progI P).map (rdI P),(progI P).map (wrI P)⟩
theorem zOM {P:zC} (hb:BG P) (hv:validP P=true):∀ (j i:Nat) (rs:List (List Int)) (ws:List Int),i+j=(progI P).length->rs.length=i->ws.length=i->jD P (progI P) (i:Int) rs ws=some (rs++((progI P).drop i).map (rdI P),ws++((progI P).drop i).map (wrI P)):=by
  have ba:=(jO hv).2.2.2;intro j
  induction j with
  | zero =>
    intro i rs ws hi hr hw;rw [jD];have:¬((i:Int)<((progI P).length:Int)):=by omega
    simp only [this,dF,bF,if_false,oP];rw [dN.2 (by omega),dn,dn,cu,cu]
  | succ j ih =>
    intro i rs ws hi hr hw;rw [jD];have aD:i<(progI P).length:=by omega
    have hc:((i:Int)<((progI P).length:Int)):=by omega
    have hz:=zFg hb hv (gM aD);simp only [hc,dT,if_true,yV aD,touchedV hb hv hz,oB,oS,oL (show (rs.length+[rdI P (progI P)[i]].length)*24<=140737488355328 by simp; omega),oL (show (ws.length+[wrI P (progI P)[i]].length)*8<=140737488355328 by simp; omega)];rw [vH (by omega),ih (i+1) _ _ (by omega) (by rw [lA]; simp; omega) (by rw [lA]; simp; omega),gC aD,cz,cz,co,co];rfl
theorem implTrace (P:zC) (hb:BG P):zAO P=some (if validP P then (some (trcP P),true) else (none,false)):=by
  unfold zAO;rw [implInstances P hb];cases hv:validP P with
  | false =>
    unfold validP at hv;cases hp:progB P with
    | false=>rfl
    | true =>
      rw [hp,cy] at hv;simp [hv]
  | true =>
    have hv':=hv;unfold validP at hv';rw [bA] at hv';have hl:=zOM hb hv _ 0 [] [] (cr _) rfl rfl;rw [nZ,ck,cx,cx] at hl;simp only [hv'.1,hv'.2,if_true,oB,oS,bT,bF,if_false,hl,oP];rfl
end Go.LN
namespace Go.LN
def hasB (l:List Int) (n:Int):Bool:=l.any (fun x=>x==n)
theorem zHR (x:Int) (l:List Int) (n:Int):hasB (x::l) n=(x==n||hasB l n):=by unfold hasB; rw [List.any_cons]
def srcN (ws:List Int) (c:Int):Nat->Int
  | 0=>-1
  | k+1=>if ws.getD k 0==c then (k:Int) else srcN ws c k
def kindF (r1:List Int) (w1:Int) (r2:List Int) (w2:Int):Int:=(if hasB r2 w1 then 1 else 0)+(if hasB r1 w2 then 2 else 0)+(if w1==w2 then 4 else 0)
theorem zNQ (r1:List Int) (w1:Int) (r2:List Int) (w2:Int):0<=kindF r1 w1 r2 w2/\kindF r1 w1 r2 w2<=7:=by
  unfold kindF;cases hasB r2 w1 <;> cases hasB r1 w2 <;> cases (w1==w2) <;> simp
end Go.LN
namespace Go.LN
theorem zPK (l:List Int) (v:Int) (hl:l.length<=1048576):∀ (j i:Nat),i+j=l.length->∃ x,uZ l v (i:Int)=some x/\((hasB (l.drop i) v=true/\∃ k:Nat,x=.ret (k:Int))∨(hasB (l.drop i) v=false/\x=.done ())):=by
  intro j
  induction j with
  | zero =>
    intro i hi;rw [uZ];have:¬((i:Int)<(l.length:Int)):=by omega
    refine ⟨_,by simp only [this,dF,bF,if_false,oP],.inr ⟨?_,rfl⟩⟩;rw [dN.2 (by omega)]; rfl
  | succ j ih =>
    intro i hi;rw [uZ];have aD:i<l.length:=by omega
    have hc:((i:Int)<(l.length:Int)):=by omega
    rw [gC aD,zHR];by_cases e:v=l[i]
    · refine ⟨_,by simp only [hc,dT,if_true,yV aD,oB,oS,oP,e,bQ],.inl ⟨?_,i,rfl⟩⟩;rw [e,bQ,Bool.true_or]
    · have e1:(v==l[i])=false:=by simpa using e
      have e2:(l[i]==v)=false:=by simpa using fun h=>e h.symm
      obtain ⟨x,hx,hr⟩:=ih (i+1) (by omega);refine ⟨x,?_,by rw [e2,ek]; exact hr⟩;simp only [hc,dT,if_true,yV aD,oB,oS,oP,e1,bF,if_false];rw [vH (by omega),hx]
theorem containsV (l:List Int) (v:Int) (hl:l.length<=1048576):sZ l v=some (hasB l v):=by
  unfold sZ jK;obtain ⟨x,hx,hr⟩:=zPK l v hl l.length 0 (cr _);rw [nZ] at hx;rw [ck] at hr;rw [hx];rcases hr with ⟨h,k,rfl⟩ | ⟨h,rfl⟩
  · have:((k:Int)>=0):=by omega
    simp [h,this]
  · rw [h]; rfl
def zIns (P:zC) (a:Nat):zN:=(progI P).getD a ⟨0,0,[]⟩
theorem zK6 {P:zC}{a:Nat} (h:a<(progI P).length):zIns P a=(progI P)[a]:=by simp [zIns,h]
theorem zH1 {P:zC}{a:Nat} (h:a<(progI P).length):zIns P a∈progI P:=by rw [zK6 h]; exact gM h
theorem zJA {P:zC}{a:Nat} (h:a<(progI P).length):idx ((progI P).map (rdI P)) (a:Int)=some (rdI P (zIns P a)):=by rw [yV (by rw [lM]; exact h),zK6 h]; simp
theorem zHS {P:zC}{a:Nat} (h:a<(progI P).length):idx ((progI P).map (wrI P)) (a:Int)=some (wrI P (zIns P a)):=by rw [yV (by rw [lM]; exact h),zK6 h]; simp
def kindI (P:zC) (a b:Nat):Int:=kindF (rdI P (zIns P a)) (wrI P (zIns P a)) (rdI P (zIns P b)) (wrI P (zIns P b))
theorem betweenV {P:zC} (hi:∀ z∈progI P,InP P z) {a b:Nat} (ha:a<(progI P).length) (hb:b<(progI P).length):mO (trcP P) (a:Int) (b:Int)=some (kindI P a b):=by
  have l1:=zIF (hi _ (zH1 ha));have l2:=zIF (hi _ (zH1 hb));unfold mO kindI kindF;simp only [trcP,zJA ha,zJA hb,zHS ha,zHS hb,containsV _ _ (show (rdI P (zIns P a)).length<=1048576 by omega),containsV _ _ (show (rdI P (zIns P b)).length<=1048576 by omega),oB,oS,oP,id];by_cases e:wrI P (zIns P a)=wrI P (zIns P b)
  · have e1:(wrI P (zIns P a)==wrI P (zIns P b))=true:=by simpa using e
    simp only [e1,if_true];cases hasB (rdI P (zIns P b)) (wrI P (zIns P a)) <;> cases hasB (rdI P (zIns P a)) (wrI P (zIns P b)) <;> rfl
  · have e1:(wrI P (zIns P a)==wrI P (zIns P b))=false:=by simpa using e
    simp only [e1,bF,if_false];cases hasB (rdI P (zIns P b)) (wrI P (zIns P a)) <;> cases hasB (rdI P (zIns P a)) (wrI P (zIns P b)) <;> rfl
end Go.LN
namespace Go.LN
def wsP (P:zC):List Int:=(progI P).map (wrI P)
theorem zK7 {P:zC}{k:Nat} (h:k<(progI P).length):(wsP P).getD k 0=wrI P (zIns P k):=by
  unfold wsP;rw [zK6 h]; simp [h]
theorem zON {P:zC} (c:Int) (ba:(progI P).length<=120):∀ k:Nat,k<=(progI P).length->tU (trcP P) c ((k:Int) - 1)=some (srcN (wsP P) c k)
  | 0,_=>by
    rw [tU]
    simp [srcN]
  | k+1,hk=>by
    rw [tU,srcN,zK7 (by omega)]
    have h1:(((k+1:Nat):Int) - 1)=(k:Int):=by omega
    have h2:((k:Int)>=0):=by omega
    rw [h1]
    simp only [h2,dT,if_true,trcP,zHS (show k<(progI P).length by omega),oB,oS,oP,id]
    by_cases e:wrI P (zIns P k)=c
    · simp [e]
    · have e1:(wrI P (zIns P k) != c)=true:=by simpa using e
      have e2:(wrI P (zIns P k)==c)=false:=by simpa using e
      simp only [e1,e2,if_true,bF,if_false]
      rw [rA (by omega) (by omega)]
      exact zON c ba k (by omega)
theorem zPv {P:zC} (ba:(progI P).length<=120) (to:Nat) (ht:to<(progI P).length) (x:List Int) (hx:x.length<=1048576):∀ (j i:Nat) (o:List Int),i+j=x.length->o.length=i->tV (trcP P) (to:Int) x o (i:Int)=some (o++(x.drop i).map fun c=>srcN (wsP P) c to):=by
  intro j
  induction j with
  | zero =>
    intro i o hi ho;rw [tV];have:¬((i:Int)<(x.length:Int)):=by omega
    simp only [this,dF,bF,if_false,oP,id];rw [dN.2 (by omega),dn,cu]
  | succ j ih =>
    intro i o hi ho;rw [tV];have aD:i<x.length:=by omega
    have hc:((i:Int)<(x.length:Int)):=by omega
    have h2:=zON (P:=P) x[i] ba to (by omega);rw [rA (x:=(to:Int) - 1) (by omega) (by omega)];simp only [hc,dT,if_true,yV aD,h2,oB,oS,oL (show (o.length+[srcN (wsP P) x[i] to].length)*8<=140737488355328 by simp; omega)];rw [vH (by omega),ih (i+1) _ (by omega) (by rw [lA]; simp; omega),gC aD,cz,co];rfl
def srcL (P:zC) (to:Nat):List Int:=(rdI P (zIns P to)).map fun c=>srcN (wsP P) c to
def fsF (P:zC) (to:Int):List Int×Bool:=if validP P=true/\0<=to/\to<((progI P).length:Int) then (srcL P to.toNat,true) else ([],false)
theorem implFs (P:zC) (hb:BG P) (to:Int):kH P to=some (fsF P to):=by
  unfold kH fsF;rw [implTrace P hb];cases hv:validP P with
  | false=>simp
  | true =>
    have ba:=(jO hv).2.2.2;have hi:∀ z∈progI P,InP P z:=fun z hz=>zFg hb hv hz;have hW:W (((trcP P).list.length:Int) - 1)=((progI P).length:Int) - 1:=by show W (((progI P).length:Int) - 1)=_; rw [rA (by omega) (by omega)]
    simp only [if_true,oB,oS,oP,bT,bF,if_false,jT,hW,true_and];by_cases h:0<=to/\to<((progI P).length:Int)
    · rw [if_pos h];obtain ⟨k,rfl⟩:∃ k:Nat,to=(k:Int):=⟨to.toNat,by omega⟩;have hk:k<(progI P).length:=by omega
      have e1:(0:Int)<=(k:Int):=by omega
      have e2:(k:Int)<=((progI P).length:Int) - 1:=by omega
      have hrl:=zIF (hi _ (zH1 hk));have hl:=zPv ba k hk (rdI P (zIns P k)) (by omega) _ 0 [] (cr _) rfl;rw [nZ,ck,cx] at hl;have hs:mN (trcP P) (k:Int)=some (srcL P k):=by
        unfold mN;have hr:=zJA (P:=P) hk;rw [show (trcP P).reads=(progI P).map (rdI P) from rfl,hr];simp only [oB,oS,hl,oP,id];rfl
      simp only [e1,e2,dT,Bool.and_self,bT,bF,if_false,oS,hs,iN]
    · rw [if_neg h];have e4:(!(decide (0<=to)&&decide (to<=((progI P).length:Int) - 1)))=true:=by simp; omega
      simp only [e4,oS,if_true]
end Go.LN
namespace Go.LN
end Go.LN
namespace Go.LN
def dep1 (P:zC) (i q:Nat):List wE:=if kindI P i q==0 then [] else [⟨(i:Int),(q:Int),kindI P i q⟩]
def depR (P:zC) (i k j:Nat):List wE:=(List.range' k j).flatMap fun q=>dep1 P i q
def depA (P:zC) (i j:Nat):List wE:=(List.range' i j).flatMap fun q=>depR P q (q+1) ((progI P).length - (q+1))
theorem zJw (P:zC) (i k j:Nat):depR P i k (j+1)=dep1 P i k++depR P i (k+1) j:=by unfold depR; rw [dl,cg]
theorem zJx (P:zC) (i j:Nat):depA P i (j+1)=depR P i (i+1) ((progI P).length - (i+1))++depA P (i+1) j:=by unfold depA; rw [dl,cg]
theorem zOO (P:zC) (i q:Nat):(dep1 P i q).length<=1:=by unfold dep1; split <;> simp
theorem zJB (P:zC) (i:Nat):∀ (j k:Nat),(depR P i k j).length<=j
  | 0,k=>by simp [depR]
  | j+1,k=>by
    have h1:=zOO P i k
    have h2:=zJB P i j (k+1)
    rw [zJw,lA]; omega
theorem zL4 (P:zC):∀ (j i:Nat),(depA P i j).length<=j*(progI P).length
  | 0,i=>by simp [depA]
  | j+1,i=>by
    have h1:=zJB P i ((progI P).length - (i+1)) (i+1)
    have h2:=zL4 P j (i+1)
    rw [zJx,lA,ea,Nat.one_mul]; omega
theorem zNR (P:zC) (a b:Nat):0<=kindI P a b/\kindI P a b<=7:=zNQ _ _ _ _
theorem zPL {P:zC} (hi:∀ z∈progI P,InP P z) (ba:(progI P).length<=120) (i:Nat) (hin:i<(progI P).length):∀ (j k:Nat) (o:List wE),k+j=(progI P).length->o.length+j<=1000000->qD (trcP P) (i:Int) o (k:Int)=some (o++depR P i k j):=by
  intro j
  induction j with
  | zero =>
    intro k o hk ho;rw [qD];have:¬((k:Int)<((trcP P).list.length:Int)):=by show ¬((k:Int)<((progI P).length:Int)); omega
    simp only [this,dF,bF,if_false,oP,id];simp [depR]
  | succ j ih =>
    intro k o hk ho;rw [qD,zJw];have aD:k<(progI P).length:=by omega
    have hc:((k:Int)<((trcP P).list.length:Int)):=by show ((k:Int)<((progI P).length:Int)); omega
    have hr:=zNR P i k;simp only [hc,dT,if_true,betweenV hi hin aD,oB,oS,oP,id,oL (show (o.length+[wE.mk (i:Int) (k:Int) (kindI P i k)].length)*24<=140737488355328 by simp; omega)];rw [vH (by omega)];unfold dep1;by_cases h0:kindI P i k=0
    · have e1:¬(kindI P i k>0):=by omega
      have e2:(kindI P i k==0)=true:=by simpa using h0
      simp only [e1,e2,dF,bF,if_false,if_true,oS,cx];exact ih (k+1) o (by omega) (by omega)
    · have e1:kindI P i k>0:=by omega
      have e2:¬((kindI P i k==0)=true):=by simpa using h0
      simp only [e1,dT,if_true,oS];rw [if_neg e2,ih (k+1) _ (by omega) (by rw [lA]; simp; omega),co]
theorem zPM {P:zC} (hi:∀ z∈progI P,InP P z) (ba:(progI P).length<=120):∀ (j i:Nat) (o:List wE),i+j=(progI P).length->o.length<=120*i->qE (trcP P) o (i:Int)=some (o++depA P i j):=by
  intro j
  induction j with
  | zero =>
    intro i o hij ho;rw [qE];have:¬((i:Int)<((trcP P).list.length:Int)):=by show ¬((i:Int)<((progI P).length:Int)); omega
    simp only [this,dF,bF,if_false,oP,id];simp [depA]
  | succ j ih =>
    intro i o hij ho;rw [qE,zJx];have aD:i<(progI P).length:=by omega
    have hc:((i:Int)<((trcP P).list.length:Int)):=by show ((i:Int)<((progI P).length:Int)); omega
    have hl:=zJB P i ((progI P).length - (i+1)) (i+1);have h2:=zPL hi ba i aD ((progI P).length - (i+1)) (i+1) o (by omega) (by omega);simp only [hc,dT,if_true,vH (show i<9223372036854775807 by omega),h2,oB,oS];rw [ih (i+1) _ (by omega) (by rw [lA]; omega),co]
def dpF (P:zC):List wE:=if validP P then depA P 0 (progI P).length else []
theorem implDeps (P:zC) (hb:BG P):kK P=some (dpF P):=by
  unfold kK dpF;rw [implTrace P hb];cases hv:validP P with
  | false=>rfl
  | true =>
    have ba:=(jO hv).2.2.2;have hi:∀ z∈progI P,InP P z:=fun z hz=>zFg hb hv hz;have hl:=zPM hi ba _ 0 [] (cr _) (by simp);rw [nZ,cx] at hl;simp only [if_true,oB,oS,bT,bF,if_false,eV,hl,oP,id]
theorem zNS (l:List wE) (h:l.length<=1048576):zA4 l l=some true:=by
  unfold zA4;have hl:=zAK (n:=l.length) (f:=kJ l l) (P:=fun _=>true) (fun i hi=>by
      rw [kJ];have h1:((i:Int)<(l.length:Int)):=by omega
      simp only [h1,dT,if_true,yV hi,oB,oS,bQ,Bool.and_self,bT,bF,if_false];rw [vH (by omega)]) (by rw [kJ]; simp)
  rw [hl];have:((List.range l.length).all fun _=>true)=true:=by simp
  simp [this]
theorem zPN {P:zC}:(dpF P).length<=14400:=by
  unfold dpF;split
  · rename_i hv;have ba:=(jO hv).2.2.2;have:=zL4 P (progI P).length 0;have h2:(progI P).length*(progI P).length<=120*120:=Nat.mul_le_mul ba ba;omega
  · simp
end Go.LN
namespace Go.LN
end Go.LN
namespace Go.LN
end Go.LN
namespace Go.LN
theorem zMQ {d:Int}{n:Nat}{e:zH} (h:shapeB d (n+1) e=true):(e.Kind=1∨e.Kind=2∨e.Kind=3)∨((e.Kind=4∨e.Kind=5∨e.Kind=6)/\∃ a b,e.Kids=[a,b]):=by
  simp only [shapeB,bA] at h;have hk:=eq_of_beq h.1.1;unfold kidsN at hk;by_cases h1:e.Kind=1∨e.Kind=2∨e.Kind=3
  · exact .inl h1
  · rw [if_neg h1] at hk;by_cases h2:e.Kind=4∨e.Kind=5∨e.Kind=6
    · rw [if_pos h2] at hk;refine .inr ⟨h2,?_⟩;have hl:e.Kids.length=2:=by omega
      match e.Kids,hl with
      | [a,b],_=>exact ⟨a,b,rfl⟩
    · rw [if_neg h2] at hk; omega
theorem zL5 {d:Int}{n:Nat}{e:zH} (h:shapeB d (n+1) e=true) (h2:e.Kind=2):okA d e.Index=true:=by
  simp only [shapeB,bA] at h;have ho:=h.1.2;simp only [ownB,h2,if_true,bA] at ho;exact ho.2
end Go.LN
namespace Go.LN
end Go.LN
namespace Go.LN
end Go.LN
namespace Go.LN
end Go.LN
namespace Go.LN
theorem AV.bl {a:zG} (h:AV a):BL a.Subs:=⟨by have:=h.2.1; omega,fun s hs=>by have:=h.2.2 s hs; unfold BA; omega⟩
end Go.LN
namespace Go.LN
instance zL6 (r:zQ):Tot (dZ r) (0<=r.p/\r.p<=30000000) (fun φ=>∀ a s,SG 1000 a->r.p<=s.p->s.p<=r.p+4000000->φ (a,s)):=⟨by
  rintro ⟨h0,h1⟩ φ hk
  unfold dZ
  refine Ok.call (zAP r _) ⟨by decide,h0,by omega⟩ fun y s g1 g2=>?_
  have hy:y.l.length<=1000:=by
    revert g1 y
    decide
  refine Ok.cat (by simp; omega) fun t _ ht=>?_
  simp only [cj,cF] at ht
  refine Ok.call (zCv t) (by omega) fun p b hp=>?_
  refine Ok.bind (φ:=fun o=>r.p<=o.2.p/\o.2.p<=r.p+2) ?_ ?_
  · exact Ok.ite (fun _=>Ok.call (zAJ s 2) ⟨by omega,by omega⟩ fun y u k1 k2 k3=>Ok.pure ⟨by dsimp only; omega,by dsimp only; omega⟩) fun _=>Ok.pure ⟨by dsimp only; omega,by dsimp only; omega⟩
  rintro ⟨z,u⟩ ⟨g3,g4⟩
  dsimp only at g3 g4 ⊢
  refine Ok.ite (fun _=>Ok.pure (hk _ _ hp g3 (by omega))) fun _=>Ok.call (zMM u) ⟨by omega,by omega⟩ fun a v g5 g6 g7=>Ok.pure (hk _ v g5 (by omega) (by omega))⟩
theorem args11 (r:zQ) (h0:r.p=0):Ok (zAA r) (fun y=>BG y.1/\0<=y.2.2.p/\y.2.2.p<=800000000):=by
  unfold zAA;refine Ok.call (zL6 r) ⟨by omega,by omega⟩ fun a s g1 g2 g3=>?_;refine Ok.bind (mut4 s a g1.dp (by omega) (by omega)) fun p hp=>?_;obtain ⟨P,t⟩:=p;have k0:0<=t.p:=hp.2.1;have k1:t.p<=700001000:=hp.2.2;exact Ok.call (tW t _) ⟨by decide,k0,by omega,by decide⟩ fun y s2 _ _ k5=>Ok.pure ⟨hp.1.1,by dsimp only; omega,by dsimp only; omega⟩
end Go.LN
namespace Go.LN
def eqL {α:Type} (q:α->α->Bool):List α->List α->Bool
  | [],[]=>true
  | x::a,y::b=>q x y&&eqL q a b
  | _,_=>false
theorem zPO {α:Type}{a b:List α} (hl:a.length=b.length) {q:α->α->Bool}{f:Int->Option (Out Unit Bool)} (step:∀ (i:Nat) (h1:i<a.length) (h2:i<b.length),f (i:Int)=if q a[i] b[i] then f ((i+1:Nat):Int) else some (.ret false)) (fin:f (a.length:Int)=some (.done ())):f 0=some (if eqL q a b then .done () else .ret false):=by
  have key:∀ (j i:Nat),i+j=a.length->f (i:Int)=some (if eqL q (a.drop i) (b.drop i) then .done () else .ret false):=by
    intro j
    induction j with
    | zero =>
      intro i hi;rw [show i=a.length by omega,fin,dN.2 (cZ a.length),dN.2 (show b.length<=a.length by omega)]; rfl
    | succ j ih =>
      intro i hi;have h1:i<a.length:=by omega
      have h2:i<b.length:=by omega
      rw [step i h1 h2,ih (i+1) (by omega),gC h1,gC h2,eqL];cases q a[i] b[i] <;> rfl
  have:=key a.length 0 (cr _);rwa [nZ,ck,ck] at this
theorem zMg {α:Type}{q:α->α->Bool}:∀ {a b:List α},a.length ≠ b.length->eqL q a b=false
  | [],[],h=>absurd rfl h
  | [],_::_,_=>rfl
  | _::_,[],_=>rfl
  | x::a,y::b,h=>by rw [eqL,zMg (by simpa using h),Bool.and_false]
def eqI (a b:List Int):Bool:=eqL (fun x y=>x==y) a b
theorem implEqI (a b:List Int) (h:a.length<=1048576):pC a b=some (eqI a b):=by
  unfold pC eqI;by_cases hl:a.length=b.length
  · have hf:=zPO (q:=fun x y=>x==y) hl (f:=uX a b) (fun i h1 h2=>by
      rw [uX];have c:((i:Int)<(a.length:Int)):=by omega
      simp only [c,dT,if_true,yV h1,yV h2,oB,oS,oP];rw [vH (by omega)];by_cases e:a[i]=b[i]
      · simp [e]
      · simp [e]) (by rw [uX]; simp)
    have e:((a.length:Int) != (b.length:Int))=false:=by simp [hl]
    rw [hf,e];cases eqL (fun x y=>x==y) a b <;> rfl
  · have e:((a.length:Int) != (b.length:Int))=true:=by simp; omega
    rw [e,zMg hl]; rfl
def afB (x y:zA):Bool:=eqI x.Coefs y.Coefs&&x.Const==y.Const
theorem implAff (x y:zA) (h:x.Coefs.length<=1048576):wK x y=some (afB x y):=by
  unfold wK afB;rw [implEqI _ _ h];cases eqI x.Coefs y.Coefs <;> rfl
end Go.LN
namespace Go.LN
def mpA (f:zA->zA) (a:zG):zG:=⟨a.Array,a.Subs.map f⟩
theorem zPw {ch:zA->Option zA}{f:zA->zA} (a:zG) (hs:a.Subs.length<=1000) (ha:∀ s∈a.Subs,ch s=some (f s)):∀ (j i:Nat) (o:List zA),i+j=a.Subs.length->o.length=i->pL a ch (i:Int) o=some (o++(a.Subs.drop i).map f):=by
  intro j
  induction j with
  | zero =>
    intro i o hi ho;rw [pL];have:¬((i:Int)<(a.Subs.length:Int)):=by omega
    simp only [this,dF,bF,if_false,oP,id];rw [dN.2 (by omega),dn,cu]
  | succ j ih =>
    intro i o hi ho;rw [pL];have aD:i<a.Subs.length:=by omega
    have hc:((i:Int)<(a.Subs.length:Int)):=by omega
    rw [gC aD,cz];simp only [hc,dT,if_true,yV aD,ha _ (gM aD),oL (show (o.length+[f a.Subs[i]].length)*32<=140737488355328 by simp; omega),oB,oS];rw [vH (by omega),ih (i+1) _ (by omega) (by rw [lA]; simp; omega),co]; rfl
theorem mpAV {d:Int}{ch:zA->Option zA}{f:zA->zA} (hch:∀ a,okA d a=true->ch a=some (f a)) {a:zG} (h:accB a d=true):jS a ch=some (mpA f a):=by
  have hv:=AV.of h;have hs:∀ s∈a.Subs,ch s=some (f s):=fun s hs=>by
    simp only [accB,bA,bZ] at h;exact hch s (h.2 s hs)
  have h2:=hv.2.1;have hl:=zPw a (by omega) hs _ 0 [] (cr _) rfl;rw [nZ,ck,cx] at hl;unfold jS;simp only [hl,oB,oS,oP];rfl
def mpE (f:zA->zA):Nat->zH->zH
  | 0,e=>e
  | n+1,e=>.mk e.Kind e.Num (if e.Kind=2 then f e.Index else ⟨[],0⟩) (if e.Kind=3 then mpA f e.Read else ⟨⟨[]⟩,[]⟩) (e.Kids.map (mpE f n))
theorem mpEV {d:Int}{ch:zA->Option zA}{f:zA->zA} (hch:∀ a,okA d a=true->ch a=some (f a)):∀ (n:Nat) (e:zH),shapeB d n e=true->jW e ch=some (mpE f n e)
  | 0,e,h=>by cases h
  | n+1,e,h=>by
    rw [jW,mpE]
    obtain ⟨h1,h2⟩:=zAL h
    have hkl:pR e ch 0 []=some (e.Kids.map (mpE f n)):=by
      rcases h1 with hk | ⟨a,b,hk⟩
      · rw [pR]
        simp [hk]
      · have ra:=mpEV hch n a (h2 a (by rw [hk]; simp))
        have rb:=mpEV hch n b (h2 b (by rw [hk]; simp))
        have l0:((0:Int)<(e.Kids.length:Int)):=by rw [hk]; simp
        have l1:((1:Int)<(e.Kids.length:Int)):=by rw [hk]; simp
        have l2:¬((2:Int)<(e.Kids.length:Int)):=by rw [hk]; simp
        have i0:idx e.Kids 0=some a:=by rw [hk]; rfl
        have i1:idx e.Kids 1=some b:=by rw [hk]; rfl
        have w0:W ((0:Int)+1)=1:=by rw [rA (by omega) (by omega)]; rfl
        have w1:W ((1:Int)+1)=2:=by rw [rA (by omega) (by omega)]; rfl
        have p0:app 112 ([]:List zH) [mpE f n a]=some [mpE f n a]:=by rw [oL (by simp)]; rfl
        have p1:app 112 [mpE f n a] [mpE f n b]=some [mpE f n a,mpE f n b]:=by rw [oL (by simp)]; rfl
        rw [pR]
        simp only [l0,dT,if_true,oB,oS,i0,same,ra,p0,w0]
        rw [pR]
        simp only [l1,dT,if_true,oB,oS,i1,same,rb,p1,w1]
        rw [pR]
        simp only [l2,dF,bF,if_false,oP,id]
        rw [hk]; rfl
    rcases zMQ h with hk | ⟨hk,_⟩
    · rcases hk with k | k | k
      · have e2:(e.Kind==2)=false:=by simp; omega
        have e3:(e.Kind==3)=false:=by simp; omega
        rw [if_neg (show ¬e.Kind=2 by omega),if_neg (show ¬e.Kind=3 by omega)]
        simp [e2,e3,same,hkl]
      · have e2:(e.Kind==2)=true:=by simpa using k
        rw [if_pos k,if_neg (show ¬e.Kind=3 by omega)]
        simp [e2,same,hkl,hch _ (zL5 h k)]
      · have e2:(e.Kind==2)=false:=by simp; omega
        have e3:(e.Kind==3)=true:=by simpa using k
        rw [if_neg (show ¬e.Kind=2 by omega),if_pos k]
        simp [e2,e3,same,hkl,mpAV hch (zFe h k).2]
    · have e2:(e.Kind==2)=false:=by simp; omega
      have e3:(e.Kind==3)=false:=by simp; omega
      rw [if_neg (show ¬e.Kind=2 by omega),if_neg (show ¬e.Kind=3 by omega)]
      simp [e2,e3,same,hkl]
def mpS (f:zA->zA) (s:zL):zL:=⟨mpA f s.Write,mpE f 5 s.Value⟩
theorem mpSV {d:Int}{ch:zA->Option zA}{f:zA->zA} (hch:∀ a,okA d a=true->ch a=some (f a)) {s:zL} (h:stmtB s d=true):zAD s ch=some (mpS f s):=by
  have hw:accB s.Write d=true:=by simp only [stmtB,bA] at h; exact h.1.2
  unfold zAD;simp only [mpAV hch hw,mpEV hch 5 _ (fL h).2.1,oB,oS,oP];rfl
theorem zL7 {α:Type}{q:α->α->Bool} (hq:∀ x,q x x=true):∀ a:List α,eqL q a a=true
  | []=>rfl
  | x::a=>by rw [eqL,hq,zL7 hq a]; rfl
theorem zL8 (a:List Int):eqI a a=true:=zL7 (fun x=>by simp) a
theorem zOP (x:zA):afB x x=true:=by unfold afB; rw [zL8,bQ]; rfl
end Go.LN
namespace Go.LN
def fitA (p:List Int):List Int->List zA->Prop
  | [],[]=>True
  | d::ds,s::ss=>(0<=evA s p/\evA s p<d)/\fitA p ds ss
  | [],_::_=>False
  | _::_,[]=>False
theorem zGa {p:List Int}:∀ {ds:List Int}{ss:List zA},fitA p ds ss->ss.length=ds.length
  | [],[],_=>rfl
  | d::ds,s::ss,h=>by rw [cj,cj,zGa h.2]
theorem zL9 {p:List Int}:∀ {ds:List Int}{ss:List zA} (n:Int),fitA p ds ss->∃ m,cellS p ds ss n=some m
  | [],[],n,_=>⟨n,by rw [cellS]⟩
  | d::ds,s::ss,n,h=>by
    obtain ⟨m,hm⟩:=zL9 (W (W (n*d)+evA s p)) h.2
    exact ⟨m,by rw [cellS,if_pos h.1,hm]⟩
theorem zLa {p:List Int}:∀ {ds:List Int}{ss:List zA}{n m:Int},ss.length=ds.length->cellS p ds ss n=some m->fitA p ds ss
  | [],[],n,m,_,_=>trivial
  | d::ds,s::ss,n,m,hl,h=>by
    rw [cellS] at h
    split at h
    · rename_i hv
      exact ⟨hv,zLa (by simpa using hl) h⟩
    · cases h
theorem zCw (a:zG) (p:List Int):∀ (l:List zE) (first:Int),cellF a p l first ≠ -1->∃ i,∃ hi:i<l.length,a.Array.l=l[i].Name.l/\fitA p l[i].Dims a.Subs
  | [],first,h=>absurd rfl h
  | x::l,first,h=>by
    rw [cellF] at h
    by_cases hn:x.Name.l=a.Array.l
    · rw [if_pos hn] at h
      by_cases hd:a.Subs.length=x.Dims.length
      · rw [if_pos hd] at h
        cases hc:cellS p x.Dims a.Subs 0 with
        | none=>rw [hc] at h; exact absurd rfl h
        | some n=>exact ⟨0,Nat.succ_pos _,hn.symm,zLa hd hc⟩
      · rw [if_neg hd] at h; exact absurd rfl h
    · rw [if_neg hn] at h
      obtain ⟨i,hi,h1,h2⟩:=zCw a p l _ h
      exact ⟨i+1,Nat.succ_lt_succ hi,h1,h2⟩
theorem zMR {α:Type}{l:List α}{i:Nat} (hi:i<l.length):l=l.take i++l[i]::l.drop (i+1):=by
  rw [<- gC hi,ee]
theorem GA.ne {l:List zE} (hg:GA l) {i j:Nat} (hi:i<l.length) (hj:j<l.length) (h:i ≠ j):l[i].Name.l ≠ l[j].Name.l:=by
  have hp:=ff.1 hg.2.2;rcases Nat.lt_or_gt_of_ne h with k | k
  · exact hp i j hi hj k
  · exact (hp j i hj hi k).symm
theorem zHT {l:List zE} (hg:GA l) {a:zG}{p:List Int}{i:Nat} (hi:i<l.length) (hn:a.Array.l=l[i].Name.l) (hf:fitA p l[i].Dims a.Subs) :
    ∃ n,cellS p l[i].Dims a.Subs 0=some n/\0<=n/\n<sizeF l[i]/\cellF a p l 0=sumS (l.take i)+n/\0<=sumS (l.take i):=by
  obtain ⟨n,hc⟩:=zL9 0 hf
  have hl:=zGa hf
  have hD:=hg.2.1 _ (gM hi)
  have hr:=zNM hD hl hc
  have hs:=hD.size
  have htk:∀ y∈l.take i,DA y:=fun y hy=>hg.2.1 y (List.mem_of_mem_take hy)
  have hsum:=zIy htk
  have htl:(l.take i).length<=4:=by rw [cw]; have:=hg.1; omega
  have al:=zMe a p l[i] (l.drop (i+1)) (l.take i) 0 htk (fun y hy=>by
    obtain ⟨j,hj,rfl⟩:=dq.1 hy
    rw [cw] at hj
    rw [List.getElem_take]
    exact hg.ne (by omega) hi (by omega)) (Int.le_refl _) (by omega) hn hl
  rw [<- zMR hi,hc] at al
  dsimp only at al
  rw [Int.zero_add,rA (by omega) (by omega)] at al
  exact ⟨n,hc,hr.1,hr.2,al,hsum.1⟩
theorem zLb {p q:List Int}:∀ {ss tt:List zA}{ds:List Int}{n:Int},(ss.map fun s=>evA s p)=(tt.map fun s=>evA s q)->cellS p ds ss n=cellS q ds tt n
  | [],[],ds,n,_=>by cases ds <;> simp [cellS]
  | [],t::tt,ds,n,h=>by cases h
  | s::ss,[],ds,n,h=>by cases h
  | s::ss,t::tt,[],n,h=>by rw [cellS,cellS]
  | s::ss,t::tt,d::ds,n,h=>by
    simp only [cz,List.cons.injEq] at h
    rw [cellS,cellS,h.1,zLb h.2]
theorem zOQ {a b c d e:Int} (he:1<=e) (he6:e<=6) (hb:0<=b/\b<e) (hd:0<=d/\d<e) (h:a*e+b=c*e+d):a=c/\b=d:=by
  have:e=1∨e=2∨e=3∨e=4∨e=5∨e=6:=by omega
  rcases this with rfl | rfl | rfl | rfl | rfl | rfl <;> omega
theorem zOR {x:zE} (hD:DA x) {p q:List Int}{ss tt:List zA}{n:Int} (h1:ss.length=x.Dims.length) (h2:tt.length=x.Dims.length) (hs:cellS p x.Dims ss 0=some n) (ht:cellS q x.Dims tt 0=some n):(ss.map fun s=>evA s p)=(tt.map fun s=>evA s q):=by
  rcases hD with ⟨d,h,k1,k2⟩ | ⟨d,e,h,⟨k1,k2⟩,k3,k4⟩
  · rw [h] at h1 h2 hs ht;obtain ⟨s,rfl⟩:=zK4 h1;obtain ⟨t,rfl⟩:=zK4 h2;have a1:=zHZ k1 k2 hs;have a2:=zHZ k1 k2 ht;simp only [cz,dn,List.cons.injEq,and_true];omega
  · rw [h] at h1 h2 hs ht;obtain ⟨s,s',rfl⟩:=zK5 h1;obtain ⟨t,t',rfl⟩:=zK5 h2;have a1:=zH0 k1 k2 k3 k4 hs;have a2:=zH0 k1 k2 k3 k4 ht;have:=zOQ k3 k4 a1.2.1 a2.2.1 (a1.2.2.symm.trans a2.2.2);simp only [cz,dn,List.cons.injEq,and_true];exact this
theorem zJy {l:List zE} (h:∀ x∈l,DA x) {i j:Nat} (hij:i<j) (hj:j<=l.length):sumS (l.take i)+sizeF (l[i]'(by omega))<=sumS (l.take j):=by
  have e:l.take j=l.take (i+1)++(l.drop (i+1)).take (j - (i+1)):=by
    rw [<- ee (i+1) (l.take j),d5,d8,Nat.min_eq_left (by omega)]
  have h2:=zIy (l:=(l.drop (i+1)).take (j - (i+1))) fun y hy=>h y (List.mem_of_mem_drop (List.mem_of_mem_take hy));rw [e,zIz,zNN (by omega)];omega
def keyA (a:zG) (p:List Int):List UInt8×List Int:=(a.Array.l,a.Subs.map fun s=>evA s p)
theorem zLc {l:List zE} (hg:GA l) {a b:zG}{p q:List Int} (ha:0<=cellF a p l 0) (hb:0<=cellF b q l 0):cellF a p l 0=cellF b q l 0↔keyA a p=keyA b q:=by
  obtain ⟨i,hi,a1,a2⟩:=zCw a p l 0 (by omega);obtain ⟨j,hj,b1,b2⟩:=zCw b q l 0 (by omega);obtain ⟨n,n1,n2,n3,n4,n5⟩:=zHT hg hi a1 a2;obtain ⟨m,m1,m2,m3,m4,m5⟩:=zHT hg hj b1 b2;rw [n4,m4];unfold keyA;rw [Prod.mk.injEq];by_cases hij:i=j
  · subst hij;constructor
    · intro h;have:n=m:=by omega
      subst this;exact ⟨a1.trans b1.symm,zOR (hg.2.1 _ (gM hi)) (zGa a2) (zGa b2) n1 m1⟩
    · rintro ⟨-,h⟩;rw [zLb h,m1] at n1;cases n1; rfl
  · constructor
    · intro h;rcases Nat.lt_or_gt_of_ne hij with k | k
      · have:=zJy hg.2.1 k (by omega); omega
      · have:=zJy hg.2.1 k (by omega); omega
    · rintro ⟨h,-⟩;exact absurd (a1.symm.trans (h.trans b1)) (hg.ne hi hj hij)
theorem GA.set {l:List zE} (hg:GA l) {k:Nat} (hk:k<l.length) {y:zE} (hn:y.Name.l=l[k].Name.l) (hy:DA y):GA (l.set k y):=by
  refine ⟨by rw [cE]; exact hg.1,zD1 hg.2.1 hy k,ff.2 fun i j hi hj hij=>?_⟩;rw [cE] at hi hj;rw [List.getElem_set,List.getElem_set];by_cases h1:k=i
  · rw [if_pos h1,if_neg (by omega),hn]; exact hg.ne hk hj (by omega)
  · rw [if_neg h1];by_cases h2:k=j
    · rw [if_pos h2,hn]; exact hg.ne hi hk (by omega)
    · rw [if_neg h2]; exact hg.ne hi hj (by omega)
theorem zOS {l:List zE} (hg:GA l) {k:Nat} (hk:k<l.length) {y:zE} (hn:y.Name.l=l[k].Name.l) (hy:DA y) {a:zG}{p:List Int} (ha:0<=cellF a p l 0) (hf:a.Array.l=l[k].Name.l->fitA p y.Dims a.Subs):0<=cellF a p (l.set k y) 0:=by
  obtain ⟨i,hi,a1,a2⟩:=zCw a p l 0 (by omega);have hg':=hg.set hk hn hy;have hi':i<(l.set k y).length:=by rw [cE]; exact hi
  have key:a.Array.l=(l.set k y)[i].Name.l/\fitA p (l.set k y)[i].Dims a.Subs:=by
    rw [List.getElem_set];by_cases h:k=i
    · subst h;rw [if_pos rfl];exact ⟨a1.trans hn.symm,hf a1⟩
    · rw [if_neg h]; exact ⟨a1,a2⟩
  obtain ⟨n,n1,n2,n3,n4,n5⟩:=zHT hg' hi' key.1 key.2;omega
theorem zJz {l:List zE} (hg:GA l) {k:Nat} (hk:k<l.length) {a:zG}{p:List Int} (ha:0<=cellF a p l 0) (h:a.Array.l=l[k].Name.l):fitA p l[k].Dims a.Subs:=by
  obtain ⟨i,hi,a1,a2⟩:=zCw a p l 0 (by omega);by_cases hik:i=k
  · subst hik; exact a2
  · exact absurd (a1.symm.trans h) (hg.ne hi hk hik)
theorem DA.arr {x:zE} (h:DA x):(1<=x.Dims.length/\x.Dims.length<=2)/\x.Dims.all dimB=true:=by
  rcases h with ⟨d,h,k1,k2⟩ | ⟨d,e,h,⟨k1,k2⟩,k3,k4⟩
  · rw [h]; simp [dimB,k1,k2]
  · rw [h]; simp [dimB,k1,k2,k3,k4]
theorem zPP {l:List zE} (h:arrB l=true) {k:Nat} (hk:k<l.length) {y:zE} (hn:y.Name=l[k].Name) (hy:DA y):arrB (l.set k y)=true:=by
  simp only [arrB,bA,decide_eq_true_eq,cE] at h ⊢;refine ⟨h.1,bZ.2 fun i hi=>?_⟩;have hi':=cH.1 hi;have h1:=bZ.1 h.2 i hi;have hname:∀ j,j<l.length->((l.set k y).getD j ⟨⟨[]⟩,[]⟩).Name=(l.getD j ⟨⟨[]⟩,[]⟩).Name:=by
    intro j hj;rw [cS,cS,List.getElem?_set];by_cases e:k=j
    · subst e; simp [hk,hn]
    · rw [if_neg e]
  have hdim:(decide (1<=((l.set k y).getD i ⟨⟨[]⟩,[]⟩).Dims.length)&&decide (((l.set k y).getD i ⟨⟨[]⟩,[]⟩).Dims.length<=2))=true/\((l.set k y).getD i ⟨⟨[]⟩,[]⟩).Dims.all dimB=true:=by
    simp only [arrI,bA] at h1;rw [cS,List.getElem?_set];by_cases e:k=i
    · subst e;have:=hy.arr;simp [hk,this.1.1,this.1.2,this.2]
    · rw [if_neg e,<- cS,bA];exact ⟨h1.1.2,h1.2⟩
  simp only [arrI,bA] at h1 ⊢;rw [bA] at hdim;refine ⟨⟨⟨?_,?_⟩,hdim.1⟩,hdim.2⟩
  · rw [hname i hi']; exact h1.1.1.1
  · by_cases h0:i=0
    · simp [h0]
    · rw [hname i hi',hname (i - 1) (by omega)]; exact h1.1.1.2
end Go.LN
namespace Go.LN
def leD:List Int->List Int->Prop
  | [],[]=>True
  | x::xs,y::ys=>x<=y/\leD xs ys
  | [],_::_=>False
  | _::_,[]=>False
theorem leD.refl:∀ d:List Int,leD d d
  | []=>trivial
  | x::d=>⟨Int.le_refl _,leD.refl d⟩
theorem leD.trans:∀ {a b c:List Int},leD a b->leD b c->leD a c
  | [],[],[],_,_=>trivial
  | x::a,y::b,z::c,h,k=>⟨ei h.1 k.1,leD.trans h.2 k.2⟩
theorem leD.len:∀ {a b:List Int},leD a b->a.length=b.length
  | [],[],_=>rfl
  | x::a,y::b,h=>by rw [cj,cj,h.2.len]
def mx1 (p:List Int):List Int->List zA->List Int
  | d::ds,s::ss=>max d (evA s p+1)::mx1 p ds ss
  | ds,[]=>ds
  | [],_::_=>[]
theorem zK8 (p:List Int):∀ (d:List Int) (ss:List zA),(mx1 p d ss).length=d.length
  | d::ds,s::ss=>by rw [mx1,cj,cj,zK8 p ds ss]
  | ds,[]=>by cases ds <;> rw [mx1]
  | [],_::_=>by rw [mx1]
theorem zOT (p:List Int):∀ (d:List Int) (ss:List zA),leD d (mx1 p d ss)
  | d::ds,s::ss=>by rw [mx1]; exact ⟨Int.le_max_left ..,zOT p ds ss⟩
  | [],[]=>trivial
  | d::ds,[]=>by rw [mx1]; exact leD.refl _
  | [],_::_=>trivial
theorem zMh {p:List Int}:∀ {d D:List Int}{ss:List zA},leD d D->fitA p D ss->fitA p (mx1 p d ss) ss/\leD (mx1 p d ss) D
  | [],[],[],_,_=>⟨trivial,trivial⟩
  | d::ds,D::Ds,s::ss,h,k=>by
    obtain ⟨h1,h2⟩:=zMh h.2 k.2
    rw [mx1]
    have k1:=k.1
    have h0:=h.1
    exact ⟨⟨⟨k1.1,by omega⟩,h1⟩,⟨by omega,h2⟩⟩
theorem zMS {p:List Int}:∀ {d D:List Int}{ss:List zA},fitA p d ss->leD d D->fitA p D ss
  | [],[],[],_,_=>trivial
  | d::ds,D::Ds,s::ss,h,k=>⟨⟨h.1.1,by have:=h.1.2; have:=k.1; omega⟩,zMS h.2 k.2⟩
def mxA (nm:List UInt8) (p:List Int) (d:List Int) (a:zG):List Int:=if a.Array.l=nm then mx1 p d a.Subs else d
theorem zMi {nm:List UInt8}{p D:List Int}:∀ (L:List zG) (d:List Int),leD d D->(∀ a∈L,a.Array.l=nm->fitA p D a.Subs)->leD d (L.foldl (mxA nm p) d)/\leD (L.foldl (mxA nm p) d) D/\∀ a∈L,a.Array.l=nm->fitA p (L.foldl (mxA nm p) d) a.Subs
  | [],d,h,_=>⟨leD.refl _,h,fun _ h=>by cases h⟩
  | a::L,d,h,hf=>by
    have step:leD d (mxA nm p d a)/\leD (mxA nm p d a) D/\(a.Array.l=nm->fitA p (mxA nm p d a) a.Subs):=by
      unfold mxA
      by_cases hn:a.Array.l=nm
      · rw [if_pos hn]
        have:=zMh h (hf a (ce ..) hn)
        exact ⟨zOT ..,this.2,fun _=>this.1⟩
      · rw [if_neg hn]
        exact ⟨leD.refl _,h,fun h=>absurd h hn⟩
    obtain ⟨i1,i2,i3⟩:=zMi L _ step.2.1 (fun b hb=>hf b (cb _ hb))
    rw [cR]
    refine ⟨step.1.trans i1,i2,fun b hb hn=>?_⟩
    rcases cJ.1 hb with rfl | hb
    · exact zMS (step.2.2 hn) i1
    · exact i3 b hb hn
def accI (P:zC) (z:zN):List zG:=readsF 5 (stI P z).Value++[(stI P z).Write]
def mxI (P:zC) (nm:List UInt8) (d:List Int) (z:zN):List Int:=(accI P z).foldl (mxA nm z.Point) d
theorem zMj {P:zC}{nm:List UInt8}{D:List Int}:∀ (L:List zN) (d:List Int),leD d D->(∀ z∈L,∀ a∈accI P z,a.Array.l=nm->fitA z.Point D a.Subs)->leD d (L.foldl (mxI P nm) d)/\leD (L.foldl (mxI P nm) d) D/\∀ z∈L,∀ a∈accI P z,a.Array.l=nm->fitA z.Point (L.foldl (mxI P nm) d) a.Subs
  | [],d,h,_=>⟨leD.refl _,h,fun _ h=>by cases h⟩
  | z::L,d,h,hf=>by
    obtain ⟨s1,s2,s3⟩:=zMi (accI P z) d h (hf z (ce ..))
    obtain ⟨i1,i2,i3⟩:=zMj L (mxI P nm d z) s2 (fun b hb=>hf b (cb _ hb))
    rw [cR]
    refine ⟨leD.trans s1 i1,i2,fun b hb a ha hn=>?_⟩
    rcases cJ.1 hb with rfl | hb
    · exact zMS (s3 a ha hn) i1
    · exact i3 b hb a ha hn
def shD (P:zC) (nm:List UInt8) (n:Nat):List Int:=(progI P).foldl (mxI P nm) (List.replicate n 1)
def arK (P:zC) (k:Nat):zE:=P.Arrays.getD k ⟨⟨[]⟩,[]⟩
def shA (P:zC) (k:Nat):zE:=⟨(arK P k).Name,shD P (arK P k).Name.l (arK P k).Dims.length⟩
def shP (P:zC) (k:Nat):zC:=⟨P.Arrays.set k (shA P k),P.Parts⟩
theorem zGb {P:zC}{k:Nat} (h:k<P.Arrays.length):arK P k=P.Arrays[k]:=by simp [arK,h]
theorem zJC {P:zC} (hb:BG P) (hv:validP P=true) {z:zN} (hz:z∈progI P) {a:zG} (ha:a∈accI P z):0<=cellF a z.Point P.Arrays 0:=by
  have h:=(zFg hb hv hz).ok;simp only [stOk,bA,decide_eq_true_eq] at h;rcases cX.1 ha with k | k
  · exact of_decide_eq_true (bZ.1 h.2 a k)
  · rw [cv.1 k]; exact h.1
theorem zOU {P:zC}{z:zN} (h:InP P z) {a:zG} (ha:a∈accI P z):AV a:=by
  obtain ⟨d,hd⟩:=h.st;obtain ⟨s1,_,s3⟩:=fL hd;rcases cX.1 ha with k | k
  · exact s3 a k
  · rw [cv.1 k]; exact s1
theorem zPQ {x:zE} (h:DA x):leD (List.replicate x.Dims.length 1) x.Dims:=by
  rcases h with ⟨d,h,k1,k2⟩ | ⟨d,e,h,⟨k1,k2⟩,k3,k4⟩
  · rw [h]; exact ⟨k1,trivial⟩
  · rw [h]; exact ⟨k1,k3,trivial⟩
theorem zK9 {P:zC} (hb:BG P) (hv:validP P=true) {k:Nat} (hk:k<P.Arrays.length) :
    leD (List.replicate P.Arrays[k].Dims.length 1) (shA P k).Dims/\leD (shA P k).Dims P.Arrays[k].Dims/\∀ z∈progI P,∀ a∈accI P z,a.Array.l=P.Arrays[k].Name.l->fitA z.Point (shA P k).Dims a.Subs:=by
  have hg:=zAM hv
  have hl:=zMj (P:=P) (nm:=P.Arrays[k].Name.l) (D:=P.Arrays[k].Dims) (progI P) (List.replicate P.Arrays[k].Dims.length 1) (zPQ (hg.2.1 _ (gM hk))) (fun z hz a ha hn=>zJz hg hk (zJC hb hv hz ha) hn)
  have e:(shA P k).Dims=shD P P.Arrays[k].Name.l P.Arrays[k].Dims.length:=by unfold shA; rw [zGb hk]
  rw [e]
  exact hl
theorem zMT {P:zC} (hb:BG P) (hv:validP P=true) {k:Nat} (hk:k<P.Arrays.length):DA (shA P k)/\sizeF (shA P k)<=sizeF P.Arrays[k]:=by
  obtain ⟨h1,h2,_⟩:=zK9 hb hv hk;have hD:=(zAM hv).2.1 _ (gM hk);rcases hD with ⟨d,h,k1,k2⟩ | ⟨d,e,h,⟨k1,k2⟩,k3,k4⟩
  · rw [h] at h1 h2;rw [zK2 h k1 k2]
    match hd:(shA P k).Dims with
    | []=>rw [hd] at h1; exact h1.elim
    | [d'] =>
      rw [hd] at h1 h2;rw [zK2 hd h1.1 (ei h2.1 k2)];exact ⟨.inl ⟨d',hd,h1.1,ei h2.1 k2⟩,h2.1⟩
    | d'::e'::r=>rw [hd] at h1; exact h1.2.elim
  · rw [h] at h1 h2;rw [zK3 h k1 k2 k3 k4]
    match hd:(shA P k).Dims with
    | []=>rw [hd] at h1; exact h1.elim
    | [d']=>rw [hd] at h1; exact h1.2.elim
    | [d',e'] =>
      rw [hd] at h1 h2;have a1:=h1.1;have a2:=h1.2.1;have b1:=h2.1;have b2:=h2.2.1;rw [zK3 hd a1 (ei b1 k2) a2 (ei b2 k4)];exact ⟨.inr ⟨d',e',hd,⟨a1,ei b1 k2⟩,a2,ei b2 k4⟩,Int.mul_le_mul b1 b2 (by omega) (by omega)⟩
    | d'::e'::f::r=>rw [hd] at h1; exact h1.2.2.elim
theorem zLd {P:zC}{k:Nat} (hk:k<P.Arrays.length):(shA P k).Name=P.Arrays[k].Name:=by unfold shA; rw [zGb hk]
theorem zKa {P:zC} (hb:BG P) (hv:validP P=true) {k:Nat} (hk:k<P.Arrays.length) {z:zN} (hz:z∈progI P) {a:zG} (ha:a∈accI P z):0<=cellF a z.Point (shP P k).Arrays 0 :=
  zOS (zAM hv) hk (by rw [zLd hk]) (zMT hb hv hk).1 (zJC hb hv hz ha) ((zK9 hb hv hk).2.2 z hz a ha)
theorem zOV {P:zC}{i j:Nat}{q:List Int} (hi:i<P.Parts.length) (hq:q∈(nestPts P.Parts[i].Nest).1) (hj:j<P.Parts[i].Body.length):(⟨(i:Int),(j:Int),q⟩:zN)∈progI P:=by
  have hg:gP P i=P.Parts[i]:=by simp [gP,hi]
  refine cD.2 ⟨i,dg.2 ⟨by omega,by omega⟩,?_⟩;rw [hg];exact cD.2 ⟨q,hq,ex.2 ⟨j,dg.2 ⟨by omega,by omega⟩,rfl⟩⟩
theorem zJD {P:zC} (hb:BG P) (hv:validP P=true) {k:Nat} (hk:k<P.Arrays.length):validP (shP P k)=true:=by
  have hv':=hv;obtain ⟨h1,h2,h3,h4⟩:=jO hv;have hda:=(zMT hb hv hk).1;simp only [validP,progB,bA,decide_eq_true_eq];refine ⟨⟨⟨zPP h1 hk (zLd hk) hda,h2⟩,bZ.2 fun i hi=>?_⟩,h4⟩;have hi':i<P.Parts.length:=by
    have:=(dg.1 hi).2;rw [cr] at this;exact this
  have hp:=h3 i hi';have hg:gP P i=P.Parts[i]:=by simp [gP,hi']
  show partB (P.Arrays.set k (shA P k)) (gP P i)=true;rw [hg] at hp ⊢;simp only [partB,bA] at hp ⊢;refine ⟨hp.1,bZ.2 fun q hq=>?_⟩;have hq1:=bZ.1 hp.2 q hq;rw [bA] at hq1 ⊢;refine ⟨hq1.1,bZ.2 fun s hs=>?_⟩;obtain ⟨j,hj,rfl⟩:=dq.1 hs;have hz:=zOV hi' hq hj;have hst:stI P ⟨(i:Int),(j:Int),q⟩=P.Parts[i].Body[j]:=by
    unfold stI;simp only [iN];rw [hg]; simp [hj]
  have hc:=fun a ha=>zKa hb hv hk hz (a:=a) ha;unfold accI at hc;rw [hst] at hc;simp only [stOk,bA,decide_eq_true_eq];exact ⟨hc _ (dw _ (cv.2 rfl)),bZ.2 fun a ha=>decide_eq_true (hc a (cP _ ha))⟩
theorem zQR {P:zC} (hb:BG P) (hv:validP P=true) {k:Nat} (hk:k<P.Arrays.length):BG (shP P k):=by
  obtain ⟨⟨h1,h2⟩,h3⟩:=hb;refine ⟨⟨?_,?_⟩,h3⟩
  · show (P.Arrays.set k (shA P k)).length<=_;rw [cE]; exact h1
  · refine zD1 h2 ?_ k;have:=(zMT ⟨⟨h1,h2⟩,h3⟩ hv hk).1.arr.1.2;omega
def fnN (nm:List UInt8):List (List UInt8)->Nat->Option Nat
  | [],_=>none
  | x::l,i=>if x=nm then some i else fnN nm l (i+1)
def nmsP (P:zC):List (List UInt8):=P.Arrays.map fun x=>x.Name.l
theorem zLe {nm:List UInt8}:∀ {l:List (List UInt8)}{i k:Nat},fnN nm l i=some k->∃ j,k=i+j/\l[j]?=some nm
  | [],i,k,h=>by cases h
  | x::l,i,k,h=>by
    rw [fnN] at h
    split at h
    · rename_i e; cases h; exact ⟨0,rfl,by simp [e]⟩
    · obtain ⟨j,h1,h2⟩:=zLe h
      exact ⟨j+1,by omega,by simpa using h2⟩
theorem zOW {P:zC}{nm:List UInt8}{k:Nat} (h:fnN nm (nmsP P) 0=some k):∃ hk:k<P.Arrays.length,P.Arrays[k].Name.l=nm:=by
  obtain ⟨j,h1,h2⟩:=zLe h;rw [cr] at h1;subst h1;unfold nmsP at h2;rw [dr,Option.map_eq_some_iff] at h2;obtain ⟨x,h3,h4⟩:=h2;obtain ⟨hk,e⟩:=ci.1 h3;exact ⟨hk,by rw [e]; exact h4⟩
theorem zMk {P:zC} (hb:BG P) (hv:validP P=true) {k:Nat} (hk:k<P.Arrays.length) {z w:zN} (hz:z∈progI P) (hw:w∈progI P) {a b:zG} (ha:a∈accI P z) (hb':b∈accI P w) :
    (cellA (shP P k).Arrays z.Point a==cellA (shP P k).Arrays w.Point b)=(cellA P.Arrays z.Point a==cellA P.Arrays w.Point b):=by
  have h1:=zLc (zAM hv) (zJC hb hv hz ha) (zJC hb hv hw hb')
  have h2:=zLc (zAM (zJD hb hv hk)) (zKa hb hv hk hz ha) (zKa hb hv hk hw hb')
  rw [e7,beq_iff_eq,beq_iff_eq]
  exact h2.trans h1.symm
theorem zLf {α:Type}{l:List α}{f g:α->Int}{c d:Int} (h:∀ x∈l,(f x==c)=(g x==d)):hasB (l.map f) c=hasB (l.map g) d:=by
  induction l with
  | nil=>rfl
  | cons x l ih =>
    rw [cz,cz,zHR,zHR,h x (ce ..),ih fun y hy=>h y (cb _ hy)]
theorem zJE (P:zC) (z:zN):(stI P z).Write∈accI P z:=dw _ (cv.2 rfl)
theorem zPR {P:zC} (hb:BG P) (hv:validP P=true) {k:Nat} (hk:k<P.Arrays.length) {i j:Nat} (hi:i<(progI P).length) (hj:j<(progI P).length):kindI (shP P k) i j=kindI P i j:=by
  have hz:=zH1 hi;have hw:=zH1 hj;have e1:=zLf (l:=readsF 5 (stI P (zIns P j)).Value) (f:=cellA (shP P k).Arrays (zIns P j).Point) (g:=cellA P.Arrays (zIns P j).Point) fun x hx=>zMk hb hv hk hw hz (cP _ hx) (zJE P (zIns P i));have e2:=zLf (l:=readsF 5 (stI P (zIns P i)).Value) (f:=cellA (shP P k).Arrays (zIns P i).Point) (g:=cellA P.Arrays (zIns P i).Point) fun x hx=>zMk hb hv hk hz hw (cP _ hx) (zJE P (zIns P j));have e3:=zMk hb hv hk hz hw (zJE P (zIns P i)) (zJE P (zIns P j));show kindF (rdI (shP P k) (zIns P i)) (wrI (shP P k) (zIns P i)) (rdI (shP P k) (zIns P j)) (wrI (shP P k) (zIns P j))=kindF (rdI P (zIns P i)) (wrI P (zIns P i)) (rdI P (zIns P j)) (wrI P (zIns P j));unfold kindF;have f1:hasB (rdI (shP P k) (zIns P j)) (wrI (shP P k) (zIns P i))=hasB (rdI P (zIns P j)) (wrI P (zIns P i)):=e1;have f2:hasB (rdI (shP P k) (zIns P i)) (wrI (shP P k) (zIns P j))=hasB (rdI P (zIns P i)) (wrI P (zIns P j)):=e2;have f3:(wrI (shP P k) (zIns P i)==wrI (shP P k) (zIns P j))=(wrI P (zIns P i)==wrI P (zIns P j)):=e3;rw [f1,f2,f3]
theorem zPS {P:zC} (hb:BG P) (hv:validP P=true) {k:Nat} (hk:k<P.Arrays.length):dpF (shP P k)=dpF P:=by
  unfold dpF;rw [if_pos hv,if_pos (zJD hb hv hk)];show depA (shP P k) 0 (progI P).length=depA P 0 (progI P).length;unfold depA;refine zFf fun i hi=>?_;have hi':i<(progI P).length:=by have:=dg.1 hi; omega
  show depR (shP P k) i (i+1) ((progI P).length - (i+1))=_;unfold depR;refine zFf fun j hj=>?_;have hj':j<(progI P).length:=by have:=dg.1 hj; omega
  unfold dep1;rw [zPR hb hv hk hi' hj']
theorem zJF {ws vs:List Int}{c d:Int}:∀ n:Nat,(∀ k,k<n->(ws.getD k 0==c)=(vs.getD k 0==d))->srcN ws c n=srcN vs d n
  | 0,_=>rfl
  | n+1,h=>by
    rw [srcN,srcN,h n (by omega),zJF n fun k hk=>h k (by omega)]
theorem zPx {P:zC} (hb:BG P) (hv:validP P=true) {k:Nat} (hk:k<P.Arrays.length) {i:Nat} (hi:i<(progI P).length):srcL (shP P k) i=srcL P i:=by
  show ((readsF 5 (stI P (zIns P i)).Value).map (cellA (shP P k).Arrays (zIns P i).Point)).map (fun c=>srcN (wsP (shP P k)) c i)=((readsF 5 (stI P (zIns P i)).Value).map (cellA P.Arrays (zIns P i).Point)).map (fun c=>srcN (wsP P) c i);rw [List.map_map,List.map_map];refine List.map_congr_left fun a ha=>?_;show srcN _ _ i=srcN _ _ i;refine zJF i fun j hj=>?_;have hj':j<(progI P).length:=by omega
  have e1:(wsP (shP P k)).getD j 0=wrI (shP P k) (zIns P j):=zK7 (P:=shP P k) hj';rw [e1,zK7 hj'];exact zMk hb hv hk (zH1 hj') (zH1 hi) (zJE P (zIns P j)) (cP _ ha)
end Go.LN
namespace Go.LN
theorem ownAf (a:zA) (h:BA a):oO a=some a:=by
  unfold oO;rw [zEU a.Coefs (by unfold BA at h; omega)]; rfl
theorem zBl {α:Type}{l:List α}{f:Int->List α->Option (List α)} (k:Nat) (g:α->Option α) (hl:l.length<=100000) (hk:k<=1000) (heq:∀ (i:Int) o,f i o=if decide (i<(l.length:Int))=true then (idx l i).bind fun x=>(g x).bind fun y=>(app k o [y]).bind fun o'=>f (W (i+1)) o' else some o) (hg:∀ x∈l,g x=some x):f 0 []=some l:=by
  refine zAd (fun i hi o ho=>?_) (fun o=>?_)
  · rw [heq];have k1:((i:Int)<(l.length:Int)):=by omega
    have hm:(o.length+1)*k<=100000*1000:=Nat.mul_le_mul (by omega) hk;have happ:app k o [l[i]]=some (o++[l[i]]):=oL (by simp; omega);simp only [k1,dT,if_true,yV hi,oS,hg _ (gM hi),happ];rw [vH (by omega)]
  · rw [heq]; simp
theorem ownAfs (l:List zA) (h:BL l):pS l=some l:=by
  unfold pS;rw [show qL l [] 0=some l from zBl (f:=fun i o=>qL l o i) 32 _ (by have:=h.1; omega) (by omega) (fun i o=>by rw [qL]; rfl) fun x hx=>ownAf x (h.2 x hx)]; rfl
theorem ownNs (l:List zF) (h:BN l):zAF l=some l:=by
  unfold zAF;rw [show nL l [] 0=some l from zBl (f:=fun i o=>nL l o i) 48 (fun x=>(pS x.Lo).bind fun y=>(pS x.Hi).bind fun z=>some ⟨y,z⟩) h.1 (by omega) (fun i o=>by rw [nL]; simp only [oB,Option.bind_assoc,oS,oP,id]) fun x hx=>by
    rw [ownAfs _ (h.2 x hx).1,ownAfs _ (h.2 x hx).2]; rfl]; rfl
theorem zMU {a:zA} (h:noA a=true):a=⟨[],0⟩:=by
  simp only [noA,bA,decide_eq_true_eq,beq_iff_eq] at h;obtain ⟨C,k⟩:=a;obtain ⟨h1,h2⟩:=h;have:=d7.1 h1;simp only at this h2;rw [this,h2]
theorem zMV {a:zG} (h:noC a=true):a=⟨⟨[]⟩,[]⟩:=by
  simp only [noC,bA,decide_eq_true_eq,beq_iff_eq] at h;obtain ⟨⟨N⟩,S⟩:=a;obtain ⟨h1,h2⟩:=h;have:=d7.1 h2;simp only at this h1;rw [this,h1]
theorem zOX (a:zG):mpA (fun a=>a) a=a:=by unfold mpA; rw [List.map_id']
theorem zOY {d:Int}:∀ (n:Nat) (e:zH),shapeB d n e=true->mpE (fun a=>a) n e=e
  | 0,e,h=>rfl
  | n+1,e,h=>by
    obtain ⟨_,h2⟩:=zAL h
    have hk:e.Kids.map (mpE (fun a=>a) n)=e.Kids:=by
      rw [List.map_congr_left (g:=fun k=>k) (fun k hk=>zOY n k (h2 k hk))]; exact List.map_id' _
    simp only [shapeB,bA] at h
    have ho:=h.1.2
    rw [mpE,hk]
    have hI:(if e.Kind=2 then e.Index else (⟨[],0⟩:zA))=e.Index:=by
      by_cases h2:e.Kind=2
      · rw [if_pos h2]
      · rw [if_neg h2]
        unfold ownB at ho
        rw [if_neg h2] at ho
        by_cases h3:e.Kind=3
        · rw [if_pos h3,bA,bA] at ho
          exact (zMU ho.1.2).symm
        · rw [if_neg h3] at ho
          by_cases h1:e.Kind=1
          · rw [if_pos h1,bA,bA] at ho
            exact (zMU ho.1.2).symm
          · rw [if_neg h1,bA,bA] at ho
            exact (zMU ho.1.2).symm
    have hR:(if e.Kind=3 then mpA (fun a=>a) e.Read else (⟨⟨[]⟩,[]⟩:zG))=e.Read:=by
      by_cases h3:e.Kind=3
      · rw [if_pos h3,zOX]
      · rw [if_neg h3]
        unfold ownB at ho
        by_cases h2:e.Kind=2
        · rw [if_pos h2,bA,bA] at ho
          exact (zMV ho.1.2).symm
        · rw [if_neg h2,if_neg h3] at ho
          by_cases h1:e.Kind=1
          · rw [if_pos h1,bA,bA] at ho
            exact (zMV ho.2).symm
          · rw [if_neg h1,bA,bA] at ho
            exact (zMV ho.2).symm
    rw [hI,hR]
    clear hI hR hk ho h h2
    cases e; rfl
theorem zPy {s:zL}{d:Int} (h:stmtB s d=true):mpS (fun a=>a) s=s:=by
  unfold mpS;rw [zOX,zOY 5 _ (fL h).2.1]
theorem ownSt {s:zL}{d:Int} (h:stmtB s d=true):zAE s=some s:=by
  unfold zAE;rw [mpSV (d:=d) (f:=fun a=>a) (fun b hb=>ownAf b (by
    simp only [okA,validB,bA,decide_eq_true_eq] at hb;have:=hb.1.1.1;unfold BA; omega)) h,zPy h]
  rfl
theorem ownPt {x:zI} (hb:BP x) (h:bodyB x=true):zAG x=some x:=by
  obtain ⟨b1,b2,b3⟩:=zBk h;unfold zAG;rw [show nM x 0 []=some x.Body from zBl (f:=fun i o=>nM x i o) 152 _ (by omega) (by omega) (fun i o=>by rw [nM]; rfl) fun s hs=>ownSt (b3 s hs),ownNs _ hb.1];rfl
theorem ownPg {P:zC} (hb:BG P) (hv:validP P=true):jX P=some P:=by
  obtain ⟨⟨a1,a2⟩,p1,p2⟩:=hb;unfold jX;rw [show rZ P 0 []=some P.Arrays from zBl (f:=fun i o=>rZ P i o) 40 (fun x=>(uD x.Dims).bind fun y=>some ⟨x.Name,y⟩) a1 (by omega) (fun i o=>by rw [rZ]; simp only [oB,Option.bind_assoc,oS,oP,id]) fun x hx=>by
    rw [zEU x.Dims (by have:=a2 x hx; omega)]; rfl]
  simp only [oB,oS];rw [show qA P 0 []=some P.Parts from zBl (f:=fun i o=>qA P i o) 48 _ p1 (by omega) (fun i o=>by rw [qA]; rfl) fun x hx=>by
    obtain ⟨i,hi,rfl⟩:=dq.1 hx;have hp:=(jO hv).2.2.1 i hi;rw [show gP P i=P.Parts[i] by simp [gP,hi]] at hp;simp only [partB,bA] at hp;exact ownPt (p2 _ hx) hp.1.2]
  rfl
theorem sowAf (a:zA) (h:BA a):nX a=some a:=by
  unfold nX;rw [zAk a.Coefs (by unfold BA at h; omega)]; rfl
theorem sowAfs (l:List zA) (h:BL l):sP l=some l:=by
  unfold sP;rw [show uO l [] 0=some l from zBl (f:=fun i o=>uO l o i) 32 _ (by have:=h.1; omega) (by omega) (fun i o=>by rw [uO]; rfl) fun x hx=>sowAf x (h.2 x hx)]; rfl
theorem sowNs (l:List zF) (h:BN l):mI l=some l:=by
  unfold mI;rw [show tR l [] 0=some l from zBl (f:=fun i o=>tR l o i) 48 _ h.1 (by omega) (fun i o=>by rw [tR]; rfl) fun x hx=>by
    unfold dL;rw [sowAfs _ (h.2 x hx).1,sowAfs _ (h.2 x hx).2]; rfl]; rfl
theorem sowAc (a:zG) (h:BL a.Subs):nY a=some a:=by
  unfold nY;rw [sowAfs _ h]; rfl
theorem sowE:∀ (m:Nat) (e:zH),BE m e->nN e=some e
  | m,e,h=>by
    obtain ⟨h1,h2,h3⟩:=h.own
    rw [nN]
    have hL:mJ e.Kids=some e.Kids:=by
      rw [mJ]
      simp only [same]
      rw [show rR e.Kids [] 0=some e.Kids from zBl (f:=fun i o=>rR e.Kids o i) 112 nN (by omega) (by omega) (fun i o=>by rw [rR]; rfl) fun x hx=>by
        obtain ⟨m',hm,hm'⟩:=h.kid hx
        exact sowE m' x hm']; rfl
    simp only [sowAf _ h1,sowAc _ h2,hL,oB,oS,oP]
    clear hL h h1 h2 h3
    cases e; rfl
theorem sowSt (s:zL) (h:BS s):gV s=some s:=by
  obtain ⟨h1,m,h2⟩:=h;unfold gV;rw [sowAc _ h1,sowE m _ h2]; rfl
theorem sowPt (x:zI) (h:BP x):gW x=some x:=by
  obtain ⟨b1,b2,b3⟩:=h;unfold gW gA;rw [show tS x.Body [] 0=some x.Body from zBl (f:=fun i o=>tS x.Body o i) 152 _ b2 (by omega) (fun i o=>by rw [tS]; rfl) fun s hs=>sowSt s (b3 s hs),sowNs _ b1]; rfl
theorem sowPg (P:zC) (h:BG P):kU P=some P:=by
  obtain ⟨⟨a1,a2⟩,p1,p2⟩:=h;unfold kU jJ gB;rw [show uW P.Arrays [] 0=some P.Arrays from zBl (f:=fun i o=>uW P.Arrays o i) 40 _ a1 (by omega) (fun i o=>by rw [uW]; rfl) fun x hx=>by
    unfold eT;rw [zAk x.Dims (by have:=a2 x hx; omega)]; rfl,show tT P.Parts [] 0=some P.Parts from zBl (f:=fun i o=>tT P.Parts o i) 48 _ p1 (by omega) (fun i o=>by rw [tT]; rfl) fun x hx=>sowPt x (p2 x hx)]
  rfl
theorem zBY {n:Nat}{f:Int->Option (Out Unit Bool)} (step:∀ i,i<n->f (i:Int)=f ((i+1:Nat):Int)) (fin:f (n:Int)=some (.done ())):f 0=some (.done ()):=by
  have key:∀ j i,i+j=n->f (i:Int)=some (.done ()):=by
    intro j
    induction j with
    | zero=>intro i hi; rw [show i=n by omega,fin]
    | succ j ih=>intro i hi; rw [step i (by omega)]; exact ih (i+1) (by omega)
  exact key n 0 (by omega)
theorem sAf (a:zA) (h:BA a):wK a a=some true:=by
  rw [implAff a a (by unfold BA at h; omega),zOP]
theorem sAfs (l:List zA) (h:BL l):yN l l wK=some true:=by
  unfold yN;have hb:=h.1;have hl:=zBY (n:=l.length) (f:=yM l l wK) (fun i hi=>by
      rw [yM];have k1:((i:Int)<(l.length:Int)):=by omega
      simp only [k1,dT,if_true,yV hi,oB,oS,sAf _ (h.2 _ (gM hi)),bT,bF,if_false];rw [vH (by omega)]) (by rw [yM]; simp)
  simp only [bne_self_eq_false,bF,if_false,hl,oB,oS];rfl
theorem sNs (l:List zF) (h:BN l):eY l l=some true:=by
  unfold eY wG;have hb:=h.1;have hl:=zBY (n:=l.length) (f:=yR l l pT) (fun i hi=>by
      rw [yR];have k1:((i:Int)<(l.length:Int)):=by omega
      have hx:=h.2 _ (gM hi);have e:pT l[i] l[i]=some true:=by
        unfold pT;rw [sAfs _ hx.1,sAfs _ hx.2]; rfl
      simp only [k1,dT,if_true,yV hi,oB,oS,e,bT,bF,if_false];rw [vH (by omega)]) (by rw [yR]; simp)
  simp only [bne_self_eq_false,bF,if_false,hl,oB,oS];rfl
theorem sAc (a:zG) (h:BL a.Subs):kW a a=some true:=by
  unfold kW;simp only [bQ,if_true,sAfs _ h,oB,oS];rfl
theorem sEx:∀ (m:Nat) (e:zH),BE m e->gN e e=some true
  | m,e,h=>by
    obtain ⟨h1,h2,h3⟩:=h.own
    have hl:=zBY (n:=e.Kids.length) (f:=xC e.Kids e.Kids) (fun i hi=>by
        rw [xC]
        have k1:((i:Int)<(e.Kids.length:Int)):=by omega
        obtain ⟨m',hm,hm'⟩:=h.kid (gM hi)
        have hr:=sEx m' e.Kids[i] hm'
        simp only [k1,dT,if_true,yV hi,oB,oS,same,hr,bT,bF,if_false]
        rw [vH (by omega)]) (by rw [xC]; simp)
    have hL:xN e.Kids e.Kids=some true:=by
      rw [xN]
      simp only [bne_self_eq_false,bF,if_false,same,hl,oB,oS]
      rfl
    rw [gN]
    simp only [bQ,if_true,sAf _ h1,sAc _ h2,hL,oB,oS]
    rfl
theorem sSt (s:zL) (h:BS s):pZ s s=some true:=by
  obtain ⟨h1,m,h2⟩:=h;unfold pZ;simp only [sAc _ h1,sEx m _ h2,if_true,oB,oS];rfl
theorem sPg (P:zC) (h:BG P):qM P P=some true:=by
  obtain ⟨⟨a1,a2⟩,p1,p2⟩:=h;unfold qM xZ wH;have hl:=zBY (n:=P.Arrays.length) (f:=yO P.Arrays P.Arrays sX) (fun i hi=>by
      rw [yO];have k1:((i:Int)<(P.Arrays.length:Int)):=by omega
      have hd:=a2 _ (gM hi);have e:sX P.Arrays[i] P.Arrays[i]=some true:=by
        unfold sX;simp only [bQ,if_true,implEqI P.Arrays[i].Dims P.Arrays[i].Dims (by omega),zL8,oB,oS];rfl
      simp only [k1,dT,if_true,yV hi,oB,oS,e,bT,bF,if_false];rw [vH (by omega)]) (by rw [yO]; simp)
  have hl2:=zBY (n:=P.Parts.length) (f:=yT P.Parts P.Parts sY) (fun i hi=>by
      rw [yT];have k1:((i:Int)<(P.Parts.length:Int)):=by omega
      obtain ⟨x1,x2,x3⟩:=p2 _ (gM hi);have hS:xM P.Parts[i].Body P.Parts[i].Body pZ=some true:=by
        unfold xM;have hl3:=zBY (n:=P.Parts[i].Body.length) (f:=yS P.Parts[i].Body P.Parts[i].Body pZ) (fun k hk=>by
            rw [yS];have k2:((k:Int)<(P.Parts[i].Body.length:Int)):=by omega
            simp only [k2,dT,if_true,yV hk,oB,oS,sSt _ (x3 _ (gM hk)),bT,bF,if_false];rw [vH (by omega)]) (by rw [yS]; simp)
        simp only [bne_self_eq_false,bF,if_false,hl3,oB,oS];rfl
      have e:sY P.Parts[i] P.Parts[i]=some true:=by
        unfold sY;simp only [sNs _ x1,if_true,hS,oB,oS];rfl
      simp only [k1,dT,if_true,yV hi,oB,oS,e,bT,bF,if_false];rw [vH (by omega)]) (by rw [yT]; simp)
  simp only [bne_self_eq_false,bF,if_false,hl,hl2,oB,oS];rfl
theorem sNil:qM ⟨[],[]⟩ ⟨[],[]⟩=some true:=sPg _ ⟨⟨by simp,fun _ h=>by cases h⟩,by simp,fun _ h=>by cases h⟩
end Go.LN
