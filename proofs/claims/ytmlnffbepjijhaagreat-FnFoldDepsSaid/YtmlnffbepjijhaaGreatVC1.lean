/- Helper of the proof (see the last text). -/
import Derived.Test.YtmlnffbepjijhaaGreatVB1
import Derived.Test.YtmlnffbepjijhaaGreatQZ
set_option linter.unusedVariables false
set_option linter.unusedSimpArgs false
namespace Go.LN
theorem zAd {α:Type}{l:List α}{f:Int->List α->Option (List α)} (step:∀ (i:Nat) (h:i<l.length) (o:List α),o.length=i->f (i:Int) o=f ((i+1:Nat):Int) (o++[l[i]])) (fin:∀ o,f (l.length:Int) o=some o):f 0 []=some l:=by
  have key:∀ j i,i+j=l.length->f (i:Int) (l.take i)=some l:=by
    intro j
    induction j with
    | zero =>
      intro i hi;rw [show i=l.length by omega,fin,dc (cZ _)]
    | succ j ih =>
      intro i hi;have aN:i<l.length:=by omega
      have:=ih (i+1) (by omega);rw [List.take_add_one,cg aN,Option.toList_some] at this;rw [step i aN _ (by rw [cD]; omega)];exact this
  exact key _ 0 (cC _)
theorem copyExpr:∀ (m:Nat) (e:zC),BE m e->nB e=some e
  | m,e,h=>by
    obtain ⟨h1,h2,h3⟩:=h.own
    rw [nB]
    have hl:=zAd (l:=e.Kids) (f:=fun i o=>tB e i o) (fun i hi o ho=>by
        show tB e (i:Int) o=_
        rw [tB]
        have k1:((i:Int)<(e.Kids.length:Int)):=by omega
        obtain ⟨m',hm,hm'⟩:=h.kid (gM hi)
        have happ:app 112 o [e.Kids[i]]=some (o++[e.Kids[i]]):=nP (by simp; omega)
        have hr:=copyExpr m' e.Kids[i] hm'
        simp only [k1,dT,if_true,xM hi,oB,oS,same,hr,happ]
        rw [tG (by omega)]) (fun o=>by
        show tB e (e.Kids.length:Int) o=_
        rw [tB]; simp)
    simp only [specCopyAff _ h1,specCopyAcc _ h2,oB,oS,same]
    rw [show tB e 0 []=some e.Kids from hl]
    clear hl h h1 h2 h3
    cases e; rfl
theorem copyStmt (s:zG) (h:BS s):dG s=some s:=by
  obtain ⟨h1,m,h2⟩:=h;unfold dG;rw [specCopyAcc _ h1,copyExpr m _ h2];rfl
theorem copyNest (nest:List zF) (h:BN nest):jJ nest=some nest:=by
  obtain ⟨h1,h2⟩:=h;unfold jJ;have hl:=zAd (l:=nest) (f:=fun i o=>sA nest o i) (fun i hi o ho=>by
      show sA nest o (i:Int)=_;rw [sA];have k1:((i:Int)<(nest.length:Int)):=by omega
      obtain ⟨⟨q1,q2⟩,q3,q4⟩:=h2 _ (gM hi);have happ:app 48 o [nest[i]]=some (o++[nest[i]]):=nP (by simp; omega);have hlo:=zAd (l:=nest[i].Lo) (f:=fun k o=>qS nest (i:Int) k o) (fun k hk o ho=>by
          show qS nest (i:Int) (k:Int) o=_;rw [qS];have k2:((k:Int)<(nest[i].Lo.length:Int)):=by omega
          have hp:app 32 o [nest[i].Lo[k]]=some (o++[nest[i].Lo[k]]):=nP (by simp; omega);have ha:=q2 _ (gM hk);have hpn:app 8 ([]:List Int) nest[i].Lo[k].Coefs=some nest[i].Lo[k].Coefs:=zBE _ (by unfold BA at ha; omega);simp only [xM hi,k2,dT,if_true,xM hk,oB,oS,hpn,hp];rw [tG (by omega)]) (fun o=>by
          show qS nest (i:Int) (nest[i].Lo.length:Int) o=_;rw [qS]; simp [xM hi])
      have hhi:=zAd (l:=nest[i].Hi) (f:=fun k o=>qT nest (i:Int) k o) (fun k hk o ho=>by
          show qT nest (i:Int) (k:Int) o=_;rw [qT];have k2:((k:Int)<(nest[i].Hi.length:Int)):=by omega
          have hp:app 32 o [nest[i].Hi[k]]=some (o++[nest[i].Hi[k]]):=nP (by simp; omega);have ha:=q4 _ (gM hk);have hpn:app 8 ([]:List Int) nest[i].Hi[k].Coefs=some nest[i].Hi[k].Coefs:=zBE _ (by unfold BA at ha; omega);simp only [xM hi,k2,dT,if_true,xM hk,oB,oS,hpn,hp];rw [tG (by omega)]) (fun o=>by
          show qT nest (i:Int) (nest[i].Hi.length:Int) o=_;rw [qT]; simp [xM hi])
      simp only [k1,dT,if_true,oB,oS,hlo,hhi,happ];rw [tG (by omega)]) (fun o=>by
      show sA nest o (nest.length:Int)=_;rw [sA]; simp)
  rw [hl]; rfl
theorem copyProg (P:zH) (h:BG P):sM P=some P:=by
  obtain ⟨⟨h1,h1'⟩,h2,h3⟩:=h;unfold sM;have ha:=zAd (l:=P.Arrays) (f:=fun i o=>qU P i o) (fun i hi o ho=>by
      show qU P (i:Int) o=_;rw [qU];have k1:((i:Int)<(P.Arrays.length:Int)):=by omega
      have hd:=h1' _ (gM hi);have happ:app 40 o [P.Arrays[i]]=some (o++[P.Arrays[i]]):=nP (by simp; omega);have hpn:app 8 ([]:List Int) P.Arrays[i].Dims=some P.Arrays[i].Dims:=zBE _ (by omega);simp only [k1,dT,if_true,xM hi,oB,oS,hpn,happ];rw [tG (by omega)]) (fun o=>by
      show qU P (P.Arrays.length:Int) o=_;rw [qU]; simp)
  have hp:=zAd (l:=P.Parts) (f:=fun i o=>uK P i o) (fun i hi o ho=>by
      show uK P (i:Int) o=_;rw [uK];have k1:((i:Int)<(P.Parts.length:Int)):=by omega
      obtain ⟨b1,b2,b3⟩:=h3 _ (gM hi);have happ:app 48 o [P.Parts[i]]=some (o++[P.Parts[i]]):=nP (by simp; omega);have hb:=zAd (l:=P.Parts[i].Body) (f:=fun k o=>qV P (i:Int) k o) (fun k hk o ho=>by
          show qV P (i:Int) (k:Int) o=_;rw [qV];have k2:((k:Int)<(P.Parts[i].Body.length:Int)):=by omega
          have hp:app 152 o [P.Parts[i].Body[k]]=some (o++[P.Parts[i].Body[k]]):=nP (by simp; omega);simp only [xM hi,k2,dT,if_true,xM hk,oB,oS,copyStmt _ (b3 _ (gM hk)),hp];rw [tG (by omega)]) (fun o=>by
          show qV P (i:Int) (P.Parts[i].Body.length:Int) o=_;rw [qV]; simp [xM hi])
      simp only [k1,dT,if_true,xM hi,oB,oS,copyNest _ b1,hb,happ];rw [tG (by omega)]) (fun o=>by
      show uK P (P.Parts.length:Int) o=_;rw [uK]; simp)
  rw [ha,hp]; rfl
end Go.LN
namespace Go.LN
theorem BE.up1:∀ {n:Nat}{e:zC},BE n e->BE (n+1) e
  | 0,e,⟨h1,h2,h3⟩=>⟨h1,h2,by rw [h3]; simp,by rw [h3]; intro k hk; cases hk⟩
  | n+1,e,⟨h1,h2,h3,h4⟩=>⟨h1,h2,h3,fun k hk=>BE.up1 (h4 k hk)⟩
theorem BE.up {n m:Nat}{e:zC} (h:BE n e) (hm:n<=m):BE m e:=by
  obtain ⟨k,rfl⟩:=Nat.exists_eq_add_of_le hm
  induction k with
  | zero=>exact h
  | succ k ih=>exact BE.up1 (ih (by omega))
def QL (q:Nat) (l:List zA):Prop:=l.length<=q/\∀ a∈l,BA a
def QN (q:Nat) (nest:List zF):Prop:=nest.length<=2000/\∀ x∈nest,QL q x.Lo/\QL q x.Hi
def QS (q:Nat) (s:zG):Prop:=QL q s.Write.Subs/\BA s.Value.Index/\BL s.Value.Read.Subs/\s.Value.Kids.length<=q/\∀ k∈s.Value.Kids,BE 6 k
theorem QL.up {q r:Nat}{l:List zA} (h:QL q l) (hq:q<=r):QL r l:=⟨cY h.1 hq,h.2⟩
theorem QL.bl {q:Nat}{l:List zA} (h:QL q l) (hq:q<=1000):BL l:=⟨cY h.1 hq,h.2⟩
theorem QL.app {q k:Nat}{l m:List zA} (h:QL q l) (hm:QL k m):QL (q+k) (l++m):=by
  refine ⟨by rw [lA]; exact Nat.add_le_add h.1 hm.1,fun a ha=>?_⟩;rcases cU.1 ha with ha | ha
  · exact h.2 a ha
  · exact hm.2 a ha
theorem QL.nil {q:Nat}:QL q []:=⟨ep _,fun _ h=>by cases h⟩
theorem QL.one {a:zA} (h:BA a):QL 1 [a]:=⟨cZ _,fun _ h'=>cx.1 h' ▸ h⟩
theorem QL.two {a b:zA} (h:BA a) (h2:BA b):QL 2 [a,b]:=QL.app (QL.one h) (QL.one h2)
theorem QN.up {q r:Nat}{l:List zF} (h:QN q l) (hq:q<=r):QN r l:=⟨h.1,fun x hx=>⟨(h.2 x hx).1.up hq,(h.2 x hx).2.up hq⟩⟩
theorem QN.bn {q:Nat}{l:List zF} (h:QN q l) (hq:q<=1000):BN l:=⟨by have:=h.1; omega,fun x hx=>⟨(h.2 x hx).1.bl hq,(h.2 x hx).2.bl hq⟩⟩
theorem QN.set {q:Nat}{l:List zF} (h:QN q l) {x:zF} (hx:QL q x.Lo/\QL q x.Hi) (k:Nat):QN q (l.set k x):=⟨by rw [cR]; exact h.1,zDO h.2 hx k⟩
theorem QS.up {q r:Nat}{s:zG} (h:QS q s) (hq:q<=r):QS r s:=⟨h.1.up hq,h.2.1,h.2.2.1,cY h.2.2.2.1 hq,h.2.2.2.2⟩
theorem QS.bs {q:Nat}{s:zG} (h:QS q s) (hq:q<=1000):BS s:=⟨h.1.bl hq,7,h.2.1,h.2.2.1,by have:=h.2.2.2.1; omega,h.2.2.2.2⟩
theorem zJ4 {a:zA} (h:a.Coefs.length=4):BA a:=by unfold BA; omega
theorem zLv (q:Nat):∀ (j:Nat) (out:List zF),5<=out.length+j->1<=out.length->QN q out->Ok (oF out) (QN q)
  | 0,out,hj,h1,h=>by
    rw [oF]
    refine Ok.ite_dec (fun hc=>absurd hc (by omega)) fun _=>Ok.pure h
  | j+1,out,hj,h1,h=>by
    rw [oF]
    refine Ok.ite_dec (fun hc=>?_) fun _=>Ok.pure h
    refine Ok.idx (by omega) (by omega) fun x hx _=>Ok.app (by simp; omega) ?_
    refine zLv q j _ (by rw [lA]; simp; omega) (by rw [lA]; omega) ⟨by rw [lA]; simp; omega,fun y hy=>?_⟩
    rcases cU.1 hy with hy | hy
    · exact h.2 y hy
    · rw [cx.1 hy]; exact h.2 x hx
theorem mut2 (q:Nat) (hq:q<=300) (r:zO) (nest:List zF) (h:QN q nest) (h0:0<=r.p) (h1:r.p<=900000000):Ok (kW r nest) (fun y=>QN (q+2) y.1/\0<=y.2.p/\y.2.p<=r.p+2):=by
  have hup:=h.up (show q<=q+2 by omega);unfold kW;rw [copyNest nest (h.bn (by omega))];refine Ok.bind_some (Ok.ite_beq (fun _=>Ok.pure ⟨hup,h0,by dsimp only; omega⟩) fun hne=>?_);have hpos:0<nest.length:=by omega
  have br:=h.1;have hW:W ((nest.length:Int) - 1)=((nest.length - 1:Nat):Int):=by rw [qO (by omega) (by omega)]; omega
  refine Ok.call (eE r 40) ⟨h0,by omega⟩ fun y2 s g1 g2 g3=>?_;refine Ok.ite_beq (fun _=>?_) fun _=>Ok.ite_beq (fun _=>?_) fun _=>Ok.ite_beq (fun _=>?_) fun _=>Ok.ite_beq (fun _=>?_) fun _=>Ok.ite_beq (fun _=>?_) fun _=>?_
  · refine Ok.idx (by omega) (by omega) fun x hx _=>Ok.call (eE s 2) ⟨by omega,by omega⟩ fun y5 s2 k1 k2 k3=>Ok.call (zEU y5) ⟨k1,by omega⟩ fun a c1 c2=>?_;have hxx:=h.2 x hx;refine Ok.app (by have:=hxx.1.1; simp; omega) (Ok.pure ⟨QN.set (x:=⟨x.Lo++[a],x.Hi⟩) hup ⟨(hxx.1.app (QL.one (zJ4 c1))).up (show q+1<=q+2 by omega),hxx.2.up (show q<=q+2 by omega)⟩ _,by dsimp only; omega,by dsimp only; omega⟩)
  · rw [hW];refine Ok.idx (by omega) (by omega) fun x hx _=>?_;have hxx:=h.2 x hx;exact Ok.pure ⟨QN.set (x:=⟨x.Lo,[]⟩) hup ⟨hxx.1.up (show q<=q+2 by omega),QL.nil⟩ _,by dsimp only; omega,by dsimp only; omega⟩
  · rw [hW];refine Ok.idx (by omega) (by omega) fun x hx _=>Ok.call (jO 1) trivial (Ok.call (jO 2) trivial ?_);have hxx:=h.2 x hx;exact Ok.app (by have:=hxx.2.1; simp; omega) (Ok.pure ⟨QN.set (x:=⟨x.Lo,x.Hi++[⟨[0,0,0,0],1⟩,⟨[0,0,0,0],2⟩]⟩) hup ⟨hxx.1.up (show q<=q+2 by omega),hxx.2.app (QL.two (zJ4 rfl) (zJ4 rfl))⟩ _,by dsimp only; omega,by dsimp only; omega⟩)
  · refine Ok.call (jO 99) trivial (Ok.idx (by omega) (by omega) fun x hx _=>?_);have hxx:=h.2 x hx;exact Ok.pure ⟨QN.set (x:=⟨x.Lo,[⟨[0,0,0,0],99⟩]⟩) hup ⟨hxx.1.up (show q<=q+2 by omega),(QL.one (zJ4 rfl)).up (show 1<=q+2 by omega)⟩ _,by dsimp only; omega,by dsimp only; omega⟩
  · refine Ok.bind (zLv q 5 nest (by omega) hpos h) fun z hz=>Ok.pure ⟨hz.up (by omega),by dsimp only; omega,by dsimp only; omega⟩
  · exact Ok.pure ⟨hup,by dsimp only; omega,by dsimp only; omega⟩
theorem mut3 (q:Nat) (hq:q<=300) (r:zO) (s:zG) (h:QS q s) (h0:0<=r.p) (h1:r.p<=900000000):Ok (qL r s) (fun y=>QS (q+2) y.1/\0<=y.2.p/\y.2.p<=r.p+2):=by
  obtain ⟨w1,w2,w3,w4,w5⟩:=h.up (show q<=q+2 by omega);obtain ⟨v1,_,_,v4,_⟩:=id h;have v11:=v1.1;unfold qL;rw [copyStmt s (h.bs (by omega))];refine Ok.bind_some (Ok.call (eE r 40) ⟨h0,by omega⟩ fun y2 y3 g1 g2 g3=>?_);have fin:∀ (o:Str×List zA×Int×Int×List zC×zO),(QL (q+2) o.2.1/\(o.2.2.2.2.1.length<=q+2/\∀ k∈o.2.2.2.2.1,BE 6 k)/\0<=o.2.2.2.2.2.p/\o.2.2.2.2.2.p<=r.p+2)->QS (q+2) (zG.mk (zJ.mk o.1 o.2.1) (zC.mk o.2.2.1 o.2.2.2.1 s.Value.Index s.Value.Read o.2.2.2.2.1))/\0<=o.2.2.2.2.2.p/\o.2.2.2.2.2.p<=r.p+2 :=
    fun o ⟨a,b,c⟩=>⟨⟨a,w2,w3,b.1,b.2⟩,c⟩
  refine Ok.bind (φ:=fun o:Str×List zA×Int×Int×List zC×zO=>QL (q+2) o.2.1/\(o.2.2.2.2.1.length<=q+2/\∀ k∈o.2.2.2.2.1,BE 6 k)/\0<=o.2.2.2.2.2.p/\o.2.2.2.2.2.p<=r.p+2) ?_ fun o ho=>by
    obtain ⟨o1,o2,o3,o4,o5,o6⟩:=o;exact Ok.pure (fin _ ho)
  refine Ok.ite_beq (fun _=>?_) fun _=>?_
  · exact Ok.call (zBZ y3 _) ⟨by decide,by omega,by omega⟩ fun z t _ k3=>Ok.pure ⟨w1,⟨w4,w5⟩,by dsimp only; omega,by dsimp only; omega⟩
  refine Ok.bind (φ:=fun o:List zA×Int×Int×List zC×zO=>QL (q+2) o.1/\(o.2.2.2.1.length<=q+2/\∀ k∈o.2.2.2.1,BE 6 k)/\0<=o.2.2.2.2.p/\o.2.2.2.2.p<=r.p+2) ?_ fun o ho=>by
    obtain ⟨o2,o3,o4,o5,o6⟩:=o;exact Ok.pure ho
  refine Ok.ite_beq (fun _=>?_) fun _=>?_
  · exact Ok.call (zEU 3) (by omega) fun a c1 c2=>Ok.call zAz trivial (Ok.app (by simp; omega) (Ok.pure ⟨v1.app (QL.two (zJ4 c1) (zJ4 rfl)),⟨w4,w5⟩,by dsimp only; omega,by dsimp only; omega⟩))
  refine Ok.bind (φ:=fun o:Int×Int×List zC×zO=>(o.2.2.1.length<=q+2/\∀ k∈o.2.2.1,BE 6 k)/\0<=o.2.2.2.p/\o.2.2.2.p<=r.p+2) ?_ fun o ho=>by
    obtain ⟨o3,o4,o5,o6⟩:=o;exact Ok.pure ⟨w1,ho⟩
  refine Ok.ite_beq (fun _=>?_) fun _=>?_
  · exact Ok.call (vX y3 _) ⟨by decide,by omega,by omega,by decide⟩ fun z t _ _ k3=>Ok.pure ⟨⟨w4,w5⟩,by dsimp only; omega,by dsimp only; omega⟩
  refine Ok.bind (φ:=fun o:Int×List zC×zO=>(o.2.1.length<=q+2/\∀ k∈o.2.1,BE 6 k)/\0<=o.2.2.p/\o.2.2.p<=r.p+2) ?_ fun o ho=>by
    obtain ⟨o4,o5,o6⟩:=o;exact Ok.pure ho
  refine Ok.ite_beq (fun _=>?_) fun _=>?_
  · exact Ok.call (vX y3 _) ⟨by decide,by omega,by omega,by decide⟩ fun z t _ _ k3=>Ok.pure ⟨⟨w4,w5⟩,by dsimp only; omega,by dsimp only; omega⟩
  refine Ok.bind (φ:=fun o:List zC=>o.length<=q+2/\∀ k∈o,BE 6 k) ?_ fun o ho=>Ok.pure ⟨ho,by dsimp only; omega,by dsimp only; omega⟩;refine Ok.ite_beq (fun _=>?_) fun _=>Ok.pure ⟨w4,w5⟩;refine Ok.app (by show (_+1)*112<=_; omega) (Ok.pure ⟨by show (_++_:List zC).length<=_; rw [lA]; show _+1<=_; omega,fun k hk=>?_⟩);rcases cU.1 hk with hk | hk
  · exact w5 k hk
  · rw [cx.1 hk];exact BE.up (n:=0) ⟨ep _,⟨ep _,fun _ h=>by cases h⟩,rfl⟩ (by omega)
end Go.LN
namespace Go.LN
def DX (x:zL):Prop:=QN 100 x.Nest/\x.Body.length<=1000/\∀ s∈x.Body,QS 100 s
def DP (P:zH):Prop:=(P.Arrays.length<=1000/\∀ a∈P.Arrays,a.Dims.length<=1000)/\P.Parts.length<=1000/\∀ x∈P.Parts,DX x
theorem DX.bp {x:zL} (h:DX x):BP x:=⟨h.1.bn (by omega),by have:=h.2.1; omega,fun s hs=>(h.2.2 s hs).bs (by omega)⟩
theorem DP.bg {P:zH} (h:DP P):BG P:=⟨⟨by have:=h.1.1; omega,h.1.2⟩,by have:=h.2.1; omega,fun x hx=>(h.2.2 x hx).bp⟩
def PB (l:List zL):Prop:=l.length<=1000/\∀ x∈l,BP x
theorem PB.set {l:List zL} (h:PB l) {x:zL} (hx:BP x) (k:Nat):PB (l.set k x):=⟨by rw [cR]; exact h.1,zDO h.2 hx k⟩
def AR (l:List zD):Prop:=l.length<=2000/\∀ a∈l,a.Dims.length<=1000
def RD (s:zO):Prop:=0<=s.p/\s.p<=700001000
theorem mut4 (r:zO) (P:zH) (h:DP P) (h0:0<=r.p) (h1:r.p<=700000000):Ok (nX r P) (fun y=>(BG y.1/\AR y.1.Arrays)/\RD y.2):=by
  obtain ⟨⟨a1,a2⟩,p1,p2⟩:=id h;have hA:AR P.Arrays:=⟨by omega,a2⟩;have hP:PB P.Parts:=⟨p1,fun x hx=>(p2 x hx).bp⟩;have hW:0<P.Parts.length->W ((P.Parts.length:Int) - 1)=((P.Parts.length - 1:Nat):Int):=fun hp=>by rw [qO (by omega) (by omega)]; omega
  unfold nX;rw [copyProg P h.bg];refine Ok.bind_some (Ok.call (eE r 60) ⟨h0,by omega⟩ fun y2 y3 g1 g2 g3=>?_);have hR:RD y3:=⟨by omega,by omega⟩;refine Ok.bind (φ:=fun o:List zD×List zL×zO=>AR o.1/\PB o.2.1/\RD o.2.2) ?_ fun o ho=>by
    obtain ⟨o1,o2,o3⟩:=o;exact Ok.pure ⟨⟨⟨⟨by have:=ho.1.1; dsimp only at this ⊢; omega,ho.1.2⟩,by have:=ho.2.1.1; dsimp only at this ⊢; omega,ho.2.1.2⟩,ho.1⟩,ho.2.2⟩
  refine Ok.ite_beq (fun _=>?_) fun _=>?_
  · refine Ok.call (zBZ y3 _) ⟨by decide,by omega,by omega⟩ fun z t _ k3=>Ok.call (vX t _) ⟨by decide,by omega,by omega,by decide⟩ fun z2 t2 _ _ k4=>Ok.app (by show (_+1)*40<=_; omega) (Ok.pure ⟨⟨by show (_++_:List zD).length<=_; rw [lA]; show _+1<=_; omega,fun a ha=>?_⟩,hP,⟨by dsimp only; omega,by dsimp only; omega⟩⟩);rcases cU.1 ha with ha | ha
    · exact a2 a ha
    · rw [cx.1 ha]; show 1<=1000; omega
  refine Ok.bind (φ:=fun o:List zD×List zL×zO=>AR o.1/\PB o.2.1/\RD o.2.2) ?_ fun o ho=>by
    obtain ⟨o1,o2,o3⟩:=o;exact Ok.pure ho
  refine Ok.ite_beq (fun _=>?_) fun _=>?_
  · refine Ok.bind (φ:=fun o:List zD×zO=>AR o.1/\RD o.2) ?_ fun o ho=>by
      obtain ⟨o1,o3⟩:=o;exact Ok.pure ⟨ho.1,hP,ho.2⟩
    refine Ok.ite_dec (fun hc=>?_) fun _=>Ok.pure ⟨hA,hR⟩;refine Ok.call (vX y3 _) ⟨by decide,by omega,by omega,by decide⟩ fun z t _ _ k3=>Ok.idx (by omega) (by omega) fun x hx _=>Ok.bind_pure (Ok.pure ⟨⟨by show (List.set _ _ _).length<=_; rw [cR]; exact hA.1,zDO hA.2 (show ([z]:List Int).length<=1000 by simp) _⟩,⟨by dsimp only; omega,by dsimp only; omega⟩⟩)
  refine Ok.bind (φ:=fun o:List zL×zO=>PB o.1/\RD o.2) ?_ fun o ho=>by
    obtain ⟨o1,o3⟩:=o;exact Ok.pure ⟨hA,ho⟩
  refine Ok.ite_beq (fun _=>?_) fun _=>?_
  · refine Ok.bind (φ:=fun o:List zL×zO=>PB o.1/\RD o.2) ?_ fun o ho=>by
      obtain ⟨o1,o3⟩:=o;exact Ok.pure ho
    refine Ok.ite_dec (fun hc=>?_) fun _=>Ok.pure ⟨hP,hR⟩;refine Ok.idx (by omega) (by omega) fun x hx _=>?_;refine Ok.bind (mut2 100 (by omega) y3 x.Nest (p2 x hx).1 (by omega) (by omega)) fun q1 k1=>?_;obtain ⟨n1,s1⟩:=q1;obtain ⟨c1,c2,c3⟩:=k1;refine Ok.bind (mut2 (100+2) (by omega) s1 n1 c1 c2 (by dsimp only at c3; omega)) fun q2 k2=>?_;obtain ⟨n2,s2⟩:=q2;obtain ⟨d1,d2,d3⟩:=k2;refine Ok.bind (mut2 (100+2+2) (by omega) s2 n2 d1 d2 (by dsimp only at c3 d3; omega)) fun q3 k3=>?_;obtain ⟨n,s⟩:=q3;have hn:=k3.1;refine Ok.idx (by omega) (by omega) fun x7 hx7 _=>Ok.bind_pure (Ok.pure ⟨hP.set (x:=⟨n,x7.Body⟩) ⟨hn.bn (by omega),(p2 x7 hx7).bp.2.1,(p2 x7 hx7).bp.2.2⟩ _,⟨k3.2.1,by have:=k3.2.2; dsimp only at this c3 d3 ⊢; omega⟩⟩)
  refine Ok.bind (φ:=fun o:List zL×zO=>PB o.1/\RD o.2) ?_ fun o ho=>by
    obtain ⟨o1,o3⟩:=o;exact Ok.pure ho
  refine Ok.ite_beq (fun _=>?_) fun _=>?_
  · refine Ok.bind (φ:=fun b=>b=true->0<P.Parts.length/\∀ x,P.Parts[P.Parts.length - 1]?=some x->0<x.Body.length) ?_ fun b hb=>?_
    · refine Ok.ite_dec (fun hc=>?_) fun _=>Ok.pure (fun h=>by cases h);have hp:0<P.Parts.length:=by omega
      rw [hW hp];refine Ok.idx (by omega) (by omega) fun x hx he=>Ok.pure fun hd=>⟨hp,fun x' hx'=>?_⟩;rw [iN] at he;rw [he] at hx';cases hx'
      have:=of_decide_eq_true hd;omega
    · refine Ok.bind (φ:=fun o:List zL×zO=>PB o.1/\RD o.2) ?_ fun o ho=>by
        obtain ⟨o1,o3⟩:=o;exact Ok.pure ho
      refine Ok.ite (fun hc=>?_) fun _=>Ok.pure ⟨hP,hR⟩;obtain ⟨hp,hbody⟩:=hb hc;rw [hW hp];refine Ok.idx (by omega) (by omega) fun x hx he=>?_;rw [iN] at he;have hb0:=hbody x he;have hdx:=p2 x hx;refine Ok.idx (by omega) (by omega) fun x0 hx0 _=>?_;refine Ok.bind (mut3 100 (by omega) y3 x0 (hdx.2.2 x0 hx0) (by omega) (by omega)) fun q1 k1=>?_;obtain ⟨n1,s1⟩:=q1;obtain ⟨c1,c2,c3⟩:=k1;refine Ok.bind (mut3 (100+2) (by omega) s1 n1 c1 c2 (by dsimp only at c3; omega)) fun q2 k2=>?_;obtain ⟨n2,s2⟩:=q2;obtain ⟨d1,d2,d3⟩:=k2;refine Ok.bind (mut3 (100+2+2) (by omega) s2 n2 d1 d2 (by dsimp only at c3 d3; omega)) fun q3 k3=>?_;obtain ⟨n,s⟩:=q3;have hn:=k3.1;refine Ok.bind_pure (Ok.pure ⟨hP.set (x:=⟨x.Nest,x.Body.set 0 n⟩) ⟨hdx.bp.1,by rw [cR]; exact hdx.bp.2.1,zDO hdx.bp.2.2 (hn.bs (by omega)) _⟩ _,⟨k3.2.1,by have:=k3.2.2; dsimp only at this c3 d3 ⊢; omega⟩⟩)
  refine Ok.bind (φ:=fun o:List zL=>PB o) ?_ fun o ho=>Ok.pure ⟨ho,hR⟩;refine Ok.ite_beq (fun _=>?_) fun _=>Ok.pure hP;refine Ok.bind (φ:=fun o:List zL=>PB o) ?_ fun o ho=>Ok.pure ho;refine Ok.ite_dec (fun hc=>?_) fun _=>Ok.pure hP;have hp:0<P.Parts.length:=by omega
  rw [hW hp];refine Ok.idx (by omega) (by omega) fun x hx he=>Ok.bind_pure (Ok.pure (hP.set (x:=⟨x.Nest,[]⟩) ⟨(p2 x hx).bp.1,by show 0<=100000; omega,fun _ h=>by cases h⟩ _))
theorem SE.be:∀ {n:Nat}{e:zC},SE n e->BE n e
  | 0,e,⟨h1,h2,h3⟩=>⟨by have:=h1.1; unfold BA; omega,⟨by have:=h2.2.1; omega,fun a ha=>by have:=(h2.2.2 a ha).1; unfold BA; omega⟩,h3⟩
  | n+1,e,⟨h1,h2,h3,h4⟩=>⟨by have:=h1.1; unfold BA; omega,⟨by have:=h2.2.1; omega,fun a ha=>by have:=(h2.2.2 a ha).1; unfold BA; omega⟩,by omega,fun k hk=>SE.be (h4 k hk)⟩
theorem SS.qs {s:zG} (h:SS s):QS 100 s:=by
  obtain ⟨h1,h2⟩:=h;have hb:=SE.be h2;exact ⟨⟨h1.2.1,fun a ha=>by have:=(h1.2.2 a ha).1; unfold BA; omega⟩,hb.1,hb.2.1,by have:=h2.2.2.1; omega,fun k hk=>BE.up (n:=4) (m:=6) (hb.2.2.2 k hk) (by omega)⟩
theorem LL.ql {l:List zA} (h:LL l):QL 100 l:=⟨h.1,fun a ha=>by have:=(h.2 a ha).1; unfold BA; omega⟩
theorem SG.dp {P:zH} (h:SG 1000 P):DP P:=by
  obtain ⟨⟨h1,h2⟩,h3,h4⟩:=h;refine ⟨⟨h1,fun a ha=>by have:=(h2 a ha).2; omega⟩,h3,fun x hx=>?_⟩;obtain ⟨⟨k1,k2⟩,k3,k4⟩:=h4 x hx;exact ⟨⟨by omega,fun y hy=>⟨(k2 y hy).1.ql,(k2 y hy).2.ql⟩⟩,k3,fun s hs=>(k4 s hs).qs⟩
end Go.LN
namespace Go.LN
theorem eJ {P:zH} (h:validP P=true):arrB P.Arrays=true/\P.Parts.length<=4/\(∀ i,i<P.Parts.length->partB P.Arrays (gP P i)=true)/\(progI P).length<=120:=by
  simp only [validP,progB,bA,decide_eq_true_eq] at h;obtain ⟨⟨⟨h1,h2⟩,h3⟩,h4⟩:=h;exact ⟨h1,h2,fun i hi=>cf.1 h3 i (df.2 ⟨ep _,by omega⟩),h4⟩
end Go.LN
namespace Go.LN
def DA (x:zD):Prop:=(∃ d,x.Dims=[d]/\1<=d/\d<=6)∨∃ d e,x.Dims=[d,e]/\(1<=d/\d<=6)/\1<=e/\e<=6
def GA (l:List zD):Prop:=l.length<=4/\(∀ x∈l,DA x)/\l.Pairwise fun x y=>x.Name.l ≠ y.Name.l
theorem mul36 {d e:Int} (h1:1<=d) (h2:d<=6) (h3:1<=e) (h4:e<=6):1<=d*e/\d*e<=36:=by
  have:d=1∨d=2∨d=3∨d=4∨d=5∨d=6:=by omega
  rcases this with rfl | rfl | rfl | rfl | rfl | rfl <;> omega
theorem zOj {x:zD}{d:Int} (h:x.Dims=[d]) (h1:1<=d) (h2:d<=6):sizeF x=d:=by
  unfold sizeF;rw [h,szL,szL,Int.one_mul,qO (by omega) (by omega)]
theorem zOk {x:zD}{d e:Int} (h:x.Dims=[d,e]) (h1:1<=d) (h2:d<=6) (h3:1<=e) (h4:e<=6):sizeF x=d*e:=by
  unfold sizeF;have:=mul36 h1 h2 h3 h4;rw [h,szL,szL,szL,Int.one_mul,qO (x:=d) (by omega) (by omega),qO (by omega) (by omega)]
theorem DA.size {x:zD} (h:DA x):1<=sizeF x/\sizeF x<=36:=by
  rcases h with ⟨d,h,h1,h2⟩ | ⟨d,e,h,⟨h1,h2⟩,h3,h4⟩
  · rw [zOj h h1 h2]; omega
  · rw [zOk h h1 h2 h3 h4]; exact mul36 h1 h2 h3 h4
def nm (l:List zD) (i:Nat):Nat:=match (l.getD i ⟨⟨[]⟩,[]⟩).Name.l with | c::_=>c.toNat | []=>0
end Go.LN
namespace Go.LN
end Go.LN
namespace Go.LN
end Go.LN
namespace Go.LN
def c0 (n:Int):zA:=⟨[0,0,0,0],n⟩
end Go.LN
namespace Go.LN
theorem zNL {P:zH} (h:BG P) (hv:validP P=true):RV P.Arrays:=by
  simp only [validP,progB,bA] at hv;exact RV.of h.1 hv.1.1.1
theorem zOl {p:List Int} (h:ptB p=true):p.length<=4:=by
  simp only [ptB,bA,decide_eq_true_eq] at h;exact h.1
end Go.LN
namespace Go.LN
end Go.LN
namespace Go.LN
theorem zKq:∀ {k:Nat}{a v:Int},v∈rngK k a↔a<=v/\v<a+(k:Int)
  | 0,a,v=>by simp [rngK]
  | k+1,a,v=>by rw [rngK,cQ,zKq]; omega
theorem zNz {a b v:Int}:v∈rng a b↔a<=v/\v<b:=by
  unfold rng;rw [zKq]; omega
def inP:List zF->List Int->List Int->Prop
  | [],_,[]=>True
  | l::ls,p,v::r=>(loF l p<=v/\v<hiF l p)/\inP ls (p++[v]) r
  | _,_,_=>False
theorem zLw:∀ {ls:List zF}{p q:List Int},q∈pts ls p->∃ r,q=p++r/\inP ls p r
  | [],p,q,h=>by
    rw [pts,cx] at h
    exact ⟨[],by rw [h,co],trivial⟩
  | l::ls,p,q,h=>by
    rw [pts,cA] at h
    obtain ⟨v,hv,hq⟩:=h
    obtain ⟨r,e,hr⟩:=zLw hq
    exact ⟨v::r,by rw [e,cv]; rfl,zNz.1 hv,hr⟩
def Ch {α:Type} (R:α->α->Prop):List α->Prop
  | a::b::l=>R a b/\Ch R (b::l)
  | _=>True
theorem Ch.append {α:Type}{R:α->α->Prop}:∀ {l m:List α},Ch R l->Ch R m->(∀ a∈l,∀ b∈m,R a b)->Ch R (l++m)
  | [],m,_,h2,_=>h2
  | [a],[],_,_,_=>trivial
  | [a],b::m,_,h2,h=>⟨h a (cm ..) b (cm ..),h2⟩
  | a::b::l,m,h1,h2,h=>⟨h1.1,Ch.append (l:=b::l) h1.2 h2 fun x hx=>h x (cj _ hx)⟩
theorem Ch.flat {α β:Type}{R:β->β->Prop}{f:α->List β}:∀ {l:List α},(∀ x∈l,Ch R (f x))->(l.Pairwise fun x y=>∀ a∈f x,∀ b∈f y,R a b)->Ch R (l.flatMap f)
  | [],_,_=>trivial
  | x::l,h1,h2=>by
    rw [ck]
    have h2':=List.pairwise_cons.1 h2
    refine Ch.append (h1 x (cm ..)) (Ch.flat (fun y hy=>h1 y (cj _ hy)) h2'.2) fun a ha b hb=>?_
    obtain ⟨y,hy,hb⟩:=cA.1 hb
    exact h2'.1 y hy a ha b hb
theorem Ch.get {α:Type}{R:α->α->Prop}:∀ {l:List α} (i:Nat) (h:i+1<l.length),Ch R l->R l[i] l[i+1]
  | a::b::l,0,_,hc=>hc.1
  | a::b::l,i+1,h,hc=>Ch.get (l:=b::l) i (by simpa using h) hc.2
  | [a],i,h,_=>by simp at h
  | [],i,h,_=>by simp at h
theorem zMW {k:Int}{q:List Int}{i j:Nat}{z:zX} (h:z∈instR k q i j):z.Part=k/\z.Point=q/\∃ s:Nat,z.Stmt=(s:Int)/\s<i+j:=by
  unfold instR at h;obtain ⟨s,hs,rfl⟩:=dm.1 h;exact ⟨rfl,rfl,s,rfl,(df.1 hs).2⟩
end Go.LN
namespace Go.LN
theorem zL8 {P:zH} (h:validP P=true) {i:Nat} (hi:i<P.Parts.length):partB P.Arrays P.Parts[i]=true:=by
  simp only [validP,progB,bA,decide_eq_true_eq] at h;have:=cf.1 h.1.2 i (df.2 ⟨ep _,by omega⟩);have hg:gP P i=P.Parts[i]:=by simp [gP,hi]
  rwa [hg] at this
theorem zOA {nest:List zF}{q:List Int} (h:q∈(nestPts nest).1):nestB nest=true/\inP nest [] q:=by
  unfold nestPts at h;split at h
  · rename_i hc;obtain ⟨r,e,hr⟩:=zLw h;rw [cP] at e;exact ⟨hc.1,e ▸ hr⟩
  · cases h
theorem zMX {P:zH} (h:validP P=true) {z:zX} (hz:z∈progI P):∃ (i s:Nat) (hi:i<P.Parts.length) (hs:s<P.Parts[i].Body.length),z.Part=(i:Int)/\z.Stmt=(s:Int)/\nestB P.Parts[i].Nest=true/\inP P.Parts[i].Nest [] z.Point/\ptB z.Point=true/\stOk P.Arrays P.Parts[i].Body[s] z.Point=true/\stmtB P.Parts[i].Body[s] (P.Parts[i].Nest.length:Int)=true:=by
  unfold progI at hz;obtain ⟨i,hi,hz⟩:=cA.1 hz;have hi:i<P.Parts.length:=by have:=(df.1 hi).2; omega
  have hg:gP P i=P.Parts[i]:=by simp [gP,hi]
  rw [hg] at hz;have hp:=zL8 h hi;unfold partI at hz;obtain ⟨q,hq,hz⟩:=cA.1 hz;obtain ⟨z1,z2,s,z3,hs⟩:=zMW hz;have hs:s<P.Parts[i].Body.length:=by omega
  obtain ⟨n1,n2⟩:=zOA hq;simp only [partB,bA] at hp;have hq2:=cf.1 hp.2 q hq;rw [bA] at hq2;refine ⟨i,s,hi,hs,z1,z3,n1,?_,?_,?_,?_⟩
  · rw [z2]; exact n2
  · rw [z2]; exact hq2.1
  · rw [z2]; exact cf.1 hq2.2 _ (gM hs)
  · exact (dA hp.1.2).2.2 _ (gM hs)
end Go.LN
namespace Go.LN
end Go.LN
namespace Go.LN
theorem zL9 (P:zH) (x:zX) (ys:List zJ) (hy:ys.length<=1048576) (ha:∀ a∈ys,AV a) (hp:x.Point.length<=4) (hR:RV P.Arrays):∀ (j i:Nat) (o:List Int),i+j=ys.length->o.length=i->uT P x ys o (i:Int)=some (o++(ys.drop i).map (cellA P.Arrays x.Point)):=by
  intro j
  induction j with
  | zero =>
    intro i o hi ho;rw [uT];have:¬((i:Int)<(ys.length:Int)):=by omega
    simp only [this,dF,bF,if_false,oP,id];rw [dN.2 (by omega),d7,co]
  | succ j ih =>
    intro i o hi ho;rw [uT];have aN:i<ys.length:=by omega
    have hc:((i:Int)<(ys.length:Int)):=by omega
    simp only [hc,dT,if_true,xM aN,implCell P ys[i] x.Point (ha _ (gM aN)) hp hR,oB,oS,nP (show (o.length+[cellF ys[i] x.Point P.Arrays 0].length)*8<=140737488355328 by simp; omega)];rw [tG (by omega),ih (i+1) _ (by omega) (by rw [lA]; simp; omega),gC aN,cS,cv];rfl
end Go.LN
namespace Go.LN
def STz:zG:=zG.mk (zJ.mk ⟨[]⟩ []) EXz
def stI (P:zH) (z:zX):zG:=(gP P z.Part.toNat).Body.getD z.Stmt.toNat STz
def rdI (P:zH) (z:zX):List Int:=(readsF 5 (stI P z).Value).map (cellA P.Arrays z.Point)
def wrI (P:zH) (z:zX):Int:=cellA P.Arrays z.Point (stI P z).Write
structure InP (P:zH) (z:zX):Prop where
  idxP:idx P.Parts z.Part=some (gP P z.Part.toNat)
  idxS:idx (gP P z.Part.toNat).Body z.Stmt=some (stI P z)
  part:0<=z.Part/\z.Part<(P.Parts.length:Int)
  stmt:0<=z.Stmt/\z.Stmt<((gP P z.Part.toNat).Body.length:Int)
  pin:BN (gP P z.Part.toNat).Nest/\nestB (gP P z.Part.toNat).Nest=true/\ptB z.Point=true/\inP (gP P z.Part.toNat).Nest [] z.Point
  pt:z.Point.length<=4
  bs:BS (stI P z)
  st:∃ d,stmtB (stI P z) d=true
  ok:stOk P.Arrays (stI P z) z.Point=true
theorem zLa {P:zH} (hb:BG P) (h:validP P=true) {z:zX} (hz:z∈progI P):InP P z:=by
  obtain ⟨i,s,hi,hs,z1,z2,hn,hin,hpt,hst,hsb⟩:=zMX h hz;have hbp:=hb.2.2 _ (gM hi);have hg:gP P z.Part.toNat=P.Parts[i]:=by rw [z1,iN]; simp [gP,hi]
  have hS:stI P z=P.Parts[i].Body[s]:=by unfold stI; rw [hg,z2,iN]; simp [hs]
  refine ⟨?_,?_,by rw [z1]; omega,by rw [hg,z2]; omega,?_,zOl hpt,?_,?_,?_⟩
  · rw [hg,z1,xM hi]
  · rw [hS,hg,z2,xM hs]
  · rw [hg]; exact ⟨hbp.1,hn,hpt,hin⟩
  · rw [hS]; exact hbp.2.2 _ (gM hs)
  · rw [hS]; exact ⟨_,hsb⟩
  · rw [hS]; exact hst
theorem zLx {P:zH}{z:zX} (h:InP P z):(rdI P z).length<=32:=by
  obtain ⟨d,hd⟩:=h.st;have:=eZ 5 (stI P z).Value (fP hd).2.1;unfold rdI;rw [lM]; omega
theorem touchedV {P:zH} (hb:BG P) (hv:validP P=true) {z:zX} (h:InP P z):oZ P z=some (rdI P z,wrI P z):=by
  obtain ⟨d,hd⟩:=h.st;obtain ⟨s1,s2,s3⟩:=fP hd;have hR:=zNL hb hv;have hrd:=implReads 5 (stI P z).Value s2 (by omega);have hrl:=eZ 5 (stI P z).Value s2;have htl:=zL9 P z (readsF 5 (stI P z).Value) (by omega) s3 h.pt hR _ 0 [] (cC _) rfl;rw [nZ,cu,cP] at htl;have hw:=implCell P (stI P z).Write z.Point s1 h.pt hR;unfold oZ fQ;simp only [h.idxP,h.idxS,hrd,htl,hw,oB,oS,oP,id];rfl
def trcP (P:zH):qD:=⟨P,progI P,(progI P).map (rdI P),(progI P).map (wrI P)⟩
theorem zNM {P:zH} (hb:BG P) (hv:validP P=true):∀ (j i:Nat) (rs:List (List Int)) (ws:List Int),i+j=(progI P).length->rs.length=i->ws.length=i->kV P (progI P) (i:Int) rs ws=some (rs++((progI P).drop i).map (rdI P),ws++((progI P).drop i).map (wrI P)):=by
  have br:=(eJ hv).2.2.2;intro j
  induction j with
  | zero =>
    intro i rs ws hi hr hw;rw [kV];have:¬((i:Int)<((progI P).length:Int)):=by omega
    simp only [this,dF,bF,if_false,oP];rw [dN.2 (by omega),d7,d7,co,co]
  | succ j ih =>
    intro i rs ws hi hr hw;rw [kV];have aN:i<(progI P).length:=by omega
    have hc:((i:Int)<((progI P).length:Int)):=by omega
    have hz:=zLa hb hv (gM aN);simp only [hc,dT,if_true,xM aN,touchedV hb hv hz,oB,oS,nP (show (rs.length+[rdI P (progI P)[i]].length)*24<=140737488355328 by simp; omega),nP (show (ws.length+[wrI P (progI P)[i]].length)*8<=140737488355328 by simp; omega)];rw [tG (by omega),ih (i+1) _ _ (by omega) (by rw [lA]; simp; omega) (by rw [lA]; simp; omega),gC aN,cS,cS,cv,cv];rfl
theorem implTrace (P:zH) (hb:BG P):zAM P=some (if validP P then (some (trcP P),true) else (none,false)):=by
  unfold zAM;rw [implInstances P hb];cases hv:validP P with
  | false =>
    unfold validP at hv;cases hp:progB P with
    | false=>rfl
    | true =>
      rw [hp,cE] at hv;simp [hv]
  | true =>
    have hv':=hv;unfold validP at hv';rw [bA] at hv';have hl:=zNM hb hv _ 0 [] [] (cC _) rfl rfl;rw [nZ,cu,cP,cP] at hl;simp only [hv'.1,hv'.2,if_true,oB,oS,bT,bF,if_false,hl,oP];rfl
end Go.LN
namespace Go.LN
def hasB (l:List Int) (n:Int):Bool:=l.any (fun x=>x==n)
theorem zKr {l:List Int}{n:Int}:hasB l n=true↔n∈l:=by
  unfold hasB;rw [ex];constructor
  · rintro ⟨x,hx,e⟩;have:x=n:=by simpa using e
    exact this ▸ hx
  · intro h;exact ⟨n,h,by simp⟩
theorem zMY (x:Int) (l:List Int) (n:Int):hasB (x::l) n=(x==n||hasB l n):=by unfold hasB; rw [List.any_cons]
def kindF (r1:List Int) (w1:Int) (r2:List Int) (w2:Int):Int:=(if hasB r2 w1 then 1 else 0)+(if hasB r1 w2 then 2 else 0)+(if w1==w2 then 4 else 0)
theorem zMZ (r1:List Int) (w1:Int) (r2:List Int) (w2:Int):0<=kindF r1 w1 r2 w2/\kindF r1 w1 r2 w2<=7:=by
  unfold kindF;cases hasB r2 w1 <;> cases hasB r1 w2 <;> cases (w1==w2) <;> simp
end Go.LN
namespace Go.LN
theorem zOB (l:List Int) (v:Int) (hl:l.length<=1048576):∀ (j i:Nat),i+j=l.length->∃ x,uU l v (i:Int)=some x/\((hasB (l.drop i) v=true/\∃ k:Nat,x=.ret (k:Int))∨(hasB (l.drop i) v=false/\x=.done ())):=by
  intro j
  induction j with
  | zero =>
    intro i hi;rw [uU];have:¬((i:Int)<(l.length:Int)):=by omega
    refine ⟨_,by simp only [this,dF,bF,if_false,oP],.inr ⟨?_,rfl⟩⟩;rw [dN.2 (by omega)]; rfl
  | succ j ih =>
    intro i hi;rw [uU];have aN:i<l.length:=by omega
    have hc:((i:Int)<(l.length:Int)):=by omega
    rw [gC aN,zMY];by_cases e:v=l[i]
    · refine ⟨_,by simp only [hc,dT,if_true,xM aN,oB,oS,oP,e,bQ],.inl ⟨?_,i,rfl⟩⟩;rw [e,bQ,Bool.true_or]
    · have e1:(v==l[i])=false:=by simpa using e
      have e2:(l[i]==v)=false:=by simpa using fun h=>e h.symm
      obtain ⟨x,hx,hr⟩:=ih (i+1) (by omega);refine ⟨x,?_,by rw [e2,ey]; exact hr⟩;simp only [hc,dT,if_true,xM aN,oB,oS,oP,e1,bF,if_false];rw [tG (by omega),hx]
theorem containsV (l:List Int) (v:Int) (hl:l.length<=1048576):sW l v=some (hasB l v):=by
  unfold sW jE;obtain ⟨x,hx,hr⟩:=zOB l v hl l.length 0 (cC _);rw [nZ] at hx;rw [cu] at hr;rw [hx];rcases hr with ⟨h,k,rfl⟩ | ⟨h,rfl⟩
  · have:((k:Int)>=0):=by omega
    simp [h,this]
  · rw [h]; rfl
def zIns (P:zH) (a:Nat):zX:=(progI P).getD a ⟨0,0,[]⟩
theorem zLb {P:zH}{a:Nat} (h:a<(progI P).length):zIns P a=(progI P)[a]:=by simp [zIns,h]
theorem zLy {P:zH}{a:Nat} (h:a<(progI P).length):zIns P a∈progI P:=by rw [zLb h]; exact gM h
theorem zKs {P:zH}{a:Nat} (h:a<(progI P).length):idx ((progI P).map (rdI P)) (a:Int)=some (rdI P (zIns P a)):=by rw [xM (by rw [lM]; exact h),zLb h]; simp
theorem zJ5 {P:zH}{a:Nat} (h:a<(progI P).length):idx ((progI P).map (wrI P)) (a:Int)=some (wrI P (zIns P a)):=by rw [xM (by rw [lM]; exact h),zLb h]; simp
def kindI (P:zH) (a b:Nat):Int:=kindF (rdI P (zIns P a)) (wrI P (zIns P a)) (rdI P (zIns P b)) (wrI P (zIns P b))
theorem betweenV {P:zH} (hi:∀ z∈progI P,InP P z) {a b:Nat} (ha:a<(progI P).length) (hb:b<(progI P).length):pO (trcP P) (a:Int) (b:Int)=some (kindI P a b):=by
  have l1:=zLx (hi _ (zLy ha));have l2:=zLx (hi _ (zLy hb));unfold pO kindI kindF;simp only [trcP,zKs ha,zKs hb,zJ5 ha,zJ5 hb,containsV _ _ (show (rdI P (zIns P a)).length<=1048576 by omega),containsV _ _ (show (rdI P (zIns P b)).length<=1048576 by omega),oB,oS,oP,id];by_cases e:wrI P (zIns P a)=wrI P (zIns P b)
  · have e1:(wrI P (zIns P a)==wrI P (zIns P b))=true:=by simpa using e
    simp only [e1,if_true];cases hasB (rdI P (zIns P b)) (wrI P (zIns P a)) <;> cases hasB (rdI P (zIns P a)) (wrI P (zIns P b)) <;> rfl
  · have e1:(wrI P (zIns P a)==wrI P (zIns P b))=false:=by simpa using e
    simp only [e1,bF,if_false];cases hasB (rdI P (zIns P b)) (wrI P (zIns P a)) <;> cases hasB (rdI P (zIns P a)) (wrI P (zIns P b)) <;> rfl
def dpb (P:zH) (a b:Int):Int:=if validP P=true/\0<=a/\a<b/\b<((progI P).length:Int) then kindI P a.toNat b.toNat else 0
theorem implDep (P:zH) (hb:BG P) (a b:Int):fD P a b=some (dpb P a b):=by
  unfold fD dpb;rw [implTrace P hb];cases hv:validP P with
  | false=>simp
  | true =>
    have br:=(eJ hv).2.2.2;have hi:∀ z∈progI P,InP P z:=fun z hz=>zLa hb hv hz;have hW:W (((trcP P).list.length:Int) - 1)=((progI P).length:Int) - 1:=by show W (((progI P).length:Int) - 1)=_; rw [qO (by omega) (by omega)]
    simp only [if_true,oB,oS,oP,bT,bF,if_false,nS,hW,true_and,id];by_cases h:0<=a/\a<b/\b<((progI P).length:Int)
    · rw [if_pos h];obtain ⟨k,rfl⟩:∃ k:Nat,a=(k:Int):=⟨a.toNat,by omega⟩;obtain ⟨m,rfl⟩:∃ m:Nat,b=(m:Int):=⟨b.toNat,by omega⟩;have e1:(0:Int)<=(k:Int):=by omega
      have e2:(k:Int)<=((progI P).length:Int) - 1:=by omega
      have e3:(0:Int)<=(m:Int):=by omega
      have e4:(m:Int)<=((progI P).length:Int) - 1:=by omega
      have e5:¬((k:Int)>=(m:Int)):=by omega
      simp only [e1,e2,e3,e4,e5,dT,dF,fh,bT,bF,if_false,oS,betweenV hi (show k<(progI P).length by omega) (show m<(progI P).length by omega),iN]
    · rw [if_neg h];by_cases h1:0<=a/\a<=((progI P).length:Int) - 1
      · by_cases h2:0<=b/\b<=((progI P).length:Int) - 1
        · have e5:a>=b:=by omega
          simp only [h1.1,h1.2,h2.1,h2.2,e5,dT,fh,bT,bF,if_false,oS,if_true]
        · have e4:(!(decide (0<=b)&&decide (b<=((progI P).length:Int) - 1)))=true:=by simp; omega
          simp only [h1.1,h1.2,e4,dT,fh,bT,bF,if_false,oS,if_true]
      · have e4:(!(decide (0<=a)&&decide (a<=((progI P).length:Int) - 1)))=true:=by simp; omega
        simp only [e4,oS,if_true]
end Go.LN
namespace Go.LN
end Go.LN
namespace Go.LN
end Go.LN
namespace Go.LN
def dep1 (P:zH) (i q:Nat):List wL:=if kindI P i q==0 then [] else [⟨(i:Int),(q:Int),kindI P i q⟩]
def depR (P:zH) (i k j:Nat):List wL:=(List.range' k j).flatMap fun q=>dep1 P i q
def depA (P:zH) (i j:Nat):List wL:=(List.range' i j).flatMap fun q=>depR P q (q+1) ((progI P).length - (q+1))
theorem zJ6 (P:zH) (i k j:Nat):depR P i k (j+1)=dep1 P i k++depR P i (k+1) j:=by unfold depR; rw [dx,ck]
theorem zJ7 (P:zH) (i j:Nat):depA P i (j+1)=depR P i (i+1) ((progI P).length - (i+1))++depA P (i+1) j:=by unfold depA; rw [dx,ck]
theorem zNN (P:zH) (i q:Nat):(dep1 P i q).length<=1:=by unfold dep1; split <;> simp
theorem zIi (P:zH) (i:Nat):∀ (j k:Nat),(depR P i k j).length<=j
  | 0,k=>by simp [depR]
  | j+1,k=>by
    have h1:=zNN P i k
    have h2:=zIi P i j (k+1)
    rw [zJ6,lA]; omega
theorem zKt (P:zH):∀ (j i:Nat),(depA P i j).length<=j*(progI P).length
  | 0,i=>by simp [depA]
  | j+1,i=>by
    have h1:=zIi P i ((progI P).length - (i+1)) (i+1)
    have h2:=zKt P j (i+1)
    rw [zJ7,lA,d6,Nat.one_mul]; omega
theorem zM0 (P:zH) (a b:Nat):0<=kindI P a b/\kindI P a b<=7:=zMZ _ _ _ _
theorem zOC {P:zH} (hi:∀ z∈progI P,InP P z) (br:(progI P).length<=120) (i:Nat) (hin:i<(progI P).length):∀ (j k:Nat) (o:List wL),k+j=(progI P).length->o.length+j<=1000000->rR (trcP P) (i:Int) o (k:Int)=some (o++depR P i k j):=by
  intro j
  induction j with
  | zero =>
    intro k o hk ho;rw [rR];have:¬((k:Int)<((trcP P).list.length:Int)):=by show ¬((k:Int)<((progI P).length:Int)); omega
    simp only [this,dF,bF,if_false,oP,id];simp [depR]
  | succ j ih =>
    intro k o hk ho;rw [rR,zJ6];have aN:k<(progI P).length:=by omega
    have hc:((k:Int)<((trcP P).list.length:Int)):=by show ((k:Int)<((progI P).length:Int)); omega
    have hr:=zM0 P i k;simp only [hc,dT,if_true,betweenV hi hin aN,oB,oS,oP,id,nP (show (o.length+[wL.mk (i:Int) (k:Int) (kindI P i k)].length)*24<=140737488355328 by simp; omega)];rw [tG (by omega)];unfold dep1;by_cases h0:kindI P i k=0
    · have e1:¬(kindI P i k>0):=by omega
      have e2:(kindI P i k==0)=true:=by simpa using h0
      simp only [e1,e2,dF,bF,if_false,if_true,oS,cP];exact ih (k+1) o (by omega) (by omega)
    · have e1:kindI P i k>0:=by omega
      have e2:¬((kindI P i k==0)=true):=by simpa using h0
      simp only [e1,dT,if_true,oS];rw [if_neg e2,ih (k+1) _ (by omega) (by rw [lA]; simp; omega),cv]
theorem zOD {P:zH} (hi:∀ z∈progI P,InP P z) (br:(progI P).length<=120):∀ (j i:Nat) (o:List wL),i+j=(progI P).length->o.length<=120*i->rS (trcP P) o (i:Int)=some (o++depA P i j):=by
  intro j
  induction j with
  | zero =>
    intro i o hij ho;rw [rS];have:¬((i:Int)<((trcP P).list.length:Int)):=by show ¬((i:Int)<((progI P).length:Int)); omega
    simp only [this,dF,bF,if_false,oP,id];simp [depA]
  | succ j ih =>
    intro i o hij ho;rw [rS,zJ7];have aN:i<(progI P).length:=by omega
    have hc:((i:Int)<((trcP P).list.length:Int)):=by show ((i:Int)<((progI P).length:Int)); omega
    have hl:=zIi P i ((progI P).length - (i+1)) (i+1);have h2:=zOC hi br i aN ((progI P).length - (i+1)) (i+1) o (by omega) (by omega);simp only [hc,dT,if_true,tG (show i<9223372036854775807 by omega),h2,oB,oS];rw [ih (i+1) _ (by omega) (by rw [lA]; omega),cv]
def dpF (P:zH):List wL:=if validP P then depA P 0 (progI P).length else []
theorem implDeps (P:zH) (hb:BG P):jT P=some (dpF P):=by
  unfold jT dpF;rw [implTrace P hb];cases hv:validP P with
  | false=>rfl
  | true =>
    have br:=(eJ hv).2.2.2;have hi:∀ z∈progI P,InP P z:=fun z hz=>zLa hb hv hz;have hl:=zOD hi br _ 0 [] (cC _) (by simp);rw [nZ,cP] at hl;simp only [if_true,oB,oS,bT,bF,if_false,eW,hl,oP,id]
theorem zOE {P:zH}:(dpF P).length<=14400:=by
  unfold dpF;split
  · rename_i hv;have br:=(eJ hv).2.2.2;have:=zKt P (progI P).length 0;have h2:(progI P).length*(progI P).length<=120*120:=Nat.mul_le_mul br br;omega
  · simp
end Go.LN
namespace Go.LN
structure Kn where
  k:Nat->Nat->Int
  n:Nat
def dq1 (P:Kn) (i q:Nat):List wL:=if P.k i q==0 then [] else [⟨(i:Int),(q:Int),P.k i q⟩]
def dqR (P:Kn) (i k j:Nat):List wL:=(List.range' k j).flatMap fun q=>dq1 P i q
def dqA (P:Kn) (i j:Nat):List wL:=(List.range' i j).flatMap fun q=>dqR P q (q+1) (P.n - (q+1))
theorem zOm {P:Kn}{d:wL} (h:d∈dqA P 0 P.n):∃ i k:Nat,d=⟨(i:Int),(k:Int),P.k i k⟩/\i<k/\k<P.n/\P.k i k ≠ 0:=by
  unfold dqA at h;obtain ⟨i,hi,h⟩:=cA.1 h;unfold dqR at h;obtain ⟨k,hk,h⟩:=cA.1 h;have hi:=df.1 hi;have hk:=df.1 hk;unfold dq1 at h;split at h
  · cases h
  · rename_i h0;exact ⟨i,k,cx.1 h,by omega,by omega,by simpa using h0⟩
def kn (P:zH):Kn:=⟨kindI P,(progI P).length⟩
theorem zOF {P:zH}{d:wL} (h:d∈depA P 0 (progI P).length):∃ i k:Nat,d=⟨(i:Int),(k:Int),kindI P i k⟩/\i<k/\k<(progI P).length/\kindI P i k ≠ 0:=zOm (P:=kn P) h
end Go.LN
namespace Go.LN
end Go.LN
namespace Go.LN
theorem zLc {d:Int}{n:Nat}{e:zC} (h:shapeB d (n+1) e=true):(e.Kind=1∨e.Kind=2∨e.Kind=3)∨((e.Kind=4∨e.Kind=5∨e.Kind=6)/\∃ a b,e.Kids=[a,b]):=by
  simp only [shapeB,bA] at h;have hk:=eq_of_beq h.1.1;unfold kidsN at hk;by_cases h1:e.Kind=1∨e.Kind=2∨e.Kind=3
  · exact .inl h1
  · rw [if_neg h1] at hk;by_cases h2:e.Kind=4∨e.Kind=5∨e.Kind=6
    · rw [if_pos h2] at hk;refine .inr ⟨h2,?_⟩;have hl:e.Kids.length=2:=by omega
      match e.Kids,hl with
      | [a,b],_=>exact ⟨a,b,rfl⟩
    · rw [if_neg h2] at hk; omega
theorem zKu {d:Int}{n:Nat}{e:zC} (h:shapeB d (n+1) e=true) (h2:e.Kind=2):okA d e.Index=true:=by
  simp only [shapeB,bA] at h;have ho:=h.1.2;simp only [ownB,h2,if_true,bA] at ho;exact ho.2
end Go.LN
namespace Go.LN
end Go.LN
namespace Go.LN
end Go.LN
namespace Go.LN
end Go.LN
namespace Go.LN
theorem zNO {d d2:Int} (h:d<=d2) {a:zA} (k:okA d a=true):okA d2 a=true:=by
  simp only [okA,bA,decide_eq_true_eq] at k ⊢;exact ⟨k.1,by omega⟩
theorem zOn {d d2:Int} (h:d<=d2) {a:zJ} (k:accB a d=true):accB a d2=true:=by
  simp only [accB,bA,cf] at k ⊢;exact ⟨k.1,fun s hs=>zNO h (k.2 s hs)⟩
theorem zKv {d d2:Int} (h:d<=d2):∀ (n:Nat) (e:zC),shapeB d n e=true->shapeB d2 n e=true
  | 0,e,k=>by cases k
  | n+1,e,k=>by
    simp only [shapeB,bA,cf] at k ⊢
    refine ⟨⟨k.1.1,?_⟩,fun y hy=>zKv h n y (k.2 y hy)⟩
    have ho:=k.1.2
    unfold ownB at ho ⊢
    by_cases h2:e.Kind=2
    · rw [if_pos h2,bA] at ho ⊢
      exact ⟨ho.1,zNO h ho.2⟩
    · rw [if_neg h2] at ho ⊢
      by_cases h3:e.Kind=3
      · rw [if_pos h3,bA] at ho ⊢
        exact ⟨ho.1,zOn h ho.2⟩
      · rw [if_neg h3] at ho ⊢
        exact ho
theorem AV.bl {a:zJ} (h:AV a):BL a.Subs:=⟨by have:=h.2.1; omega,fun s hs=>by have:=h.2.2 s hs; unfold BA; omega⟩
end Go.LN
namespace Go.LN
end Go.LN
namespace Go.LN
def eqL {α:Type} (q:α->α->Bool):List α->List α->Bool
  | [],[]=>true
  | x::a,y::b=>q x y&&eqL q a b
  | _,_=>false
theorem zOG {α:Type}{a b:List α} (hl:a.length=b.length) {q:α->α->Bool}{f:Int->Option (Out Unit Bool)} (step:∀ (i:Nat) (h1:i<a.length) (h2:i<b.length),f (i:Int)=if q a[i] b[i] then f ((i+1:Nat):Int) else some (.ret false)) (fin:f (a.length:Int)=some (.done ())):f 0=some (if eqL q a b then .done () else .ret false):=by
  have key:∀ (j i:Nat),i+j=a.length->f (i:Int)=some (if eqL q (a.drop i) (b.drop i) then .done () else .ret false):=by
    intro j
    induction j with
    | zero =>
      intro i hi;rw [show i=a.length by omega,fin,dN.2 (cZ a.length),dN.2 (show b.length<=a.length by omega)]; rfl
    | succ j ih =>
      intro i hi;have h1:i<a.length:=by omega
      have h2:i<b.length:=by omega
      rw [step i h1 h2,ih (i+1) (by omega),gC h1,gC h2,eqL];cases q a[i] b[i] <;> rfl
  have:=key a.length 0 (cC _);rwa [nZ,cu,cu] at this
theorem zLz {α:Type}{q:α->α->Bool}:∀ {a b:List α},a.length ≠ b.length->eqL q a b=false
  | [],[],h=>absurd rfl h
  | [],_::_,_=>rfl
  | _::_,[],_=>rfl
  | x::a,y::b,h=>by rw [eqL,zLz (by simpa using h),Bool.and_false]
def eqI (a b:List Int):Bool:=eqL (fun x y=>x==y) a b
theorem implEqI (a b:List Int) (h:a.length<=1048576):qP a b=some (eqI a b):=by
  unfold qP eqI;by_cases hl:a.length=b.length
  · have hf:=zOG (q:=fun x y=>x==y) hl (f:=uS a b) (fun i h1 h2=>by
      rw [uS];have c:((i:Int)<(a.length:Int)):=by omega
      simp only [c,dT,if_true,xM h1,xM h2,oB,oS,oP];rw [tG (by omega)];by_cases e:a[i]=b[i]
      · simp [e]
      · simp [e]) (by rw [uS]; simp)
    have e:((a.length:Int) != (b.length:Int))=false:=by simp [hl]
    rw [hf,e];cases eqL (fun x y=>x==y) a b <;> rfl
  · have e:((a.length:Int) != (b.length:Int))=true:=by simp; omega
    rw [e,zLz hl]; rfl
def afB (x y:zA):Bool:=eqI x.Coefs y.Coefs&&x.Const==y.Const
theorem implAff (x y:zA) (h:x.Coefs.length<=1048576):wP x y=some (afB x y):=by
  unfold wP afB;rw [implEqI _ _ h];cases eqI x.Coefs y.Coefs <;> rfl
end Go.LN
namespace Go.LN
def mpA (f:zA->zA) (a:zJ):zJ:=⟨a.Array,a.Subs.map f⟩
theorem zOo {ch:zA->Option zA}{f:zA->zA} (a:zJ) (hs:a.Subs.length<=1000) (ha:∀ s∈a.Subs,ch s=some (f s)):∀ (j i:Nat) (o:List zA),i+j=a.Subs.length->o.length=i->pG a ch (i:Int) o=some (o++(a.Subs.drop i).map f):=by
  intro j
  induction j with
  | zero =>
    intro i o hi ho;rw [pG];have:¬((i:Int)<(a.Subs.length:Int)):=by omega
    simp only [this,dF,bF,if_false,oP,id];rw [dN.2 (by omega),d7,co]
  | succ j ih =>
    intro i o hi ho;rw [pG];have aN:i<a.Subs.length:=by omega
    have hc:((i:Int)<(a.Subs.length:Int)):=by omega
    rw [gC aN,cS];simp only [hc,dT,if_true,xM aN,ha _ (gM aN),nP (show (o.length+[f a.Subs[i]].length)*32<=140737488355328 by simp; omega),oB,oS];rw [tG (by omega),ih (i+1) _ (by omega) (by rw [lA]; simp; omega),cv]; rfl
theorem mpAV {d:Int}{ch:zA->Option zA}{f:zA->zA} (hch:∀ a,okA d a=true->ch a=some (f a)) {a:zJ} (h:accB a d=true):jR a ch=some (mpA f a):=by
  have hv:=AV.of h;have hs:∀ s∈a.Subs,ch s=some (f s):=fun s hs=>by
    simp only [accB,bA,cf] at h;exact hch s (h.2 s hs)
  have h2:=hv.2.1;have hl:=zOo a (by omega) hs _ 0 [] (cC _) rfl;rw [nZ,cu,cP] at hl;unfold jR;simp only [hl,oB,oS,oP];rfl
def mpE (f:zA->zA):Nat->zC->zC
  | 0,e=>e
  | n+1,e=>.mk e.Kind e.Num (if e.Kind=2 then f e.Index else ⟨[],0⟩) (if e.Kind=3 then mpA f e.Read else ⟨⟨[]⟩,[]⟩) (e.Kids.map (mpE f n))
theorem mpEV {d:Int}{ch:zA->Option zA}{f:zA->zA} (hch:∀ a,okA d a=true->ch a=some (f a)):∀ (n:Nat) (e:zC),shapeB d n e=true->jW e ch=some (mpE f n e)
  | 0,e,h=>by cases h
  | n+1,e,h=>by
    rw [jW,mpE]
    obtain ⟨h1,h2⟩:=kY h
    have hkl:pK e ch 0 []=some (e.Kids.map (mpE f n)):=by
      rcases h1 with hk | ⟨a,b,hk⟩
      · rw [pK]
        simp [hk]
      · have ra:=mpEV hch n a (h2 a (by rw [hk]; simp))
        have rb:=mpEV hch n b (h2 b (by rw [hk]; simp))
        have l0:((0:Int)<(e.Kids.length:Int)):=by rw [hk]; simp
        have l1:((1:Int)<(e.Kids.length:Int)):=by rw [hk]; simp
        have l2:¬((2:Int)<(e.Kids.length:Int)):=by rw [hk]; simp
        have i0:idx e.Kids 0=some a:=by rw [hk]; rfl
        have i1:idx e.Kids 1=some b:=by rw [hk]; rfl
        have w0:W ((0:Int)+1)=1:=by rw [qO (by omega) (by omega)]; rfl
        have w1:W ((1:Int)+1)=2:=by rw [qO (by omega) (by omega)]; rfl
        have p0:app 112 ([]:List zC) [mpE f n a]=some [mpE f n a]:=by rw [nP (by simp)]; rfl
        have p1:app 112 [mpE f n a] [mpE f n b]=some [mpE f n a,mpE f n b]:=by rw [nP (by simp)]; rfl
        rw [pK]
        simp only [l0,dT,if_true,oB,oS,i0,same,ra,p0,w0]
        rw [pK]
        simp only [l1,dT,if_true,oB,oS,i1,same,rb,p1,w1]
        rw [pK]
        simp only [l2,dF,bF,if_false,oP,id]
        rw [hk]; rfl
    rcases zLc h with hk | ⟨hk,_⟩
    · rcases hk with k | k | k
      · have e2:(e.Kind==2)=false:=by simp; omega
        have e3:(e.Kind==3)=false:=by simp; omega
        rw [if_neg (show ¬e.Kind=2 by omega),if_neg (show ¬e.Kind=3 by omega)]
        simp [e2,e3,same,hkl]
      · have e2:(e.Kind==2)=true:=by simpa using k
        rw [if_pos k,if_neg (show ¬e.Kind=3 by omega)]
        simp [e2,same,hkl,hch _ (zKu h k)]
      · have e2:(e.Kind==2)=false:=by simp; omega
        have e3:(e.Kind==3)=true:=by simpa using k
        rw [if_neg (show ¬e.Kind=2 by omega),if_pos k]
        simp [e2,e3,same,hkl,mpAV hch (zF3 h k).2]
    · have e2:(e.Kind==2)=false:=by simp; omega
      have e3:(e.Kind==3)=false:=by simp; omega
      rw [if_neg (show ¬e.Kind=2 by omega),if_neg (show ¬e.Kind=3 by omega)]
      simp [e2,e3,same,hkl]
def mpS (f:zA->zA) (s:zG):zG:=⟨mpA f s.Write,mpE f 5 s.Value⟩
theorem mpSV {d:Int}{ch:zA->Option zA}{f:zA->zA} (hch:∀ a,okA d a=true->ch a=some (f a)) {s:zG} (h:stmtB s d=true):zAH s ch=some (mpS f s):=by
  have hw:accB s.Write d=true:=by simp only [stmtB,bA] at h; exact h.1.2
  unfold zAH;simp only [mpAV hch hw,mpEV hch 5 _ (fP h).2.1,oB,oS,oP];rfl
theorem zKw {α:Type}{q:α->α->Bool} (hq:∀ x,q x x=true):∀ a:List α,eqL q a a=true
  | []=>rfl
  | x::a=>by rw [eqL,hq,zKw hq a]; rfl
theorem zKx (a:List Int):eqI a a=true:=zKw (fun x=>by simp) a
theorem zNP (x:zA):afB x x=true:=by unfold afB; rw [zKx,bQ]; rfl
end Go.LN
namespace Go.LN
theorem GA.ne {l:List zD} (hg:GA l) {i j:Nat} (hi:i<l.length) (hj:j<l.length) (h:i ≠ j):l[i].Name.l ≠ l[j].Name.l:=by
  have hp:=List.pairwise_iff_getElem.1 hg.2.2;rcases Nat.lt_or_gt_of_ne h with k | k
  · exact hp i j hi hj k
  · exact (hp j i hj hi k).symm
theorem GA.set {l:List zD} (hg:GA l) {k:Nat} (hk:k<l.length) {y:zD} (hn:y.Name.l=l[k].Name.l) (hy:DA y):GA (l.set k y):=by
  refine ⟨by rw [cR]; exact hg.1,zDO hg.2.1 hy k,List.pairwise_iff_getElem.2 fun i j hi hj hij=>?_⟩;rw [cR] at hi hj;rw [List.getElem_set,List.getElem_set];by_cases h1:k=i
  · rw [if_pos h1,if_neg (by omega),hn]; exact hg.ne hk hj (by omega)
  · rw [if_neg h1];by_cases h2:k=j
    · rw [if_pos h2,hn]; exact hg.ne hi hk (by omega)
    · rw [if_neg h2]; exact hg.ne hi hj (by omega)
theorem DA.arr {x:zD} (h:DA x):(1<=x.Dims.length/\x.Dims.length<=2)/\x.Dims.all dimB=true:=by
  rcases h with ⟨d,h,k1,k2⟩ | ⟨d,e,h,⟨k1,k2⟩,k3,k4⟩
  · rw [h]; simp [dimB,k1,k2]
  · rw [h]; simp [dimB,k1,k2,k3,k4]
end Go.LN
namespace Go.LN
def leD:List Int->List Int->Prop
  | [],[]=>True
  | x::xs,y::ys=>x<=y/\leD xs ys
  | [],_::_=>False
  | _::_,[]=>False
theorem leD.refl:∀ d:List Int,leD d d
  | []=>trivial
  | x::d=>⟨Int.le_refl _,leD.refl d⟩
theorem leD.trans:∀ {a b c:List Int},leD a b->leD b c->leD a c
  | [],[],[],_,_=>trivial
  | x::a,y::b,z::c,h,k=>⟨Int.le_trans h.1 k.1,leD.trans h.2 k.2⟩
theorem leD.len:∀ {a b:List Int},leD a b->a.length=b.length
  | [],[],_=>rfl
  | x::a,y::b,h=>by rw [cy,cy,h.2.len]
end Go.LN
namespace Go.LN
theorem ownAf (a:zA) (h:BA a):oN a=some a:=by
  unfold oN;rw [zEL a.Coefs (by unfold BA at h; omega)]; rfl
theorem zBm {α:Type}{l:List α}{f:Int->List α->Option (List α)} (k:Nat) (g:α->Option α) (hl:l.length<=100000) (hk:k<=1000) (heq:∀ (i:Int) o,f i o=if decide (i<(l.length:Int))=true then (idx l i).bind fun x=>(g x).bind fun y=>(app k o [y]).bind fun o'=>f (W (i+1)) o' else some o) (hg:∀ x∈l,g x=some x):f 0 []=some l:=by
  refine zAd (fun i hi o ho=>?_) (fun o=>?_)
  · rw [heq];have k1:((i:Int)<(l.length:Int)):=by omega
    have hm:(o.length+1)*k<=100000*1000:=Nat.mul_le_mul (by omega) hk;have happ:app k o [l[i]]=some (o++[l[i]]):=nP (by simp; omega);simp only [k1,dT,if_true,xM hi,oS,hg _ (gM hi),happ];rw [tG (by omega)]
  · rw [heq]; simp
theorem ownAfs (l:List zA) (h:BL l):pL l=some l:=by
  unfold pL;rw [show qK l [] 0=some l from zBm (f:=fun i o=>qK l o i) 32 _ (by have:=h.1; omega) (by omega) (fun i o=>by rw [qK]; rfl) fun x hx=>ownAf x (h.2 x hx)]; rfl
theorem ownNs (l:List zF) (h:BN l):zAI l=some l:=by
  unfold zAI;rw [show nL l [] 0=some l from zBm (f:=fun i o=>nL l o i) 48 (fun x=>(pL x.Lo).bind fun y=>(pL x.Hi).bind fun z=>some ⟨y,z⟩) h.1 (by omega) (fun i o=>by rw [nL]; simp only [oB,Option.bind_assoc,oS,oP,id]) fun x hx=>by
    rw [ownAfs _ (h.2 x hx).1,ownAfs _ (h.2 x hx).2]; rfl]; rfl
theorem zF4 {a:zA} (h:noA a=true):a=⟨[],0⟩:=by
  simp only [noA,bA,decide_eq_true_eq,beq_iff_eq] at h;obtain ⟨C,k⟩:=a;obtain ⟨h1,h2⟩:=h;have:=dz.1 h1;simp only at this h2;rw [this,h2]
theorem zF5 {a:zJ} (h:noC a=true):a=⟨⟨[]⟩,[]⟩:=by
  simp only [noC,bA,decide_eq_true_eq,beq_iff_eq] at h;obtain ⟨⟨N⟩,S⟩:=a;obtain ⟨h1,h2⟩:=h;have:=dz.1 h2;simp only at this h1;rw [this,h1]
theorem zNQ (a:zJ):mpA (fun a=>a) a=a:=by unfold mpA; rw [List.map_id']
theorem zNR {d:Int}:∀ (n:Nat) (e:zC),shapeB d n e=true->mpE (fun a=>a) n e=e
  | 0,e,h=>rfl
  | n+1,e,h=>by
    obtain ⟨_,h2⟩:=kY h
    have hk:e.Kids.map (mpE (fun a=>a) n)=e.Kids:=by
      rw [e6 (g:=fun k=>k) (fun k hk=>zNR n k (h2 k hk))]; exact List.map_id' _
    simp only [shapeB,bA] at h
    have ho:=h.1.2
    rw [mpE,hk]
    have hI:(if e.Kind=2 then e.Index else (⟨[],0⟩:zA))=e.Index:=by
      by_cases h2:e.Kind=2
      · rw [if_pos h2]
      · rw [if_neg h2]
        unfold ownB at ho
        rw [if_neg h2] at ho
        by_cases h3:e.Kind=3
        · rw [if_pos h3,bA,bA] at ho
          exact (zF4 ho.1.2).symm
        · rw [if_neg h3] at ho
          by_cases h1:e.Kind=1
          · rw [if_pos h1,bA,bA] at ho
            exact (zF4 ho.1.2).symm
          · rw [if_neg h1,bA,bA] at ho
            exact (zF4 ho.1.2).symm
    have hR:(if e.Kind=3 then mpA (fun a=>a) e.Read else (⟨⟨[]⟩,[]⟩:zJ))=e.Read:=by
      by_cases h3:e.Kind=3
      · rw [if_pos h3,zNQ]
      · rw [if_neg h3]
        unfold ownB at ho
        by_cases h2:e.Kind=2
        · rw [if_pos h2,bA,bA] at ho
          exact (zF5 ho.1.2).symm
        · rw [if_neg h2,if_neg h3] at ho
          by_cases h1:e.Kind=1
          · rw [if_pos h1,bA,bA] at ho
            exact (zF5 ho.2).symm
          · rw [if_neg h1,bA,bA] at ho
            exact (zF5 ho.2).symm
    rw [hI,hR]
    clear hI hR hk ho h h2
    cases e; rfl
theorem zOp {s:zG}{d:Int} (h:stmtB s d=true):mpS (fun a=>a) s=s:=by
  unfold mpS;rw [zNQ,zNR 5 _ (fP h).2.1]
theorem ownSt {s:zG}{d:Int} (h:stmtB s d=true):eC s=some s:=by
  unfold eC;rw [mpSV (d:=d) (f:=fun a=>a) (fun b hb=>ownAf b (by
    simp only [okA,validB,bA,decide_eq_true_eq] at hb;have:=hb.1.1.1;unfold BA; omega)) h,zOp h]
  rfl
theorem ownPt {x:zL} (hb:BP x) (h:bodyB x=true):zAJ x=some x:=by
  obtain ⟨b1,b2,b3⟩:=dA h;unfold zAJ;rw [show nM x 0 []=some x.Body from zBm (f:=fun i o=>nM x i o) 152 _ (by omega) (by omega) (fun i o=>by rw [nM]; rfl) fun s hs=>ownSt (b3 s hs),ownNs _ hb.1];rfl
theorem ownPg {P:zH} (hb:BG P) (hv:validP P=true):jX P=some P:=by
  obtain ⟨⟨a1,a2⟩,p1,p2⟩:=hb;unfold jX;rw [show rV P 0 []=some P.Arrays from zBm (f:=fun i o=>rV P i o) 40 (fun x=>(uE x.Dims).bind fun y=>some ⟨x.Name,y⟩) a1 (by omega) (fun i o=>by rw [rV]; simp only [oB,Option.bind_assoc,oS,oP,id]) fun x hx=>by
    rw [zEL x.Dims (by have:=a2 x hx; omega)]; rfl]
  simp only [oB,oS];rw [show rW P 0 []=some P.Parts from zBm (f:=fun i o=>rW P i o) 48 _ p1 (by omega) (fun i o=>by rw [rW]; rfl) fun x hx=>by
    obtain ⟨i,hi,rfl⟩:=ee.1 hx;have hp:=(eJ hv).2.2.1 i hi;rw [show gP P i=P.Parts[i] by simp [gP,hi]] at hp;simp only [partB,bA] at hp;exact ownPt (p2 _ hx) hp.1.2]
  rfl
theorem sowAf (a:zA) (h:BA a):nQ a=some a:=by
  unfold nQ;rw [zBE a.Coefs (by unfold BA at h; omega)]; rfl
theorem sowAfs (l:List zA) (h:BL l):sK l=some l:=by
  unfold sK;rw [show uP l [] 0=some l from zBm (f:=fun i o=>uP l o i) 32 _ (by have:=h.1; omega) (by omega) (fun i o=>by rw [uP]; rfl) fun x hx=>sowAf x (h.2 x hx)]; rfl
theorem sowNs (l:List zF) (h:BN l):mJ l=some l:=by
  unfold mJ;rw [show tP l [] 0=some l from zBm (f:=fun i o=>tP l o i) 48 _ h.1 (by omega) (fun i o=>by rw [tP]; rfl) fun x hx=>by
    unfold dQ;rw [sowAfs _ (h.2 x hx).1,sowAfs _ (h.2 x hx).2]; rfl]; rfl
theorem sowAc (a:zJ) (h:BL a.Subs):nR a=some a:=by
  unfold nR;rw [sowAfs _ h]; rfl
theorem sowE:∀ (m:Nat) (e:zC),BE m e->nN e=some e
  | m,e,h=>by
    obtain ⟨h1,h2,h3⟩:=h.own
    rw [nN]
    have hL:mK e.Kids=some e.Kids:=by
      rw [mK]
      simp only [same]
      rw [show rL e.Kids [] 0=some e.Kids from zBm (f:=fun i o=>rL e.Kids o i) 112 nN (by omega) (by omega) (fun i o=>by rw [rL]; rfl) fun x hx=>by
        obtain ⟨m',hm,hm'⟩:=h.kid hx
        exact sowE m' x hm']; rfl
    simp only [sowAf _ h1,sowAc _ h2,hL,oB,oS,oP]
    clear hL h h1 h2 h3
    cases e; rfl
theorem sowSt (s:zG) (h:BS s):fB s=some s:=by
  obtain ⟨h1,m,h2⟩:=h;unfold fB;rw [sowAc _ h1,sowE m _ h2]; rfl
theorem sowPt (x:zL) (h:BP x):fC x=some x:=by
  obtain ⟨b1,b2,b3⟩:=h;unfold fC gD;rw [show tQ x.Body [] 0=some x.Body from zBm (f:=fun i o=>tQ x.Body o i) 152 _ b2 (by omega) (fun i o=>by rw [tQ]; rfl) fun s hs=>sowSt s (b3 s hs),sowNs _ b1]; rfl
theorem sowPg (P:zH) (h:BG P):kO P=some P:=by
  obtain ⟨⟨a1,a2⟩,p1,p2⟩:=h;unfold kO jG gE;rw [show uV P.Arrays [] 0=some P.Arrays from zBm (f:=fun i o=>uV P.Arrays o i) 40 _ a1 (by omega) (fun i o=>by rw [uV]; rfl) fun x hx=>by
    unfold eY;rw [zBE x.Dims (by have:=a2 x hx; omega)]; rfl,show tR P.Parts [] 0=some P.Parts from zBm (f:=fun i o=>tR P.Parts o i) 48 _ p1 (by omega) (fun i o=>by rw [tR]; rfl) fun x hx=>sowPt x (p2 x hx)]
  rfl
theorem zBB {n:Nat}{f:Int->Option (Out Unit Bool)} (step:∀ i,i<n->f (i:Int)=f ((i+1:Nat):Int)) (fin:f (n:Int)=some (.done ())):f 0=some (.done ()):=by
  have key:∀ j i,i+j=n->f (i:Int)=some (.done ()):=by
    intro j
    induction j with
    | zero=>intro i hi; rw [show i=n by omega,fin]
    | succ j ih=>intro i hi; rw [step i (by omega)]; exact ih (i+1) (by omega)
  exact key n 0 (by omega)
theorem sAf (a:zA) (h:BA a):wP a a=some true:=by
  rw [implAff a a (by unfold BA at h; omega),zNP]
theorem sAfs (l:List zA) (h:BL l):yO l l wP=some true:=by
  unfold yO;have hb:=h.1;have hl:=zBB (n:=l.length) (f:=yN l l wP) (fun i hi=>by
      rw [yN];have k1:((i:Int)<(l.length:Int)):=by omega
      simp only [k1,dT,if_true,xM hi,oB,oS,sAf _ (h.2 _ (gM hi)),bT,bF,if_false];rw [tG (by omega)]) (by rw [yN]; simp)
  simp only [bne_self_eq_false,bF,if_false,hl,oB,oS];rfl
theorem sNs (l:List zF) (h:BN l):dC l l=some true:=by
  unfold dC wM;have hb:=h.1;have hl:=zBB (n:=l.length) (f:=yU l l pH) (fun i hi=>by
      rw [yU];have k1:((i:Int)<(l.length:Int)):=by omega
      have hx:=h.2 _ (gM hi);have e:pH l[i] l[i]=some true:=by
        unfold pH;rw [sAfs _ hx.1,sAfs _ hx.2]; rfl
      simp only [k1,dT,if_true,xM hi,oB,oS,e,bT,bF,if_false];rw [tG (by omega)]) (by rw [yU]; simp)
  simp only [bne_self_eq_false,bF,if_false,hl,oB,oS];rfl
theorem sAc (a:zJ) (h:BL a.Subs):kQ a a=some true:=by
  unfold kQ;simp only [bQ,if_true,sAfs _ h,oB,oS];rfl
theorem sEx:∀ (m:Nat) (e:zC),BE m e->gJ e e=some true
  | m,e,h=>by
    obtain ⟨h1,h2,h3⟩:=h.own
    have hl:=zBB (n:=e.Kids.length) (f:=xH e.Kids e.Kids) (fun i hi=>by
        rw [xH]
        have k1:((i:Int)<(e.Kids.length:Int)):=by omega
        obtain ⟨m',hm,hm'⟩:=h.kid (gM hi)
        have hr:=sEx m' e.Kids[i] hm'
        simp only [k1,dT,if_true,xM hi,oB,oS,same,hr,bT,bF,if_false]
        rw [tG (by omega)]) (by rw [xH]; simp)
    have hL:xX e.Kids e.Kids=some true:=by
      rw [xX]
      simp only [bne_self_eq_false,bF,if_false,same,hl,oB,oS]
      rfl
    rw [gJ]
    simp only [bQ,if_true,sAf _ h1,sAc _ h2,hL,oB,oS]
    rfl
theorem sSt (s:zG) (h:BS s):pW s s=some true:=by
  obtain ⟨h1,m,h2⟩:=h;unfold pW;simp only [sAc _ h1,sEx m _ h2,if_true,oB,oS];rfl
theorem sPg (P:zH) (h:BG P):oC P P=some true:=by
  obtain ⟨⟨a1,a2⟩,p1,p2⟩:=h;unfold oC wF wN;have hl:=zBB (n:=P.Arrays.length) (f:=yP P.Arrays P.Arrays sT) (fun i hi=>by
      rw [yP];have k1:((i:Int)<(P.Arrays.length:Int)):=by omega
      have hd:=a2 _ (gM hi);have e:sT P.Arrays[i] P.Arrays[i]=some true:=by
        unfold sT;simp only [bQ,if_true,implEqI P.Arrays[i].Dims P.Arrays[i].Dims (by omega),zKx,oB,oS];rfl
      simp only [k1,dT,if_true,xM hi,oB,oS,e,bT,bF,if_false];rw [tG (by omega)]) (by rw [yP]; simp)
  have hl2:=zBB (n:=P.Parts.length) (f:=yW P.Parts P.Parts sU) (fun i hi=>by
      rw [yW];have k1:((i:Int)<(P.Parts.length:Int)):=by omega
      obtain ⟨x1,x2,x3⟩:=p2 _ (gM hi);have hS:xW P.Parts[i].Body P.Parts[i].Body pW=some true:=by
        unfold xW;have hl3:=zBB (n:=P.Parts[i].Body.length) (f:=yV P.Parts[i].Body P.Parts[i].Body pW) (fun k hk=>by
            rw [yV];have k2:((k:Int)<(P.Parts[i].Body.length:Int)):=by omega
            simp only [k2,dT,if_true,xM hk,oB,oS,sSt _ (x3 _ (gM hk)),bT,bF,if_false];rw [tG (by omega)]) (by rw [yV]; simp)
        simp only [bne_self_eq_false,bF,if_false,hl3,oB,oS];rfl
      have e:sU P.Parts[i] P.Parts[i]=some true:=by
        unfold sU;simp only [sNs _ x1,if_true,hS,oB,oS];rfl
      simp only [k1,dT,if_true,xM hi,oB,oS,e,bT,bF,if_false];rw [tG (by omega)]) (by rw [yW]; simp)
  simp only [bne_self_eq_false,bF,if_false,hl,hl2,oB,oS];rfl
theorem sNil:oC ⟨[],[]⟩ ⟨[],[]⟩=some true:=sPg _ ⟨⟨by simp,fun _ h=>by cases h⟩,by simp,fun _ h=>by cases h⟩
end Go.LN
namespace Go.LN
theorem xK (a b c d e):(zC.mk a b c d e).Kind=a:=rfl
theorem xN (a b c d e):(zC.mk a b c d e).Num=b:=rfl
theorem xI (a b c d e):(zC.mk a b c d e).Index=c:=rfl
theorem xR (a b c d e):(zC.mk a b c d e).Read=d:=rfl
theorem xC (a b c d e):(zC.mk a b c d e).Kids=e:=rfl
def numE (n:Int):zC:=⟨1,n,⟨[],0⟩,⟨⟨[]⟩,[]⟩,[]⟩
def opE (k:Int) (x y:zC):zC:=⟨k,0,⟨[],0⟩,⟨⟨[]⟩,[]⟩,[x,y]⟩
def isN (x:zC) (n:Int):Bool:=(x.Kind==1)&&(x.Num==n)
def opN (k x y:Int):Int:=if k=5 then x - y else if k=6 then x*y else x+y
def opF (k:Int) (x y:zC):zC :=
  if x.Kind=1/\y.Kind=1 then (if 0<=opN k x.Num y.Num/\opN k x.Num y.Num<=99 then numE (opN k x.Num y.Num) else opE k x y)
  else if (k ≠ 6/\isN y 0=true)∨(k=6/\isN y 1=true) then x
  else if (k=4/\isN x 0=true)∨(k=6/\isN x 1=true) then y
  else if k=6/\(isN x 0=true∨isN y 0=true) then numE 0
  else opE k x y
def foE:Nat->zC->zC
  | 0,e=>e
  | n+1,e=>if e.Kind=2/\depF e.Index=0/\0<=e.Index.Const then numE e.Index.Const
    else match e.Kids with
      | [a,b]=>opF e.Kind (foE n a) (foE n b)
      | _=>e
def nuB (x:zC):Prop:=x.Kind=1->0<=x.Num/\x.Num<=99
theorem numV (n:Int):zAy n=some (numE n):=rfl
theorem sNumV (n:Int):jM n=some (numE n):=rfl
theorem isNV (x:zC) (n:Int):pX x n=some (isN x n):=by
  unfold pX isN;cases h:(x.Kind==1) <;> simp
theorem sIsV (x:zC) (n:Int):kI x n=some (isN x n):=by
  unfold kI isN;cases h:(x.Kind==1) <;> simp
theorem zMA {k x y:Int} (hx:0<=x/\x<=99) (hy:0<=y/\y<=99):W (x - y)=x - y/\W (x*y)=x*y/\W (x+y)=x+y:=by
  have h1:0<=x*y:=Int.mul_nonneg hx.1 hy.1;have h2:x*y<=99*99:=Int.mul_le_mul hx.2 hy.2 hy.1 (by omega);exact ⟨qO (by omega) (by omega),qO (by omega) (by omega),qO (by omega) (by omega)⟩
theorem zIj {d:Int}:∀ (n:Nat) (e:zC),shapeB d n e=true->shapeB d (n+1) e=true
  | 0,e,h=>by simp [shapeB] at h
  | n+1,e,h=>by
    rw [shapeB] at h ⊢
    simp only [bA,cf] at h ⊢
    exact ⟨h.1,fun k hk=>zIj n k (h.2 k hk)⟩
theorem zLd {d:Int}:∀ (n:Nat) (e:zC),shapeB d n e=true->cnt (n+1) e=cnt n e
  | 0,e,h=>by simp [shapeB] at h
  | n+1,e,h=>by
    have hk:=(kY h).2
    rw [cnt,cnt]
    rw [e6 (fun k hk'=>zLd n k (hk k hk'))]
theorem zIk {d:Int}:∀ (n:Nat) (e:zC),shapeB d n e=true->readsF (n+1) e=readsF n e
  | 0,e,h=>by simp [shapeB] at h
  | n+1,e,h=>by
    have hk:=(kY h).2
    rw [readsF,readsF]
    have:=e6 (fun k hk'=>zIk n k (hk k hk'))
    simp only [List.flatMap_def,this]
theorem zJ8 {d:Int}{n:Nat}{v:Int} (h:0<=v/\v<=99):shapeB d (n+1) (numE v)=true:=by
  simp [shapeB,numE,kidsN,ownB,noA,noC,h.1,h.2,xK,xN,xI,xR,xC]
theorem zMB {n:Nat}{v:Int}:cnt (n+1) (numE v)=1:=by simp [cnt,numE,xC]
theorem zJ9 {n:Nat}{v:Int}:readsF (n+1) (numE v)=[]:=by simp [readsF,numE,xC,xK]
theorem zNS {d:Int}{n:Nat}{k:Int}{x y:zC} (hk:k=4∨k=5∨k=6) (hx:shapeB d n x=true) (hy:shapeB d n y=true):shapeB d (n+1) (opE k x y)=true:=by
  rcases hk with rfl | rfl | rfl <;> simp [shapeB,opE,kidsN,ownB,noA,noC,hx,hy,xK,xN,xI,xR,xC]
theorem zNT {n:Nat}{k:Int}{x y:zC}:cnt (n+1) (opE k x y)=1+(cnt n x+cnt n y):=by simp [cnt,opE,xC]
theorem zKy {n:Nat}{k:Int}{x y:zC} (hk:k=4∨k=5∨k=6):readsF (n+1) (opE k x y)=readsF n x++readsF n y:=by
  rcases hk with rfl | rfl | rfl <;> simp [readsF,opE,xC,xK]
theorem zGW {d:Int}{n:Nat}{e:zC} (h:shapeB d n e=true):nuB e:=by
  intro h1;cases n with
  | zero=>simp [shapeB] at h
  | succ n =>
    rw [shapeB] at h;simp only [bA] at h;have:=h.1.2;unfold ownB at this;rw [if_neg (by omega),if_neg (by omega),if_pos h1] at this;simp only [bA,decide_eq_true_eq] at this;exact this.1.1
theorem zIl {d:Int}{n:Nat}{e:zC} (h:shapeB d (n+1) e=true):(e.Kids=[]/\(e.Kind=1∨e.Kind=2∨e.Kind=3))∨(∃ a b,e.Kids=[a,b]/\(e.Kind=4∨e.Kind=5∨e.Kind=6)/\e=opE e.Kind a b/\shapeB d n a=true/\shapeB d n b=true):=by
  have hk:=kY h;rw [shapeB] at h;simp only [bA] at h;have h1:=eq_of_beq h.1.1;have ho:=h.1.2;rcases hk.1 with e0 | ⟨a,b,e0⟩
  · rw [e0] at h1;left;refine ⟨e0,?_⟩;unfold kidsN at h1;by_cases c:e.Kind=1∨e.Kind=2∨e.Kind=3
    · exact c
    · rw [if_neg c] at h1;split at h1 <;> simp at h1
  · rw [e0] at h1;right;have hkd:e.Kind=4∨e.Kind=5∨e.Kind=6:=by
      unfold kidsN at h1;split at h1
      · simp at h1
      · rename_i c;split at h1
        · assumption
        · simp at h1
    refine ⟨a,b,e0,hkd,?_,hk.2 a (by rw [e0]; simp),hk.2 b (by rw [e0]; simp)⟩;unfold ownB at ho;rw [if_neg (by omega),if_neg (by omega),if_neg (by omega)] at ho;simp only [bA] at ho;have hn:e.Num=0:=eq_of_beq ho.1.1;have hI:=zF4 ho.1.2;have hR:=zF5 ho.2;clear ho h1 h hk;cases e
    simp only [xN,xI,xR,xC] at hn hI hR e0;subst hn hI hR e0;rfl
theorem zOH {d:Int}{n:Nat}{k:Int}{x y:zC} (hk:k=4∨k=5∨k=6) (hx:shapeB d n x=true) (hy:shapeB d n y=true) :
    shapeB d (n+1) (opF k x y)=true/\cnt (n+1) (opF k x y)<=1+(cnt n x+cnt n y)/\∀ a∈readsF (n+1) (opF k x y),a∈readsF n x∨a∈readsF n y:=by
  have hop:shapeB d (n+1) (opE k x y)=true/\cnt (n+1) (opE k x y)<=1+(cnt n x+cnt n y)/\∀ a∈readsF (n+1) (opE k x y),a∈readsF n x∨a∈readsF n y :=
    ⟨zNS hk hx hy,by rw [zNT]; omega,fun a ha=>by rw [zKy hk] at ha; exact cU.1 ha⟩
  have hnu:∀ v,0<=v/\v<=99->shapeB d (n+1) (numE v)=true/\cnt (n+1) (numE v)<=1+(cnt n x+cnt n y)/\∀ a∈readsF (n+1) (numE v),a∈readsF n x∨a∈readsF n y :=
    fun v hv=>⟨zJ8 hv,by rw [zMB]; omega,fun a ha=>by rw [zJ9] at ha; cases ha⟩
  unfold opF
  split
  · split
    · rename_i h; exact hnu _ h
    · exact hop
  · split
    · exact ⟨zIj n x hx,by rw [zLd n x hx]; omega,fun a ha=>.inl (by rw [zIk n x hx] at ha; exact ha)⟩
    · split
      · exact ⟨zIj n y hy,by rw [zLd n y hy]; omega,fun a ha=>.inr (by rw [zIk n y hy] at ha; exact ha)⟩
      · split
        · exact hnu 0 (by omega)
        · exact hop
theorem zKz {e:zC}{d:Int}{n:Nat} (h:shapeB d (n+1) e=true) (h2:e.Kind=2) (h0:0<=e.Index.Const):0<=e.Index.Const/\e.Index.Const<=99:=by
  rw [shapeB] at h;simp only [bA] at h;have:=h.1.2;unfold ownB at this;rw [if_pos h2] at this;simp only [bA,okA,validB,constB,decide_eq_true_eq] at this;omega
theorem zDP {d:Int}:∀ (n:Nat) (e:zC),shapeB d n e=true->shapeB d n (foE n e)=true/\cnt n (foE n e)<=cnt n e/\∀ a∈readsF n (foE n e),a∈readsF n e
  | 0,e,h=>by simp [shapeB] at h
  | n+1,e,h=>by
    rw [foE]
    by_cases hc:e.Kind=2/\depF e.Index=0/\0<=e.Index.Const
    · rw [if_pos hc]
      exact ⟨zJ8 (zKz h hc.1 hc.2.2),by rw [zMB,cnt]; omega,fun a ha=>by rw [zJ9] at ha; cases ha⟩
    · rw [if_neg hc]
      rcases zIl h with ⟨e0,hk0⟩ | ⟨a,b,e0,hk,he,ha,hb⟩
      · rw [e0]
        exact ⟨h,cZ _,fun a ha=>ha⟩
      · rw [e0]
        show shapeB d (n+1) (opF e.Kind (foE n a) (foE n b))=true/\cnt (n+1) (opF e.Kind (foE n a) (foE n b))<=_/\_
        obtain ⟨a1,a2,a3⟩:=zDP n a ha
        obtain ⟨b1,b2,b3⟩:=zDP n b hb
        obtain ⟨o1,o2,o3⟩:=zOH (k:=e.Kind) hk a1 b1
        have hce:cnt (n+1) e=1+(cnt n a+cnt n b):=by rw [he]; exact zNT
        have hre:readsF (n+1) e=readsF n a++readsF n b:=by rw [he]; exact zKy hk
        refine ⟨o1,by omega,fun z hz=>?_⟩
        rw [hre]
        rcases o3 z hz with h | h
        · exact da _ (a3 z h)
        · exact eb _ (b3 z h)
theorem implFold {d:Int}:∀ (n:Nat) (e:zC),shapeB d n e=true->(∃ m,BE m e)->zAK e=some (foE n e)
  | 0,e,h,_=>by simp [shapeB] at h
  | n+1,e,h,⟨m,hm⟩=>by
    have hI:=(hm.own).1
    rw [zAK,foE]
    rcases zIl h with ⟨e0,hk⟩ | ⟨a,b,e0,hk,he,ha,hb⟩
    · have hop:jI e.Kind=some false:=by
        unfold jI
        rw [nS]
        have:¬(4<=e.Kind):=by omega
        simp [this]
      rw [e0]
      by_cases h2:e.Kind=2
      · simp only [h2,bQ,if_true,implDepth _ (show e.Index.Coefs.length<=1048576 by unfold BA at hI; omega),oB,oS,oP,true_and,numV,id]
        by_cases h3:depF e.Index=0
        · by_cases h4:0<=e.Index.Const
          · simp [h3,h4]
          · rw [h2] at hop
            simp [h3,h4,hop]
        · have:¬((depF e.Index:Int)=0):=by omega
          rw [h2] at hop
          simp [h3,hop]
      · simp [h2,hop]
    · obtain ⟨m',rfl,ha'⟩:=hm.kid (k:=a) (by rw [e0]; simp)
      obtain ⟨m2,e2,hb'⟩:=hm.kid (k:=b) (by rw [e0]; simp)
      have h2:¬e.Kind=2:=by omega
      have hop:jI e.Kind=some true:=by
        unfold jI
        rw [nS]
        have h5:4<=e.Kind:=by omega
        have h6:e.Kind<=6:=by omega
        simp [h5,h6]
      have i0:idx [a,b] 0=some a:=rfl
      have i1:idx [a,b] 1=some b:=rfl
      have nx:=zGW (zDP n a ha).1
      have ny:=zGW (zDP n b hb).1
      simp only [same,h2,false_and,if_false,beq_iff_eq,oB,oS,oP,hop,i0,i1,implFold n a ha ⟨_,ha'⟩,implFold n b hb ⟨_,hb'⟩,numV,isNV,nS,id,e0,bT,bF]
      generalize foE n a=x at nx ⊢
      generalize foE n b=y at ny ⊢
      unfold opF
      by_cases hxy:x.Kind=1/\y.Kind=1
      · obtain ⟨w1,w2,w3⟩:=zMA (k:=0) (nx hxy.1) (ny hxy.2)
        rw [if_pos hxy]
        simp only [hxy.1,hxy.2,bQ,if_true,w1,w2,w3,oS]
        rcases hk with k4 | k4 | k4 <;> simp [k4,opN,opE]
        all_goals (split <;> rfl)
      · rw [if_neg hxy]
        have hb9:(if x.Kind=1 then some (y.Kind==1) else some false)=some false:=by
          by_cases hx:x.Kind=1
          · rw [if_pos hx]
            have:¬y.Kind=1:=fun h=>hxy ⟨hx,h⟩
            simp [this]
          · rw [if_neg hx]
        rw [hb9]
        rcases hk with k4 | k4 | k4 <;> cases hx0:isN x 0 <;> cases hx1:isN x 1 <;> cases hy0:isN y 0 <;> cases ax:isN y 1 <;> simp [k4,opE]
end Go.LN
namespace Go.LN
theorem BE.kids {m:Nat}{e:zC} (h:BE m e):BA e.Index/\BL e.Read.Subs/\∀ k∈e.Kids,∃ j,BE j k:=by
  refine ⟨h.own.1,h.own.2.1,fun k hk=>?_⟩;obtain ⟨j,_,h2⟩:=h.kid hk;exact ⟨j,h2⟩
theorem nodeV {e:zC} (hI:BA e.Index) (h0:e.Kids=[]):jZ e=some (if e.Kind=2/\depF e.Index=0/\0<=e.Index.Const then numE e.Index.Const else e):=by
  unfold jZ;by_cases h2:e.Kind=2
  · simp only [h2,bQ,if_true,specDepth _ (show e.Index.Coefs.length<=1048576 by unfold BA at hI; omega),oB,oS,oP,true_and,sNumV,id];by_cases h3:depF e.Index=0
    · by_cases h4:0<=e.Index.Const <;> simp [h3,h4,h0]
    · simp [h3,h0]
  · simp [h2,h0]
theorem nodeO {k:Int}{x y:zC} (hk:k=4∨k=5∨k=6) (nx:nuB x) (ny:nuB y):jZ (opE k x y)=some (opF k x y):=by
  have h2:¬k=2:=by omega
  have i0:idx [x,y] 0=some x:=rfl;have i1:idx [x,y] 1=some y:=rfl;have hl:¬((([x,y]:List zC).length:Int)=0):=by simp
  unfold jZ;simp only [opE,xK,xC,h2,hl,if_false,beq_iff_eq,oB,oS,oP,i0,i1,sNumV,sIsV,id,bF];unfold opF;by_cases hxy:x.Kind=1/\y.Kind=1
  · obtain ⟨w1,w2,w3⟩:=zMA (k:=0) (nx hxy.1) (ny hxy.2);rw [if_pos hxy];simp only [hxy.1,hxy.2,bQ,if_true,oS];unfold zBD;simp only [xK,oB,oS,oP,w1,w2,w3,sNumV,id,beq_iff_eq];have key:∀ (v:Int) (e:zC),(Option.bind (if decide (v<0)=true then some true else some (decide (v>99))) fun t=>if t=true then some e else some (numE v))=some (if 0<=v/\v<=99 then numE v else e):=by
      intro v e;by_cases hv:v<0
      · simp [hv,show ¬(0<=v) by omega]
      · by_cases h9:v>99
        · simp [hv,h9,show ¬(v<=99) by omega]
        · simp [hv,h9,show 0<=v by omega,show v<=99 by omega]
    rcases hk with k4 | k4 | k4 <;> subst k4
    · exact (Option.bind_fun_some _).trans (key (x.Num+y.Num) _)
    · exact (Option.bind_fun_some _).trans (key (x.Num - y.Num) _)
    · exact (Option.bind_fun_some _).trans (key (x.Num*y.Num) _)
  · rw [if_neg hxy];have hb9:(if x.Kind=1 then some (y.Kind==1) else some false)=some false:=by
      by_cases hx:x.Kind=1
      · rw [if_pos hx];have:¬y.Kind=1:=fun h=>hxy ⟨hx,h⟩;simp [this]
      · rw [if_neg hx]
    rw [hb9];rcases hk with k4 | k4 | k4 <;> cases hx0:isN x 0 <;> cases hx1:isN x 1 <;> cases hy0:isN y 0 <;> cases ax:isN y 1 <;> simp [k4,opE]
theorem specFold {d:Int}:∀ (n:Nat) (e:zC),shapeB d n e=true->(∃ m,BE m e)->gA e=some (foE n e)
  | 0,e,h,_=>by simp [shapeB] at h
  | n+1,e,h,⟨m,hm⟩=>by
    obtain ⟨hI,hR,hkid⟩:=hm.kids
    rw [gA,foE,specCopyAff _ hI,specCopyAcc _ hR]
    rcases zIl h with ⟨e0,hk⟩ | ⟨a,b,e0,hk,he,ha,hb⟩
    · have l0:tF (same e) (same 0) []=some []:=by
        rw [tF]; simp [same,e0]
      simp only [l0,oB,oS,oP,id]
      rw [e0]
      have hee:(zC.mk e.Kind e.Num e.Index (zJ.mk e.Read.Array e.Read.Subs) [])=e:=by cases e; simp only [xC] at e0; subst e0; rfl
      rw [hee,nodeV hI e0]; rfl
    · obtain ⟨j1,hb1⟩:=hkid a (by rw [e0]; simp)
      obtain ⟨j2,hb2⟩:=hkid b (by rw [e0]; simp)
      have h2:¬e.Kind=2:=by omega
      have i0:idx e.Kids 0=some a:=by rw [e0]; rfl
      have i1:idx e.Kids 1=some b:=by rw [e0]; rfl
      have l2:tF e 2 [foE n a,foE n b]=some [foE n a,foE n b]:=by
        rw [tF]; simp [e0]
      have l1:tF e 1 [foE n a]=some [foE n a,foE n b]:=by
        rw [tF,e0,if_pos (show decide ((1:Int)<(([a,b]:List zC).length:Int))=true from rfl)]
        simp only [show idx [a,b] 1=some b from rfl,oB,oS,same,specFold n b hb ⟨_,hb2⟩]
        rw [show app 112 [foE n a] [foE n b]=some [foE n a,foE n b] from nP (by simp)]
        exact l2
      have l0:tF (same e) (same 0) []=some [foE n a,foE n b]:=by
        simp only [same]
        rw [tF,e0,if_pos (show decide ((0:Int)<(([a,b]:List zC).length:Int))=true from rfl)]
        simp only [show idx [a,b] 0=some a from rfl,oB,oS,same,specFold n a ha ⟨_,hb1⟩]
        rw [show app 112 [] [foE n a]=some [foE n a] from nP (by simp)]
        exact l1
      simp only [l0,oB,oS,oP,id]
      have hee:(zC.mk e.Kind e.Num e.Index (zJ.mk e.Read.Array e.Read.Subs) [foE n a,foE n b])=opE e.Kind (foE n a) (foE n b):=by
        have h3:e.Num=0/\e.Index=⟨[],0⟩/\e.Read=⟨⟨[]⟩,[]⟩:=by rw [he]; exact ⟨rfl,rfl,rfl⟩
        rw [h3.1,h3.2.1,h3.2.2]; rfl
      rw [hee,nodeO hk (zGW (zDP n a ha).1) (zGW (zDP n b hb).1),if_neg (by omega),e0]
      rfl
def foS (s:zG):zG:=⟨s.Write,foE 5 s.Value⟩
def foX (x:zL):zL:=⟨x.Nest,x.Body.map foS⟩
def foP (P:zH):zH:=⟨P.Arrays,P.Parts.map foX⟩
theorem implFoS {s:zG}{d:Int} (h:stmtB s d=true) (hb:BS s):zA4 s=some (foS s):=by
  unfold zA4;rw [ownSt h];simp only [oB,oS];rw [implFold 5 _ (fP h).2.1 hb.2]; rfl
theorem zOq {a:zA}{d:Int} (hd:d<=4) (h:okA d a=true):okA 4 a=true:=by
  simp only [okA,bA,decide_eq_true_eq] at h ⊢;exact ⟨h.1,by omega⟩
theorem zOI {a:zJ}{d:Int} (hd:d<=4) (h:accB a d=true):accB a 4=true:=by
  unfold accB at h ⊢;simp only [bA,cf] at h ⊢;exact ⟨h.1,fun x hx=>zOq hd (h.2 x hx)⟩
theorem stmt4 {s:zG}{d:Int} (h:stmtB s d=true):stmtB s 4=true:=by
  unfold stmtB at h ⊢;simp only [bA,decide_eq_true_eq] at h ⊢;exact ⟨⟨by omega,zOI h.1.1.2 h.1.2⟩,zKv h.1.1.2 5 _ h.2.1,h.2.2⟩
theorem specFoS {s:zG}{d:Int} (h:stmtB s d=true) (hb:BS s):gR s=some (foS s,true):=by
  unfold gR;rw [specStmt s 4 hb,stmt4 h,specCopyAcc _ hb.1,specFold 5 _ (fP h).2.1 hb.2];rfl
theorem zMC {α:Type}{F:List α->Int->Option (List α)} (l:List α) (g:α->Option α) (h:α->α) (hl:l.length<=100000) (heq:∀ o (k:Int),F o k=if decide (k<(l.length:Int))=true then (idx o k).bind fun s=>(g s).bind fun y=>F (o.set k.toNat y) (W (k+1)) else some o) (hg:∀ s∈l,g s=some (h s)):F l 0=some (l.map h):=by
  have main:∀ j k:Nat,k+j=l.length->F ((l.take k).map h++l.drop k) (k:Int)=some (l.map h):=by
    intro j
    induction j with
    | zero =>
      intro k hk;rw [heq,if_neg (by simp; omega),show l.drop k=[] from dN.2 (by omega),dc (by omega),co]
    | succ j ih =>
      intro k hk;have aN:k<l.length:=by omega
      have e1:((l.take k).map h).length=k:=by simp; omega
      rw [heq,if_pos (by simp; omega),gC aN];have hi:idx ((l.take k).map h++l[k]::l.drop (k+1)) (k:Int)=some l[k]:=by
        rw [xM (by simp; omega)]
        congr 1
        rw [List.getElem_append_right (by omega)];simp only [e1,Nat.sub_self,List.getElem_cons_zero]
      rw [hi];simp only [oS];rw [hg _ (gM aN)];simp only [oS];rw [tG (by omega),iN,List.set_append_right _ _ (by omega),e1,Nat.sub_self,em];rw [<- ih (k+1) (by omega)]
      congr 1
      rw [List.take_succ_eq_append_getElem aN,d8,cv]; rfl
  have:=main l.length 0 (cC _);simpa using this
theorem implFoX {x:zL}{A:List zD} (hb:BP x) (h:bodyB x=true):tS (x.Body.length:Int) x.Body 0=some (x.Body.map foS):=by
  obtain ⟨b1,b2,b3⟩:=dA h;exact zMC (F:=fun o k=>tS (x.Body.length:Int) o k) x.Body _ foS (by omega) (fun o k=>by rw [tS]; rfl) fun s hs=>implFoS (b3 s hs) (hb.2.2 s hs)
theorem specFoX {x:zL}{A:List zD} (hb:BP x) (h:bodyB x=true):tT (x.Body.length:Int) x.Body 0=some (x.Body.map foS):=by
  obtain ⟨b1,b2,b3⟩:=dA h;exact zMC (F:=fun o k=>tT (x.Body.length:Int) o k) x.Body (fun s=>(gR s).bind fun y=>some y.1) foS (by omega) (fun o k=>by rw [tT]; simp only [oB,Option.bind_assoc,oS,oP,id]) fun s hs=>by rw [specFoS (b3 s hs) (hb.2.2 s hs)]; rfl
theorem zKC {P:zH} (hb:BG P) (hv:validP P=true) {x:zL} (hx:x∈P.Parts):BP x/\partB P.Arrays x=true:=by
  obtain ⟨i,hi,rfl⟩:=ee.1 hx;have hp:=(eJ hv).2.2.1 i hi;rw [show gP P i=P.Parts[i] by simp [gP,hi]] at hp;exact ⟨hb.2.2 _ hx,hp⟩
theorem zBn {A:List zD}{x:zL} (h:partB A x=true):bodyB x=true:=by
  simp only [partB,bA] at h;exact h.1.2
def foF (P:zH):zH×Bool:=if validP P then (foP P,true) else (⟨[],[]⟩,false)
theorem implFo (P:zH) (hb:BG P):jY P=some (foF P):=by
  unfold jY foF;rw [implValidP P hb];cases hv:validP P with
  | false=>rfl
  | true =>
    simp only [oB,oS,bT,bF,if_false,if_true,ownPg hb hv,oP];rw [show rX (P.Parts.length:Int) P.Parts 0=some (P.Parts.map foX) from
      zMC (F:=fun o k=>rX (P.Parts.length:Int) o k) P.Parts (fun x=>(tS (x.Body.length:Int) x.Body 0).bind fun b=>some ⟨x.Nest,b⟩) foX hb.2.1 (fun o k=>by rw [rX]; simp only [oB,Option.bind_assoc,oS,oP,id]) fun x hx=>by
        obtain ⟨h1,h2⟩:=zKC hb hv hx;rw [implFoX (A:=P.Arrays) h1 (zBn h2)]; rfl]
    rfl
theorem specFo (P:zH) (hb:BG P):gB P=some (foF P):=by
  unfold gB foF;rw [sowPg P hb];simp only [oB,oS];rw [specValidP P hb];cases hv:validP P with
  | false=>rfl
  | true =>
    simp only [oS,bT,bF,if_false,if_true,copyProg P hb,oP];rw [show rY (P.Parts.length:Int) P.Parts 0=some (P.Parts.map foX) from
      zMC (F:=fun o k=>rY (P.Parts.length:Int) o k) P.Parts (fun x=>(tT (x.Body.length:Int) x.Body 0).bind fun b=>some ⟨x.Nest,b⟩) foX hb.2.1 (fun o k=>by rw [rY]; simp only [oB,Option.bind_assoc,oS,oP,id]) fun x hx=>by
        obtain ⟨h1,h2⟩:=zKC hb hv hx;rw [specFoX (A:=P.Arrays) h1 (zBn h2)]; rfl]
    rfl
theorem zGX {s:zG}{d:Int} (h:stmtB s d=true):stmtB (foS s) d=true/\∀ a∈readsF 5 (foS s).Value,a∈readsF 5 s.Value:=by
  have hf:=zDP 5 s.Value (fP h).2.1;refine ⟨?_,hf.2.2⟩;unfold stmtB at h ⊢;simp only [bA,decide_eq_true_eq] at h ⊢;exact ⟨h.1,hf.1,by show cnt 5 (foE 5 s.Value)<=12; omega⟩
theorem zOr {A:List zD}{s:zG}{d:Int} (h:stmtB s d=true) {q:List Int} (hk:stOk A s q=true):stOk A (foS s) q=true:=by
  unfold stOk at hk ⊢;simp only [bA,cf] at hk ⊢;exact ⟨hk.1,fun a ha=>hk.2 a ((zGX h).2 a ha)⟩
theorem zNU {A:List zD}{x:zL} (h:partB A x=true):partB A (foX x)=true:=by
  obtain ⟨b1,b2,b3⟩:=dA (zBn h);simp only [partB,bodyB,bA,cf,decide_eq_true_eq] at h ⊢;obtain ⟨⟨h1,h2,h3⟩,h4⟩:=h;refine ⟨⟨h1,by show 1<=(x.Body.map foS).length/\(x.Body.map foS).length<=4; simp only [lM]; exact h2,fun s hs=>?_⟩,fun q hq=>⟨(h4 q hq).1,fun s hs=>?_⟩⟩
  · obtain ⟨t,ht,rfl⟩:=dm.1 hs;exact (zGX (h3 t ht)).1
  · obtain ⟨t,ht,rfl⟩:=dm.1 hs;exact zOr (h3 t ht) ((h4 q hq).2 t ht)
theorem zNV (P:zH) (i:Nat) (h:i<P.Parts.length):gP (foP P) i=foX (gP P i):=by simp [gP,foP,h]
theorem zNW (k:Int) (x:zL):partI k (foX x)=partI k x:=by
  unfold partI;simp only [foX,lM]
theorem zGY (P:zH):progI (foP P)=progI P:=by
  unfold progI;rw [show (foP P).Parts.length=P.Parts.length by simp [foP]];simp only [List.flatMap_def]
  congr 1
  refine e6 fun i hi=>?_;have:=(df.1 hi).2;rw [zNV P i (by omega),zNW]
theorem zNX {P:zH} (hv:validP P=true):validP (foP P)=true:=by
  obtain ⟨h1,h2,h3,h4⟩:=eJ hv;simp only [validP,progB,bA,decide_eq_true_eq,zGY];have hl:(foP P).Parts.length=P.Parts.length:=by simp [foP]
  refine ⟨⟨⟨h1,by omega⟩,cf.2 fun i hi=>?_⟩,h4⟩;have hi':i<P.Parts.length:=by have:=(df.1 hi).2; omega
  rw [zNV P i hi'];exact zNU (h3 i hi')
theorem zLA {d:Int}:∀ (n:Nat) (e:zC),shapeB d n e=true->BE n e
  | 0,e,h=>by simp [shapeB] at h
  | n+1,e,h=>by
    have hk:=kY h
    have hb:BA e.Index/\BL e.Read.Subs:=by
      rw [shapeB] at h
      simp only [bA] at h
      have ho:=h.1.2
      have bz:BA (⟨[],0⟩:zA):=by unfold BA; simp
      have bl:BL ([]:List zA):=⟨by simp,fun _ h=>by cases h⟩
      have ba:∀ a,okA d a=true->BA a:=fun a ha=>by
        simp only [okA,validB,bA,decide_eq_true_eq] at ha
        have:=ha.1.1.1
        unfold BA; omega
      unfold ownB at ho
      split at ho
      · simp only [bA] at ho
        rw [zF5 ho.1.2]
        exact ⟨ba _ ho.2,bl⟩
      · split at ho
        · simp only [bA] at ho
          rw [zF4 ho.1.2]
          have ha:=ho.2
          unfold accB at ha
          simp only [bA,cf,decide_eq_true_eq] at ha
          exact ⟨bz,by omega,fun a ha'=>ba a (by simp_all)⟩
        · split at ho
          · simp only [bA] at ho
            rw [zF4 ho.1.2,zF5 ho.2]; exact ⟨bz,bl⟩
          · simp only [bA] at ho
            rw [zF4 ho.1.2,zF5 ho.2]; exact ⟨bz,bl⟩
    refine ⟨hb.1,hb.2,?_,fun k hk'=>zLA n k (hk.2 k hk')⟩
    rcases hk.1 with e0 | ⟨a,b,e0⟩ <;> rw [e0] <;> simp
theorem zPG {P:zH} (hb:BG P) (hv:validP P=true):BG (foP P):=by
  refine ⟨hb.1,by show (P.Parts.map foX).length<=_; rw [lM]; exact hb.2.1,fun y hy=>?_⟩;obtain ⟨x,hx,rfl⟩:=dm.1 hy;obtain ⟨h1,h2⟩:=zKC hb hv hx;obtain ⟨b1,b2,b3⟩:=dA (zBn h2);refine ⟨h1.1,by show (x.Body.map foS).length<=_; rw [lM]; exact h1.2.1,fun s hs=>?_⟩;obtain ⟨t,ht,rfl⟩:=dm.1 hs;exact ⟨(h1.2.2 t ht).1,5,zLA 5 _ (fP (zGX (b3 t ht)).1).2.1⟩
end Go.LN
namespace Go.LN
theorem val13:∀ (n:Nat) (r:zO) (lv:Int),lv=(n:Int)+1->n<=1->0<=r.p->r.p+200*(n:Int)<=600000000->Ok (mA r 0 lv) (fun y=>SE n y.1/\r.p<=y.2.p/\y.2.p<=r.p+40+60*(n:Int)):=by
  have leaf:∀ (m:Nat) (x:zO),0<=x.p->x.p<=700000000->Ok (do
      let (y4,y5)<-xG x 5
      if (y4==0) then
        let (y7,y8)<-xE y5 ([0,3,(-2),99]:List Int)
        let y9<-vH y7
        pure ((zC.mk 2 0 (zA.mk y9.Coefs y9.Const) (zJ.mk (⟨[]⟩:Str) ([]:List zA)) ([]:List zC)),y8)
      else
        if (y4==1) then
          let (y11,y12)<-kH y5 0
          pure ((zC.mk 3 0 (zA.mk ([]:List Int) 0) y11 ([]:List zC)),y12)
        else
          let (y14,y15)<-xE y5 ([0,1,2,50,99,0,1]:List Int)
          let y16<-jM y14
          pure (y16,y15)) (fun y=>SE m y.1/\x.p<=y.2.p/\y.2.p<=x.p+40):=by
    intro m x h0 h1;refine Ok.call (eE x 5) ⟨h0,by omega⟩ fun y s k1 k2 k3=>?_;refine Ok.ite_beq (fun _=>?_) fun _=>Ok.ite_beq (fun _=>?_) fun _=>?_
    · refine Ok.call (vX s _) ⟨by decide,by omega,by omega,by decide⟩ fun y3 s3 _ g3 e3=>Ok.call (jO _) trivial (Ok.pure ⟨SE.lf (VA4.sa rfl g3) SC.nil,by dsimp only; omega,by dsimp only; omega⟩)
    · exact Ok.call (zF2 s 0) ⟨by omega,by omega,by decide,by decide⟩ fun a s3 g3 e3 e4=>Ok.pure ⟨SE.lf SA.nil0 g3,by dsimp only; omega,by dsimp only; omega⟩
    · refine Ok.call (vX s _) ⟨by decide,by omega,by omega,by decide⟩ fun y3 s3 _ g3 e3=>?_;exact Ok.bind_some (Ok.pure ⟨SE.lf SA.nil0 SC.nil,by dsimp only; omega,by dsimp only; omega⟩)
  intro n
  induction n with
  | zero =>
    intro r lv hlv hn h0 h1;unfold mA;have:decide (lv<2)=true:=by rw [hlv]; rfl
    rw [this];exact (leaf 0 r h0 (by omega)).mono fun y hy=>⟨hy.1,hy.2.1,by have:=hy.2.2; omega⟩
  | succ n ih =>
    intro r lv hlv hn h0 h1;obtain rfl:n=0:=by omega
    have hlv2:lv=2:=by rw [hlv]; rfl
    subst hlv2;unfold mA;rw [show decide ((2:Int)<2)=false from rfl];refine Ok.bind (φ:=fun o:Bool×zO=>o.2.p=r.p+1) ?_ fun o ho=>?_
    · exact Ok.call (eE r 5) ⟨h0,by omega⟩ fun y s k1 k2 k3=>Ok.pure k3
    obtain ⟨b,x⟩:=o;dsimp only at ho ⊢;refine Ok.ite (fun _=>(leaf 1 x (by omega) (by omega)).mono fun y hy=>⟨hy.1,by have:=hy.2.1; omega,by have:=hy.2.2; omega⟩) fun _=>?_;refine Ok.call (vX x _) ⟨by decide,by omega,by omega,by decide⟩ fun k s _ _ e3=>?_;have two:∀ (o:List zC) (t:zO),o.length<=5->(∀ e∈o,SE 0 e)->Ok (rB 0 2 2 o t) (fun y=>y=(o,t)):=by
      intro o t _ _;unfold rB;exact Ok.pure rfl
    have one:∀ (o:List zC) (t:zO),o.length<=4->(∀ e∈o,SE 0 e)->0<=t.p->t.p<=600000000->Ok (rB 0 2 1 o t) (fun y=>y.1.length<=10/\(∀ e∈y.1,SE 0 e)/\t.p<=y.2.p/\y.2.p<=t.p+40):=by
      intro o t ho1 ho2 ht0 ht1;unfold rB;rw [show decide ((1:Int)<2)=true from rfl];refine Ok.bind (ih t _ rfl (by omega) ht0 (by simp only [nZ]; omega)) fun y hy=>?_;obtain ⟨e,u⟩:=y;obtain ⟨g1,g2,g3⟩:=hy;dsimp only at g1 g2 g3;refine Ok.app (by simp; omega) ?_;refine (two (o++[e]) u (by simp; omega) (fun z hz=>?_)).mono fun y hy=>?_
      · rcases cU.1 hz with hz | hz
        · exact ho2 z hz
        · rw [cx.1 hz]; exact g1
      · subst hy;refine ⟨by simp; omega,fun z hz=>?_,by dsimp only; omega,by dsimp only; omega⟩;rcases cU.1 hz with hz | hz
        · exact ho2 z hz
        · rw [cx.1 hz]; exact g1
    have zero:∀ (t:zO),0<=t.p->t.p<=599999900->Ok (rB 0 2 0 [] t) (fun y=>y.1.length<=10/\(∀ e∈y.1,SE 0 e)/\t.p<=y.2.p/\y.2.p<=t.p+80):=by
      intro t ht0 ht1;unfold rB;rw [show decide ((0:Int)<2)=true from rfl];refine Ok.bind (ih t _ rfl (by omega) ht0 (by simp only [nZ]; omega)) fun y hy=>?_;obtain ⟨e,u⟩:=y;obtain ⟨g1,g2,g3⟩:=hy;dsimp only at g1 g2 g3;refine Ok.app (by simp) ?_;exact (one [e] u (by simp) (fun z hz=>by rw [cx.1 hz]; exact g1) (by omega) (by omega)).mono fun y hy=>⟨hy.1,hy.2.1,by have:=hy.2.2.1; omega,by have:=hy.2.2.2; omega⟩
    refine Ok.bind (zero s (by omega) (by omega)) fun y hy=>?_;obtain ⟨ks,u⟩:=y;obtain ⟨k1,k2,k3,k4⟩:=hy;dsimp only at k1 k2 k3 k4;exact Ok.pure ⟨SE.kids k1 k2,by dsimp only; omega,by dsimp only; omega⟩
theorem loop13 {α:Type}{F:zO->List α->Int->Option (zO×List α)} (l:List α) (Q:α->Prop) (c b:Int) (hc:0<=c)
    (step:∀ (r:zO) (o:List α) (k:Nat) (hk:k<l.length),o.length=l.length->idx o (k:Int)=some l[k]->0<=r.p->r.p<=b->∀ {ψ:zO×List α->Prop},
      (∀ (s:zO) (o':List α),(o'=o∨∃ z,Q z/\o'=o.set k z)->r.p<=s.p->s.p<=r.p+c->Ok (F s o' ((k+1:Nat):Int)) ψ)->Ok (F r o (k:Int)) ψ)
    (fin:∀ (r:zO) (o:List α),F r o (l.length:Int)=some (r,o)) (hl:∀ x∈l,Q x):∀ (j k:Nat) (r:zO) (o:List α),k+j=l.length->o.length=l.length->(∀ x∈o,Q x)->(∀ i,k<=i->o[i]?=l[i]?)->0<=r.p->r.p+c*j<=b ->
      Ok (F r o (k:Int)) (fun y=>(∀ x∈y.2,Q x)/\y.2.length=l.length/\r.p<=y.1.p/\y.1.p<=r.p+c*j):=by
  intro j
  induction j with
  | zero =>
    intro k r o hk ho hq _ h0 h1
    rw [show (k:Int)=(l.length:Int) by omega,fin]
    exact Ok.some ⟨hq,ho,by dsimp only; omega,by dsimp only; omega⟩
  | succ j ih =>
    intro k r o hk ho hq hs h0 h1
    have aN:k<l.length:=by omega
    have e1:c*((j+1:Nat):Int)=c*(j:Int)+c:=by rw [Int.natCast_add,Int.mul_add]; simp
    have e2:0<=c*(j:Int):=Int.mul_nonneg hc (by omega)
    refine step r o k aN ho (by
      have h9:=hs k (cZ k)
      rw [cg (by omega),cg aN] at h9
      rw [xM (by omega)]; exact h9) h0 (by omega) fun s o' hor g1 g2=>?_
    have ho':o'.length=l.length/\(∀ x∈o',Q x)/\∀ i,k+1<=i->o'[i]?=l[i]?:=by
      rcases hor with rfl | ⟨z,hz,rfl⟩
      · exact ⟨ho,hq,fun i hi=>hs i (by omega)⟩
      · exact ⟨by rw [cR]; exact ho,zDO hq hz k,fun i hi=>by rw [List.getElem?_set_ne (by omega)]; exact hs i (by omega)⟩
    refine (ih (k+1) s o' (by omega) ho'.1 ho'.2.1 ho'.2.2 (by omega) (by omega)).mono fun y hy=>⟨hy.1,hy.2.1,by have:=hy.2.2.1; omega,by have:=hy.2.2.2; omega⟩
theorem body13 (l:List zG) (hl:l.length<=1000) (hq:∀ s∈l,SS s) (r:zO) (h0:0<=r.p) (h1:r.p<=400000000) :
    Ok (tE (l.length:Int) r l 0) (fun y=>(∀ s∈y.2,QS 100 s)/\y.2.length=l.length/\r.p<=y.1.p/\y.1.p<=r.p+110*(l.length:Int)):=by
  refine loop13 (F:=fun r o k=>tE (l.length:Int) r o k) l (QS 100) 110 500000000 (by omega) ?_ ?_ (fun s hs=>(hq s hs).qs) l.length 0 r l (cC _) rfl (fun s hs=>(hq s hs).qs) (fun i _=>rfl) h0 (by omega)
  · intro r o k hk ho hi g0 g1 ψ next
    try dsimp only
    rw [tE]
    have hc:decide ((k:Int)<(l.length:Int))=true:=by simp; omega
    rw [if_pos hc,hi]
    refine Ok.bind_some (Ok.call (vX r _) ⟨by decide,g0,by omega,by decide⟩ fun y s _ _ e3=>?_)
    refine Ok.bind (val13 1 s 2 rfl (by omega) (by omega) (by omega)) fun z hz=>?_
    obtain ⟨z,t⟩:=z
    obtain ⟨z1,z2,z3⟩:=hz
    dsimp only at z1 z2 z3 ⊢
    refine Ok.call (eE t 2) ⟨by omega,by omega⟩ fun v u _ _ e4=>?_
    rw [tG (by omega),iN]
    have hs:=hq _ (gM hk)
    refine Ok.ite (fun _=>next u _ (.inr ⟨_,?_,rfl⟩) (by omega) (by omega)) fun _=>next u _ (.inl rfl) (by omega) (by omega)
    have hb:=SE.be hs.2
    refine ⟨hs.qs.1,show ([]:List Int).length<=1000 by simp,⟨show ([]:List zA).length<=1000 by simp,fun _ h=>by cases (show _∈([]:List zA) from h)⟩,show ([l[k].Value,z]:List zC).length<=100 by simp,fun e he=>?_⟩
    have he:e∈[l[k].Value,z]:=he
    rcases cQ.1 he with rfl | he
    · exact BE.up hb (by omega)
    · rw [cx.1 he]
      exact BE.up (SE.be z1) (by omega)
  · intro r o
    try dsimp only
    rw [tE,if_neg (by simp)]
    rfl
theorem prog13 (r:zO) (h0:0<=r.p) (h1:r.p<=1000):Ok (fA r) (fun y=>DP y.1/\r.p<=y.2.p/\y.2.p<=600000000):=by
  unfold fA;refine Ok.call (zL6 r) ⟨h0,by omega⟩ fun P s g1 g2 g3=>?_;have hd:=g1.dp;dsimp only;rw [copyProg P hd.bg];refine Ok.bind_some ?_;obtain ⟨a1,p1,p2⟩:=g1;have key:=loop13 (F:=fun r o k=>qJ (P.Parts.length:Int) r o k) P.Parts DX 110000 250000000 (by omega) (by
    intro r o k hk ho hi g0 g1 ψ next
    try dsimp only
    rw [qJ];have hc:decide ((k:Int)<(P.Parts.length:Int))=true:=by simp; omega
    rw [if_pos hc,hi];have hx:=p2 _ (gM hk);refine Ok.bind_some (Ok.bind (body13 _ hx.2.1 hx.2.2 r g0 (by omega)) fun y hy=>?_);obtain ⟨t,b⟩:=y;obtain ⟨k1,k2,k3,k4⟩:=hy;dsimp only at k1 k2 k3 k4 ⊢;have:=hx.2.1;rw [tG (by omega),iN];refine next t _ (.inr ⟨_,?_,rfl⟩) (by omega) (by omega);exact ⟨(hd.2.2 _ (gM hk)).1,by dsimp only; omega,k1⟩) (by
    intro r o
    try dsimp only
    rw [qJ,if_neg (by simp)];rfl) (fun x hx=>hd.2.2 x hx) P.Parts.length 0 s P.Parts (cC _) rfl (fun x hx=>hd.2.2 x hx) (fun i _=>rfl) (by omega) (by omega)
  refine Ok.bind key fun y hy=>?_;obtain ⟨t,b⟩:=y;obtain ⟨k1,k2,k3,k4⟩:=hy;dsimp only at k1 k2 k3 k4 ⊢;have hx:DP (zH.mk P.Arrays b):=⟨hd.1,by dsimp only; have:=hd.2.1; omega,k1⟩;rw [specValidP _ hx.bg];exact Ok.bind_some (Ok.ite (fun _=>Ok.pure ⟨hx,by dsimp only; omega,by dsimp only; omega⟩) fun _=>Ok.pure ⟨hd,by dsimp only; omega,by dsimp only; omega⟩)
theorem drawFo (code:List UInt8):Ok (nK code) BG:=by
  unfold nK;refine Ok.call (zK8 code) trivial fun s hs=>Ok.bind (prog13 s (by omega) (by omega)) fun y hy=>?_;obtain ⟨P,t⟩:=y;obtain ⟨k1,k2,k3⟩:=hy;dsimp only at k1 k2 k3;refine Ok.bind (mut4 t P k1 (by omega) (by omega)) fun p hp=>?_;obtain ⟨p1,p2⟩:=p;exact Ok.pure hp.1.1
end Go.LN
namespace Go.LN
def kb (a b c:Bool):Int:=(if a then 1 else 0)+(if b then 2 else 0)+(if c then 4 else 0)
theorem zOs:∀ a b c a' b':Bool,(a=true->a'=true)->(b=true->b'=true)->((W (BitVec.ofInt IntKind.i64.bits (kb a' b' c) &&& BitVec.ofInt IntKind.i64.bits (kb a b c)).toNat) != kb a b c)=false:=by
  intro a b c a' b' h1 h2;cases a <;> cases b <;> cases c <;> cases a' <;> cases b' <;> simp at h1 h2 <;> rfl
theorem zLB {l m:List Int} (h:∀ x∈l,x∈m) {n:Int} (hn:hasB l n=true):hasB m n=true:=zKr.2 (h n (zKr.1 hn))
theorem zOt {P:zH} (hv:validP P=true) {z:zX} (hz:z∈progI P):stI (foP P) z=foS (stI P z)/\stmtB (stI P z) ((gP P z.Part.toNat).Nest.length:Int)=true:=by
  unfold progI at hz;obtain ⟨i,hi,hz⟩:=cA.1 hz;have hi':i<P.Parts.length:=by have:=(df.1 hi).2; omega
  unfold partI at hz;obtain ⟨q,hq,hz⟩:=cA.1 hz;unfold instR at hz;obtain ⟨j,hj,rfl⟩:=dm.1 hz;have hj':j<(gP P i).Body.length:=by have:=(df.1 hj).2; omega
  have hp:=(eJ hv).2.2.1 i hi';have hb:=(dA (zBn hp)).2.2;have e1:stI P ⟨(i:Int),(j:Int),q⟩=(gP P i).Body[j]:=by unfold stI; simp [hj']
  have e2:stI (foP P) ⟨(i:Int),(j:Int),q⟩=foS (gP P i).Body[j]:=by
    unfold stI;simp only [iN];rw [zNV P i hi'];simp [foX,hj']
  rw [e1,e2];exact ⟨rfl,by simpa using hb _ (gM hj')⟩
theorem zMD (P:zH) (a:Nat):zIns (foP P) a=zIns P a:=by unfold zIns; rw [zGY]
theorem zOV {P:zH} (hv:validP P=true) {z:zX} (hz:z∈progI P):(∀ c∈rdI (foP P) z,c∈rdI P z)/\wrI (foP P) z=wrI P z:=by
  obtain ⟨h1,h2⟩:=zOt hv hz;unfold rdI wrI;rw [h1];refine ⟨fun c hc=>?_,rfl⟩;obtain ⟨a,ha,rfl⟩:=dm.1 hc;exact dm.2 ⟨a,(zGX h2).2 a ha,rfl⟩
theorem zOJ {P:zH} (hv:validP P=true) {i k:Nat} (hi:i<(progI P).length) (hk:k<(progI P).length) :
    ((W (BitVec.ofInt IntKind.i64.bits (kindI P i k) &&& BitVec.ofInt IntKind.i64.bits (kindI (foP P) i k)).toNat) != kindI (foP P) i k)=false:=by
  obtain ⟨r1,w1⟩:=zOV hv (zLy hi)
  obtain ⟨r2,w2⟩:=zOV hv (zLy hk)
  unfold kindI
  rw [zMD,zMD]
  unfold kindF
  rw [w1,w2]
  exact zOs _ _ _ _ _ (zLB r2) (zLB r1)
theorem zOK (code:List UInt8):∃ r,dR code=some r/\r=true:=by
  unfold dR;by_cases hl:(code.length:Int)>1048576
  · exact ⟨true,by simp only [hl,dT,if_true]; rfl,rfl⟩
  simp only [hl,dF,bF,if_false];obtain ⟨P,hy,hb⟩:=drawFo code;rw [hy];simp only [oB,oS,implFo P hb,specFo P hb];unfold foF;cases hv:validP P with
  | false =>
    refine ⟨true,?_,rfl⟩;simp only [bF,if_false,bQ,bT,sNil,oS,oP,di,if_true,id]
  | true =>
    have hbf:=zPG hb hv;have hvf:=zNX hv;refine ⟨true,?_,rfl⟩;simp only [if_true,bQ,bT,bF,if_false,sPg _ hbf,oS,oP,implDeps _ hbf];have hdl:(dpF (foP P)).length<=14400:=zOE;have hdp:∀ d∈dpF (foP P),∃ i k:Nat,d=⟨(i:Int),(k:Int),kindI (foP P) i k⟩/\i<k/\k<(progI P).length:=by
      intro d hd;unfold dpF at hd;rw [if_pos hvf] at hd;obtain ⟨i,k,h1,h2,h3,_⟩:=zOF hd;rw [zGY] at h3;exact ⟨i,k,h1,h2,h3⟩
    have hloop:sV P (dpF (foP P)) 0=some (.done ()):=by
      refine zBB (n:=(dpF (foP P)).length) (f:=fun i=>sV P (dpF (foP P)) i) (fun m hm=>?_) ?_
      · try dsimp only
        rw [sV];have hc:((m:Int)<((dpF (foP P)).length:Int)):=by omega
        obtain ⟨i,k,h1,h2,h3⟩:=hdp _ (gM hm);have hkd:dpb P (i:Int) (k:Int)=kindI P i k:=by
          unfold dpb;rw [if_pos ⟨hv,by omega,by omega,by omega⟩]; simp
        simp only [hc,dT,if_true,xM hm,oB,oS,h1,implDep P hb,hkd];rw [zOJ hv (by omega) h3,tG (by omega)];simp
      · try dsimp only
        rw [sV];simp
    rw [hloop];simp only [oS,implInstP _ hbf,implInstP _ hb,hv,hvf,if_true,zGY,bQ]
end Go.LN
