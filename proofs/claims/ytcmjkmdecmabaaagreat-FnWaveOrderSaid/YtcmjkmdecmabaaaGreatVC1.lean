/- Helper of the proof (see the last text). -/
import Derived.Test.YtcmjkmdecmabaaaGreatVB1
import Derived.Test.YtcmjkmdecmabaaaGreatQZ
set_option linter.unusedVariables false
set_option linter.unusedSimpArgs false
namespace Go.LN
theorem zAQ {α:Type}{l:List α}{f:Int->List α->Option (List α)} (step:∀ (i:Nat) (h:i<l.length) (o:List α),o.length=i->f (i:Int) o=f ((i+1:Nat):Int) (o++[l[i]])) (fin:∀ o,f (l.length:Int) o=some o):f 0 []=some l:=by
  have key:∀ j i,i+j=l.length->f (i:Int) (l.take i)=some l:=by
    intro j
    induction j with
    | zero =>
      intro i hi;rw [show i=l.length by omega,fin,dg (cP _)]
    | succ j ih =>
      intro i hi;have aE:i<l.length:=by omega
      have:=ih (i+1) (by omega);rw [fh,cg aE,Option.toList_some] at this;rw [step i aE _ (by rw [cw]; omega)];exact this
  exact key _ 0 (cu _)
theorem copyExpr:∀ (m:Nat) (e:zI),BE m e->pS e=some e
  | m,e,h=>by
    obtain ⟨h1,h2,h3⟩:=h.own
    rw [pS]
    have hl:=zAQ (l:=e.Kids) (f:=fun i o=>uF e i o) (fun i hi o ho=>by
        show uF e (i:Int) o=_
        rw [uF]
        have k1:((i:Int)<(e.Kids.length:Int)):=by omega
        obtain ⟨m',hm,hm'⟩:=h.kid (gM hi)
        have happ:app 112 o [e.Kids[i]]=some (o++[e.Kids[i]]):=oO (by simp; omega)
        have hr:=copyExpr m' e.Kids[i] hm'
        simp only [k1,dT,if_true,yI hi,oB,oS,same,hr,happ]
        rw [xY (by omega)]) (fun o=>by
        show uF e (e.Kids.length:Int) o=_
        rw [uF]; simp)
    simp only [specCopyAff _ h1,specCopyAcc _ h2,oB,oS,same]
    rw [show uF e 0 []=some e.Kids from hl]
    clear hl h h1 h2 h3
    cases e; rfl
theorem copyStmt (s:zP) (h:BS s):gZ s=some s:=by
  obtain ⟨h1,m,h2⟩:=h;unfold gZ;rw [specCopyAcc _ h1,copyExpr m _ h2];rfl
theorem copyNest (nest:List zE) (h:BN nest):mV nest=some nest:=by
  obtain ⟨h1,h2⟩:=h;unfold mV;have hl:=zAQ (l:=nest) (f:=fun i o=>uV nest o i) (fun i hi o ho=>by
      show uV nest o (i:Int)=_;rw [uV];have k1:((i:Int)<(nest.length:Int)):=by omega
      obtain ⟨⟨q1,q2⟩,q3,q4⟩:=h2 _ (gM hi);have happ:app 48 o [nest[i]]=some (o++[nest[i]]):=oO (by simp; omega);have hlo:=zAQ (l:=nest[i].Lo) (f:=fun k o=>rE nest (i:Int) k o) (fun k hk o ho=>by
          show rE nest (i:Int) (k:Int) o=_;rw [rE];have k2:((k:Int)<(nest[i].Lo.length:Int)):=by omega
          have hp:app 32 o [nest[i].Lo[k]]=some (o++[nest[i].Lo[k]]):=oO (by simp; omega);have ha:=q2 _ (gM hk);have hpn:app 8 ([]:List Int) nest[i].Lo[k].Coefs=some nest[i].Lo[k].Coefs:=zAm _ (by unfold BA at ha; omega);simp only [yI hi,k2,dT,if_true,yI hk,oB,oS,hpn,hp];rw [xY (by omega)]) (fun o=>by
          show rE nest (i:Int) (nest[i].Lo.length:Int) o=_;rw [rE]; simp [yI hi])
      have hhi:=zAQ (l:=nest[i].Hi) (f:=fun k o=>rF nest (i:Int) k o) (fun k hk o ho=>by
          show rF nest (i:Int) (k:Int) o=_;rw [rF];have k2:((k:Int)<(nest[i].Hi.length:Int)):=by omega
          have hp:app 32 o [nest[i].Hi[k]]=some (o++[nest[i].Hi[k]]):=oO (by simp; omega);have ha:=q4 _ (gM hk);have hpn:app 8 ([]:List Int) nest[i].Hi[k].Coefs=some nest[i].Hi[k].Coefs:=zAm _ (by unfold BA at ha; omega);simp only [yI hi,k2,dT,if_true,yI hk,oB,oS,hpn,hp];rw [xY (by omega)]) (fun o=>by
          show rF nest (i:Int) (nest[i].Hi.length:Int) o=_;rw [rF]; simp [yI hi])
      simp only [k1,dT,if_true,oB,oS,hlo,hhi,happ];rw [xY (by omega)]) (fun o=>by
      show uV nest o (nest.length:Int)=_;rw [uV]; simp)
  rw [hl]; rfl
theorem copyProg (P:zD) (h:BG P):pP P=some P:=by
  obtain ⟨⟨h1,h1'⟩,h2,h3⟩:=h;unfold pP;have ha:=zAQ (l:=P.Arrays) (f:=fun i o=>rG P i o) (fun i hi o ho=>by
      show rG P (i:Int) o=_;rw [rG];have k1:((i:Int)<(P.Arrays.length:Int)):=by omega
      have hd:=h1' _ (gM hi);have happ:app 40 o [P.Arrays[i]]=some (o++[P.Arrays[i]]):=oO (by simp; omega);have hpn:app 8 ([]:List Int) P.Arrays[i].Dims=some P.Arrays[i].Dims:=zAm _ (by omega);simp only [k1,dT,if_true,yI hi,oB,oS,hpn,happ];rw [xY (by omega)]) (fun o=>by
      show rG P (P.Arrays.length:Int) o=_;rw [rG]; simp)
  have hp:=zAQ (l:=P.Parts) (f:=fun i o=>uW P i o) (fun i hi o ho=>by
      show uW P (i:Int) o=_;rw [uW];have k1:((i:Int)<(P.Parts.length:Int)):=by omega
      obtain ⟨b1,b2,b3⟩:=h3 _ (gM hi);have happ:app 48 o [P.Parts[i]]=some (o++[P.Parts[i]]):=oO (by simp; omega);have hb:=zAQ (l:=P.Parts[i].Body) (f:=fun k o=>rH P (i:Int) k o) (fun k hk o ho=>by
          show rH P (i:Int) (k:Int) o=_;rw [rH];have k2:((k:Int)<(P.Parts[i].Body.length:Int)):=by omega
          have hp:app 152 o [P.Parts[i].Body[k]]=some (o++[P.Parts[i].Body[k]]):=oO (by simp; omega);simp only [yI hi,k2,dT,if_true,yI hk,oB,oS,copyStmt _ (b3 _ (gM hk)),hp];rw [xY (by omega)]) (fun o=>by
          show rH P (i:Int) (P.Parts[i].Body.length:Int) o=_;rw [rH]; simp [yI hi])
      simp only [k1,dT,if_true,yI hi,oB,oS,copyNest _ b1,hb,happ];rw [xY (by omega)]) (fun o=>by
      show uW P (P.Parts.length:Int) o=_;rw [uW]; simp)
  rw [ha,hp]; rfl
end Go.LN
namespace Go.LN
theorem BE.up1:∀ {n:Nat}{e:zI},BE n e->BE (n+1) e
  | 0,e,⟨h1,h2,h3⟩=>⟨h1,h2,by rw [h3]; simp,by rw [h3]; intro k hk; cases hk⟩
  | n+1,e,⟨h1,h2,h3,h4⟩=>⟨h1,h2,h3,fun k hk=>BE.up1 (h4 k hk)⟩
theorem BE.up {n m:Nat}{e:zI} (h:BE n e) (hm:n<=m):BE m e:=by
  obtain ⟨k,rfl⟩:=Nat.exists_eq_add_of_le hm
  induction k with
  | zero=>exact h
  | succ k ih=>exact BE.up1 (ih (by omega))
def QL (q:Nat) (l:List zA):Prop:=l.length<=q/\∀ a∈l,BA a
def QN (q:Nat) (nest:List zE):Prop:=nest.length<=2000/\∀ x∈nest,QL q x.Lo/\QL q x.Hi
def QS (q:Nat) (s:zP):Prop:=QL q s.Write.Subs/\BA s.Value.Index/\BL s.Value.Read.Subs/\s.Value.Kids.length<=q/\∀ k∈s.Value.Kids,BE 6 k
theorem QL.up {q r:Nat}{l:List zA} (h:QL q l) (hq:q<=r):QL r l:=⟨cW h.1 hq,h.2⟩
theorem QL.bl {q:Nat}{l:List zA} (h:QL q l) (hq:q<=1000):BL l:=⟨cW h.1 hq,h.2⟩
theorem QL.app {q k:Nat}{l m:List zA} (h:QL q l) (hm:QL k m):QL (q+k) (l++m):=by
  refine ⟨by rw [lA]; exact Nat.add_le_add h.1 hm.1,fun a ha=>?_⟩;rcases cZ.1 ha with ha | ha
  · exact h.2 a ha
  · exact hm.2 a ha
theorem QL.nil {q:Nat}:QL q []:=⟨ff _,fun _ h=>by cases h⟩
theorem QL.one {a:zA} (h:BA a):QL 1 [a]:=⟨cP _,fun _ h'=>cr.1 h' ▸ h⟩
theorem QL.two {a b:zA} (h:BA a) (h2:BA b):QL 2 [a,b]:=QL.app (QL.one h) (QL.one h2)
theorem QN.up {q r:Nat}{l:List zE} (h:QN q l) (hq:q<=r):QN r l:=⟨h.1,fun x hx=>⟨(h.2 x hx).1.up hq,(h.2 x hx).2.up hq⟩⟩
theorem QN.bn {q:Nat}{l:List zE} (h:QN q l) (hq:q<=1000):BN l:=⟨by have:=h.1; omega,fun x hx=>⟨(h.2 x hx).1.bl hq,(h.2 x hx).2.bl hq⟩⟩
theorem QN.set {q:Nat}{l:List zE} (h:QN q l) {x:zE} (hx:QL q x.Lo/\QL q x.Hi) (k:Nat):QN q (l.set k x):=⟨by rw [cM]; exact h.1,zFj h.2 hx k⟩
theorem QS.up {q r:Nat}{s:zP} (h:QS q s) (hq:q<=r):QS r s:=⟨h.1.up hq,h.2.1,h.2.2.1,cW h.2.2.2.1 hq,h.2.2.2.2⟩
theorem QS.bs {q:Nat}{s:zP} (h:QS q s) (hq:q<=1000):BS s:=⟨h.1.bl hq,7,h.2.1,h.2.2.1,by have:=h.2.2.2.1; omega,h.2.2.2.2⟩
theorem zJM {a:zA} (h:a.Coefs.length=4):BA a:=by unfold BA; omega
theorem zMI (q:Nat):∀ (j:Nat) (out:List zE),5<=out.length+j->1<=out.length->QN q out->Ok (qY out) (QN q)
  | 0,out,hj,h1,h=>by
    rw [qY]
    refine Ok.ite_dec (fun hc=>absurd hc (by omega)) fun _=>Ok.pure h
  | j+1,out,hj,h1,h=>by
    rw [qY]
    refine Ok.ite_dec (fun hc=>?_) fun _=>Ok.pure h
    refine Ok.idx (by omega) (by omega) fun x hx _=>Ok.app (by simp; omega) ?_
    refine zMI q j _ (by rw [lA]; simp; omega) (by rw [lA]; omega) ⟨by rw [lA]; simp; omega,fun y hy=>?_⟩
    rcases cZ.1 hy with hy | hy
    · exact h.2 y hy
    · rw [cr.1 hy]; exact h.2 x hx
theorem mut2 (q:Nat) (hq:q<=300) (r:zN) (nest:List zE) (h:QN q nest) (h0:0<=r.p) (h1:r.p<=900000000):Ok (mI r nest) (fun y=>QN (q+2) y.1/\0<=y.2.p/\y.2.p<=r.p+2):=by
  have hup:=h.up (show q<=q+2 by omega);unfold mI;rw [copyNest nest (h.bn (by omega))];refine Ok.bind_some (Ok.ite_beq (fun _=>Ok.pure ⟨hup,h0,by dsimp only; omega⟩) fun hne=>?_);have hpos:0<nest.length:=by omega
  have aV:=h.1;have hW:W ((nest.length:Int) - 1)=((nest.length - 1:Nat):Int):=by rw [sT (by omega) (by omega)]; omega
  refine Ok.call (dE r 40) ⟨h0,by omega⟩ fun y2 s g1 g2 g3=>?_;refine Ok.ite_beq (fun _=>?_) fun _=>Ok.ite_beq (fun _=>?_) fun _=>Ok.ite_beq (fun _=>?_) fun _=>Ok.ite_beq (fun _=>?_) fun _=>Ok.ite_beq (fun _=>?_) fun _=>?_
  · refine Ok.idx (by omega) (by omega) fun x hx _=>Ok.call (dE s 2) ⟨by omega,by omega⟩ fun y5 s2 k1 k2 k3=>Ok.call (zDf y5) ⟨k1,by omega⟩ fun a c1 c2=>?_;have hxx:=h.2 x hx;refine Ok.app (by have:=hxx.1.1; simp; omega) (Ok.pure ⟨QN.set (x:=⟨x.Lo++[a],x.Hi⟩) hup ⟨(hxx.1.app (QL.one (zJM c1))).up (show q+1<=q+2 by omega),hxx.2.up (show q<=q+2 by omega)⟩ _,by dsimp only; omega,by dsimp only; omega⟩)
  · rw [hW];refine Ok.idx (by omega) (by omega) fun x hx _=>?_;have hxx:=h.2 x hx;exact Ok.pure ⟨QN.set (x:=⟨x.Lo,[]⟩) hup ⟨hxx.1.up (show q<=q+2 by omega),QL.nil⟩ _,by dsimp only; omega,by dsimp only; omega⟩
  · rw [hW];refine Ok.idx (by omega) (by omega) fun x hx _=>Ok.call (jE 1) trivial (Ok.call (jE 2) trivial ?_);have hxx:=h.2 x hx;exact Ok.app (by have:=hxx.2.1; simp; omega) (Ok.pure ⟨QN.set (x:=⟨x.Lo,x.Hi++[⟨[0,0,0,0],1⟩,⟨[0,0,0,0],2⟩]⟩) hup ⟨hxx.1.up (show q<=q+2 by omega),hxx.2.app (QL.two (zJM rfl) (zJM rfl))⟩ _,by dsimp only; omega,by dsimp only; omega⟩)
  · refine Ok.call (jE 99) trivial (Ok.idx (by omega) (by omega) fun x hx _=>?_);have hxx:=h.2 x hx;exact Ok.pure ⟨QN.set (x:=⟨x.Lo,[⟨[0,0,0,0],99⟩]⟩) hup ⟨hxx.1.up (show q<=q+2 by omega),(QL.one (zJM rfl)).up (show 1<=q+2 by omega)⟩ _,by dsimp only; omega,by dsimp only; omega⟩
  · refine Ok.bind (zMI q 5 nest (by omega) hpos h) fun z hz=>Ok.pure ⟨hz.up (by omega),by dsimp only; omega,by dsimp only; omega⟩
  · exact Ok.pure ⟨hup,by dsimp only; omega,by dsimp only; omega⟩
theorem mut3 (q:Nat) (hq:q<=300) (r:zN) (s:zP) (h:QS q s) (h0:0<=r.p) (h1:r.p<=900000000):Ok (rC r s) (fun y=>QS (q+2) y.1/\0<=y.2.p/\y.2.p<=r.p+2):=by
  obtain ⟨w1,w2,w3,w4,w5⟩:=h.up (show q<=q+2 by omega);obtain ⟨v1,_,_,v4,_⟩:=id h;have v11:=v1.1;unfold rC;rw [copyStmt s (h.bs (by omega))];refine Ok.bind_some (Ok.call (dE r 40) ⟨h0,by omega⟩ fun y2 y3 g1 g2 g3=>?_);have fin:∀ (o:Str×List zA×Int×Int×List zI×zN),(QL (q+2) o.2.1/\(o.2.2.2.2.1.length<=q+2/\∀ k∈o.2.2.2.2.1,BE 6 k)/\0<=o.2.2.2.2.2.p/\o.2.2.2.2.2.p<=r.p+2)->QS (q+2) (zP.mk (zL.mk o.1 o.2.1) (zI.mk o.2.2.1 o.2.2.2.1 s.Value.Index s.Value.Read o.2.2.2.2.1))/\0<=o.2.2.2.2.2.p/\o.2.2.2.2.2.p<=r.p+2 :=
    fun o ⟨a,b,c⟩=>⟨⟨a,w2,w3,b.1,b.2⟩,c⟩
  refine Ok.bind (φ:=fun o:Str×List zA×Int×Int×List zI×zN=>QL (q+2) o.2.1/\(o.2.2.2.2.1.length<=q+2/\∀ k∈o.2.2.2.2.1,BE 6 k)/\0<=o.2.2.2.2.2.p/\o.2.2.2.2.2.p<=r.p+2) ?_ fun o ho=>by
    obtain ⟨o1,o2,o3,o4,o5,o6⟩:=o;exact Ok.pure (fin _ ho)
  refine Ok.ite_beq (fun _=>?_) fun _=>?_
  · exact Ok.call (zAl y3 _) ⟨by decide,by omega,by omega⟩ fun z t _ k3=>Ok.pure ⟨w1,⟨w4,w5⟩,by dsimp only; omega,by dsimp only; omega⟩
  refine Ok.bind (φ:=fun o:List zA×Int×Int×List zI×zN=>QL (q+2) o.1/\(o.2.2.2.1.length<=q+2/\∀ k∈o.2.2.2.1,BE 6 k)/\0<=o.2.2.2.2.p/\o.2.2.2.2.p<=r.p+2) ?_ fun o ho=>by
    obtain ⟨o2,o3,o4,o5,o6⟩:=o;exact Ok.pure ho
  refine Ok.ite_beq (fun _=>?_) fun _=>?_
  · exact Ok.call (zDf 3) (by omega) fun a c1 c2=>Ok.call zAN trivial (Ok.app (by simp; omega) (Ok.pure ⟨v1.app (QL.two (zJM c1) (zJM rfl)),⟨w4,w5⟩,by dsimp only; omega,by dsimp only; omega⟩))
  refine Ok.bind (φ:=fun o:Int×Int×List zI×zN=>(o.2.2.1.length<=q+2/\∀ k∈o.2.2.1,BE 6 k)/\0<=o.2.2.2.p/\o.2.2.2.p<=r.p+2) ?_ fun o ho=>by
    obtain ⟨o3,o4,o5,o6⟩:=o;exact Ok.pure ⟨w1,ho⟩
  refine Ok.ite_beq (fun _=>?_) fun _=>?_
  · exact Ok.call (vM y3 _) ⟨by decide,by omega,by omega,by decide⟩ fun z t _ _ k3=>Ok.pure ⟨⟨w4,w5⟩,by dsimp only; omega,by dsimp only; omega⟩
  refine Ok.bind (φ:=fun o:Int×List zI×zN=>(o.2.1.length<=q+2/\∀ k∈o.2.1,BE 6 k)/\0<=o.2.2.p/\o.2.2.p<=r.p+2) ?_ fun o ho=>by
    obtain ⟨o4,o5,o6⟩:=o;exact Ok.pure ho
  refine Ok.ite_beq (fun _=>?_) fun _=>?_
  · exact Ok.call (vM y3 _) ⟨by decide,by omega,by omega,by decide⟩ fun z t _ _ k3=>Ok.pure ⟨⟨w4,w5⟩,by dsimp only; omega,by dsimp only; omega⟩
  refine Ok.bind (φ:=fun o:List zI=>o.length<=q+2/\∀ k∈o,BE 6 k) ?_ fun o ho=>Ok.pure ⟨ho,by dsimp only; omega,by dsimp only; omega⟩;refine Ok.ite_beq (fun _=>?_) fun _=>Ok.pure ⟨w4,w5⟩;refine Ok.app (by show (_+1)*112<=_; omega) (Ok.pure ⟨by show (_++_:List zI).length<=_; rw [lA]; show _+1<=_; omega,fun k hk=>?_⟩);rcases cZ.1 hk with hk | hk
  · exact w5 k hk
  · rw [cr.1 hk];exact BE.up (n:=0) ⟨ff _,⟨ff _,fun _ h=>by cases h⟩,rfl⟩ (by omega)
end Go.LN
namespace Go.LN
def DX (x:zO):Prop:=QN 100 x.Nest/\x.Body.length<=1000/\∀ s∈x.Body,QS 100 s
def DP (P:zD):Prop:=(P.Arrays.length<=1000/\∀ a∈P.Arrays,a.Dims.length<=1000)/\P.Parts.length<=1000/\∀ x∈P.Parts,DX x
theorem DX.bp {x:zO} (h:DX x):BP x:=⟨h.1.bn (by omega),by have:=h.2.1; omega,fun s hs=>(h.2.2 s hs).bs (by omega)⟩
theorem DP.bg {P:zD} (h:DP P):BG P:=⟨⟨by have:=h.1.1; omega,h.1.2⟩,by have:=h.2.1; omega,fun x hx=>(h.2.2 x hx).bp⟩
def PB (l:List zO):Prop:=l.length<=1000/\∀ x∈l,BP x
theorem PB.set {l:List zO} (h:PB l) {x:zO} (hx:BP x) (k:Nat):PB (l.set k x):=⟨by rw [cM]; exact h.1,zFj h.2 hx k⟩
def AR (l:List zF):Prop:=l.length<=2000/\∀ a∈l,a.Dims.length<=1000
def RD (s:zN):Prop:=0<=s.p/\s.p<=700001000
theorem mut4 (r:zN) (P:zD) (h:DP P) (h0:0<=r.p) (h1:r.p<=700000000):Ok (oJ r P) (fun y=>(BG y.1/\AR y.1.Arrays)/\RD y.2):=by
  obtain ⟨⟨a1,a2⟩,p1,p2⟩:=id h;have hA:AR P.Arrays:=⟨by omega,a2⟩;have hP:PB P.Parts:=⟨p1,fun x hx=>(p2 x hx).bp⟩;have hW:0<P.Parts.length->W ((P.Parts.length:Int) - 1)=((P.Parts.length - 1:Nat):Int):=fun hp=>by rw [sT (by omega) (by omega)]; omega
  unfold oJ;rw [copyProg P h.bg];refine Ok.bind_some (Ok.call (dE r 60) ⟨h0,by omega⟩ fun y2 y3 g1 g2 g3=>?_);have hR:RD y3:=⟨by omega,by omega⟩;refine Ok.bind (φ:=fun o:List zF×List zO×zN=>AR o.1/\PB o.2.1/\RD o.2.2) ?_ fun o ho=>by
    obtain ⟨o1,o2,o3⟩:=o;exact Ok.pure ⟨⟨⟨⟨by have:=ho.1.1; dsimp only at this ⊢; omega,ho.1.2⟩,by have:=ho.2.1.1; dsimp only at this ⊢; omega,ho.2.1.2⟩,ho.1⟩,ho.2.2⟩
  refine Ok.ite_beq (fun _=>?_) fun _=>?_
  · refine Ok.call (zAl y3 _) ⟨by decide,by omega,by omega⟩ fun z t _ k3=>Ok.call (vM t _) ⟨by decide,by omega,by omega,by decide⟩ fun z2 t2 _ _ k4=>Ok.app (by show (_+1)*40<=_; omega) (Ok.pure ⟨⟨by show (_++_:List zF).length<=_; rw [lA]; show _+1<=_; omega,fun a ha=>?_⟩,hP,⟨by dsimp only; omega,by dsimp only; omega⟩⟩);rcases cZ.1 ha with ha | ha
    · exact a2 a ha
    · rw [cr.1 ha]; show 1<=1000; omega
  refine Ok.bind (φ:=fun o:List zF×List zO×zN=>AR o.1/\PB o.2.1/\RD o.2.2) ?_ fun o ho=>by
    obtain ⟨o1,o2,o3⟩:=o;exact Ok.pure ho
  refine Ok.ite_beq (fun _=>?_) fun _=>?_
  · refine Ok.bind (φ:=fun o:List zF×zN=>AR o.1/\RD o.2) ?_ fun o ho=>by
      obtain ⟨o1,o3⟩:=o;exact Ok.pure ⟨ho.1,hP,ho.2⟩
    refine Ok.ite_dec (fun hc=>?_) fun _=>Ok.pure ⟨hA,hR⟩;refine Ok.call (vM y3 _) ⟨by decide,by omega,by omega,by decide⟩ fun z t _ _ k3=>Ok.idx (by omega) (by omega) fun x hx _=>Ok.bind_pure (Ok.pure ⟨⟨by show (List.set _ _ _).length<=_; rw [cM]; exact hA.1,zFj hA.2 (show ([z]:List Int).length<=1000 by simp) _⟩,⟨by dsimp only; omega,by dsimp only; omega⟩⟩)
  refine Ok.bind (φ:=fun o:List zO×zN=>PB o.1/\RD o.2) ?_ fun o ho=>by
    obtain ⟨o1,o3⟩:=o;exact Ok.pure ⟨hA,ho⟩
  refine Ok.ite_beq (fun _=>?_) fun _=>?_
  · refine Ok.bind (φ:=fun o:List zO×zN=>PB o.1/\RD o.2) ?_ fun o ho=>by
      obtain ⟨o1,o3⟩:=o;exact Ok.pure ho
    refine Ok.ite_dec (fun hc=>?_) fun _=>Ok.pure ⟨hP,hR⟩;refine Ok.idx (by omega) (by omega) fun x hx _=>?_;refine Ok.bind (mut2 100 (by omega) y3 x.Nest (p2 x hx).1 (by omega) (by omega)) fun q1 k1=>?_;obtain ⟨n1,s1⟩:=q1;obtain ⟨c1,c2,c3⟩:=k1;refine Ok.bind (mut2 (100+2) (by omega) s1 n1 c1 c2 (by dsimp only at c3; omega)) fun q2 k2=>?_;obtain ⟨n2,s2⟩:=q2;obtain ⟨d1,d2,d3⟩:=k2;refine Ok.bind (mut2 (100+2+2) (by omega) s2 n2 d1 d2 (by dsimp only at c3 d3; omega)) fun q3 k3=>?_;obtain ⟨n,s⟩:=q3;have hn:=k3.1;refine Ok.idx (by omega) (by omega) fun x7 hx7 _=>Ok.bind_pure (Ok.pure ⟨hP.set (x:=⟨n,x7.Body⟩) ⟨hn.bn (by omega),(p2 x7 hx7).bp.2.1,(p2 x7 hx7).bp.2.2⟩ _,⟨k3.2.1,by have:=k3.2.2; dsimp only at this c3 d3 ⊢; omega⟩⟩)
  refine Ok.bind (φ:=fun o:List zO×zN=>PB o.1/\RD o.2) ?_ fun o ho=>by
    obtain ⟨o1,o3⟩:=o;exact Ok.pure ho
  refine Ok.ite_beq (fun _=>?_) fun _=>?_
  · refine Ok.bind (φ:=fun b=>b=true->0<P.Parts.length/\∀ x,P.Parts[P.Parts.length - 1]?=some x->0<x.Body.length) ?_ fun b hb=>?_
    · refine Ok.ite_dec (fun hc=>?_) fun _=>Ok.pure (fun h=>by cases h);have hp:0<P.Parts.length:=by omega
      rw [hW hp];refine Ok.idx (by omega) (by omega) fun x hx he=>Ok.pure fun hd=>⟨hp,fun x' hx'=>?_⟩;rw [iN] at he;rw [he] at hx';cases hx'
      have:=of_decide_eq_true hd;omega
    · refine Ok.bind (φ:=fun o:List zO×zN=>PB o.1/\RD o.2) ?_ fun o ho=>by
        obtain ⟨o1,o3⟩:=o;exact Ok.pure ho
      refine Ok.ite (fun hc=>?_) fun _=>Ok.pure ⟨hP,hR⟩;obtain ⟨hp,hbody⟩:=hb hc;rw [hW hp];refine Ok.idx (by omega) (by omega) fun x hx he=>?_;rw [iN] at he;have hb0:=hbody x he;have hdx:=p2 x hx;refine Ok.idx (by omega) (by omega) fun x0 hx0 _=>?_;refine Ok.bind (mut3 100 (by omega) y3 x0 (hdx.2.2 x0 hx0) (by omega) (by omega)) fun q1 k1=>?_;obtain ⟨n1,s1⟩:=q1;obtain ⟨c1,c2,c3⟩:=k1;refine Ok.bind (mut3 (100+2) (by omega) s1 n1 c1 c2 (by dsimp only at c3; omega)) fun q2 k2=>?_;obtain ⟨n2,s2⟩:=q2;obtain ⟨d1,d2,d3⟩:=k2;refine Ok.bind (mut3 (100+2+2) (by omega) s2 n2 d1 d2 (by dsimp only at c3 d3; omega)) fun q3 k3=>?_;obtain ⟨n,s⟩:=q3;have hn:=k3.1;refine Ok.bind_pure (Ok.pure ⟨hP.set (x:=⟨x.Nest,x.Body.set 0 n⟩) ⟨hdx.bp.1,by rw [cM]; exact hdx.bp.2.1,zFj hdx.bp.2.2 (hn.bs (by omega)) _⟩ _,⟨k3.2.1,by have:=k3.2.2; dsimp only at this c3 d3 ⊢; omega⟩⟩)
  refine Ok.bind (φ:=fun o:List zO=>PB o) ?_ fun o ho=>Ok.pure ⟨ho,hR⟩;refine Ok.ite_beq (fun _=>?_) fun _=>Ok.pure hP;refine Ok.bind (φ:=fun o:List zO=>PB o) ?_ fun o ho=>Ok.pure ho;refine Ok.ite_dec (fun hc=>?_) fun _=>Ok.pure hP;have hp:0<P.Parts.length:=by omega
  rw [hW hp];refine Ok.idx (by omega) (by omega) fun x hx he=>Ok.bind_pure (Ok.pure (hP.set (x:=⟨x.Nest,[]⟩) ⟨(p2 x hx).bp.1,by show 0<=100000; omega,fun _ h=>by cases h⟩ _))
theorem SE.be:∀ {n:Nat}{e:zI},SE n e->BE n e
  | 0,e,⟨h1,h2,h3⟩=>⟨by have:=h1.1; unfold BA; omega,⟨by have:=h2.2.1; omega,fun a ha=>by have:=(h2.2.2 a ha).1; unfold BA; omega⟩,h3⟩
  | n+1,e,⟨h1,h2,h3,h4⟩=>⟨by have:=h1.1; unfold BA; omega,⟨by have:=h2.2.1; omega,fun a ha=>by have:=(h2.2.2 a ha).1; unfold BA; omega⟩,by omega,fun k hk=>SE.be (h4 k hk)⟩
theorem SS.qs {s:zP} (h:SS s):QS 100 s:=by
  obtain ⟨h1,h2⟩:=h;have hb:=SE.be h2;exact ⟨⟨h1.2.1,fun a ha=>by have:=(h1.2.2 a ha).1; unfold BA; omega⟩,hb.1,hb.2.1,by have:=h2.2.2.1; omega,fun k hk=>BE.up (n:=4) (m:=6) (hb.2.2.2 k hk) (by omega)⟩
theorem LL.ql {l:List zA} (h:LL l):QL 100 l:=⟨h.1,fun a ha=>by have:=(h.2 a ha).1; unfold BA; omega⟩
theorem SG.dp {P:zD} (h:SG 1000 P):DP P:=by
  obtain ⟨⟨h1,h2⟩,h3,h4⟩:=h;refine ⟨⟨h1,fun a ha=>by have:=(h2 a ha).2; omega⟩,h3,fun x hx=>?_⟩;obtain ⟨⟨k1,k2⟩,k3,k4⟩:=h4 x hx;exact ⟨⟨by omega,fun y hy=>⟨(k2 y hy).1.ql,(k2 y hy).2.ql⟩⟩,k3,fun s hs=>(k4 s hs).qs⟩
end Go.LN
namespace Go.LN
theorem zKs {A:List zF}{x:zO} (h:partB A x=true):(nestPts x.Nest).1=pts x.Nest []/\nestB x.Nest=true/\(pts x.Nest []).length<=120:=by
  simp only [partB,bA] at h;have h1:=h.1.1;unfold nestPts at h1 ⊢;split at h1
  · rename_i hc;rw [if_pos hc];exact ⟨rfl,hc.1,hc.2.2⟩
  · cases h1
theorem zKt (P:zD) (i:Nat) (hi:i<P.Parts.length) (y:List (List Int)) (k:Nat) (hk:k<y.length) (hq:y[k].length<=4) (hb:P.Parts[i].Body.length<=4) :
    ∀ (j s:Nat) (o:List zK),s+j=P.Parts[i].Body.length->o.length+j<=1000000->wW P (i:Int) y (k:Int) o (s:Int)=some (o++instR (i:Int) y[k] s j):=by
  intro j
  induction j with
  | zero =>
    intro s o hs ho
    rw [wW]
    have:¬((s:Int)<(P.Parts[i].Body.length:Int)):=by omega
    simp only [yI hi,this,dF,bF,if_false,oB,oS,oP]
    simp [instR]
  | succ j ih =>
    intro s o hs ho
    rw [wW]
    have hc:((s:Int)<(P.Parts[i].Body.length:Int)):=by omega
    have hpn:app 8 ([]:List Int) y[k]=some y[k]:=zAm _ (by omega)
    have happ:app 40 o [(⟨(i:Int),(s:Int),y[k]⟩:zK)]=some (o++[⟨(i:Int),(s:Int),y[k]⟩]):=oO (by simp; omega)
    simp only [yI hi,hc,dT,if_true,yI hk,oB,oS,hpn,happ]
    rw [xY (by omega),ih (s+1) _ (by omega) (by simp; omega),cq]
    simp only [instR,cU,cH,gi]
theorem zKu (P:zD) (i:Nat) (hi:i<P.Parts.length) (y:List (List Int)) (hy:y.length<=120) (hq:∀ q∈y,q.length<=4) (hb:P.Parts[i].Body.length<=4) :
    ∀ (j k:Nat) (o:List zK),k+j=y.length->o.length+4*j<=1000000->wX P (i:Int) y o (k:Int)=some (o++(y.drop k).flatMap fun q=>instR (i:Int) q 0 P.Parts[i].Body.length):=by
  intro j
  induction j with
  | zero =>
    intro k o hk ho
    rw [wX]
    have:¬((k:Int)<(y.length:Int)):=by omega
    simp only [this,dF,bF,if_false]
    rw [show y.drop k=[] from dN.2 (by omega)]
    simp
  | succ j ih =>
    intro k o hk ho
    rw [wX]
    have aE:k<y.length:=by omega
    have hc:((k:Int)<(y.length:Int)):=by omega
    have h3:=zKt P i hi y k aE (hq _ (gM aE)) hb P.Parts[i].Body.length 0 o (cu _) (by omega)
    rw [nZ] at h3
    simp only [hc,dT,if_true,oB,oS,h3]
    rw [xY (by omega),ih (k+1) _ (by omega) (by rw [lA,zGa]; omega),gC aE,ck,cq]
theorem zKv (P:zD) (hP:P.Parts.length<=4) (hb:∀ i,i<P.Parts.length->partB P.Arrays (gP P i)=true) :
    ∀ (j i:Nat) (o:List zK),i+j=P.Parts.length->o.length<=480*i->wY P o (i:Int)=some (o++(List.range' i j).flatMap fun (i:Nat)=>partI (i:Int) (gP P i)):=by
  intro j
  induction j with
  | zero =>
    intro i o hi ho
    rw [wY]
    have:¬((i:Int)<(P.Parts.length:Int)):=by omega
    simp [this]
  | succ j ih =>
    intro i o hi ho
    rw [wY]
    have aE:i<P.Parts.length:=by omega
    have hc:((i:Int)<(P.Parts.length:Int)):=by omega
    have hg:gP P i=P.Parts[i]:=by simp [gP,aE]
    have hp:=hb i aE
    rw [hg] at hp
    obtain ⟨p1,p2,p3⟩:=zKs hp
    obtain ⟨n1,n2⟩:=zFm p2
    have hpp:=hp
    simp only [partB,bA] at hpp
    obtain ⟨_,q2,_⟩:=zC9 hpp.1.2
    have hpts:=specPts P.Parts[i].Nest P.Parts[i].Nest [] [] n2 rfl (by simp) n1 (by simp)
    rw [cv,dg (by omega)] at hpts
    have h2:=zKu P i aE (pts P.Parts[i].Nest []) p3 (fun q hq=>by have:=zJm _ _ q hq; simp at this; omega) q2 _ 0 o (cu _) (by omega)
    rw [nZ,co] at h2
    simp only [hc,dT,if_true,yI aE,oB,oS,hpts,h2]
    have hI:((pts P.Parts[i].Nest []).flatMap fun q=>instR (i:Int) q 0 P.Parts[i].Body.length)=partI (i:Int) P.Parts[i]:=by rw [partI,p1]
    have bN:=zIU (i:Int) hp
    rw [hI,xY (by omega),ih (i+1) _ (by omega) (by rw [lA]; omega),cU,ck,hg,cq]
theorem uP {P:zD} (h:validP P=true):arrB P.Arrays=true/\P.Parts.length<=4/\(∀ i,i<P.Parts.length->partB P.Arrays (gP P i)=true)/\(progI P).length<=120:=by
  simp only [validP,progB,bA,decide_eq_true_eq] at h;obtain ⟨⟨⟨h1,h2⟩,h3⟩,h4⟩:=h;exact ⟨h1,h2,fun i hi=>cp.1 h3 i (ep.2 ⟨ff _,by omega⟩),h4⟩
theorem specInst4 (P:zD) (hv:validP P=true):pF P=some (progI P):=by
  obtain ⟨_,v2,v3,_⟩:=uP hv;have hl:=zKv P v2 v3 _ 0 [] (cu _) (by simp);rw [nZ,cv] at hl;simp only [pF,hl,oB,oS,oP,id];rfl
end Go.LN
namespace Go.LN
def DA (x:zF):Prop:=(∃ d,x.Dims=[d]/\1<=d/\d<=6)∨∃ d e,x.Dims=[d,e]/\(1<=d/\d<=6)/\1<=e/\e<=6
theorem mul36 {d e:Int} (h1:1<=d) (h2:d<=6) (h3:1<=e) (h4:e<=6):1<=d*e/\d*e<=36:=by
  have:d=1∨d=2∨d=3∨d=4∨d=5∨d=6:=by omega
  rcases this with rfl | rfl | rfl | rfl | rfl | rfl <;> omega
theorem zPh {x:zF}{d:Int} (h:x.Dims=[d]) (h1:1<=d) (h2:d<=6):sizeF x=d:=by
  unfold sizeF;rw [h,szL,szL,Int.one_mul,sT (by omega) (by omega)]
theorem zPi {x:zF}{d e:Int} (h:x.Dims=[d,e]) (h1:1<=d) (h2:d<=6) (h3:1<=e) (h4:e<=6):sizeF x=d*e:=by
  unfold sizeF;have:=mul36 h1 h2 h3 h4;rw [h,szL,szL,szL,Int.one_mul,sT (x:=d) (by omega) (by omega),sT (by omega) (by omega)]
theorem DA.size {x:zF} (h:DA x):1<=sizeF x/\sizeF x<=36:=by
  rcases h with ⟨d,h,h1,h2⟩ | ⟨d,e,h,⟨h1,h2⟩,h3,h4⟩
  · rw [zPh h h1 h2]; omega
  · rw [zPi h h1 h2 h3 h4]; exact mul36 h1 h2 h3 h4
def nm (l:List zF) (i:Nat):Nat:=match (l.getD i ⟨⟨[]⟩,[]⟩).Name.l with | c::_=>c.toNat | []=>0
end Go.LN
namespace Go.LN
def permL (n:Nat):List Int->List Bool->Bool
  | [],_=>true
  | x::l,seen=>if 0<=x/\x<(n:Int)/\seen.getD x.toNat true=false then permL n l (seen.set x.toNat true) else false
theorem zJN (s:List Bool) (i:Nat):(s.set i true).getD i true=true:=by
  rw [di,List.getElem?_set];by_cases h:i<s.length <;> simp [h]
theorem zIW (s:List Bool) {i j:Nat} (h:i ≠ j):(s.set i true).getD j true=s.getD j true:=by
  rw [di,List.getElem?_set,if_neg h,<- di]
theorem zKw (n:Nat):∀ (l:List Int) (seen:List Bool),permL n l seen=true↔(∀ x∈l,0<=x/\x<(n:Int)/\seen.getD x.toNat true=false)/\l.Nodup
  | [],seen=>by simp [permL]
  | x::l,seen=>by
    rw [permL]
    by_cases hx:0<=x/\x<(n:Int)/\seen.getD x.toNat true=false
    · rw [if_pos hx,zKw n l _,fc]
      constructor
      · rintro ⟨h1,h2⟩
        refine ⟨fun y hy=>?_,fun hm=>?_,h2⟩
        · rcases cK.1 hy with e | hy
          · rw [e]; exact hx
          · obtain ⟨k1,k2,k3⟩:=h1 y hy
            refine ⟨k1,k2,?_⟩
            by_cases e:x.toNat=y.toNat
            · rw [e,zJN] at k3; cases k3
            · rwa [zIW _ e] at k3
        · have:=(h1 x hm).2.2
          rw [zJN] at this; cases this
      · rintro ⟨h1,h2,h3⟩
        refine ⟨fun y hy=>?_,h3⟩
        obtain ⟨k1,k2,k3⟩:=h1 y (ci _ hy)
        refine ⟨k1,k2,?_⟩
        have e:x.toNat ≠ y.toNat:=fun e=>by
          have:x=y:=by have:=hx.1; omega
          exact h2 (this ▸ hy)
        rw [zIW _ e]; exact k3
    · rw [if_neg hx]
      constructor
      · intro h; cases h
      · rintro ⟨h1,_⟩
        exact absurd (h1 x (cj ..)) hx
def permB (n:Nat) (l:List Int):Bool:=permL n l (List.replicate n false)&&decide (l.length=n)
theorem zGb (n:Nat) (l:List Int):permB n l=true↔((∀ x∈l,0<=x/\x<(n:Int))/\l.Nodup)/\l.length=n:=by
  unfold permB;rw [bA,zKw,decide_eq_true_eq];constructor
  · rintro ⟨⟨h1,h2⟩,h3⟩;exact ⟨⟨fun x hx=>⟨(h1 x hx).1,(h1 x hx).2.1⟩,h2⟩,h3⟩
  · rintro ⟨⟨h1,h2⟩,h3⟩;refine ⟨⟨fun x hx=>⟨(h1 x hx).1,(h1 x hx).2,?_⟩,h2⟩,h3⟩;have:=h1 x hx;have aE:x.toNat<n:=by omega
    rw [di,List.getElem?_replicate,if_pos aE]; rfl
end Go.LN
namespace Go.LN
theorem zLi (n:Nat) (hn:n<=1000000) (l:List Int) (hl:l.length<=1048576):∀ (j i:Nat) (seen:List Bool),i+j=l.length->seen.length=n->oE l (n:Int) seen (i:Int)=some (if permL n (l.drop i) seen=true then .done () else .ret false):=by
  intro j
  induction j with
  | zero =>
    intro i seen hi hs;rw [oE];have:¬((i:Int)<(l.length:Int)):=by omega
    simp only [this,dF,bF,if_false];rw [dN.2 (by omega)]; rfl
  | succ j ih =>
    intro i seen hi hs;rw [oE];have aE:i<l.length:=by omega
    have hc:((i:Int)<(l.length:Int)):=by omega
    rw [gC aE,permL];have hW:W ((n:Int) - 1)=(n:Int) - 1:=sT (by omega) (by omega);simp only [hc,dT,if_true,yI aE,oB,oS,oH,hW];by_cases hr:0<=l[i]/\l[i]<(n:Int)
    · obtain ⟨k,hk⟩:∃ k:Nat,l[i]=(k:Int):=⟨l[i].toNat,by omega⟩;have hks:k<seen.length:=by omega
      have hg:seen.getD k true=seen[k]:=by simp [hks]
      have h1:(0:Int)<=(k:Int):=by omega
      have h2:(k:Int)<=(n:Int) - 1:=by omega
      have h3:(k:Int)<(n:Int):=by omega
      rw [hk];simp only [h1,h2,h3,dT,fk,bT,bF,if_false,yI hks,oP,oS,id,iN,hg,true_and];cases hb:seen[k] with
      | true=>simp
      | false =>
        simp only [bF,if_false,if_true];rw [xY (by omega),ih (i+1) _ (by omega) (by rw [cM]; exact hs)]
    · have h4:(!(decide (0<=l[i])&&decide (l[i]<=(n:Int) - 1)))=true:=by
        simp; omega
      have h5:¬(0<=l[i]/\l[i]<(n:Int)/\seen.getD l[i].toNat true=false):=fun h=>hr ⟨h.1,h.2.1⟩;simp only [h4,if_true,if_neg h5,oP,oS,bF,if_false]
theorem zPj (n:Nat) (hn:n<=1000000):mkrow 1 (n:Int) (false:Bool)=some (List.replicate n false):=by
  unfold mkrow;rw [if_pos ⟨by omega,by omega⟩,iN]
theorem implPerm (n:Nat) (hn:n<=1000000) (l:List Int) (hl:l.length<=1048576):eA l (n:Int)=some (permB n l):=by
  unfold eA permB;have h:=zLi n hn l hl l.length 0 (List.replicate n false) (cu _) (ey ..);rw [nZ,co] at h;simp only [zPj n hn,h,oB,oS];cases permL n l (List.replicate n false)
  · rfl
  · simp;by_cases e:l.length=n
    · simp [e]
    · have:¬((l.length:Int)=(n:Int)):=by omega
      simp [e,this]
theorem implOrd (P:zD) (h:BG P) (l:List Int) (hl:l.length<=1048576):oF P l=some (validP P&&permB (progI P).length l):=by
  unfold oF;rw [implInstances P h];unfold validP;cases progB P with
  | false=>rfl
  | true =>
    by_cases hk:(progI P).length<=120
    · simp [hk,implPerm (progI P).length (by omega) l hl]
    · simp [hk]
end Go.LN
namespace Go.LN
def c0 (n:Int):zA:=⟨[0,0,0,0],n⟩
end Go.LN
namespace Go.LN
theorem zNk {P:zD} (h:BG P) (hv:validP P=true):RVa P.Arrays:=by
  simp only [validP,progB,bA] at hv;exact RVa.of h.1 hv.1.1.1
theorem zPk {p:List Int} (h:ptB p=true):p.length<=4:=by
  simp only [ptB,bA,decide_eq_true_eq] at h;exact h.1
end Go.LN
namespace Go.LN
end Go.LN
namespace Go.LN
theorem zIX:∀ {k:Nat}{a v:Int},v∈rngK k a↔a<=v/\v<a+(k:Int)
  | 0,a,v=>by simp [rngK]
  | k+1,a,v=>by rw [rngK,cK,zIX]; omega
theorem zOk {a b v:Int}:v∈rng a b↔a<=v/\v<b:=by
  unfold rng;rw [zIX]; omega
theorem zMJ:∀ (k:Nat) (a:Int),(rngK k a).Pairwise (· < ·)
  | 0,a=>List.Pairwise.nil
  | k+1,a=>by
    rw [rngK]
    refine List.Pairwise.cons (fun v hv=>?_) (zMJ k (a+1))
    have:=(zIX.1 hv).1
    omega
def inP:List zE->List Int->List Int->Prop
  | [],_,[]=>True
  | l::ls,p,v::r=>(loF l p<=v/\v<hiF l p)/\inP ls (p++[v]) r
  | _,_,_=>False
theorem zHU:∀ {ls:List zE}{p q:List Int},q∈pts ls p->∃ r,q=p++r/\inP ls p r
  | [],p,q,h=>by
    rw [pts,cr] at h
    exact ⟨[],by rw [h,cy],trivial⟩
  | l::ls,p,q,h=>by
    rw [pts,cA] at h
    obtain ⟨v,hv,hq⟩:=h
    obtain ⟨r,e,hr⟩:=zHU hq
    exact ⟨v::r,by rw [e,cq]; rfl,zOk.1 hv,hr⟩
def lexlt:List Int->List Int->Prop
  | x::xs,y::ys=>x<y∨(x=y/\lexlt xs ys)
  | _,_=>False
theorem zMK:∀ (ls:List zE) (p:List Int),(pts ls p).Pairwise fun q w=>∃ r s,q=p++r/\w=p++s/\lexlt r s
  | [],p=>by rw [pts]; exact List.pairwise_singleton ..
  | l::ls,p=>by
    rw [pts,List.pairwise_flatMap]
    refine ⟨fun v hv=>(zMK ls (p++[v])).imp ?_,(zMJ _ _).imp ?_⟩
    · rintro q w ⟨r,s,e1,e2,h⟩
      exact ⟨v::r,v::s,by rw [e1,cq]; rfl,by rw [e2,cq]; rfl,.inr ⟨rfl,h⟩⟩
    · intro v w hvw q hq z hz
      obtain ⟨r,e1,_⟩:=zHU hq
      obtain ⟨s,e2,_⟩:=zHU hz
      exact ⟨v::r,w::s,by rw [e1,cq]; rfl,by rw [e2,cq]; rfl,.inl hvw⟩
def Ch {α:Type} (R:α->α->Prop):List α->Prop
  | a::b::l=>R a b/\Ch R (b::l)
  | _=>True
theorem Ch.append {α:Type}{R:α->α->Prop}:∀ {l m:List α},Ch R l->Ch R m->(∀ a∈l,∀ b∈m,R a b)->Ch R (l++m)
  | [],m,_,h2,_=>h2
  | [a],[],_,_,_=>trivial
  | [a],b::m,_,h2,h=>⟨h a (cj ..) b (cj ..),h2⟩
  | a::b::l,m,h1,h2,h=>⟨h1.1,Ch.append (l:=b::l) h1.2 h2 fun x hx=>h x (ci _ hx)⟩
theorem Ch.flat {α β:Type}{R:β->β->Prop}{f:α->List β}:∀ {l:List α},(∀ x∈l,Ch R (f x))->(l.Pairwise fun x y=>∀ a∈f x,∀ b∈f y,R a b)->Ch R (l.flatMap f)
  | [],_,_=>trivial
  | x::l,h1,h2=>by
    rw [ck]
    have h2':=f9.1 h2
    refine Ch.append (h1 x (cj ..)) (Ch.flat (fun y hy=>h1 y (ci _ hy)) h2'.2) fun a ha b hb=>?_
    obtain ⟨y,hy,hb⟩:=cA.1 hb
    exact h2'.1 y hy a ha b hb
theorem Ch.get {α:Type}{R:α->α->Prop}:∀ {l:List α} (i:Nat) (h:i+1<l.length),Ch R l->R l[i] l[i+1]
  | a::b::l,0,_,hc=>hc.1
  | a::b::l,i+1,h,hc=>Ch.get (l:=b::l) i (by simpa using h) hc.2
  | [a],i,h,_=>by simp at h
  | [],i,h,_=>by simp at h
def nxt (a b:zK):Prop:=a.Part<b.Part∨(a.Part=b.Part/\(lexlt a.Point b.Point∨(a.Point=b.Point/\a.Stmt+1=b.Stmt)))
theorem zKx (k:Int) (q:List Int):∀ (j i:Nat),Ch nxt (instR k q i j)
  | 0,_=>trivial
  | 1,_=>trivial
  | j+2,i=>by
    have:=zKx k q (j+1) (i+1)
    unfold instR at this ⊢
    rw [cU,cH,cU,cH]
    rw [cU,cH] at this
    exact ⟨.inr ⟨rfl,.inr ⟨rfl,by dsimp only; omega⟩⟩,this⟩
theorem zDg {k:Int}{q:List Int}{i j:Nat}{z:zK} (h:z∈instR k q i j):z.Part=k/\z.Point=q/\∃ s:Nat,z.Stmt=(s:Int)/\s<i+j:=by
  unfold instR at h;obtain ⟨s,hs,rfl⟩:=dx.1 h;exact ⟨rfl,rfl,s,rfl,(ep.1 hs).2⟩
theorem zKy (nest:List zE):(nestPts nest).1.Pairwise lexlt:=by
  unfold nestPts;split
  · refine (zMK nest []).imp ?_;rintro q w ⟨r,s,e1,e2,h⟩;rw [e1,e2]; exact h
  · exact List.Pairwise.nil
theorem zNl (k:Int) (x:zO):Ch nxt (partI k x):=by
  unfold partI;refine Ch.flat (fun q _=>zKx k q _ 0) ((zKy x.Nest).imp ?_);intro q w h a ha b hb;obtain ⟨a1,a2,_⟩:=zDg ha;obtain ⟨b1,b2,_⟩:=zDg hb;exact .inr ⟨by rw [a1,b1],.inl (by rw [a2,b2]; exact h)⟩
theorem zIY {k:Int}{x:zO}{z:zK} (h:z∈partI k x):z.Part=k:=by
  unfold partI at h;obtain ⟨q,_,hz⟩:=cA.1 h;exact (zDg hz).1
theorem zNm (P:zD):Ch nxt (progI P):=by
  unfold progI;refine Ch.flat (fun i _=>zNl _ _) ((List.pairwise_lt_range' 1).imp ?_);intro i j h a ha b hb;exact .inl (by rw [zIY ha,zIY hb]; omega)
end Go.LN
namespace Go.LN
theorem zLj {P:zD} (h:validP P=true) {i:Nat} (hi:i<P.Parts.length):partB P.Arrays P.Parts[i]=true:=by
  simp only [validP,progB,bA,decide_eq_true_eq] at h;have:=cp.1 h.1.2 i (ep.2 ⟨ff _,by omega⟩);have hg:gP P i=P.Parts[i]:=by simp [gP,hi]
  rwa [hg] at this
theorem zOl {nest:List zE}{q:List Int} (h:q∈(nestPts nest).1):nestB nest=true/\inP nest [] q:=by
  unfold nestPts at h;split at h
  · rename_i hc;obtain ⟨r,e,hr⟩:=zHU h;rw [cv] at e;exact ⟨hc.1,e ▸ hr⟩
  · cases h
theorem zJO {P:zD} (h:validP P=true) {z:zK} (hz:z∈progI P):∃ (i s:Nat) (hi:i<P.Parts.length) (hs:s<P.Parts[i].Body.length),z.Part=(i:Int)/\z.Stmt=(s:Int)/\nestB P.Parts[i].Nest=true/\inP P.Parts[i].Nest [] z.Point/\ptB z.Point=true/\stOk P.Arrays P.Parts[i].Body[s] z.Point=true/\stmtB P.Parts[i].Body[s] (P.Parts[i].Nest.length:Int)=true:=by
  unfold progI at hz;obtain ⟨i,hi,hz⟩:=cA.1 hz;have hi:i<P.Parts.length:=by have:=(ep.1 hi).2; omega
  have hg:gP P i=P.Parts[i]:=by simp [gP,hi]
  rw [hg] at hz;have hp:=zLj h hi;unfold partI at hz;obtain ⟨q,hq,hz⟩:=cA.1 hz;obtain ⟨z1,z2,s,z3,hs⟩:=zDg hz;have hs:s<P.Parts[i].Body.length:=by omega
  obtain ⟨n1,n2⟩:=zOl hq;simp only [partB,bA] at hp;have hq2:=cp.1 hp.2 q hq;rw [bA] at hq2;refine ⟨i,s,hi,hs,z1,z3,n1,?_,?_,?_,?_⟩
  · rw [z2]; exact n2
  · rw [z2]; exact hq2.1
  · rw [z2]; exact cp.1 hq2.2 _ (gM hs)
  · exact (zC9 hp.1.2).2.2 _ (gM hs)
theorem zJn:∀ {ls:List zE}{p r:List Int},inP ls p r->r.length=ls.length
  | [],_,[],_=>rfl
  | l::ls,p,v::r,h=>by rw [cx,cx,zJn h.2]
  | [],_,_::_,h=>h.elim
  | _::_,_,[],h=>h.elim
end Go.LN
namespace Go.LN
theorem zKz:∀ {a:List Int},¬lexlt a a
  | [],h=>h.elim
  | x::a,h=>by
    rcases h with h | ⟨_,h⟩
    · omega
    · exact zKz h
theorem intsV (a b:List Int) (h:a.length<=1048576):fE a b=some (decide (a=b)):=by
  unfold fE;by_cases hl:a.length=b.length
  · have hf:=dG (n:=a.length) (f:=nQ a b) (P:=fun i=>a.getD i 0==b.getD i 0) (fun i hi=>by
      rw [nQ];have h1:((i:Int)<(a.length:Int)):=by omega
      have hib:i<b.length:=by omega
      have g1:a.getD i 0=a[i]:=by simp [hi]
      have g2:b.getD i 0=b[i]:=by simp [hib]
      simp only [h1,dT,if_true,yI hi,yI hib,oB,oS,oP,g1,g2];by_cases e:a[i]=b[i]
      · simp only [e,bne_self_eq_false,bF,if_false,bQ,if_true];rw [xY (by omega)]
      · simp [e]) (by rw [nQ]; simp)
    rw [hf];have ce:((a.length:Int) != (b.length:Int))=false:=by simp [hl]
    simp only [ce,bF,if_false,oB,oS];by_cases e:a=b
    · subst e; simp
    · have:((List.range a.length).all fun i=>a.getD i 0==b.getD i 0)=false:=by
        cases hq:((List.range a.length).all fun i=>a.getD i 0==b.getD i 0) with
        | false=>rfl
        | true =>
          refine absurd (fq hl fun i h1 h2=>?_) e;have:=cp.1 hq i (cC.2 h1);simpa [h1,h2] using this
      simp only [this,bF,if_false,e,dF,oP]
  · have ce:((a.length:Int) != (b.length:Int))=true:=by simp; omega
    have e:a ≠ b:=fun e=>hl (by rw [e]);simp [ce,e]
end Go.LN
namespace Go.LN
theorem zLk (P:zD) (x:zK) (ys:List zL) (hy:ys.length<=1048576) (ha:∀ a∈ys,AV a) (hp:x.Point.length<=4) (hR:RVa P.Arrays):∀ (j i:Nat) (o:List Int),i+j=ys.length->o.length=i->vZ P x ys o (i:Int)=some (o++(ys.drop i).map (cellA P.Arrays x.Point)):=by
  intro j
  induction j with
  | zero =>
    intro i o hi ho;rw [vZ];have:¬((i:Int)<(ys.length:Int)):=by omega
    simp only [this,dF,bF,if_false,oP,id];rw [dN.2 (by omega),eu,cy]
  | succ j ih =>
    intro i o hi ho;rw [vZ];have aE:i<ys.length:=by omega
    have hc:((i:Int)<(ys.length:Int)):=by omega
    simp only [hc,dT,if_true,yI aE,implCell P ys[i] x.Point (ha _ (gM aE)) hp hR,oB,oS,oO (show (o.length+[cellF ys[i] x.Point P.Arrays 0].length)*8<=140737488355328 by simp; omega)];rw [xY (by omega),ih (i+1) _ (by omega) (by rw [lA]; simp; omega),gC aE,cH,cq];rfl
end Go.LN
namespace Go.LN
def STz:zP:=zP.mk (zL.mk ⟨[]⟩ []) EXz
def stI (P:zD) (z:zK):zP:=(gP P z.Part.toNat).Body.getD z.Stmt.toNat STz
def rdI (P:zD) (z:zK):List Int:=(readsF 5 (stI P z).Value).map (cellA P.Arrays z.Point)
def wrI (P:zD) (z:zK):Int:=cellA P.Arrays z.Point (stI P z).Write
structure InP (P:zD) (z:zK):Prop where
  idxP:idx P.Parts z.Part=some (gP P z.Part.toNat)
  idxS:idx (gP P z.Part.toNat).Body z.Stmt=some (stI P z)
  part:0<=z.Part/\z.Part<(P.Parts.length:Int)
  stmt:0<=z.Stmt/\z.Stmt<((gP P z.Part.toNat).Body.length:Int)
  pin:BN (gP P z.Part.toNat).Nest/\nestB (gP P z.Part.toNat).Nest=true/\ptB z.Point=true/\inP (gP P z.Part.toNat).Nest [] z.Point
  pt:z.Point.length<=4
  bs:BS (stI P z)
  st:∃ d,stmtB (stI P z) d=true
  ok:stOk P.Arrays (stI P z) z.Point=true
theorem zAb {P:zD} (hb:BG P) (h:validP P=true) {z:zK} (hz:z∈progI P):InP P z:=by
  obtain ⟨i,s,hi,hs,z1,z2,hn,hin,hpt,hst,hsb⟩:=zJO h hz;have hbp:=hb.2.2 _ (gM hi);have hg:gP P z.Part.toNat=P.Parts[i]:=by rw [z1,iN]; simp [gP,hi]
  have hS:stI P z=P.Parts[i].Body[s]:=by unfold stI; rw [hg,z2,iN]; simp [hs]
  refine ⟨?_,?_,by rw [z1]; omega,by rw [hg,z2]; omega,?_,zPk hpt,?_,?_,?_⟩
  · rw [hg,z1,yI hi]
  · rw [hS,hg,z2,yI hs]
  · rw [hg]; exact ⟨hbp.1,hn,hpt,hin⟩
  · rw [hS]; exact hbp.2.2 _ (gM hs)
  · rw [hS]; exact ⟨_,hsb⟩
  · rw [hS]; exact hst
theorem zML {P:zD}{z:zK} (h:InP P z):(rdI P z).length<=32:=by
  obtain ⟨d,hd⟩:=h.st;have:=gW 5 (stI P z).Value (zC8 hd).2.1;unfold rdI;rw [lM]; omega
theorem touchedV {P:zD} (hb:BG P) (hv:validP P=true) {z:zK} (h:InP P z):oD P z=some (rdI P z,wrI P z):=by
  obtain ⟨d,hd⟩:=h.st;obtain ⟨s1,s2,s3⟩:=zC8 hd;have hR:=zNk hb hv;have hrd:=implReads 5 (stI P z).Value s2 (by omega);have hrl:=gW 5 (stI P z).Value s2;have htl:=zLk P z (readsF 5 (stI P z).Value) (by omega) s3 h.pt hR _ 0 [] (cu _) rfl;rw [nZ,co,cv] at htl;have hw:=implCell P (stI P z).Write z.Point s1 h.pt hR;unfold oD jQ;simp only [h.idxP,h.idxS,hrd,htl,hw,oB,oS,oP,id];rfl
def trcP (P:zD):xS:=⟨P,progI P,(progI P).map (rdI P),(progI P).map (wrI P)⟩
theorem zNn {P:zD} (hb:BG P) (hv:validP P=true):∀ (j i:Nat) (rs:List (List Int)) (ws:List Int),i+j=(progI P).length->rs.length=i->ws.length=i->mM P (progI P) (i:Int) rs ws=some (rs++((progI P).drop i).map (rdI P),ws++((progI P).drop i).map (wrI P)):=by
  have aV:=(uP hv).2.2.2;intro j
  induction j with
  | zero =>
    intro i rs ws hi hr hw;rw [mM];have:¬((i:Int)<((progI P).length:Int)):=by omega
    simp only [this,dF,bF,if_false,oP];rw [dN.2 (by omega),eu,eu,cy,cy]
  | succ j ih =>
    intro i rs ws hi hr hw;rw [mM];have aE:i<(progI P).length:=by omega
    have hc:((i:Int)<((progI P).length:Int)):=by omega
    have hz:=zAb hb hv (gM aE);simp only [hc,dT,if_true,yI aE,touchedV hb hv hz,oB,oS,oO (show (rs.length+[rdI P (progI P)[i]].length)*24<=140737488355328 by simp; omega),oO (show (ws.length+[wrI P (progI P)[i]].length)*8<=140737488355328 by simp; omega)];rw [xY (by omega),ih (i+1) _ _ (by omega) (by rw [lA]; simp; omega) (by rw [lA]; simp; omega),gC aE,cH,cH,cq,cq];rfl
theorem implTrace (P:zD) (hb:BG P):gU P=some (if validP P then (some (trcP P),true) else (none,false)):=by
  unfold gU;rw [implInstances P hb];cases hv:validP P with
  | false =>
    unfold validP at hv;cases hp:progB P with
    | false=>rfl
    | true =>
      rw [hp,cz] at hv;simp [hv]
  | true =>
    have hv':=hv;unfold validP at hv';rw [bA] at hv';have hl:=zNn hb hv _ 0 [] [] (cu _) rfl rfl;rw [nZ,co,cv,cv] at hl;simp only [hv'.1,hv'.2,if_true,oB,oS,bT,bF,if_false,hl,oP];rfl
end Go.LN
namespace Go.LN
def hasB (l:List Int) (n:Int):Bool:=l.any (fun x=>x==n)
theorem zMn (x:Int) (l:List Int) (n:Int):hasB (x::l) n=(x==n||hasB l n):=by unfold hasB; rw [hZ]
def kindF (r1:List Int) (w1:Int) (r2:List Int) (w2:Int):Int:=(if hasB r2 w1 then 1 else 0)+(if hasB r1 w2 then 2 else 0)+(if w1==w2 then 4 else 0)
theorem zMo (r1:List Int) (w1:Int) (r2:List Int) (w2:Int):0<=kindF r1 w1 r2 w2/\kindF r1 w1 r2 w2<=7:=by
  unfold kindF;cases hasB r2 w1 <;> cases hasB r1 w2 <;> cases (w1==w2) <;> simp
end Go.LN
namespace Go.LN
theorem zOm (l:List Int) (v:Int) (hl:l.length<=1048576):∀ (j i:Nat),i+j=l.length->∃ x,uB l v (i:Int)=some x/\((hasB (l.drop i) v=true/\∃ k:Nat,x=.ret (k:Int))∨(hasB (l.drop i) v=false/\x=.done ())):=by
  intro j
  induction j with
  | zero =>
    intro i hi;rw [uB];have:¬((i:Int)<(l.length:Int)):=by omega
    refine ⟨_,by simp only [this,dF,bF,if_false,oP],.inr ⟨?_,rfl⟩⟩;rw [dN.2 (by omega)]; rfl
  | succ j ih =>
    intro i hi;rw [uB];have aE:i<l.length:=by omega
    have hc:((i:Int)<(l.length:Int)):=by omega
    rw [gC aE,zMn];by_cases e:v=l[i]
    · refine ⟨_,by simp only [hc,dT,if_true,yI aE,oB,oS,oP,e,bQ],.inl ⟨?_,i,rfl⟩⟩;rw [e,bQ,Bool.true_or]
    · have e1:(v==l[i])=false:=by simpa using e
      have e2:(l[i]==v)=false:=by simpa using fun h=>e h.symm
      obtain ⟨x,hx,hr⟩:=ih (i+1) (by omega);refine ⟨x,?_,by rw [e2,ex]; exact hr⟩;simp only [hc,dT,if_true,yI aE,oB,oS,oP,e1,bF,if_false];rw [xY (by omega),hx]
theorem containsV (l:List Int) (v:Int) (hl:l.length<=1048576):tP l v=some (hasB l v):=by
  unfold tP mU;obtain ⟨x,hx,hr⟩:=zOm l v hl l.length 0 (cu _);rw [nZ] at hx;rw [co] at hr;rw [hx];rcases hr with ⟨h,k,rfl⟩ | ⟨h,rfl⟩
  · have:((k:Int)>=0):=by omega
    simp [h,this]
  · rw [h]; rfl
def zIns (P:zD) (a:Nat):zK:=(progI P).getD a ⟨0,0,[]⟩
theorem zD7 {P:zD}{a:Nat} (h:a<(progI P).length):zIns P a=(progI P)[a]:=by simp [zIns,h]
theorem zCi {P:zD}{a:Nat} (h:a<(progI P).length):zIns P a∈progI P:=by rw [zD7 h]; exact gM h
theorem zLA {P:zD}{a:Nat} (h:a<(progI P).length):idx ((progI P).map (rdI P)) (a:Int)=some (rdI P (zIns P a)):=by rw [yI (by rw [lM]; exact h),zD7 h]; simp
theorem zJP {P:zD}{a:Nat} (h:a<(progI P).length):idx ((progI P).map (wrI P)) (a:Int)=some (wrI P (zIns P a)):=by rw [yI (by rw [lM]; exact h),zD7 h]; simp
def kindI (P:zD) (a b:Nat):Int:=kindF (rdI P (zIns P a)) (wrI P (zIns P a)) (rdI P (zIns P b)) (wrI P (zIns P b))
theorem betweenV {P:zD} (hi:∀ z∈progI P,InP P z) {a b:Nat} (ha:a<(progI P).length) (hb:b<(progI P).length):oV (trcP P) (a:Int) (b:Int)=some (kindI P a b):=by
  have l1:=zML (hi _ (zCi ha));have l2:=zML (hi _ (zCi hb));unfold oV kindI kindF;simp only [trcP,zLA ha,zLA hb,zJP ha,zJP hb,containsV _ _ (show (rdI P (zIns P a)).length<=1048576 by omega),containsV _ _ (show (rdI P (zIns P b)).length<=1048576 by omega),oB,oS,oP,id];by_cases e:wrI P (zIns P a)=wrI P (zIns P b)
  · have e1:(wrI P (zIns P a)==wrI P (zIns P b))=true:=by simpa using e
    simp only [e1,if_true];cases hasB (rdI P (zIns P b)) (wrI P (zIns P a)) <;> cases hasB (rdI P (zIns P a)) (wrI P (zIns P b)) <;> rfl
  · have e1:(wrI P (zIns P a)==wrI P (zIns P b))=false:=by simpa using e
    simp only [e1,bF,if_false];cases hasB (rdI P (zIns P b)) (wrI P (zIns P a)) <;> cases hasB (rdI P (zIns P a)) (wrI P (zIns P b)) <;> rfl
end Go.LN
namespace Go.LN
end Go.LN
namespace Go.LN
end Go.LN
namespace Go.LN
def dep1 (P:zD) (i q:Nat):List yP:=if kindI P i q==0 then [] else [⟨(i:Int),(q:Int),kindI P i q⟩]
def depR (P:zD) (i k j:Nat):List yP:=(List.range' k j).flatMap fun q=>dep1 P i q
def depA (P:zD) (i j:Nat):List yP:=(List.range' i j).flatMap fun q=>depR P q (q+1) ((progI P).length - (q+1))
theorem zJQ (P:zD) (i k j:Nat):depR P i k (j+1)=dep1 P i k++depR P i (k+1) j:=by unfold depR; rw [cU,ck]
theorem zJR (P:zD) (i j:Nat):depA P i (j+1)=depR P i (i+1) ((progI P).length - (i+1))++depA P (i+1) j:=by unfold depA; rw [cU,ck]
theorem zNo (P:zD) (i q:Nat):(dep1 P i q).length<=1:=by unfold dep1; split <;> simp
theorem zIZ (P:zD) (i:Nat):∀ (j k:Nat),(depR P i k j).length<=j
  | 0,k=>by simp [depR]
  | j+1,k=>by
    have h1:=zNo P i k
    have h2:=zIZ P i j (k+1)
    rw [zJQ,lA]; omega
theorem zLB (P:zD):∀ (j i:Nat),(depA P i j).length<=j*(progI P).length
  | 0,i=>by simp [depA]
  | j+1,i=>by
    have h1:=zIZ P i ((progI P).length - (i+1)) (i+1)
    have h2:=zLB P j (i+1)
    rw [zJR,lA,fg,Nat.one_mul]; omega
theorem zMp (P:zD) (a b:Nat):0<=kindI P a b/\kindI P a b<=7:=zMo _ _ _ _
theorem zOn {P:zD} (hi:∀ z∈progI P,InP P z) (aV:(progI P).length<=120) (i:Nat) (hin:i<(progI P).length):∀ (j k:Nat) (o:List yP),k+j=(progI P).length->o.length+j<=1000000->sN (trcP P) (i:Int) o (k:Int)=some (o++depR P i k j):=by
  intro j
  induction j with
  | zero =>
    intro k o hk ho;rw [sN];have:¬((k:Int)<((trcP P).list.length:Int)):=by show ¬((k:Int)<((progI P).length:Int)); omega
    simp only [this,dF,bF,if_false,oP,id];simp [depR]
  | succ j ih =>
    intro k o hk ho;rw [sN,zJQ];have aE:k<(progI P).length:=by omega
    have hc:((k:Int)<((trcP P).list.length:Int)):=by show ((k:Int)<((progI P).length:Int)); omega
    have hr:=zMp P i k;simp only [hc,dT,if_true,betweenV hi hin aE,oB,oS,oP,id,oO (show (o.length+[yP.mk (i:Int) (k:Int) (kindI P i k)].length)*24<=140737488355328 by simp; omega)];rw [xY (by omega)];unfold dep1;by_cases h0:kindI P i k=0
    · have e1:¬(kindI P i k>0):=by omega
      have e2:(kindI P i k==0)=true:=by simpa using h0
      simp only [e1,e2,dF,bF,if_false,if_true,oS,cv];exact ih (k+1) o (by omega) (by omega)
    · have e1:kindI P i k>0:=by omega
      have e2:¬((kindI P i k==0)=true):=by simpa using h0
      simp only [e1,dT,if_true,oS];rw [if_neg e2,ih (k+1) _ (by omega) (by rw [lA]; simp; omega),cq]
theorem zMM {P:zD} (hi:∀ z∈progI P,InP P z) (aV:(progI P).length<=120):∀ (j i:Nat) (o:List yP),i+j=(progI P).length->o.length<=120*i->sO (trcP P) o (i:Int)=some (o++depA P i j):=by
  intro j
  induction j with
  | zero =>
    intro i o hij ho;rw [sO];have:¬((i:Int)<((trcP P).list.length:Int)):=by show ¬((i:Int)<((progI P).length:Int)); omega
    simp only [this,dF,bF,if_false,oP,id];simp [depA]
  | succ j ih =>
    intro i o hij ho;rw [sO,zJR];have aE:i<(progI P).length:=by omega
    have hc:((i:Int)<((trcP P).list.length:Int)):=by show ((i:Int)<((progI P).length:Int)); omega
    have hl:=zIZ P i ((progI P).length - (i+1)) (i+1);have h2:=zOn hi aV i aE ((progI P).length - (i+1)) (i+1) o (by omega) (by omega);simp only [hc,dT,if_true,xY (show i<9223372036854775807 by omega),h2,oB,oS];rw [ih (i+1) _ (by omega) (by rw [lA]; omega),cq]
def dpF (P:zD):List yP:=if validP P then depA P 0 (progI P).length else []
theorem implDeps (P:zD) (hb:BG P):kJ P=some (dpF P):=by
  unfold kJ dpF;rw [implTrace P hb];cases hv:validP P with
  | false=>rfl
  | true =>
    have aV:=(uP hv).2.2.2;have hi:∀ z∈progI P,InP P z:=fun z hz=>zAb hb hv hz;have hl:=zMM hi aV _ 0 [] (cu _) (by simp);rw [nZ,cv] at hl;simp only [if_true,oB,oS,bT,bF,if_false,pG,hl,oP,id]
theorem zJo {P:zD}:(dpF P).length<=14400:=by
  unfold dpF;split
  · rename_i hv;have aV:=(uP hv).2.2.2;have:=zLB P (progI P).length 0;have h2:(progI P).length*(progI P).length<=120*120:=Nat.mul_le_mul aV aV;omega
  · simp
end Go.LN
namespace Go.LN
structure Kn where
  k:Nat->Nat->Int
  n:Nat
def dq1 (P:Kn) (i q:Nat):List yP:=if P.k i q==0 then [] else [⟨(i:Int),(q:Int),P.k i q⟩]
def dqR (P:Kn) (i k j:Nat):List yP:=(List.range' k j).flatMap fun q=>dq1 P i q
def dqA (P:Kn) (i j:Nat):List yP:=(List.range' i j).flatMap fun q=>dqR P q (q+1) (P.n - (q+1))
def kG (P:Kn) (i m:Nat):Int:=if m<P.n then P.k i m else 0
def upd (g:Nat->Int) (m:Nat) (v:Int):Nat->Int:=fun x=>if x=m then v else g x
def stL (n:Nat) (g:Nat->Int):List Int:=(List.range n).map g
theorem zHV (n:Nat) (g:Nat->Int):(stL n g).length=n:=by unfold stL; rw [lM,fw]
theorem zJp {n m:Nat}{g:Nat->Int} (h:m<n):idx (stL n g) (m:Int)=some (g m):=by
  rw [yI (by rw [zHV]; exact h)];simp [stL]
theorem zLl {n i:Nat}{g:Nat->Int} (h:i<(stL n g).length):(stL n g)[i]=g i:=by simp [stL]
theorem zOo {n m:Nat}{g:Nat->Int}{v:Int} (h:m<n):(stL n g).set m v=stL n (upd g m v):=by
  refine fq (by rw [cM,zHV,zHV]) fun i h1 h2=>?_;rw [List.getElem_set,zLl,zLl];unfold upd;by_cases e:m=i
  · rw [if_pos e,if_pos e.symm]
  · rw [if_neg e,if_neg fun h=>e h.symm]
theorem zPl {P:Kn}{d:yP} (h:d∈dqA P 0 P.n):∃ i k:Nat,d=⟨(i:Int),(k:Int),P.k i k⟩/\i<k/\k<P.n/\P.k i k ≠ 0:=by
  unfold dqA at h;obtain ⟨i,hi,h⟩:=cA.1 h;unfold dqR at h;obtain ⟨k,hk,h⟩:=cA.1 h;have hi:=ep.1 hi;have hk:=ep.1 hk;unfold dq1 at h;split at h
  · cases h
  · rename_i h0;exact ⟨i,k,cr.1 h,by omega,by omega,by simpa using h0⟩
theorem zPm {P:Kn}{i k:Nat} (h1:i<k) (h2:k<P.n) (h3:P.k i k ≠ 0):(⟨(i:Int),(k:Int),P.k i k⟩:yP)∈dqA P 0 P.n:=by
  unfold dqA dqR;refine cA.2 ⟨i,ep.2 ⟨by omega,by omega⟩,cA.2 ⟨k,ep.2 ⟨by omega,by omega⟩,?_⟩⟩;unfold dq1;rw [if_neg (by simpa using h3)];exact cr.2 rfl
def kn (P:zD):Kn:=⟨kindI P,(progI P).length⟩
theorem zPn (P:zD):dqA (kn P) 0 (kn P).n=depA P 0 (progI P).length:=rfl
theorem zJq {P:zD}{d:yP} (h:d∈depA P 0 (progI P).length):∃ i k:Nat,d=⟨(i:Int),(k:Int),kindI P i k⟩/\i<k/\k<(progI P).length/\kindI P i k ≠ 0:=zPl (P:=kn P) h
end Go.LN
namespace Go.LN
end Go.LN
namespace Go.LN
end Go.LN
namespace Go.LN
end Go.LN
namespace Go.LN
end Go.LN
namespace Go.LN
end Go.LN
namespace Go.LN
theorem AV.bl {a:zL} (h:AV a):BL a.Subs:=⟨by have:=h.2.1; omega,fun s hs=>by have:=h.2.2 s hs; unfold BA; omega⟩
end Go.LN
namespace Go.LN
end Go.LN
namespace Go.LN
end Go.LN
namespace Go.LN
end Go.LN
namespace Go.LN
theorem zQW (n:Nat) (hn:n<=1000000):mkrow 8 (n:Int) (0:Int)=some (List.replicate n 0):=by
  unfold mkrow;rw [if_pos ⟨by omega,by omega⟩,iN]
theorem zNp (n:Nat):List.replicate n (0:Int)=stL n fun _=>0:=by
  refine fq (by rw [ey,zHV]) fun i h1 h2=>?_;rw [zLl,List.getElem_replicate]
def DB (n:Nat) (d:yP):Prop:=∃ i k:Nat,d.From=(i:Int)/\d.To=(k:Int)/\i<n/\k<n
end Go.LN
namespace Go.LN
theorem zPo {a b:List Int} (h:ltL a b=true):ltL b a=false:=by
  cases h3:ltL b a with
  | false=>rfl
  | true =>
    have:=Go.Sort.SWO.trans swoL a b a h h3;rw [Go.Sort.SWO.irrefl swoL a] at this; cases this
theorem zOp (a:List Int):ltL a a=false:=Go.Sort.SWO.irrefl swoL a
def uniqL:List (List Int)->List (List Int)
  | a::b::l=>if a=b then uniqL (b::l) else a::uniqL (b::l)
  | [a]=>[a]
  | []=>[]
theorem zGc:∀ {l:List (List Int)}{x:List Int},x∈uniqL l↔x∈l
  | [],x=>Iff.rfl
  | [a],x=>Iff.rfl
  | a::b::l,x=>by
    rw [uniqL]
    by_cases h:a=b
    · rw [if_pos h,zGc,h]; simp
    · rw [if_neg h,cK,zGc,cK]; simp
theorem zLC:∀ l:List (List Int),(uniqL l).length<=l.length
  | []=>cP _
  | [a]=>cP _
  | a::b::l=>by
    have:=zLC (b::l)
    rw [uniqL]
    split
    · exact gb this
    · exact Nat.succ_le_succ this
theorem zGd:∀ (l:List (List Int)) (y x:List Int),uniqL (l++[y]++[x])=if y=x then uniqL (l++[y]) else uniqL (l++[y])++[x]
  | [],y,x=>by
    show (if y=x then uniqL [x] else y::uniqL [x])=_
    by_cases h:y=x
    · rw [if_pos h,if_pos h,h]; rfl
    · rw [if_neg h,if_neg h]; rfl
  | [a],y,x=>by
    show (if a=y then uniqL ([]++[y]++[x]) else a::uniqL ([]++[y]++[x]))=if y=x then (if a=y then uniqL [y] else a::uniqL [y]) else (if a=y then uniqL [y] else a::uniqL [y])++[x]
    rw [zGd [] y x]
    by_cases h:a=y <;> by_cases h2:y=x <;> simp [h,h2]
  | a::b::l,y,x=>by
    show (if a=b then uniqL ((b::l)++[y]++[x]) else a::uniqL ((b::l)++[y]++[x]))=if y=x then (if a=b then uniqL ((b::l)++[y]) else a::uniqL ((b::l)++[y])) else (if a=b then uniqL ((b::l)++[y]) else a::uniqL ((b::l)++[y]))++[x]
    rw [zGd (b::l) y x]
    by_cases h:a=b <;> by_cases h2:y=x <;> simp [h,h2]
theorem zJS {s:List (List Int)}{n:Nat} (h0:0<n) (h:n<s.length):uniqL (s.take (n+1))=if s[n - 1]'(by omega)=s[n] then uniqL (s.take n) else uniqL (s.take n)++[s[n]]:=by
  obtain ⟨k,rfl⟩:∃ k,n=k+1:=⟨n - 1,by omega⟩;have e1:s.take (k+1+1)=s.take k++[s[k]'(by omega)]++[s[k+1]]:=by
    rw [fh,cg h,fh,cg (show k<s.length by omega)]; rfl
  have e2:s.take (k+1)=s.take k++[s[k]'(by omega)]:=by
    rw [fh,cg (show k<s.length by omega)]; rfl
  rw [e1,e2,zGd]; rfl
theorem zMN {l:List (List Int)}{x:List Int}:x∈srtL l↔x∈l:=List.mem_mergeSort
theorem zMO (l:List (List Int)):(srtL l).length=l.length:=List.length_mergeSort l
end Go.LN
namespace Go.LN
def eqR:List Int->List Int->Bool
  | [],[]=>true
  | x::a,y::b=>(x==y)&&eqR a b
  | _,_=>false
theorem zJr:∀ a b:List Int,eqR a b=decide (a=b)
  | [],[]=>rfl
  | [],_::_=>by simp [eqR]
  | _::_,[]=>by simp [eqR]
  | x::a,y::b=>by
    rw [eqR,zJr a b]
    by_cases h:x=y <;> simp [h]
theorem zLD {a b:List Int}{f:Int->Option (Out Unit Bool)} (hl:a.length=b.length) (step:∀ (i:Nat) (h1:i<a.length) (h2:i<b.length),f (i:Int)=if a[i]=b[i] then f ((i+1:Nat):Int) else some (.ret false)) (fin:f (a.length:Int)=some (.done ())):f 0=some (if eqR a b then .done () else .ret false):=by
  have key:∀ (j i:Nat),i+j=a.length->f (i:Int)=some (if eqR (a.drop i) (b.drop i) then .done () else .ret false):=by
    intro j
    induction j with
    | zero =>
      intro i hi;rw [show i=a.length by omega,fin,dN.2 (cP a.length),dN.2 (show b.length<=a.length by omega)]; rfl
    | succ j ih =>
      intro i hi;have h1:i<a.length:=by omega
      have h2:i<b.length:=by omega
      rw [step i h1 h2,ih (i+1) (by omega),gC h1,gC h2,eqR];by_cases e:a[i]=b[i] <;> simp [e]
  have:=key a.length 0 (cu _);rwa [nZ,co,co] at this
theorem implEqR (a b:List Int) (h:a.length<=1048576):tX a b=some (decide (a=b)):=by
  unfold tX;by_cases hl:a.length=b.length
  · have hf:=zLD hl (f:=uA a b) (fun i h1 h2=>by
      rw [uA];have c:((i:Int)<(a.length:Int)):=by omega
      simp only [c,dT,if_true,yI h1,yI h2,oB,oS,oP];rw [xY (by omega)];by_cases e:a[i]=b[i]
      · simp [e]
      · simp [e]) (by rw [uA]; simp)
    have e:((a.length:Int) != (b.length:Int))=false:=by simp [hl]
    rw [hf,e,zJr];by_cases h:a=b <;> simp [h]
  · have e:((a.length:Int) != (b.length:Int))=true:=by simp; omega
    have hne:a ≠ b:=fun h=>hl (by rw [h]);rw [e];simp [hne]
theorem specEqR (a b:List Int) (h:a.length<=1048576):fD a b=some (decide (a=b)):=by
  unfold fD;by_cases hl:a.length=b.length
  · have hf:=zLD hl (f:=nP a b) (fun i h1 h2=>by
      rw [nP];have c:((i:Int)<(a.length:Int)):=by omega
      simp only [c,dT,if_true,yI h1,yI h2,oB,oS,oP];rw [xY (by omega)];by_cases e:a[i]=b[i]
      · simp [e]
      · simp [e]) (by rw [nP]; simp)
    have e:((a.length:Int) != (b.length:Int))=false:=by simp [hl]
    rw [hf,e,zJr];by_cases h:a=b <;> simp [h]
  · have e:((a.length:Int) != (b.length:Int))=true:=by simp; omega
    have hne:a ≠ b:=fun h=>hl (by rw [h]);rw [e];simp [hne]
theorem zNq {k:Nat} (h1:1<=k) (h:k<=1000000):W ((k:Int) - 1)=((k - 1:Nat):Int):=by rw [sT (by omega) (by omega)]; omega
theorem zLE {α:Type}{a b:List α}{n i:Nat} (h:a.drop n=b.drop n) (hi:n<=i) (ha:i<a.length) (hb:i<b.length):a[i]=b[i]:=by
  have e:(a.drop n)[i - n]?=(b.drop n)[i - n]?:=by rw [h]
  rw [d7,d7,show n+(i - n)=i by omega,cg ha,cg hb] at e;exact Option.some.inj e
theorem zPp {s:List (List Int)}{k0:Nat} (hk0:1<=k0) (hk:k0<s.length) (hl:s.length<=1000000) (hb:∀ l∈s,l.length<=1048576):∀ (j k2:Nat) (s3:List (List Int)) (k1:Nat),k2+j=s.length - k0->1<=k2->k1+1<=k0+k2->s3.length=s.length->s3.drop (k0+k2 - 1)=s.drop (k0+k2 - 1)->s3.take k1=uniqL (s.take (k0+k2)) ->
    ∃ (s4:List (List Int)) (k4:Nat),xT (k0:Int) (s.drop k0) s3 (k1:Int) (k2:Int)=some (s4,(k4:Int))/\k4<=s4.length/\s4.take k4=uniqL s/\s4.length=s.length:=by
  intro j
  induction j with
  | zero =>
    intro k2 s3 k1 hj h1 h2 h3 h4 h5
    refine ⟨s3,k1,?_,by omega,?_,h3⟩
    · rw [xT]
      have:¬((k2:Int)<((s.drop k0).length:Int)):=by rw [cD]; omega
      simp only [this,dF,bF,if_false,oP]
    · rw [h5,show k0+k2=s.length by omega,fl]
  | succ j ih =>
    intro k2 s3 k1 hj h1 h2 h3 h4 h5
    have hc:((k2:Int)<((s.drop k0).length:Int)):=by rw [cD]; omega
    have hn:k0+k2<s.length:=by omega
    have i1:idx (s.drop k0) (k2:Int)=some ((s.drop k0)[k2]'(by rw [cD]; omega)):=yI _
    have i2:idx (s.drop k0) ((k2 - 1:Nat):Int)=some ((s.drop k0)[k2 - 1]'(by rw [cD]; omega)):=yI _
    have e1:s3[k0+k2]'(by omega)=s[k0+k2]:=zLE h4 (by omega) (by omega) hn
    have e2:s3[k0+k2 - 1]'(by omega)=s[k0+k2 - 1]'(by omega):=zLE h4 (cP _) (by omega) (by omega)
    have i3:idx s3 ((k0:Int)+(k2:Int))=some s[k0+k2]:=by
      rw [show (k0:Int)+(k2:Int)=((k0+k2:Nat):Int) by omega,yI (by omega),e1]
    have i4:idx s3 ((k0:Int)+((k2 - 1:Nat):Int))=some (s[k0+k2 - 1]'(by omega)):=by
      rw [show (k0:Int)+((k2 - 1:Nat):Int)=((k0+k2 - 1:Nat):Int) by omega,yI (by omega),e2]
    have i5:idx s3 (k1:Int)=some (s3[k1]'(by omega)):=yI _
    have hq:=implEqR s[k0+k2] (s[k0+k2 - 1]'(by omega)) (hb _ (gM hn))
    have hu:=zJS (s:=s) (n:=k0+k2) (by omega) hn
    have hd2:s3.drop (k0+k2)=s.drop (k0+k2):=by
      have:(s3.drop (k0+k2 - 1)).drop 1=(s.drop (k0+k2 - 1)).drop 1:=by rw [h4]
      rwa [du,du,show k0+k2 - 1+1=k0+k2 by omega] at this
    rw [xT]
    simp only [hc,dT,if_true,i1,i3,zNq h1 (show k2<=1000000 by omega),i2,i4,i5,hq,oB,oS,oP,iN]
    by_cases e:s[k0+k2]=s[k0+k2 - 1]'(by omega)
    · simp only [e,dT,bT,bF,if_false,oS]
      rw [xY (by omega)]
      exact ih (k2+1) s3 k1 (by omega) (by omega) (by omega) h3 (by rw [show k0+(k2+1) - 1=k0+k2 by omega]; exact hd2) (by
        rw [show k0+(k2+1)=k0+k2+1 by omega,hu,if_pos e.symm]; exact h5)
    · simp only [e,dF,dl,if_true,oS]
      rw [xY (show k1<9223372036854775807 by omega),xY (show k2<9223372036854775807 by omega)]
      exact ih (k2+1) (s3.set k1 s[k0+k2]) (k1+1) (by omega) (by omega) (by omega) (by rw [cM]; exact h3)
        (by rw [show k0+(k2+1) - 1=k0+k2 by omega,List.drop_set_of_lt (by omega)]; exact hd2) (by
        rw [show k0+(k2+1)=k0+k2+1 by omega,hu,if_neg (fun h=>e h.symm),<- h5,fh,List.getElem?_set_self (by omega),List.take_set_of_le (cP _)]; rfl)
theorem zPq {s:List (List Int)} (hl:s.length<=1000000) (hb:∀ l∈s,l.length<=1048576):∀ (j k:Nat),k+j=s.length->1<=k->uniqL (s.take k)=s.take k ->
    xU s (k:Int)=some (.ret (uniqL s))∨(xU s (k:Int)=some (.done s)/\uniqL s=s):=by
  intro j
  induction j with
  | zero =>
    intro k hj h1 h2
    refine .inr ⟨?_,?_⟩
    · rw [xU]
      have:¬((k:Int)<(s.length:Int)):=by omega
      simp only [this,dF,bF,if_false,oP]
    · rw [show k=s.length by omega,fl] at h2; exact h2
  | succ j ih =>
    intro k hj h1 h2
    have hn:k<s.length:=by omega
    have hc:((k:Int)<(s.length:Int)):=by omega
    have i4:idx s ((k - 1:Nat):Int)=some (s[k - 1]'(by omega)):=yI _
    have hq:=implEqR s[k] (s[k - 1]'(by omega)) (hb _ (gM hn))
    have hu:=zJS (s:=s) (n:=k) (by omega) hn
    rw [xU]
    simp only [hc,dT,if_true,yI hn,zNq h1 (show k<=1000000 by omega),i4,hq,oB,oS,oP]
    by_cases e:s[k]=s[k - 1]'(by omega)
    · have es:slc s (k:Int) (s.length:Int)=some (s.drop k):=by
        unfold slc
        rw [if_pos ⟨by omega,by omega,by omega⟩,iN,iN,fl]
      obtain ⟨s4,k4,g1,g2,g3,g4⟩:=zPp h1 hn hl hb _ 1 s k (Nat.add_sub_cancel' (by omega)) (cP _) (by omega) rfl rfl (by rw [hu,if_pos e.symm,h2])
      have g1:xT (k:Int) (s.drop k) s (k:Int) 1=some (s4,(k4:Int)):=g1
      have ec:clrL s4 (k4:Int) ([]:List Int)=some (s4.take k4++List.replicate (s4.length - k4) []):=by
        unfold clrL
        rw [if_pos ⟨by omega,by omega⟩]; rfl
      have e3:slc (s4.take k4++List.replicate (s4.length - k4) ([]:List Int)) 0 (k4:Int)=some (s4.take k4):=by
        unfold slc
        rw [if_pos ⟨by omega,by omega,by simp; omega⟩,iN,List.take_append_of_le_length (by rw [cw]; omega),en,Nat.min_self]; rfl
      refine .inl ?_
      simp only [e,dT,if_true,es,g1,ec,e3,oS]
      rw [g3]
    · have h3:uniqL (s.take (k+1))=s.take (k+1):=by
        rw [hu,if_neg (fun h=>e h.symm),h2,fh,cg hn]; rfl
      simp only [e,dF,bF,if_false]
      rw [xY (by omega)]
      exact ih (k+1) (by omega) (by omega) h3
theorem compactV {s:List (List Int)} (hl:s.length<=1000000) (hb:∀ l∈s,l.length<=1048576):uE s=some (uniqL s):=by
  unfold uE;by_cases h:(s.length:Int)<2
  · simp only [h,dT,if_true,oP,id];refine congrArg some ?_
    match s,h with
    | [],_=>rfl
    | [a],_=>rfl
    | a::b::l,h=>simp at h; omega
  · have h1:uniqL (s.take 1)=s.take 1:=by
      match s,h with
      | [],h=>rfl
      | a::l,_=>rfl
    have hm:=zPq hl hb _ 1 (Nat.add_sub_cancel' (show 1<=s.length by omega)) (cP _) h1;rw [show ((1:Nat):Int)=1 from rfl] at hm;simp only [h,dF,bF,if_false];rcases hm with hm | ⟨hm,hu⟩
    · simp only [hm,oB,oS,oP]
    · simp only [hm,hu,oB,oS,oP,id]
def minV (a b:List Int):List Int:=List.zipWith (fun x y=>W (x - y)) a b
def inPt (P:zD) (part:Int) (d:yP):Bool:=(zIns P d.From.toNat).Part==part&&(zIns P d.To.toNat).Part==part
def dvF (P:zD) (d:yP):List Int:=minV (zIns P d.To.toNat).Point (zIns P d.From.toNat).Point
def dvs (P:zD) (part:Int):List (List Int):=((dpF P).filter (inPt P part)).map (dvF P)
def dsF (P:zD) (part:Int):List (List Int):=uniqL (srtL (dvs P part))
theorem zJs {P:zD}{d:yP} (h:d∈dpF P):validP P=true/\∃ i k:Nat,d.From=(i:Int)/\d.To=(k:Int)/\i<k/\k<(progI P).length:=by
  unfold dpF at h;split at h
  · rename_i hv;obtain ⟨i,k,rfl,h1,h2,_⟩:=zJq h;exact ⟨hv,i,k,rfl,rfl,h1,h2⟩
  · cases h
theorem zHW {P:zD} (hb:BG P) (hv:validP P=true) {i k:Nat} (hi:i<(progI P).length) (hk:k<(progI P).length) (hp:(zIns P i).Part=(zIns P k).Part):(zIns P i).Point.length=(zIns P k).Point.length/\(zIns P k).Point.length=(gP P (zIns P k).Part.toNat).Nest.length:=by
  have a:=zJn (zAb hb hv (zCi hi)).pin.2.2.2;have b:=zJn (zAb hb hv (zCi hk)).pin.2.2.2;rw [hp] at a;exact ⟨by rw [a,b],b⟩
theorem zOq {a b:zK} (hl:a.Point.length=b.Point.length) (h4:b.Point.length<=4):∀ (j q:Nat) (o:List Int),q+j=b.Point.length->o.length<=q->vX a b o (q:Int)=some (o++minV (b.Point.drop q) (a.Point.drop q)):=by
  intro j
  induction j with
  | zero =>
    intro q o hq ho;rw [vX];have:¬((q:Int)<(b.Point.length:Int)):=by omega
    simp only [this,dF,bF,if_false,oP,id];rw [dN.2 (show b.Point.length<=q by omega)];simp [minV]
  | succ j ih =>
    intro q o hq ho;have h1:q<b.Point.length:=by omega
    have h2:q<a.Point.length:=by omega
    have hc:((q:Int)<(b.Point.length:Int)):=by omega
    rw [vX,gC h1,gC h2];simp only [hc,dT,if_true,yI h1,yI h2,oB,oS,oO (show (o.length+[W (b.Point[q] - a.Point[q])].length)*8<=140737488355328 by simp; omega)];rw [xY (by omega),ih (q+1) _ (by omega) (by rw [lA]; simp; omega),cq]; rfl
theorem zAZ (P:zD):(trcP P).list=progI P:=rfl
theorem zOr {P:zD} (hb:BG P) (hv:validP P=true) (part:Int) {D:List yP} (hD:∀ d∈D,d∈dpF P) (hl:D.length<=1000000):∀ (j q:Nat) (o:List (List Int)),q+j=D.length->o.length<=q->wD (trcP P) part D o (q:Int)=some (o++((D.drop q).filter (inPt P part)).map (dvF P)):=by
  intro j
  induction j with
  | zero =>
    intro q o hq ho;rw [wD];have:¬((q:Int)<(D.length:Int)):=by omega
    simp only [this,dF,bF,if_false,oP,id];rw [dN.2 (by omega)]; simp
  | succ j ih =>
    intro q o hq ho;have aE:q<D.length:=by omega
    have hc:((q:Int)<(D.length:Int)):=by omega
    obtain ⟨_,i,k,e1,e2,h1,h2⟩:=zJs (hD D[q] (gM aE));have hi:i<(progI P).length:=by omega
    have x1:idx (trcP P).list D[q].From=some (zIns P i):=by rw [zAZ,e1,yI hi,zD7 hi]
    have x2:idx (trcP P).list D[q].To=some (zIns P k):=by rw [zAZ,e2,yI h2,zD7 h2]
    have hpt:inPt P part D[q]=((zIns P i).Part==part&&(zIns P k).Part==part):=by unfold inPt; rw [e1,e2,iN,iN]
    rw [wD,gC aE,List.filter_cons,hpt];have et:(if ((zIns P i).Part != part)=true then some true else some ((zIns P k).Part != part))=some (!((zIns P i).Part==part&&(zIns P k).Part==part)):=by
      unfold bne;cases (zIns P i).Part==part <;> rfl
    simp only [hc,dT,if_true,yI aE,x1,x2,oB,oS,oP,et];cases hp:((zIns P i).Part==part&&(zIns P k).Part==part) with
    | false =>
      simp only [dl,if_true,bF,if_false];rw [xY (by omega),ih (q+1) _ (by omega) (by omega)]
    | true =>
      simp only [bA,beq_iff_eq] at hp;have hs:=(zHW hb hv hi h2 (by rw [hp.1,hp.2])).1;have h4:=(zAb hb hv (zCi h2)).pt;have hd:=zOq hs h4 _ 0 [] (cu _) (cP 0);rw [nZ,co,co,cv] at hd;have ev:dvF P D[q]=minV (zIns P k).Point (zIns P i).Point:=by unfold dvF; rw [e1,e2,iN,iN]
      simp only [bT,bF,if_false,if_true,hd,oS,oO (show (o.length+[minV (zIns P k).Point (zIns P i).Point].length)*24<=140737488355328 by simp; omega)];rw [xY (by omega),ih (q+1) _ (by omega) (by rw [lA]; simp; omega),cq,cH,ev]; rfl
theorem zLF (a b:List Int):(minV a b).length=min a.length b.length:=List.length_zipWith
theorem zJt {P:zD} (part:Int):(dvs P part).length<=14400:=by
  unfold dvs;rw [lM];exact cW (fu _ _) zJo
theorem zMP {P:zD} (hb:BG P) {part:Int}{l:List Int} (h:l∈dvs P part):validP P=true/\∃ i k:Nat,i<k/\k<(progI P).length/\(zIns P i).Part=part/\(zIns P k).Part=part/\l=minV (zIns P k).Point (zIns P i).Point:=by
  unfold dvs at h;obtain ⟨d,hd,rfl⟩:=dx.1 h;rw [dv] at hd;obtain ⟨hv,i,k,e1,e2,h1,h2⟩:=zJs hd.1;have hp:=hd.2;unfold inPt at hp;rw [e1,e2,iN,iN,bA,beq_iff_eq,beq_iff_eq] at hp;exact ⟨hv,i,k,h1,h2,hp.1,hp.2,by unfold dvF; rw [e1,e2,iN,iN]⟩
theorem zGe {P:zD} (hb:BG P) {part:Int}{l:List Int} (h:l∈dvs P part):l.length<=4:=by
  obtain ⟨hv,i,k,h1,h2,_,_,rfl⟩:=zMP hb h;have:=(zAb hb hv (zCi h2)).pt;rw [zLF]; omega
theorem zJu {P:zD}{part:Int}{l:List Int}:l∈dsF P part↔l∈dvs P part:=by unfold dsF; rw [zGc,zMN]
theorem zPr {P:zD} (part:Int):(dsF P part).length<=14400:=by
  have h1:=zLC (srtL (dvs P part));have h2:=zMO (dvs P part);have h3:=zJt (P:=P) part;unfold dsF; omega
theorem isPartL {P:zD} (hb:BG P) (part:Int):oU P part=some (decide (0<=part)&&decide (part<=(P.Parts.length:Int) - 1)):=by
  have:=hb.2.1;unfold oU;simp only [oH,sT (x:=(P.Parts.length:Int) - 1) (by omega) (by omega),oB,oS,oP,id]
theorem tdist {P:zD} (hb:BG P) (hv:validP P=true) (part:Int):pL (trcP P) part=some (dsF P part):=by
  have hy:pG (trcP P)=some (dpF P):=by
    have aV:=(uP hv).2.2.2;have hi:∀ z∈progI P,InP P z:=fun z hz=>zAb hb hv hz;have hl:=zMM hi aV _ 0 [] (cu _) (by simp);rw [nZ,cv] at hl;unfold dpF;simp only [pG,hl,hv,if_true,oB,oS,oP,id]
  have aV:=zJo (P:=P);have h1:=zOr hb hv part (D:=dpF P) (fun _ h=>h) (by omega) _ 0 [] (cu _) (cP 0);rw [nZ,co,cv] at h1;have h1:wD (trcP P) part (dpF P) [] 0=some (dvs P part):=h1;have hs:rR (dvs P part)=some (srtL (dvs P part)):=by
    unfold rR;have:=zJt (P:=P) part;rw [if_pos ⟨by omega,fun l hl=>by have:=zGe hb hl; omega⟩]
  have hc:uE (srtL (dvs P part))=some (dsF P part) :=
    compactV (by rw [zMO]; have:=zJt (P:=P) part; omega) fun l hl=>by have:=zGe hb (zMN.1 hl); omega
  unfold pL;simp only [hy,h1,hs,hc,oB,oS,oP,id]
end Go.LN
namespace Go.LN
theorem zD8:∀ {a b c:List Int},lexlt a b->lexlt b c->lexlt a c
  | x::a,y::b,z::c,h1,h2=>by
    rcases h1 with h1 | ⟨rfl,h1⟩
    · rcases h2 with h2 | ⟨rfl,h2⟩
      · exact .inl (by omega)
      · exact .inl h1
    · rcases h2 with h2 | ⟨rfl,h2⟩
      · exact .inl h2
      · exact .inr ⟨rfl,zD8 h1 h2⟩
  | [],_,_,h1,_=>h1.elim
  | _::_,[],_,h1,_=>h1.elim
  | _::_,_::_,[],_,h2=>h2.elim
def ordI (a b:zK):Prop:=a.Part<b.Part∨(a.Part=b.Part/\(lexlt a.Point b.Point∨(a.Point=b.Point/\a.Stmt<b.Stmt)))
theorem zLm {a b c:zK} (h1:ordI a b) (h2:ordI b c):ordI a c:=by
  rcases h1 with h1 | ⟨e1,h1⟩
  · rcases h2 with h2 | ⟨e2,_⟩
    · exact .inl (by omega)
    · exact .inl (by omega)
  · rcases h2 with h2 | ⟨e2,h2⟩
    · exact .inl (by omega)
    · refine .inr ⟨by omega,?_⟩;rcases h1 with h1 | ⟨p1,h1⟩
      · rcases h2 with h2 | ⟨p2,_⟩
        · exact .inl (zD8 h1 h2)
        · exact .inl (p2 ▸ h1)
      · rcases h2 with h2 | ⟨p2,h2⟩
        · exact .inl (p1 ▸ h2)
        · exact .inr ⟨p1.trans p2,by omega⟩
theorem zMQ {a b:zK} (h:nxt a b):ordI a b:=by
  rcases h with h | ⟨e,h | ⟨p,h⟩⟩
  · exact .inl h
  · exact .inr ⟨e,.inl h⟩
  · exact .inr ⟨e,.inr ⟨p,by omega⟩⟩
theorem zMR:∀ {l:List zK},Ch nxt l->l.Pairwise ordI
  | [],_=>List.Pairwise.nil
  | [a],_=>List.pairwise_singleton ..
  | a::b::l,h=>by
    have ih:=zMR (l:=b::l) h.2
    refine f9.2 ⟨fun x hx=>?_,ih⟩
    rcases cK.1 hx with rfl | hx
    · exact zMQ h.1
    · exact zLm (zMQ h.1) ((f9.1 ih).1 x hx)
theorem zI0 {P:zD}{i k:Nat} (h:i<k) (hk:k<(progI P).length):ordI (zIns P i) (zIns P k):=by
  have hp:=hU.1 (zMR (zNm P)) i k (by omega) hk h;rw [zD7 (by omega),zD7 hk]; exact hp
def nzF:List Int->Option (Nat×Int)
  | []=>none
  | x::l=>if x=0 then (nzF l).map fun y=>(y.1+1,y.2) else some (0,x)
def zr (n:Nat):List Int:=List.replicate n 0
theorem zJv {q:List Int} (h:ptB q=true):∀ x∈q,-9999<=x/\x<=9999:=fun x hx=>by
  simp only [ptB,bA,cp,decide_eq_true_eq] at h;exact h.2 x hx
theorem zMS:∀ {a b:List Int},lexlt a b->a.length=b.length->(∀ x∈a,-9999<=x/\x<=9999)->(∀ x∈b,-9999<=x/\x<=9999)->ltL (zr (minV b a).length) (minV b a)=true/\∃ k v,nzF (minV b a)=some (k,v)/\0<v
  | x::a,y::b,h,hl,ha,hb=>by
    have h1:=ha x (cj ..)
    have h2:=hb y (cj ..)
    have e:minV (y::b) (x::a)=(y - x)::minV b a:=by
      show W (y - x)::minV b a=_
      rw [sT (by omega) (by omega)]
    rw [e]
    have ez:zr ((y - x)::minV b a).length=0::zr (minV b a).length:=rfl
    rw [ez]
    rcases h with h | ⟨rfl,h⟩
    · refine ⟨?_,0,y - x,?_,by omega⟩
      · unfold ltL; rw [cmpL,if_pos (by omega)]; rfl
      · rw [nzF,if_neg (by omega)]
    · obtain ⟨g1,k,v,g2,g3⟩:=zMS h (by simpa using hl) (fun z hz=>ha z (ci _ hz)) (fun z hz=>hb z (ci _ hz))
      refine ⟨?_,k+1,v,?_,g3⟩
      · unfold ltL at g1 ⊢
        rw [cmpL,if_neg (by omega),if_neg (by omega)]; exact g1
      · rw [nzF,if_pos (by omega),g2]; rfl
  | [],_,h,_,_,_=>h.elim
  | _::_,[],h,_,_,_=>h.elim
theorem zLG:∀ a:List Int,minV a a=zr (minV a a).length/\nzF (minV a a)=none
  | []=>⟨rfl,rfl⟩
  | x::a=>by
    have e:minV (x::a) (x::a)=0::minV a a:=by
      show W (x - x)::minV a a=_
      rw [Int.sub_self]; rfl
    obtain ⟨h1,h2⟩:=zLG a
    rw [e]
    refine ⟨?_,?_⟩
    · show 0::minV a a=0::zr (minV a a).length
      rw [<- h1]
    · rw [nzF,if_pos rfl,h2]; rfl
theorem zNr:∀ {d:List Int}{k:Nat}{v:Int},nzF d=some (k,v)->∃ h:k<d.length,d[k]=v
  | x::l,k,v,h=>by
    rw [nzF] at h
    by_cases e:x=0
    · rw [if_pos e] at h
      cases hn:nzF l with
      | none=>rw [hn] at h; cases h
      | some y =>
        rw [hn] at h
        obtain ⟨k2,v2⟩:=y
        have h:=Option.some.inj h
        injection h with h3 h4
        subst h3; subst h4
        obtain ⟨g1,g2⟩:=zNr hn
        exact ⟨by rw [cx]; omega,g2⟩
    · rw [if_neg e] at h
      have h:=Option.some.inj h
      injection h with h3 h4
      subst h3; subst h4
      exact ⟨by simp,rfl⟩
theorem carryV {d:List Int} (hl:d.length<=1000000):jD d=some (match nzF d with | none=>-1 | some y=>(y.1:Int)):=by
  have key:∀ (j q:Nat),q+j=d.length->xN d qB (q:Int)=some (match nzF (d.drop q) with | none=>.done () | some y=>.ret ((q+y.1:Nat):Int)):=by
    intro j
    induction j with
    | zero =>
      intro q hq;rw [xN];have:¬((q:Int)<(d.length:Int)):=by omega
      simp only [this,dF,bF,if_false,oP];rw [dN.2 (show d.length<=q by omega)]; rfl
    | succ j ih =>
      intro q hq;have h1:q<d.length:=by omega
      have hc:((q:Int)<(d.length:Int)):=by omega
      rw [xN,gC h1,nzF];simp only [hc,dT,if_true,yI h1,qB,oB,oS,oP];by_cases e:d[q]=0
      · have:(d[q] != 0)=false:=by simp [e]
        simp only [this,bF,if_false,e,if_true];rw [xY (by omega),ih (q+1) (by omega)];cases nzF (d.drop (q+1)) with
        | none=>rfl
        | some y =>
          show some (Out.ret _)=some (Out.ret _)
          congr 2
          show ((q+1+y.1:Nat):Int)=((q+(y.1+1):Nat):Int);omega
      · have:(d[q] != 0)=true:=by simp [e]
        simp only [this,if_true,e,if_false];rfl
  have h:=key d.length 0 (cu _);rw [nZ,co] at h;unfold jD tF;rw [h];cases nzF d with
  | none=>rfl
  | some y=>simp
theorem zOs {P:zD} (hb:BG P) {part:Int}{d:List Int} (h:d∈dsF P part):d.length<=4/\ltL d (zr d.length)=false/\(∀ k v,nzF d=some (k,v)->0<v) /\
    (0<=part/\part.toNat<P.Parts.length/\d.length=(gP P part.toNat).Nest.length/\((gP P part.toNat).Body.length=1->nzF d ≠ none)):=by
  have hs:=zGe hb (zJu.1 h)
  obtain ⟨hv,i,k,h1,h2,p1,p2,rfl⟩:=zMP hb (zJu.1 h)
  have hi:i<(progI P).length:=by omega
  have ai:=zAb hb hv (zCi hi)
  have ak:=zAb hb hv (zCi h2)
  have hsame:=zHW hb hv hi h2 (by rw [p1,p2])
  have ho:=zI0 h1 h2
  have hpart:=ak.part
  have hln:(minV (zIns P k).Point (zIns P i).Point).length=(gP P part.toNat).Nest.length:=by rw [zLF,hsame.1,Nat.min_self,hsame.2,p2]
  rw [p2] at hpart
  rcases ho with ho | ⟨_,ho | ⟨ho,hst⟩⟩
  · rw [p1,p2] at ho; omega
  · obtain ⟨g1,kk,v,g2,g3⟩:=zMS ho hsame.1 (zJv ai.pin.2.2.1) (zJv ak.pin.2.2.1)
    refine ⟨hs,zPo g1,fun k' v' e=>?_,hpart.1,by omega,hln,fun _=>by rw [g2]; simp⟩
    rw [g2] at e
    have e:=Option.some.inj e
    injection e with _ e2
    omega
  · rw [ho]
    obtain ⟨g1,g2⟩:=zLG (zIns P k).Point
    refine ⟨by rw [ho] at hs; exact hs,?_,fun k' v' e=>(by rw [g2] at e; cases e),hpart.1,by omega,by rw [ho] at hln; exact hln,fun hB=>?_⟩
    · rw [<- g1]; exact zOp _
    · exfalso
      have s1:=ai.stmt
      have s2:=ak.stmt
      rw [p1,hB] at s1
      rw [p2,hB] at s2
      omega
end Go.LN
namespace Go.LN
def atK (k:Nat) (d:List Int):Bool:=match nzF d with | some y=>y.1==k | none=>false
def crd (P:zD) (part:Int) (k:Nat):Bool:=(dsF P part).any (atK k)
def bsL (n:Nat) (g:Nat->Bool):List Bool:=(List.range n).map g
theorem zHX (n:Nat) (g:Nat->Bool):(bsL n g).length=n:=by unfold bsL; rw [lM,fw]
theorem zLn {n i:Nat}{g:Nat->Bool} (h:i<(bsL n g).length):(bsL n g)[i]=g i:=by simp [bsL]
theorem zMT {n m:Nat}{g:Nat->Bool} (h:m<n):idx (bsL n g) (m:Int)=some (g m):=by
  rw [yI (by rw [zHX]; exact h)];simp [bsL]
theorem zOt {n m:Nat}{g:Nat->Bool}:(bsL n g).set m true=bsL n fun x=>g x||x==m:=by
  refine fq (by rw [cM,zHX,zHX]) fun i h1 h2=>?_;rw [List.getElem_set,zLn,zLn];by_cases e:m=i
  · rw [if_pos e,e]; simp
  · rw [if_neg e];have:(i==m)=false:=by simpa using fun h=>e h.symm
    simp [this]
theorem zNs (n:Nat):List.replicate n false=bsL n fun _=>false:=by
  refine fq (by rw [ey,zHX]) fun i h1 h2=>?_;rw [zLn,List.getElem_replicate]
theorem zNt:∀ {a b:List Int},a.length=b.length->(∀ x∈a,-9999<=x/\x<=9999)->(∀ x∈b,-9999<=x/\x<=9999)->∀ k:Nat,atK k (minV b a)=(decide (k<a.length)&&(decide (a.take k=b.take k) && !(a.getD k 0==b.getD k 0)))
  | [],[],_,_,_,k=>by simp [atK,minV,nzF]
  | x::a,y::b,hl,ha,hb,k=>by
    have h1:=ha x (cj ..)
    have h2:=hb y (cj ..)
    have e:minV (y::b) (x::a)=(y - x)::minV b a:=by
      show W (y - x)::minV b a=_
      rw [sT (by omega) (by omega)]
    have ih:=zNt (a:=a) (b:=b) (by simpa using hl) (fun z hz=>ha z (ci _ hz)) (fun z hz=>hb z (ci _ hz))
    unfold atK at ih ⊢
    rw [e,nzF]
    by_cases hxy:x=y
    · rw [if_pos (by omega)]
      cases k with
      | zero =>
        cases nzF (minV b a) with
        | none=>simp [hxy]
        | some z=>simp [hxy]
      | succ k =>
        have ih:=ih k
        cases hz:nzF (minV b a) with
        | none =>
          rw [hz] at ih
          simp only [Option.map_none] at ih ⊢
          simp only [cx,Nat.succ_lt_succ_iff,gu,List.cons.injEq,hxy,true_and,List.getD_cons_succ]
          exact ih
        | some z =>
          rw [hz] at ih
          simp only [Option.map_some] at ih ⊢
          simp only [cx,Nat.succ_lt_succ_iff,gu,List.cons.injEq,hxy,true_and,List.getD_cons_succ]
          rw [<- ih]
          simp
    · rw [if_neg (by omega)]
      cases k with
      | zero=>simp [hxy]
      | succ k=>simp [hxy]
  | [],_::_,hl,_,_,_=>by simp at hl
  | _::_,[],hl,_,_,_=>by simp at hl
def carB (P:zD) (part:Int) (k:Nat) (d:yP):Bool:=inPt P part d&&(decide (k<(zIns P d.From.toNat).Point.length)&&(decide ((zIns P d.From.toNat).Point.take k=(zIns P d.To.toNat).Point.take k) && !((zIns P d.From.toNat).Point.getD k 0==(zIns P d.To.toNat).Point.getD k 0)))
theorem zOu {P:zD} (hb:BG P) (part:Int) (k:Nat):crd P part k=(dpF P).any (carB P part k):=by
  have key:∀ d∈dpF P,inPt P part d=true->atK k (dvF P d)=(decide (k<(zIns P d.From.toNat).Point.length)&&(decide ((zIns P d.From.toNat).Point.take k=(zIns P d.To.toNat).Point.take k) && !((zIns P d.From.toNat).Point.getD k 0==(zIns P d.To.toNat).Point.getD k 0))):=fun d hd hp=>by
    obtain ⟨hv,i,m,e1,e2,h1,h2⟩:=zJs hd;have hi:i<(progI P).length:=by omega
    unfold inPt at hp;unfold dvF;rw [e1,e2,iN,iN,bA,beq_iff_eq,beq_iff_eq] at hp;rw [e1,e2,iN,iN];exact zNt (zHW hb hv hi h2 (by rw [hp.1,hp.2])).1 (zJv (zAb hb hv (zCi hi)).pin.2.2.1) (zJv (zAb hb hv (zCi h2)).pin.2.2.1) k
  rw [ea];unfold crd;rw [f5,f5];constructor
  · rintro ⟨l,hl,h⟩;have hl:=zJu.1 hl;unfold dvs at hl;obtain ⟨d,hd,rfl⟩:=dx.1 hl;rw [dv] at hd;refine ⟨d,hd.1,?_⟩;unfold carB;rw [hd.2,cz,<- key d hd.1 hd.2]; exact h
  · rintro ⟨d,hd,h⟩;unfold carB at h;rw [bA] at h;refine ⟨dvF P d,zJu.2 ?_,?_⟩
    · unfold dvs;exact dx.2 ⟨d,dv.2 ⟨hd,h.1⟩,rfl⟩
    · rw [key d hd h.1]; exact h.2
end Go.LN
namespace Go.LN
end Go.LN
namespace Go.LN
theorem zJw {P:zD}{part:Int} (h:0<=part/\part<=(P.Parts.length:Int) - 1):idx P.Parts part=some (gP P part.toNat):=by
  have b2:part.toNat<P.Parts.length:=by omega
  rw [show part=((part.toNat:Nat):Int) by omega,yI b2,iN];simp [gP,b2]
theorem nest4 {P:zD} (hv:validP P=true) {i:Nat} (hi:i<P.Parts.length):(gP P i).Nest.length<=4 :=
  (zFm (zKs ((uP hv).2.2.1 i hi)).2.1).1
theorem zPs {D:List (List Int)} (hD:D.length<=1000000) {n:Nat} (hn:∀ d∈D,d.length<=4/\∀ k v,nzF d=some (k,v)->k<n):∀ (j i:Nat) (g:Nat->Bool),i+j=D.length->uO D (bsL n g) (i:Int)=some (bsL n fun x=>g x||(D.drop i).any (atK x)):=by
  intro j
  induction j with
  | zero =>
    intro i g hi;rw [uO];have:¬((i:Int)<(D.length:Int)):=by omega
    have e:D.drop i=[]:=dN.2 (by omega);simp only [this,dF,bF,if_false,oP,id,e,List.any_nil,Bool.or_false]
  | succ j ih =>
    intro i g hi;have h1:i<D.length:=by omega
    have hc:((i:Int)<(D.length:Int)):=by omega
    obtain ⟨hl,hk⟩:=hn _ (gM h1);rw [uO,gC h1];simp only [hc,dT,if_true,yI h1,carryV (show D[i].length<=1000000 by omega),oB,oS,oP];cases e:nzF D[i] with
    | none =>
      have:¬((-1:Int)>=0):=by omega
      simp only [this,dF,bF,if_false,oS,id];rw [xY (by omega),ih (i+1) g (by omega)];refine congrArg (fun f=>some (bsL n f)) (funext fun x=>?_);have:atK x D[i]=false:=by unfold atK; rw [e]
      rw [hZ,this,ex]
    | some y =>
      obtain ⟨k,v⟩:=y;have hkn:=hk k v e;have hge:((k:Int)>=0):=by omega
      simp only [hge,dT,if_true,zMT hkn,oS,id,iN,zOt];rw [xY (by omega),ih (i+1) _ (by omega)];refine congrArg (fun f=>some (bsL n f)) (funext fun x=>?_);have h2:atK x D[i]=(k==x):=by unfold atK; rw [e]
      have h3:(x==k)=(k==x):=by rw [ea,beq_iff_eq,beq_iff_eq]; exact eq_comm
      rw [hZ,h2,h3,Bool.or_assoc]
theorem mk1 (n:Nat) (hn:n<=1000000):mkrow 1 (n:Int) (false:Bool)=some (bsL n fun _=>false):=by
  unfold mkrow;rw [if_pos ⟨by omega,by omega⟩,iN,zNs]
theorem zPt {P:zD} (hb:BG P) {part:Int}:∀ d∈dsF P part,d.length<=4/\∀ k v,nzF d=some (k,v)->k<(gP P part.toNat).Nest.length:=fun d hd=>by
  obtain ⟨a,_,_,_,_,c,_⟩:=zOs hb hd;refine ⟨a,fun k v e=>?_⟩;obtain ⟨hk,_⟩:=zNr e;omega
theorem crdV {P:zD} (hb:BG P) (hv:validP P=true) {part:Int} (h:0<=part/\part<=(P.Parts.length:Int) - 1):oW (trcP P) part=some (bsL (gP P part.toNat).Nest.length (crd P part)):=by
  have h4:=nest4 hv (show part.toNat<P.Parts.length by omega);have hx:idx (trcP P).Program.Parts part=some (gP P part.toNat):=zJw h;have hd:=zPr (P:=P) part;have hl:=zPs (D:=dsF P part) (by omega) (zPt hb) _ 0 (fun _=>false) (cu _);rw [nZ,co] at hl;unfold oW;simp only [hx,mk1 _ (show (gP P part.toNat).Nest.length<=1000000 by omega),tdist hb hv,hl,oB,oS,oP,id,ex];rfl
theorem zMU {P:zD}{part:Int} (h:¬(0<=part/\part<=(P.Parts.length:Int) - 1)):(decide (0<=part)&&decide (part<=(P.Parts.length:Int) - 1))=false:=by
  cases hq:(decide (0<=part)&&decide (part<=(P.Parts.length:Int) - 1)) with
  | false=>rfl
  | true=>simp only [bA,decide_eq_true_eq] at hq; exact absurd hq h
def lpB (P:zD) (part loop:Int):Bool:=decide (validP P=true/\(0<=part/\part<=(P.Parts.length:Int) - 1)/\0<=loop/\loop<=((gP P part.toNat).Nest.length:Int) - 1) && !crd P part loop.toNat
theorem zLo {P:zD}{part loop:Int} (h:¬(validP P=true/\(0<=part/\part<=(P.Parts.length:Int) - 1)/\0<=loop/\loop<=((gP P part.toNat).Nest.length:Int) - 1)):lpB P part loop=false:=by
  unfold lpB;rw [decide_eq_false h,Bool.false_and]
theorem zMV {P:zD}{part loop:Int} (h:validP P=true/\(0<=part/\part<=(P.Parts.length:Int) - 1)/\0<=loop/\loop<=((gP P part.toNat).Nest.length:Int) - 1):lpB P part loop=!crd P part loop.toNat:=by
  unfold lpB;rw [decide_eq_true h,cz]
theorem implLP (P:zD) (hb:BG P) (part loop:Int):oG P part loop=some (lpB P part loop):=by
  unfold oG;rw [implTrace P hb];cases hv:validP P with
  | false=>rw [zLo (by rw [hv]; simp)]; rfl
  | true =>
    simp only [if_true,oB,oS,oP,sM,isPartL hb,id];by_cases h:0<=part/\part<=(P.Parts.length:Int) - 1
    · have h4:=nest4 hv (show part.toNat<P.Parts.length by omega);simp only [h.1,h.2,dT,fk,if_true,zJw h,oS,oH,sT (x:=((gP P part.toNat).Nest.length:Int) - 1) (by omega) (by omega),crdV hb hv h];by_cases hq:0<=loop/\loop<=((gP P part.toNat).Nest.length:Int) - 1
      · have hx:idx (bsL (gP P part.toNat).Nest.length (crd P part)) loop=some (crd P part loop.toNat):=by
          have:=zMT (n:=(gP P part.toNat).Nest.length) (m:=loop.toNat) (g:=crd P part) (by omega);rwa [show ((loop.toNat:Nat):Int)=loop by omega] at this
        simp only [hq.1,hq.2,dT,fk,if_true,hx,oS];rw [zMV ⟨hv,h,hq⟩]
      · have e:(decide (0<=loop)&&decide (loop<=((gP P part.toNat).Nest.length:Int) - 1))=false:=by
          cases hw:(decide (0<=loop)&&decide (loop<=((gP P part.toNat).Nest.length:Int) - 1)) with
          | false=>rfl
          | true=>simp only [bA,decide_eq_true_eq] at hw; exact absurd hw hq
        simp only [e,bF,if_false,oS];rw [zLo fun x=>hq x.2.2]
    · simp only [zMU h,bF,if_false,oS];rw [zLo fun x=>h x.2.1]
end Go.LN
namespace Go.LN
end Go.LN
namespace Go.LN
def plc:List Int->Nat->(Nat->Int)->Nat->Int
  | [],_,g=>g
  | x::l,k,g=>plc l (k+1) (upd g x.toNat (k:Int))
theorem zMW:∀ (l:List Int) (k:Nat) (g:Nat->Int) (y:Nat),(∀ x∈l,x.toNat ≠ y)->plc l k g y=g y
  | [],_,_,_,_=>rfl
  | x::l,k,g,y,h=>by
    rw [plc,zMW l _ _ y fun z hz=>h z (ci _ hz)]
    unfold upd
    rw [if_neg fun e=>h x (cj ..) e.symm]
theorem zNu:∀ (l:List Int) (k:Nat) (g:Nat->Int),l.Nodup->(∀ x∈l,0<=x)->∀ (j:Nat) (hj:j<l.length),plc l k g l[j].toNat=((k+j:Nat):Int)
  | x::l,k,g,hn,h0,0,_=>by
    have hn:=fc.1 hn
    show plc l (k+1) (upd g x.toNat (k:Int)) x.toNat=_
    rw [zMW l _ _ _ fun z hz e=>by
      have h1:=h0 x (cj ..)
      have h2:=h0 z (ci _ hz)
      exact hn.1 ((show z=x by omega) ▸ hz)]
    unfold upd
    rw [if_pos rfl]; rfl
  | x::l,k,g,hn,h0,j+1,hj=>by
    have hn:=fc.1 hn
    have:=zNu l (k+1) (upd g x.toNat (k:Int)) hn.2 (fun z hz=>h0 z (ci _ hz)) j (by simpa using hj)
    have e:(x::l)[j+1]=l[j]'(by simpa using hj):=rfl
    rw [e]
    show plc l (k+1) (upd g x.toNat (k:Int)) (l[j]'(by simpa using hj)).toNat=_
    rw [this]; omega
theorem zPu {n:Nat}{o:List Int} (hn:o.length<=1000000) (ho:∀ x∈o,0<=x/\x<(n:Int)):∀ (j q:Nat) (g:Nat->Int),q+j=o.length->pM o (q:Int) (stL n g)=some (stL n (plc (o.drop q) q g)):=by
  intro j
  induction j with
  | zero =>
    intro q g hq;rw [pM];have:¬((q:Int)<(o.length:Int)):=by omega
    simp only [this,dF,bF,if_false,oP,id];rw [dN.2 (by omega)]; rfl
  | succ j ih =>
    intro q g hq;rw [pM];have aE:q<o.length:=by omega
    have hc:((q:Int)<(o.length:Int)):=by omega
    obtain ⟨x,hx⟩:∃ x:Nat,o[q]=(x:Int):=⟨o[q].toNat,by have:=ho _ (gM aE); omega⟩;have hxn:x<n:=by have:=ho _ (gM aE); omega
    rw [gC aE,plc];simp only [hc,dT,if_true,yI aE,hx,zJp hxn,oB,oS,oP,iN,zOo hxn];rw [xY (by omega)];exact ih (q+1) _ (by omega)
def brk (g:Nat->Int) (d:yP):Bool:=decide (g d.To.toNat<g d.From.toNat)
def plo (o:List Int):Nat->Int:=plc o 0 fun _=>0
theorem zOv {n:Nat}{g:Nat->Int}{D:List yP} (hD:∀ d∈D,DB n d) (hl:D.length<=1000000):∀ (j q:Nat),q+j=D.length->∃ r,xP D (fun x0=>oN x0 (stL n g)) (q:Int)=some r/\((r=.done ()/\(D.drop q).find? (brk g)=none)∨∃ (k:Nat) (h:k<D.length),r=.ret (k:Int)/\(D.drop q).find? (brk g)=some D[k]):=by
  intro j
  induction j with
  | zero =>
    intro q hq;rw [xP];have:¬((q:Int)<(D.length:Int)):=by omega
    refine ⟨_,by simp only [this,dF,bF,if_false,oP],.inl ⟨rfl,?_⟩⟩;rw [dN.2 (by omega)]; rfl
  | succ j ih =>
    intro q hq;rw [xP];have aE:q<D.length:=by omega
    have hc:((q:Int)<(D.length:Int)):=by omega
    obtain ⟨i,k,e1,e2,h1,h2⟩:=hD D[q] (gM aE);have hb:oN D[q] (stL n g)=some (brk g D[q]):=by
      unfold oN brk;simp only [e1,e2,zJp h1,zJp h2,oB,oS,oP,iN]
    rw [gC aE,List.find?_cons];cases hk:brk g D[q] with
    | true=>exact ⟨_,by simp only [hc,dT,if_true,yI aE,hb,hk,oB,oS,oP],.inr ⟨q,aE,rfl,rfl⟩⟩
    | false =>
      obtain ⟨r,hr,aX⟩:=ih (q+1) (by omega);refine ⟨r,?_,aX⟩;simp only [hc,dT,if_true,yI aE,hb,hk,oB,oS,oP,bF,if_false];rw [xY (by omega),hr]
theorem implBrk {n:Nat}{o:List Int}{D:List yP} (hD:∀ d∈D,DB n d) (hl:D.length<=1000000) (hn:n<=1000000) (hp:permB n o=true):(fF D o=some (-1)/\D.find? (brk (plo o))=none)∨∃ (k:Nat) (h:k<D.length),fF D o=some (k:Int)/\D.find? (brk (plo o))=some D[k]:=by
  obtain ⟨⟨p1,p2⟩,p3⟩:=(zGb _ _).1 hp;have h1:=zPu (n:=n) (by omega) p1 _ 0 (fun _=>0) (cu o.length);rw [nZ,co,<- zNp] at h1;obtain ⟨r,hr,hc⟩:=zOv (g:=plo o) hD hl _ 0 (cu D.length);rw [nZ] at hr;rw [co] at hc;unfold fF uS;rw [p3];have h2:pM o 0 (List.replicate n 0)=some (stL n (plo o)):=h1;simp only [zQW n hn,h2,hr,oB,oS];rcases hc with ⟨rfl,h⟩ | ⟨k,hk,rfl,h⟩
  · exact .inl ⟨rfl,h⟩
  · exact .inr ⟨k,hk,rfl,h⟩
def brF (P:zD) (o:List Int):Option yP:=(dpF P).find? (brk (plo o))
theorem zOw {P:zD}:∀ d∈depA P 0 (progI P).length,DB (progI P).length d:=by
  intro d hd;obtain ⟨i,k,rfl,h1,h2,_⟩:=zJq hd;exact ⟨i,k,rfl,rfl,by omega,h2⟩
theorem zOx {P:zD} (hv:validP P=true):∀ d∈dpF P,DB (progI P).length d:=by
  have e:dpF P=depA P 0 (progI P).length:=by unfold dpF; rw [hv]; rfl
  rw [e]; exact zOw
theorem implLegal (P:zD) (hb:BG P) (o:List Int) (ho:o.length<=1048576):mG P o=some (validP P&&permB (progI P).length o&&(brF P o).isNone):=by
  unfold mG zAk;simp only [implOrd P hb o ho,implDeps P hb,oB,oS,oP,id];cases hv:validP P with
  | false=>rfl
  | true =>
    have aV:=(uP hv).2.2.2;have hl:=zJo (P:=P);cases hp:permB (progI P).length o with
    | false=>rfl
    | true =>
      unfold brF;rcases implBrk (zOx hv) (by omega) (by omega) hp with ⟨h1,h2⟩ | ⟨k,hk,h1,h2⟩
      · rw [h2];simp [h1]
      · rw [h2];simp [h1]
end Go.LN
namespace Go.LN
section
variable {κ:Type} [DecidableEq κ] (f:Nat->κ)
def addC (out:List (List Nat)) (i:Nat):List (List Nat) :=
  match out.getLast? with
  | some g=>if g.getLast?.map f=some (f i) then out.dropLast++[g++[i]] else out++[[i]]
  | none=>[[i]]
def grp (l:List Nat):List (List Nat):=l.foldl (addC f) []
theorem zBC (l:List Nat) (i:Nat):grp f (l++[i])=addC f (grp f l) i:=by unfold grp; rw [List.foldl_append]; rfl
def keyOf (g:List Nat):Option κ:=g.head?.map f
theorem zCH:∀ (l:List Nat),l ≠ []->∃ gs g,grp f l=gs++[g]/\g ≠ []/\g.getLast?=l.getLast?:=by
  intro l hl;rcases List.eq_nil_or_concat l with h | ⟨l',i,h⟩
  · exact absurd h hl
  · rw [h,gk,zBC];unfold addC;split
    · split
      · exact ⟨_,_,rfl,by simp,by simp⟩
      · exact ⟨_,_,rfl,by simp,by simp⟩
    · exact ⟨[],[i],rfl,by simp,by simp⟩
theorem zCI (gs:List (List Nat)) (g:List Nat) (b i:Nat) (hb:g.getLast?=some b):addC f (gs++[g]) i=if f b=f i then gs++[g++[i]] else gs++[g]++[[i]]:=by
  unfold addC;simp only [List.getLast?_append,List.getLast?_singleton,Option.some_or,hb,Option.map_some,Option.some.injEq,List.dropLast_concat]
theorem zI1 {P:List Nat->Prop} (h0:P []) (h1:∀ l i,P l->P (l++[i])):∀ l,P l:=by
  intro l;have:∀ n (l:List Nat),l.length=n->P l:=by
    intro n
    induction n with
    | zero=>intro l h; rw [fo.1 h]; exact h0
    | succ n ih =>
      intro l h;rcases List.eq_nil_or_concat l with e | ⟨l',i,e⟩
      · rw [e] at h; simp at h
      · rw [e,gk];rw [e,gk] at h;exact h1 l' i (ih l' (by simp at h; omega))
  exact this l.length l rfl
theorem rS (l:List Nat):(grp f l).flatten=l:=by
  refine zI1 (P:=fun l=>(grp f l).flatten=l) rfl (fun l i ih=>?_) l;rw [zBC];by_cases hl:l=[]
  · subst hl; rfl
  · obtain ⟨gs,g,e,hg,hb⟩:=zCH f l hl;obtain ⟨b,hb'⟩:∃ b,g.getLast?=some b:=by rw [eo hg]; exact ⟨_,rfl⟩
    rw [e] at ih ⊢;rw [zCI f gs g b i hb'];split
    · rw [List.flatten_append,fx,List.flatten_nil,cy,<- cq];rw [List.flatten_append,fx,List.flatten_nil,cy] at ih;rw [ih]
    · rw [List.flatten_append,ih]; rfl
theorem fG (l:List Nat):∀ g∈grp f l,g ≠ []/\∀ a∈g,keyOf f g=some (f a):=by
  refine zI1 (P:=fun l=>∀ g∈grp f l,g ≠ []/\∀ a∈g,keyOf f g=some (f a)) (fun _ h=>by cases h) (fun l i ih=>?_) l;rw [zBC];by_cases hl:l=[]
  · subst hl;intro g hg;have:g=[i]:=cr.1 hg;subst this;exact ⟨by simp,fun a ha=>by rw [cr.1 ha]; rfl⟩
  · obtain ⟨gs,g,e,hg,hb⟩:=zCH f l hl;obtain ⟨b,hb'⟩:∃ b,g.getLast?=some b:=by rw [eo hg]; exact ⟨_,rfl⟩
    rw [e] at ih ⊢;rw [zCI f gs g b i hb'];split
    · rename_i hk;intro g' hg';rcases cZ.1 hg' with h | h
      · exact ih g' (dn _ h)
      · rw [cr.1 h];obtain ⟨h1,h2⟩:=ih g (ed _ (cr.2 rfl));have hkey:keyOf f (g++[i])=keyOf f g:=by unfold keyOf; cases g with | nil=>exact absurd rfl hg | cons a t=>rfl
        refine ⟨by simp,fun a ha=>?_⟩;rw [hkey];rcases cZ.1 ha with ha | ha
        · exact h2 a ha
        · rw [cr.1 ha,<- hk];exact h2 b (fi hb')
    · intro g' hg';rcases cZ.1 hg' with h | h
      · exact ih g' h
      · rw [cr.1 h];exact ⟨by simp,fun a ha=>by rw [cr.1 ha]; rfl⟩
def Cont (l:List Nat):Prop:=∀ (J:List Nat) (i:Nat) (K:List Nat),l=J++i::K->∀ a∈J,f a=f i->∀ b,J.getLast?=some b->f b=f i
theorem Cont.init {κ:Type} (f:Nat->κ) {l:List Nat}{i:Nat} (h:Cont f (l++[i])):Cont f l:=fun J a K e=>h J a (K++[i]) (by rw [e,cq]; rfl)
theorem zLH {l:List Nat}{g:List Nat} (hg:g∈grp f l) {k:κ} (hk:keyOf f g=some k):∃ a∈l,f a=k:=by
  unfold keyOf at hk;cases g with
  | nil=>cases hk
  | cons a t =>
    refine ⟨a,?_,Option.some.inj hk⟩;rw [<- rS f l];exact gn.2 ⟨_,hg,cj ..⟩
theorem zFn:∀ (l:List Nat),Cont f l->(∀ g∈grp f l,∀ k,keyOf f g=some k->l.filter (fun a=>decide (f a=k))=g)/\((grp f l).map (keyOf f)).Nodup:=by
  refine zI1 (P:=fun l=>Cont f l->(∀ g∈grp f l,∀ k,keyOf f g=some k->l.filter (fun a=>decide (f a=k))=g)/\((grp f l).map (keyOf f)).Nodup) (fun _=>⟨fun _ h=>(by cases h),List.nodup_nil⟩) (fun l i ih hc=>?_);obtain ⟨ih1,ih2⟩:=ih hc.init;rw [zBC];by_cases hl:l=[]
  · subst hl;refine ⟨fun g hg k hk=>?_,by simp [addC,grp]⟩;have:g=[i]:=cr.1 hg;subst this;have:f i=k:=Option.some.inj hk;simp [this]
  · obtain ⟨gs,g,e,hg,hb⟩:=zCH f l hl;obtain ⟨b,hb'⟩:∃ b,g.getLast?=some b:=by rw [eo hg]; exact ⟨_,rfl⟩
    have ce:l.getLast?=some b:=hb ▸ hb';have hgk:keyOf f g=some (f b):=(fG f l g (by rw [e]; simp)).2 b (fi hb');rw [e] at ih1 ih2 ⊢;rw [zCI f gs g b i hb'];have hkey:keyOf f (g++[i])=keyOf f g:=by unfold keyOf; cases g with | nil=>exact absurd rfl hg | cons a t=>rfl
    rw [dr,cE] at ih2;split
    · rename_i hk;refine ⟨fun g' hg' k hk'=>?_,?_⟩
      · rw [List.filter_append];rcases cZ.1 hg' with h | h
        · have hne:¬f i=k:=fun hik=>by
            refine ih2.2.2 _ (List.mem_map_of_mem h) _ (List.mem_map_of_mem (cr.2 rfl)) ?_;rw [hk',hgk,hk,hik]
          rw [ih1 g' (dn _ h) k hk'];simp [hne]
        · rw [cr.1 h] at hk' ⊢;rw [hkey] at hk';have hik:f i=k:=by rw [hgk] at hk'; rw [<- hk]; exact Option.some.inj hk'
          rw [ih1 g (ed _ (cr.2 rfl)) k hk'];simp [hik]
      · rw [dr,dt,hkey,<- dt,cE];exact ih2
    · rename_i hk;have hno:∀ a∈l,¬f a=f i:=fun a ha hai=>hk (hc l i [] rfl a ha hai b ce);refine ⟨fun g' hg' k hk'=>?_,?_⟩
      · rw [List.filter_append];rcases cZ.1 hg' with h | h
        · obtain ⟨a,ha,hak⟩:=zLH f (l:=l) (by rw [e]; exact h) hk';have hne:¬f i=k:=fun hik=>hno a ha (hak.trans hik.symm);rw [ih1 g' h k hk'];simp [hne]
        · rw [cr.1 h] at hk' ⊢;have hik:f i=k:=Option.some.inj hk';have:l.filter (fun a=>decide (f a=k))=[]:=List.filter_eq_nil_iff.2 fun a ha=>by simp [<- hik,hno a ha]
          rw [this]; simp [hik]
      · rw [dr,cE];refine ⟨by rw [dr,cE]; exact ih2,by simp,fun x hx y hy hxy=>?_⟩;rw [dt,cr] at hy;obtain ⟨g',hg',rfl⟩:=dx.1 hx;have hk':keyOf f g'=some (f i):=by rw [hxy,hy]; rfl
        obtain ⟨a,ha,hak⟩:=zLH f (l:=l) (by rw [e]; exact hg') hk';exact hno a ha hak
theorem zOy {κ:Type} (f:Nat->κ) {R:κ->κ->Prop} (ha:∀ a b,R a b->R b a->a=b) {l:List Nat} (h:l.Pairwise fun i j=>R (f i) (f j)):Cont f l:=by
  intro J i K e a haJ hai b hb;subst e;obtain ⟨h1,h2,h3⟩:=dm.1 h;have hbJ:=fi hb;have hbi:=h3 b hbJ i (cj ..);obtain ⟨J',rfl⟩:∃ J',J=J'++[b]:=by
    rcases List.eq_nil_or_concat J with e | ⟨l',c,e⟩
    · rw [e] at hb; cases hb
    · rw [e,gk] at hb ⊢;rw [List.getLast?_append] at hb;simp at hb;exact ⟨l',by rw [hb]⟩
  rcases cZ.1 haJ with h' | h'
  · have:=(dm.1 h1).2.2 a h' b (cr.2 rfl);rw [hai] at this;exact ha _ _ hbi this
  · rw [<- cr.1 h']; exact hai
theorem Cont.mid {κ:Type} (f:Nat->κ) {p g q:List Nat} (hc:Cont f (p++g++q)):Cont f g:=by
  intro J i K e a ha hai b hb;refine hc (p++J) i (K++q) (by rw [e]; simp) a (ed _ ha) hai b ?_;rw [List.getLast?_append,hb]; rfl
end
end Go.LN
