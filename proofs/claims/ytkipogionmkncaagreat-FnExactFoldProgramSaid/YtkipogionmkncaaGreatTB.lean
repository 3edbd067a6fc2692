/- Helper of the proof (see the last text). -/
import Derived.Test.YtkipogionmkncaaGreatHM5
import Derived.Test.YtkipogionmkncaaGreatLnDP
set_option linter.unusedVariables false
set_option linter.unusedSimpArgs false
namespace Go.LN
open Go.Proofs Go.Proofs.Tryz
set_option maxRecDepth 20000
def rV(a01 : List Int)(k01 : Int)(i : Int): Option (Int × List Int):=do
 if(decide (i<(a01.length : Int))) then
  let x <- idx a01 i
  rV (a01.set i.toNat k01) (W (k01+1)) (W (i+1))
 else
  pure (k01,a01)
 partial_fixpoint
def zCT(a01 : List Int)(k01 i : Int)(o : Int × List Int): Prop:=
 ∀{B : Base} {imm0 imm : Imm} {Q : Exit -> Act -> World -> Prop} {p : Option Addr} {c : Nat} {ae : List (RawN Int)} {X : List HA},imm0.le imm -> dpR X ae a01 -> (∀gl a w,¬ Q (.goto gl) a w) -> (∀a w,¬ Q .outgrown a w) -> (∀(af : Imm) (raws2 : List (RawN Int)) (X2 : List HA),o.2.length = a01.length -> dpR X2 raws2 o.2 -> imm0.le af -> T 19 B Q (.exit 0) af (hO Int (vS p o.2 c) (flR raws2) :: X2) [(1,vI o.1)]) -> J Tryz.prog 19 B (nav (bodyOf f49) [1,0,1,0]) Q imm (hO Int (vS p a01 c) (flR ae) :: X) [(0,vS p a01 c),(1,vI k01),(5,vI i)]
theorem zFD{a0 : List Int}{k0 : Int}{r : Int × List Int}(hL : zCT a0 k0 0 r){imm : Imm}{p : Option Addr}{c : Nat}{X : List HA}(h : DS X (vS p a0 c) a0): Ret Tryz.prog 49 [vS p a0 c,vI k0] imm X (DMo (vS p a0 c) r):=by
 obtain⟨_,_,ae,Y,-,rfl,hd⟩:=h
 refine xW (fn:=f49) (c:=(bodyOf f49)) func49 rfl rfl ?_
 rintro B - -
 refine zM <| zE <| yO [] [] <| zH <| zM <| zM <| zE <| yO [] [(5,vI 0)] <| zH <| zZ <| rX [(0,vS p a0 c),(1,vI k0),(5,vI 0)] ?_
 refine hL (Imm.le.refl _) hd (λ_ _ _ h=>h) (λ_ _ h=>h) ?_
 intro af raws2 X2 hl h3 le
 refine zU <| zH <| zM <| zE <| yO [] [(4,vI r.1)] <| zH <| yF ?_
 exact yV ⟨_,_,(.tmp rfl ResV.nil),(λ_ g=>g),⟨rfl,by rw[show vS p a0 c = vS p r.2 c from by simp only[vS,hl]];exact .mk' h3⟩⟩
theorem zD4 : ∀(a01 : List Int) (k01 i : Int) (o : Int × List Int),rV a01 k01 i = some o -> zCT a01 k01 i o:=by
 refine rV.partial_correctness _ ?_
 intro aG ih a01 k01 i o hM B imm0 imm Q p c ae X ap hd hg ho hx
 refine yK hg ho <| zM <| zM <| zE <| yO [] [(9,.bool (decide (i<(a01.length : Int))))] <| zH <| yD hM ?_ ?_
 ·intro hc hM
  refine zT <| zH <| zM <| zZ ?_
  obtain⟨x,hy,hM⟩:=zF hM
  obtain⟨⟨cc⟩,X1,Y,X2,hr,rfl,hY,bJ⟩:=hd.at hy
  change Dp.dp Y cc x at hY
  obtain⟨rfl,rfl⟩:=hY
  have hok:=hd.ok
  replace hr : idx ae i = some ⟨[vI x]⟩:=hr
  refine zEO (hO Int (vS p a01 c) (flR (ae.set i.toNat ⟨[vI x]⟩)) :: (X1++([]++X2))) (.of_eq (by rw[zBP hr])) ?_
  refine zM <| zE <| xF 3 [] [(12,vS p a01 c),(13,vI i),(14,vI k01)] <| gW rfl rfl hr hok λad1 au=>zCS 0 [vI k01] rfl au hr hok rfl <| zX rfl <| zH <| zE <| yO [] [(1,vI (W (k01+1)))] <| zQ <| zH <| zE <| yO [] [(5,vI (W (i+1)))] <| yL <| rX [(0,vS p a01 c),(1,vI (W (k01+1))),(5,vI (W (i+1)))] ?_
  have el : (a01.set i.toNat k01).length = a01.length:=by simp only[cF]
  rw[show vS p a01 c = vS p (a01.set i.toNat k01) c from by simp only[vS,el]]
  exact ih (a01.set i.toNat k01) (W (k01+1)) (W (i+1)) _ hM ap (bJ [] [vI k01] k01 ⟨rfl,rfl⟩) hg ho λaf raws2 X2 hl hdl le=>hx af raws2 X2 (hl.trans el) hdl le
 ·intro hc hM
  obtain rfl:=zB hM
  exact oO <| yH <| yH <| dZ [(1,vI k01)] <| hx _ _ _ rfl hd ap
def kQ(a0 : List Int)(k0 : Int): Option (Int × List Int):=rV a0 k0 0
theorem eW(a0 : List Int)(k0 : Int)(r)(hM : kQ a0 k0 = some r){imm : Imm}{p : Option Addr}{c : Nat}{X : List HA}(h : DS X (vS p a0 c) a0): Ret Tryz.prog 49 [vS p a0 c,vI k0] imm X (DMo (vS p a0 c) r):=zFD (zD4 _ _ _ _ hM) h
def tX(a01 : List zI)(k01 : Int)(i : Int): Option (Int × List zI):=do
 if(decide (i<(a01.length : Int))) then
  let x <- idx a01 i
  let s1 <- uH k01
  let r1 <- kQ x.Dims (W (k01+1))
  tX (a01.set i.toNat (zI.mk s1 r1.2)) r1.1 (W (i+1))
 else
  pure (k01,a01)
 partial_fixpoint
def zBQ(a01 : List zI)(k01 i : Int)(o : Int × List zI): Prop:=
 ∀{B : Base} {imm0 imm : Imm} {Q : Exit -> Act -> World -> Prop} {p : Option Addr} {c : Nat} {ae : List (RawN zI)} {X : List HA},imm0.le imm -> dpR X ae a01 -> (∀gl a w,¬ Q (.goto gl) a w) -> (∀a w,¬ Q .outgrown a w) -> (∀(af : Imm) (raws2 : List (RawN zI)) (X2 : List HA),o.2.length = a01.length -> dpR X2 raws2 o.2 -> imm0.le af -> T 28 B Q (.exit 0) af (hO zI (vS p o.2 c) (flR raws2) :: X2) [(1,vI o.1)]) -> J Tryz.prog 28 B (nav (bodyOf f24) [1,0,1,0]) Q imm (hO zI (vS p a01 c) (flR ae) :: X) [(0,vS p a01 c),(1,vI k01),(5,vI i)]
theorem zD5{a0 : List zI}{k0 : Int}{r : Int × List zI}(hL : zBQ a0 k0 0 r){imm : Imm}{p : Option Addr}{c : Nat}{X : List HA}(h : DS X (vS p a0 c) a0): Ret Tryz.prog 24 [vS p a0 c,vI k0] imm X (DMo (vS p a0 c) r):=by
 obtain⟨_,_,ae,Y,-,rfl,hd⟩:=h
 refine xW (fn:=f24) (c:=(bodyOf f24)) func24 rfl rfl ?_
 rintro B - -
 refine zM <| zE <| yO [] [] <| zH <| zM <| zM <| zE <| yO [] [(5,vI 0)] <| zH <| zZ <| rX [(0,vS p a0 c),(1,vI k0),(5,vI 0)] ?_
 refine hL (Imm.le.refl _) hd (λ_ _ _ h=>h) (λ_ _ h=>h) ?_
 intro af raws2 X2 hl h3 le
 refine zU <| zH <| zM <| zE <| yO [] [(4,vI r.1)] <| zH <| yF ?_
 exact yV ⟨_,_,(.tmp rfl ResV.nil),(λ_ g=>g),⟨rfl,by rw[show vS p a0 c = vS p r.2 c from by simp only[vS,hl]];exact .mk' h3⟩⟩
theorem zC2 : ∀(a01 : List zI) (k01 i : Int) (o : Int × List zI),tX a01 k01 i = some o -> zBQ a01 k01 i o:=by
 refine tX.partial_correctness _ ?_
 intro aG ih a01 k01 i o hM B imm0 imm Q p c ae X ap hd hg ho hx
 refine yK hg ho <| zM <| zM <| zE <| yO [] [(9,.bool (decide (i<(a01.length : Int))))] <| zH <| yD hM ?_ ?_
 ·intro hc hM
  refine zT <| zH <| zM <| zZ ?_
  obtain⟨x,hy,hM⟩:=zF hM
  obtain⟨⟨cc⟩,X1,Y1,X2,hr,rfl,hY,bJ⟩:=hd.at hy
  change Dp.dp Y1 cc x at hY
  have hY:=hY
  obtain⟨v1,rfl,hS1⟩:=hY
  obtain⟨p1,c1,rfl⟩:=hS1.form
  have hok:=hd.ok
  replace hr : idx ae i = some ⟨[vT x.Name.l,vS p1 x.Dims c1]⟩:=hr
  refine zEO (hO zI (vS p a01 c) (flR (ae.set i.toNat ⟨[vT x.Name.l,vS p1 x.Dims c1]⟩)) :: (X1++(Y1++X2))) (.of_eq (by rw[zBP hr])) ?_
  refine zM <| zE <| xF 3 [] [(12,vS p a01 c),(13,vI i),(14,vI k01)] ?_
  obtain⟨s1,hs1,hM⟩:=zF hM
  refine zFA rfl (qF k01 _ hs1) ?_
  rintro imm1 _ _ ai ⟨_,_,-,rfl,rfl⟩
  replace ap:=ap.trans ai
  refine gW rfl rfl hr hok λad1 au=>xF 6 [] [(17,.pointer (some (ad1.add 0)))] <| zCS 0 [vT s1.l,vS p1 x.Dims c1] rfl au hr hok rfl <| zX rfl <| zH <| zM <| zE <| yO [] [(1,vI (W (k01+1)))] <| zH <| zE <| xF 2 [] [(20,vS p a01 c),(21,vI i)] <| gW rfl rfl hr hok λad2 aS=>xF 4 [] [(23,.pointer (some (ad2.add 1)))] <| zBl 1 [vS p1 x.Dims c1] (vS p1 x.Dims c1) rfl aS hr hok <| xF 6 [] [(25,vI (W (k01+1)))] ?_
  obtain⟨r1,hr1,hM⟩:=zF hM
  refine mV rfl (λZ=>hO zI (vS p a01 c) (flR (ae.set i.toNat ⟨[vT s1.l,vS p1 x.Dims c1]⟩)) :: (X1++(Z++X2))) (λZ=>pm2 [_] X1 Z _) rfl (eW x.Dims (W (k01+1)) _ hr1 hS1) ?_
  rintro imm2 Z1 _ _ ax ⟨rfl,hZ1⟩
  replace ap:=ap.trans ax
  refine yO [] [(1,vI r1.1)] <| zQ <| zH <| zE <| yO [] [(5,vI (W (i+1)))] <| yL <| rX [(0,vS p a01 c),(1,vI r1.1),(5,vI (W (i+1)))] ?_
  have el : (a01.set i.toNat (zI.mk s1 r1.2)).length = a01.length:=by simp only[cF]
  rw[show vS p a01 c = vS p (a01.set i.toNat (zI.mk s1 r1.2)) c from by simp only[vS,el]]
  exact ih (a01.set i.toNat (zI.mk s1 r1.2)) r1.1 (W (i+1)) _ hM ap (bJ Z1 [vT s1.l,vS p1 x.Dims c1] (zI.mk s1 r1.2) ⟨_,rfl,hZ1⟩) hg ho λaf raws2 X2 hl hdl le=>hx af raws2 X2 (hl.trans el) hdl le
 ·intro hc hM
  obtain rfl:=zB hM
  exact oO <| yH <| yH <| dZ [(1,vI k01)] <| hx _ _ _ rfl hd ap
def zAJ(a0 : List zI)(k0 : Int): Option (Int × List zI):=tX a0 k0 0
theorem zES(a0 : List zI)(k0 : Int)(r)(hM : zAJ a0 k0 = some r){imm : Imm}{p : Option Addr}{c : Nat}{X : List HA}(h : DS X (vS p a0 c) a0): Ret Tryz.prog 24 [vS p a0 c,vI k0] imm X (DMo (vS p a0 c) r):=zD5 (zC2 _ _ _ _ hM) h
def tL(a01 : List zC)(k01 : Int)(i : Int): Option (Int × List zC):=do
 if(decide (i<(a01.length : Int))) then
  let x <- idx a01 i
  let r1 <- kQ x.Coefs k01
  tL (a01.set i.toNat (zC.mk r1.2 r1.1)) (W (r1.1+1)) (W (i+1))
 else
  pure (k01,a01)
 partial_fixpoint
def zAx(a01 : List zC)(k01 i : Int)(o : Int × List zC): Prop:=
 ∀{B : Base} {imm0 imm : Imm} {Q : Exit -> Act -> World -> Prop} {p : Option Addr} {c : Nat} {ae : List (RawN zC)} {X : List HA},imm0.le imm -> dpR X ae a01 -> (∀gl a w,¬ Q (.goto gl) a w) -> (∀a w,¬ Q .outgrown a w) -> (∀(af : Imm) (raws2 : List (RawN zC)) (X2 : List HA),o.2.length = a01.length -> dpR X2 raws2 o.2 -> imm0.le af -> T 27 B Q (.exit 0) af (hO zC (vS p o.2 c) (flR raws2) :: X2) [(1,vI o.1)]) -> J Tryz.prog 27 B (nav (bodyOf f90) [1,0,1,0]) Q imm (hO zC (vS p a01 c) (flR ae) :: X) [(0,vS p a01 c),(1,vI k01),(5,vI i)]
theorem zDB{a0 : List zC}{k0 : Int}{r : Int × List zC}(hL : zAx a0 k0 0 r){imm : Imm}{p : Option Addr}{c : Nat}{X : List HA}(h : DS X (vS p a0 c) a0): Ret Tryz.prog 90 [vS p a0 c,vI k0] imm X (DMo (vS p a0 c) r):=by
 obtain⟨_,_,ae,Y,-,rfl,hd⟩:=h
 refine xW (fn:=f90) (c:=(bodyOf f90)) func90 rfl rfl ?_
 rintro B - -
 refine zM <| zE <| yO [] [] <| zH <| zM <| zM <| zE <| yO [] [(5,vI 0)] <| zH <| zZ <| rX [(0,vS p a0 c),(1,vI k0),(5,vI 0)] ?_
 refine hL (Imm.le.refl _) hd (λ_ _ _ h=>h) (λ_ _ h=>h) ?_
 intro af raws2 X2 hl h3 le
 refine zU <| zH <| zM <| zE <| yO [] [(4,vI r.1)] <| zH <| yF ?_
 exact yV ⟨_,_,(.tmp rfl ResV.nil),(λ_ g=>g),⟨rfl,by rw[show vS p a0 c = vS p r.2 c from by simp only[vS,hl]];exact .mk' h3⟩⟩
theorem zCG : ∀(a01 : List zC) (k01 i : Int) (o : Int × List zC),tL a01 k01 i = some o -> zAx a01 k01 i o:=by
 refine tL.partial_correctness _ ?_
 intro aG ih a01 k01 i o hM B imm0 imm Q p c ae X ap hd hg ho hx
 refine yK hg ho <| zM <| zM <| zE <| yO [] [(9,.bool (decide (i<(a01.length : Int))))] <| zH <| yD hM ?_ ?_
 ·intro hc hM
  refine zT <| zH <| zM <| zZ ?_
  obtain⟨x,hy,hM⟩:=zF hM
  obtain⟨⟨cc⟩,X1,Y1,X2,hr,rfl,hY,bJ⟩:=hd.at hy
  change Dp.dp Y1 cc x at hY
  have hY:=hY
  obtain⟨v1,rfl,hS1⟩:=hY
  obtain⟨p1,c1,rfl⟩:=hS1.form
  have hok:=hd.ok
  replace hr : idx ae i = some ⟨[vS p1 x.Coefs c1,vI x.Const]⟩:=hr
  refine zEO (hO zC (vS p a01 c) (flR (ae.set i.toNat ⟨[vS p1 x.Coefs c1,vI x.Const]⟩)) :: (X1++(Y1++X2))) (.of_eq (by rw[zBP hr])) ?_
  refine zM <| zE <| xF 2 [] [(12,vS p a01 c),(13,vI i)] <| gW rfl rfl hr hok λad1 au=>xF 4 [] [(15,.pointer (some (ad1.add 0)))] <| zBl 0 [vS p1 x.Coefs c1] (vS p1 x.Coefs c1) rfl au hr hok <| xF 6 [] [(17,vI k01)] ?_
  obtain⟨r1,hr1,hM⟩:=zF hM
  refine mV rfl (λZ=>hO zC (vS p a01 c) (flR (ae.set i.toNat ⟨[vS p1 x.Coefs c1,vI x.Const]⟩)) :: (X1++(Z++X2))) (λZ=>pm2 [_] X1 Z _) rfl (eW x.Coefs k01 _ hr1 hS1) ?_
  rintro imm1 Z1 _ _ ai ⟨rfl,hZ1⟩
  replace ap:=ap.trans ai
  refine yO [] [(1,vI r1.1)] <| zH <| zM <| zE <| xF 3 [] [(19,vS p a01 c),(20,vI i),(21,vI r1.1)] <| gW rfl rfl hr hok λad2 aS=>xF 5 [] [(23,.pointer (some (ad2.add 1)))] <| zCS 1 [vS p1 x.Coefs c1,vI r1.1] rfl aS hr hok rfl <| zX rfl <| zH <| zE <| yO [] [(1,vI (W (r1.1+1)))] <| zQ <| zH <| zE <| yO [] [(5,vI (W (i+1)))] <| yL <| rX [(0,vS p a01 c),(1,vI (W (r1.1+1))),(5,vI (W (i+1)))] ?_
  have el : (a01.set i.toNat (zC.mk r1.2 r1.1)).length = a01.length:=by simp only[cF]
  rw[show vS p a01 c = vS p (a01.set i.toNat (zC.mk r1.2 r1.1)) c from by simp only[vS,el]]
  exact ih (a01.set i.toNat (zC.mk r1.2 r1.1)) (W (r1.1+1)) (W (i+1)) _ hM ap (bJ Z1 [vS p1 x.Coefs c1,vI r1.1] (zC.mk r1.2 r1.1) ⟨_,rfl,hZ1⟩) hg ho λaf raws2 X2 hl hdl le=>hx af raws2 X2 (hl.trans el) hdl le
 ·intro hc hM
  obtain rfl:=zB hM
  exact oO <| yH <| yH <| dZ [(1,vI k01)] <| hx _ _ _ rfl hd ap
def rW(a0 : List zC)(k0 : Int): Option (Int × List zC):=tL a0 k0 0
theorem nL(a0 : List zC)(k0 : Int)(r)(hM : rW a0 k0 = some r){imm : Imm}{p : Option Addr}{c : Nat}{X : List HA}(h : DS X (vS p a0 c) a0): Ret Tryz.prog 90 [vS p a0 c,vI k0] imm X (DMo (vS p a0 c) r):=zDB (zCG _ _ _ _ hM) h
def sU(a01 : List zL)(k01 : Int)(i : Int): Option (Int × List zL):=do
 if(decide (i<(a01.length : Int))) then
  let x <- idx a01 i
  let r1 <- rW x.Lo k01
  let r2 <- rW x.Hi r1.1
  sU (a01.set i.toNat (zL.mk r1.2 r2.2)) r2.1 (W (i+1))
 else
  pure (k01,a01)
 partial_fixpoint
def zBo(a01 : List zL)(k01 i : Int)(o : Int × List zL): Prop:=
 ∀{B : Base} {imm0 imm : Imm} {Q : Exit -> Act -> World -> Prop} {p : Option Addr} {c : Nat} {ae : List (RawN zL)} {X : List HA},imm0.le imm -> dpR X ae a01 -> (∀gl a w,¬ Q (.goto gl) a w) -> (∀a w,¬ Q .outgrown a w) -> (∀(af : Imm) (raws2 : List (RawN zL)) (X2 : List HA),o.2.length = a01.length -> dpR X2 raws2 o.2 -> imm0.le af -> T 27 B Q (.exit 0) af (hO zL (vS p o.2 c) (flR raws2) :: X2) [(1,vI o.1)]) -> J Tryz.prog 27 B (nav (bodyOf f50) [1,0,1,0]) Q imm (hO zL (vS p a01 c) (flR ae) :: X) [(0,vS p a01 c),(1,vI k01),(5,vI i)]
theorem zET{a0 : List zL}{k0 : Int}{r : Int × List zL}(hL : zBo a0 k0 0 r){imm : Imm}{p : Option Addr}{c : Nat}{X : List HA}(h : DS X (vS p a0 c) a0): Ret Tryz.prog 50 [vS p a0 c,vI k0] imm X (DMo (vS p a0 c) r):=by
 obtain⟨_,_,ae,Y,-,rfl,hd⟩:=h
 refine xW (fn:=f50) (c:=(bodyOf f50)) func50 rfl rfl ?_
 rintro B - -
 refine zM <| zE <| yO [] [] <| zH <| zM <| zM <| zE <| yO [] [(5,vI 0)] <| zH <| zZ <| rX [(0,vS p a0 c),(1,vI k0),(5,vI 0)] ?_
 refine hL (Imm.le.refl _) hd (λ_ _ _ h=>h) (λ_ _ h=>h) ?_
 intro af raws2 X2 hl h3 le
 refine zU <| zH <| zM <| zE <| yO [] [(4,vI r.1)] <| zH <| yF ?_
 exact yV ⟨_,_,(.tmp rfl ResV.nil),(λ_ g=>g),⟨rfl,by rw[show vS p a0 c = vS p r.2 c from by simp only[vS,hl]];exact .mk' h3⟩⟩
theorem zDC : ∀(a01 : List zL) (k01 i : Int) (o : Int × List zL),sU a01 k01 i = some o -> zBo a01 k01 i o:=by
 refine sU.partial_correctness _ ?_
 intro aG ih a01 k01 i o hM B imm0 imm Q p c ae X ap hd hg ho hx
 refine yK hg ho <| zM <| zM <| zE <| yO [] [(9,.bool (decide (i<(a01.length : Int))))] <| zH <| yD hM ?_ ?_
 ·intro hc hM
  refine zT <| zH <| zM <| zZ ?_
  obtain⟨x,hy,hM⟩:=zF hM
  obtain⟨⟨cc⟩,X1,Y,X2,hr,rfl,hY,bJ⟩:=hd.at hy
  change Dp.dp Y cc x at hY
  obtain⟨v1,v2,Y1,Y2,rfl,rfl,hS1,hS2⟩:=hY
  obtain⟨p1,c1,rfl⟩:=hS1.form
  obtain⟨p2,c2,rfl⟩:=hS2.form
  have hok:=hd.ok
  replace hr : idx ae i = some ⟨[vS p1 x.Lo c1,vS p2 x.Hi c2]⟩:=hr
  refine zEO (hO zL (vS p a01 c) (flR (ae.set i.toNat ⟨[vS p1 x.Lo c1,vS p2 x.Hi c2]⟩)) :: (X1++(Y1++(Y2++X2)))) (.of_eq (by rw[zBP hr];simp only[bZ])) ?_
  refine zM <| zE <| xF 2 [] [(12,vS p a01 c),(13,vI i)] <| gW rfl rfl hr hok λad1 au=>xF 4 [] [(15,.pointer (some (ad1.add 0)))] <| zBl 0 [vS p1 x.Lo c1] (vS p1 x.Lo c1) rfl au hr hok <| xF 6 [] [(17,vI k01)] ?_
  obtain⟨r1,hr1,hM⟩:=zF hM
  refine mV rfl (λZ=>hO zL (vS p a01 c) (flR (ae.set i.toNat ⟨[vS p1 x.Lo c1,vS p2 x.Hi c2]⟩)) :: (X1++(Z++(Y2++X2)))) (λZ=>pm2 [_] X1 Z _) rfl (nL x.Lo k01 _ hr1 hS1) ?_
  rintro imm1 Z1 _ _ ai ⟨rfl,hZ1⟩
  replace ap:=ap.trans ai
  refine yO [] [(1,vI r1.1)] <| zH <| zE <| xF 2 [] [(19,vS p a01 c),(20,vI i)] <| gW rfl rfl hr hok λad2 aS=>xF 4 [] [(22,.pointer (some (ad2.add 1)))] <| zBl 1 [vS p2 x.Hi c2] (vS p2 x.Hi c2) rfl aS hr hok <| xF 6 [] [(24,vI r1.1)] ?_
  obtain⟨r2,hr2,hM⟩:=zF hM
  refine mV rfl (λZ=>hO zL (vS p a01 c) (flR (ae.set i.toNat ⟨[vS p1 x.Lo c1,vS p2 x.Hi c2]⟩)) :: (X1++(Z1++(Z++X2)))) (λZ=>pm3 [_] X1 Z1 Z _) rfl (nL x.Hi r1.1 _ hr2 hS2) ?_
  rintro imm2 Z2 _ _ ax ⟨rfl,hZ2⟩
  replace ap:=ap.trans ax
  refine yO [] [(1,vI r2.1)] <| zQ <| zH <| zE <| yO [] [(5,vI (W (i+1)))] <| yL <| rX [(0,vS p a01 c),(1,vI r2.1),(5,vI (W (i+1)))] ?_
  have el : (a01.set i.toNat (zL.mk r1.2 r2.2)).length = a01.length:=by simp only[cF]
  rw[show vS p a01 c = vS p (a01.set i.toNat (zL.mk r1.2 r2.2)) c from by simp only[vS,el]]
  refine zEO _ ?_ (ih (a01.set i.toNat (zL.mk r1.2 r2.2)) r2.1 (W (i+1)) _ hM ap (bJ (Z1++Z2) [vS p1 x.Lo c1,vS p2 x.Hi c2] (zL.mk r1.2 r2.2) ⟨_,_,Z1,Z2,rfl,rfl,hZ1,hZ2⟩) hg ho λaf raws2 X2 hl hdl le=>hx af raws2 X2 (hl.trans el) hdl le)
  exact .of_eq (by simp only[bZ])
 ·intro hc hM
  obtain rfl:=zB hM
  exact oO <| yH <| yH <| dZ [(1,vI k01)] <| hx _ _ _ rfl hd ap
def zAQ(a0 : List zL)(k0 : Int): Option (Int × List zL):=sU a0 k0 0
theorem zFE(a0 : List zL)(k0 : Int)(r)(hM : zAQ a0 k0 = some r){imm : Imm}{p : Option Addr}{c : Nat}{X : List HA}(h : DS X (vS p a0 c) a0): Ret Tryz.prog 50 [vS p a0 c,vI k0] imm X (DMo (vS p a0 c) r):=zET (zDC _ _ _ _ hM) h
def uF(a01 : List zD)(k01 : Int)(i : Int): Option (Int × List zD):=do
 if(decide (i<(a01.length : Int))) then
  let x <- idx a01 i
  let r1 <- kQ x.Index.Coefs (W ((W (k01+1))+1))
  let s1 <- uH (W (r1.1+1))
  let r2 <- rW x.Read.Subs (W ((W (r1.1+1))+1))
  let r3 <- uF x.Kids r2.1 0
  uF (a01.set i.toNat (zD.mk k01 (W (k01+1)) (zC.mk r1.2 r1.1) (zK.mk s1 r2.2) r3.2)) r3.1 (W (i+1))
 else
  pure (k01,a01)
 partial_fixpoint
def zBp(a01 : List zD)(k01 i : Int)(o : Int × List zD): Prop:=
 ∀{B : Base} {imm0 imm : Imm} {Q : Exit -> Act -> World -> Prop} {p : Option Addr} {c : Nat} {ae : List (RawN zD)} {X : List HA},imm0.le imm -> dpR X ae a01 -> (∀gl a w,¬ Q (.goto gl) a w) -> (∀a w,¬ Q .outgrown a w) -> (∀(af : Imm) (raws2 : List (RawN zD)) (X2 : List HA),o.2.length = a01.length -> dpR X2 raws2 o.2 -> imm0.le af -> T 67 B Q (.exit 0) af (hO zD (vS p o.2 c) (flR raws2) :: X2) [(1,vI o.1)]) -> J Tryz.prog 67 B (nav (bodyOf f91) [1,0,1,0]) Q imm (hO zD (vS p a01 c) (flR ae) :: X) [(0,vS p a01 c),(1,vI k01),(5,vI i)]
theorem zAy{a0 : List zD}{k0 : Int}{r : Int × List zD}(hL : zBp a0 k0 0 r){imm : Imm}{p : Option Addr}{c : Nat}{X : List HA}(h : DS X (vS p a0 c) a0): Ret Tryz.prog 91 [vS p a0 c,vI k0] imm X (DMo (vS p a0 c) r):=by
 obtain⟨_,_,ae,Y,-,rfl,hd⟩:=h
 refine xW (fn:=f91) (c:=(bodyOf f91)) func91 rfl rfl ?_
 rintro B - -
 refine zM <| zE <| yO [] [] <| zH <| zM <| zM <| zE <| yO [] [(5,vI 0)] <| zH <| zZ <| rX [(0,vS p a0 c),(1,vI k0),(5,vI 0)] ?_
 refine hL (Imm.le.refl _) hd (λ_ _ _ h=>h) (λ_ _ h=>h) ?_
 intro af raws2 X2 hl h3 le
 refine zU <| zH <| zM <| zE <| yO [] [(4,vI r.1)] <| zH <| yF ?_
 exact yV ⟨_,_,(.tmp rfl ResV.nil),(λ_ g=>g),⟨rfl,by rw[show vS p a0 c = vS p r.2 c from by simp only[vS,hl]];exact .mk' h3⟩⟩
theorem zDD : ∀(a01 : List zD) (k01 i : Int) (o : Int × List zD),uF a01 k01 i = some o -> zBp a01 k01 i o:=by
 refine uF.partial_correctness _ ?_
 intro aG ih a01 k01 i o hM B imm0 imm Q p c ae X ap hd hg ho hx
 refine yK hg ho <| zM <| zM <| zE <| yO [] [(9,.bool (decide (i<(a01.length : Int))))] <| zH <| yD hM ?_ ?_
 ·intro hc hM
  refine zT <| zH <| zM <| zZ ?_
  obtain⟨x,hy,hM⟩:=zF hM
  obtain⟨⟨cc⟩,X1,Y,X2,hr,rfl,hY,bJ⟩:=hd.at hy
  change Dp.dp Y cc x at hY
  obtain⟨v1,v2,v3,Y1,Y2,Y3,rfl,rfl,hS1,hS2,hS3⟩:=eH hY
  obtain⟨p1,c1,rfl⟩:=hS1.form
  obtain⟨p2,c2,rfl⟩:=hS2.form
  obtain⟨p3,c3,rfl⟩:=hS3.form
  have hok:=hd.ok
  replace hr : idx ae i = some ⟨[vI x.Kind,vI x.Num,vS p1 x.Index.Coefs c1,vI x.Index.Const,vT x.Read.Array.l,vS p2 x.Read.Subs c2,vS p3 x.Kids c3]⟩:=hr
  refine zEO (hO zD (vS p a01 c) (flR (ae.set i.toNat ⟨[vI x.Kind,vI x.Num,vS p1 x.Index.Coefs c1,vI x.Index.Const,vT x.Read.Array.l,vS p2 x.Read.Subs c2,vS p3 x.Kids c3]⟩)) :: (X1++(Y1++(Y2++(Y3++X2))))) (.of_eq (by rw[zBP hr];simp only[bZ])) ?_
  refine zM <| zE <| xF 3 [] [(12,vS p a01 c),(13,vI i),(14,vI k01)] <| gW rfl rfl hr hok λad1 au=>xF 5 [] [(16,.pointer (some (ad1.add 0)))] <| zCS 0 [vI k01,vI x.Num,vS p1 x.Index.Coefs c1,vI x.Index.Const,vT x.Read.Array.l,vS p2 x.Read.Subs c2,vS p3 x.Kids c3] rfl au hr hok rfl <| zX rfl <| zH <| zM <| zE <| yO [] [(1,vI (W (k01+1)))] <| zH <| zM <| zE <| xF 3 [] [(19,vS p a01 c),(20,vI i),(21,vI (W (k01+1)))] <| gW rfl rfl hr hok λad2 aS=>xF 5 [] [(23,.pointer (some (ad2.add 1)))] <| zCS 1 [vI k01,vI (W (k01+1)),vS p1 x.Index.Coefs c1,vI x.Index.Const,vT x.Read.Array.l,vS p2 x.Read.Subs c2,vS p3 x.Kids c3] rfl aS hr hok rfl <| zX rfl <| zH <| zM <| zE <| yO [] [(1,vI (W ((W (k01+1))+1)))] <| zH <| zM <| zE <| xF 2 [] [(26,vS p a01 c),(27,vI i)] <| gW rfl rfl hr hok λad3 hat3=>xF 5 [] [(30,.pointer (some (ad3.add 2)))] <| zBl 2 [vS p1 x.Index.Coefs c1] (vS p1 x.Index.Coefs c1) rfl hat3 hr hok <| xF 7 [] [(32,vI (W ((W (k01+1))+1)))] ?_
  obtain⟨r1,hr1,hM⟩:=zF hM
  refine mV rfl (λZ=>hO zD (vS p a01 c) (flR (ae.set i.toNat ⟨[vI k01,vI (W (k01+1)),vS p1 x.Index.Coefs c1,vI x.Index.Const,vT x.Read.Array.l,vS p2 x.Read.Subs c2,vS p3 x.Kids c3]⟩)) :: (X1++(Z++(Y2++(Y3++X2))))) (λZ=>pm2 [_] X1 Z _) rfl (eW x.Index.Coefs (W ((W (k01+1))+1)) _ hr1 hS1) ?_
  rintro imm1 Z1 _ _ ai ⟨rfl,hZ1⟩
  replace ap:=ap.trans ai
  refine yO [] [(1,vI r1.1)] <| zH <| zM <| zE <| xF 3 [] [(34,vS p a01 c),(35,vI i),(36,vI r1.1)] <| gW rfl rfl hr hok λad4 hat4=>xF 6 [] [(39,.pointer (some (ad4.add 3)))] <| zCS 3 [vI k01,vI (W (k01+1)),vS p1 x.Index.Coefs c1,vI r1.1,vT x.Read.Array.l,vS p2 x.Read.Subs c2,vS p3 x.Kids c3] rfl hat4 hr hok rfl <| zX rfl <| zH <| zM <| zE <| yO [] [(1,vI (W (r1.1+1)))] <| zH <| zM <| zE <| xF 3 [] [(42,vS p a01 c),(43,vI i),(44,vI (W (r1.1+1)))] ?_
  obtain⟨s1,hs1,hM⟩:=zF hM
  refine zFA rfl (qF (W (r1.1+1)) _ hs1) ?_
  rintro imm2 _ _ ax ⟨_,_,-,rfl,rfl⟩
  replace ap:=ap.trans ax
  refine gW rfl rfl hr hok λad5 hat5=>xF 7 [] [(48,.pointer (some (ad5.add 4)))] <| zCS 4 [vI k01,vI (W (k01+1)),vS p1 x.Index.Coefs c1,vI r1.1,vT s1.l,vS p2 x.Read.Subs c2,vS p3 x.Kids c3] rfl hat5 hr hok rfl <| zX rfl <| zH <| zM <| zE <| yO [] [(1,vI (W ((W (r1.1+1))+1)))] <| zH <| zM <| zE <| xF 2 [] [(51,vS p a01 c),(52,vI i)] <| gW rfl rfl hr hok λad6 hat6=>xF 5 [] [(55,.pointer (some (ad6.add 5)))] <| zBl 5 [vS p2 x.Read.Subs c2] (vS p2 x.Read.Subs c2) rfl hat6 hr hok <| xF 7 [] [(57,vI (W ((W (r1.1+1))+1)))] ?_
  obtain⟨r2,hr2,hM⟩:=zF hM
  refine mV rfl (λZ=>hO zD (vS p a01 c) (flR (ae.set i.toNat ⟨[vI k01,vI (W (k01+1)),vS p1 x.Index.Coefs c1,vI r1.1,vT s1.l,vS p2 x.Read.Subs c2,vS p3 x.Kids c3]⟩)) :: (X1++(Z1++(Z++(Y3++X2))))) (λZ=>pm3 [_] X1 Z1 Z _) rfl (nL x.Read.Subs (W ((W (r1.1+1))+1)) _ hr2 hS2) ?_
  rintro imm3 Z2 _ _ aR ⟨rfl,hZ2⟩
  replace ap:=ap.trans aR
  refine yO [] [(1,vI r2.1)] <| zH <| zE <| xF 2 [] [(59,vS p a01 c),(60,vI i)] <| gW rfl rfl hr hok λad7 hat7=>xF 4 [] [(62,.pointer (some (ad7.add 6)))] <| zBl 6 [vS p3 x.Kids c3] (vS p3 x.Kids c3) rfl hat7 hr hok <| xF 6 [] [(64,vI r2.1)] ?_
  obtain⟨r3,hr3,hM⟩:=zF hM
  refine mV rfl (λZ=>hO zD (vS p a01 c) (flR (ae.set i.toNat ⟨[vI k01,vI (W (k01+1)),vS p1 x.Index.Coefs c1,vI r1.1,vT s1.l,vS p2 x.Read.Subs c2,vS p3 x.Kids c3]⟩)) :: (X1++(Z1++(Z2++(Z++X2))))) (λZ=>pm4 [_] X1 Z1 Z2 Z _) rfl (zAy (ih x.Kids r2.1 0 _ hr3) hS3) ?_
  rintro imm4 Z3 _ _ bg ⟨rfl,hZ3⟩
  replace ap:=ap.trans bg
  refine yO [] [(1,vI r3.1)] <| zQ <| zH <| zE <| yO [] [(5,vI (W (i+1)))] <| yL <| rX [(0,vS p a01 c),(1,vI r3.1),(5,vI (W (i+1)))] ?_
  have el : (a01.set i.toNat (zD.mk k01 (W (k01+1)) (zC.mk r1.2 r1.1) (zK.mk s1 r2.2) r3.2)).length = a01.length:=by simp only[cF]
  rw[show vS p a01 c = vS p (a01.set i.toNat (zD.mk k01 (W (k01+1)) (zC.mk r1.2 r1.1) (zK.mk s1 r2.2) r3.2)) c from by simp only[vS,el]]
  refine zEO _ ?_ (ih (a01.set i.toNat (zD.mk k01 (W (k01+1)) (zC.mk r1.2 r1.1) (zK.mk s1 r2.2) r3.2)) r3.1 (W (i+1)) _ hM ap (bJ (Z1++(Z2++Z3)) [vI k01,vI (W (k01+1)),vS p1 x.Index.Coefs c1,vI r1.1,vT s1.l,vS p2 x.Read.Subs c2,vS p3 x.Kids c3] (zD.mk k01 (W (k01+1)) (zC.mk r1.2 r1.1) (zK.mk s1 r2.2) r3.2) (zAH (e:=(zD.mk k01 (W (k01+1)) (zC.mk r1.2 r1.1) (zK.mk s1 r2.2) r3.2)) hZ1 hZ2 hZ3)) hg ho λaf raws2 X2 hl hdl le=>hx af raws2 X2 (hl.trans el) hdl le)
  exact .of_eq (by simp only[bZ])
 ·intro hc hM
  obtain rfl:=zB hM
  exact oO <| yH <| yH <| dZ [(1,vI k01)] <| hx _ _ _ rfl hd ap
def oF(a0 : List zD)(k0 : Int): Option (Int × List zD):=uF a0 k0 0
theorem zFF(a0 : List zD)(k0 : Int)(r)(hM : oF a0 k0 = some r){imm : Imm}{p : Option Addr}{c : Nat}{X : List HA}(h : DS X (vS p a0 c) a0): Ret Tryz.prog 91 [vS p a0 c,vI k0] imm X (DMo (vS p a0 c) r):=zAy (zDD _ _ _ _ hM) h
def sV(a01 : List zJ)(k01 : Int)(i : Int): Option (Int × List zJ):=do
 if(decide (i<(a01.length : Int))) then
  let x <- idx a01 i
  let s1 <- uH k01
  let r1 <- rW x.Write.Subs (W (k01+1))
  let r2 <- kQ x.Value.Index.Coefs (W ((W (r1.1+1))+1))
  let s2 <- uH (W (r2.1+1))
  let r3 <- rW x.Value.Read.Subs (W ((W (r2.1+1))+1))
  let r4 <- oF x.Value.Kids r3.1
  sV (a01.set i.toNat (zJ.mk (zK.mk s1 r1.2) (zD.mk r1.1 (W (r1.1+1)) (zC.mk r2.2 r2.1) (zK.mk s2 r3.2) r4.2))) r4.1 (W (i+1))
 else
  pure (k01,a01)
 partial_fixpoint
def zBq(a01 : List zJ)(k01 i : Int)(o : Int × List zJ): Prop:=
 ∀{B : Base} {imm0 imm : Imm} {Q : Exit -> Act -> World -> Prop} {p : Option Addr} {c : Nat} {ae : List (RawN zJ)} {X : List HA},imm0.le imm -> dpR X ae a01 -> (∀gl a w,¬ Q (.goto gl) a w) -> (∀a w,¬ Q .outgrown a w) -> (∀(af : Imm) (raws2 : List (RawN zJ)) (X2 : List HA),o.2.length = a01.length -> dpR X2 raws2 o.2 -> imm0.le af -> T 91 B Q (.exit 0) af (hO zJ (vS p o.2 c) (flR raws2) :: X2) [(1,vI o.1)]) -> J Tryz.prog 91 B (nav (bodyOf f51) [1,0,1,0]) Q imm (hO zJ (vS p a01 c) (flR ae) :: X) [(0,vS p a01 c),(1,vI k01),(5,vI i)]
theorem zEU{a0 : List zJ}{k0 : Int}{r : Int × List zJ}(hL : zBq a0 k0 0 r){imm : Imm}{p : Option Addr}{c : Nat}{X : List HA}(h : DS X (vS p a0 c) a0): Ret Tryz.prog 51 [vS p a0 c,vI k0] imm X (DMo (vS p a0 c) r):=by
 obtain⟨_,_,ae,Y,-,rfl,hd⟩:=h
 refine xW (fn:=f51) (c:=(bodyOf f51)) func51 rfl rfl ?_
 rintro B - -
 refine zM <| zE <| yO [] [] <| zH <| zM <| zM <| zE <| yO [] [(5,vI 0)] <| zH <| zZ <| rX [(0,vS p a0 c),(1,vI k0),(5,vI 0)] ?_
 refine hL (Imm.le.refl _) hd (λ_ _ _ h=>h) (λ_ _ h=>h) ?_
 intro af raws2 X2 hl h3 le
 refine zU <| zH <| zM <| zE <| yO [] [(4,vI r.1)] <| zH <| yF ?_
 exact yV ⟨_,_,(.tmp rfl ResV.nil),(λ_ g=>g),⟨rfl,by rw[show vS p a0 c = vS p r.2 c from by simp only[vS,hl]];exact .mk' h3⟩⟩
theorem zDE : ∀(a01 : List zJ) (k01 i : Int) (o : Int × List zJ),sV a01 k01 i = some o -> zBq a01 k01 i o:=by
 refine sV.partial_correctness _ ?_
 intro aG ih a01 k01 i o hM B imm0 imm Q p c ae X ap hd hg ho hx
 refine yK hg ho <| zM <| zM <| zE <| yO [] [(9,.bool (decide (i<(a01.length : Int))))] <| zH <| yD hM ?_ ?_
 ·intro hc hM
  refine zT <| zH <| zM <| zZ ?_
  obtain⟨x,hy,hM⟩:=zF hM
  obtain⟨⟨cc⟩,X1,Y,X2,hr,rfl,hY,bJ⟩:=hd.at hy
  change Dp.dp Y cc x at hY
  obtain⟨_,_,Y1,_,rfl,rfl,⟨v1,rfl,hS1⟩,hV⟩:=hY
  obtain⟨v2,v3,v4,Y2,Y3,Y4,rfl,rfl,hS2,hS3,hS4⟩:=eH hV
  obtain⟨p1,c1,rfl⟩:=hS1.form
  obtain⟨p2,c2,rfl⟩:=hS2.form
  obtain⟨p3,c3,rfl⟩:=hS3.form
  obtain⟨p4,c4,rfl⟩:=hS4.form
  have hok:=hd.ok
  replace hr : idx ae i = some ⟨[vT x.Write.Array.l,vS p1 x.Write.Subs c1,vI x.Value.Kind,vI x.Value.Num,vS p2 x.Value.Index.Coefs c2,vI x.Value.Index.Const,vT x.Value.Read.Array.l,vS p3 x.Value.Read.Subs c3,vS p4 x.Value.Kids c4]⟩:=hr
  refine zEO (hO zJ (vS p a01 c) (flR (ae.set i.toNat ⟨[vT x.Write.Array.l,vS p1 x.Write.Subs c1,vI x.Value.Kind,vI x.Value.Num,vS p2 x.Value.Index.Coefs c2,vI x.Value.Index.Const,vT x.Value.Read.Array.l,vS p3 x.Value.Read.Subs c3,vS p4 x.Value.Kids c4]⟩)) :: (X1++(Y1++(Y2++(Y3++(Y4++X2)))))) (.of_eq (by rw[zBP hr];simp only[bZ])) ?_
  refine zM <| zE <| xF 3 [] [(12,vS p a01 c),(13,vI i),(14,vI k01)] ?_
  obtain⟨s1,hs1,hM⟩:=zF hM
  refine zFA rfl (qF k01 _ hs1) ?_
  rintro imm1 _ _ ai ⟨_,_,-,rfl,rfl⟩
  replace ap:=ap.trans ai
  refine gW rfl rfl hr hok λad1 au=>xF 7 [] [(18,.pointer (some (ad1.add 0)))] <| zCS 0 [vT s1.l,vS p1 x.Write.Subs c1,vI x.Value.Kind,vI x.Value.Num,vS p2 x.Value.Index.Coefs c2,vI x.Value.Index.Const,vT x.Value.Read.Array.l,vS p3 x.Value.Read.Subs c3,vS p4 x.Value.Kids c4] rfl au hr hok rfl <| zX rfl <| zH <| zM <| zE <| yO [] [(1,vI (W (k01+1)))] <| zH <| zM <| zE <| xF 2 [] [(21,vS p a01 c),(22,vI i)] <| gW rfl rfl hr hok λad2 aS=>xF 5 [] [(25,.pointer (some (ad2.add 1)))] <| zBl 1 [vS p1 x.Write.Subs c1] (vS p1 x.Write.Subs c1) rfl aS hr hok <| xF 7 [] [(27,vI (W (k01+1)))] ?_
  obtain⟨r1,hr1,hM⟩:=zF hM
  refine mV rfl (λZ=>hO zJ (vS p a01 c) (flR (ae.set i.toNat ⟨[vT s1.l,vS p1 x.Write.Subs c1,vI x.Value.Kind,vI x.Value.Num,vS p2 x.Value.Index.Coefs c2,vI x.Value.Index.Const,vT x.Value.Read.Array.l,vS p3 x.Value.Read.Subs c3,vS p4 x.Value.Kids c4]⟩)) :: (X1++(Z++(Y2++(Y3++(Y4++X2)))))) (λZ=>pm2 [_] X1 Z _) rfl (nL x.Write.Subs (W (k01+1)) _ hr1 hS1) ?_
  rintro imm2 Z1 _ _ ax ⟨rfl,hZ1⟩
  replace ap:=ap.trans ax
  refine yO [] [(1,vI r1.1)] <| zH <| zM <| zE <| xF 3 [] [(29,vS p a01 c),(30,vI i),(31,vI r1.1)] <| gW rfl rfl hr hok λad3 hat3=>xF 6 [] [(34,.pointer (some (ad3.add 2)))] <| zCS 2 [vT s1.l,vS p1 x.Write.Subs c1,vI r1.1,vI x.Value.Num,vS p2 x.Value.Index.Coefs c2,vI x.Value.Index.Const,vT x.Value.Read.Array.l,vS p3 x.Value.Read.Subs c3,vS p4 x.Value.Kids c4] rfl hat3 hr hok rfl <| zX rfl <| zH <| zM <| zE <| yO [] [(1,vI (W (r1.1+1)))] <| zH <| zM <| zE <| xF 3 [] [(37,vS p a01 c),(38,vI i),(39,vI (W (r1.1+1)))] <| gW rfl rfl hr hok λad4 hat4=>xF 6 [] [(42,.pointer (some (ad4.add 3)))] <| zCS 3 [vT s1.l,vS p1 x.Write.Subs c1,vI r1.1,vI (W (r1.1+1)),vS p2 x.Value.Index.Coefs c2,vI x.Value.Index.Const,vT x.Value.Read.Array.l,vS p3 x.Value.Read.Subs c3,vS p4 x.Value.Kids c4] rfl hat4 hr hok rfl <| zX rfl <| zH <| zM <| zE <| yO [] [(1,vI (W ((W (r1.1+1))+1)))] <| zH <| zM <| zE <| xF 2 [] [(45,vS p a01 c),(46,vI i)] <| gW rfl rfl hr hok λad5 hat5=>xF 6 [] [(50,.pointer (some (ad5.add 4)))] <| zBl 4 [vS p2 x.Value.Index.Coefs c2] (vS p2 x.Value.Index.Coefs c2) rfl hat5 hr hok <| xF 8 [] [(52,vI (W ((W (r1.1+1))+1)))] ?_
  obtain⟨r2,hr2,hM⟩:=zF hM
  refine mV rfl (λZ=>hO zJ (vS p a01 c) (flR (ae.set i.toNat ⟨[vT s1.l,vS p1 x.Write.Subs c1,vI r1.1,vI (W (r1.1+1)),vS p2 x.Value.Index.Coefs c2,vI x.Value.Index.Const,vT x.Value.Read.Array.l,vS p3 x.Value.Read.Subs c3,vS p4 x.Value.Kids c4]⟩)) :: (X1++(Z1++(Z++(Y3++(Y4++X2)))))) (λZ=>pm3 [_] X1 Z1 Z _) rfl (eW x.Value.Index.Coefs (W ((W (r1.1+1))+1)) _ hr2 hS2) ?_
  rintro imm3 Z2 _ _ aR ⟨rfl,hZ2⟩
  replace ap:=ap.trans aR
  refine yO [] [(1,vI r2.1)] <| zH <| zM <| zE <| xF 3 [] [(54,vS p a01 c),(55,vI i),(56,vI r2.1)] <| gW rfl rfl hr hok λad6 hat6=>xF 7 [] [(60,.pointer (some (ad6.add 5)))] <| zCS 5 [vT s1.l,vS p1 x.Write.Subs c1,vI r1.1,vI (W (r1.1+1)),vS p2 x.Value.Index.Coefs c2,vI r2.1,vT x.Value.Read.Array.l,vS p3 x.Value.Read.Subs c3,vS p4 x.Value.Kids c4] rfl hat6 hr hok rfl <| zX rfl <| zH <| zM <| zE <| yO [] [(1,vI (W (r2.1+1)))] <| zH <| zM <| zE <| xF 3 [] [(63,vS p a01 c),(64,vI i),(65,vI (W (r2.1+1)))] ?_
  obtain⟨s2,aK,hM⟩:=zF hM
  refine zFA rfl (qF (W (r2.1+1)) _ aK) ?_
  rintro imm4 _ _ bg ⟨_,_,-,rfl,rfl⟩
  replace ap:=ap.trans bg
  refine gW rfl rfl hr hok λad7 hat7=>xF 8 [] [(70,.pointer (some (ad7.add 6)))] <| zCS 6 [vT s1.l,vS p1 x.Write.Subs c1,vI r1.1,vI (W (r1.1+1)),vS p2 x.Value.Index.Coefs c2,vI r2.1,vT s2.l,vS p3 x.Value.Read.Subs c3,vS p4 x.Value.Kids c4] rfl hat7 hr hok rfl <| zX rfl <| zH <| zM <| zE <| yO [] [(1,vI (W ((W (r2.1+1))+1)))] <| zH <| zM <| zE <| xF 2 [] [(73,vS p a01 c),(74,vI i)] <| gW rfl rfl hr hok λad8 hat8=>xF 6 [] [(78,.pointer (some (ad8.add 7)))] <| zBl 7 [vS p3 x.Value.Read.Subs c3] (vS p3 x.Value.Read.Subs c3) rfl hat8 hr hok <| xF 8 [] [(80,vI (W ((W (r2.1+1))+1)))] ?_
  obtain⟨r3,hr3,hM⟩:=zF hM
  refine mV rfl (λZ=>hO zJ (vS p a01 c) (flR (ae.set i.toNat ⟨[vT s1.l,vS p1 x.Write.Subs c1,vI r1.1,vI (W (r1.1+1)),vS p2 x.Value.Index.Coefs c2,vI r2.1,vT s2.l,vS p3 x.Value.Read.Subs c3,vS p4 x.Value.Kids c4]⟩)) :: (X1++(Z1++(Z2++(Z++(Y4++X2)))))) (λZ=>pm4 [_] X1 Z1 Z2 Z _) rfl (nL x.Value.Read.Subs (W ((W (r2.1+1))+1)) _ hr3 hS3) ?_
  rintro imm5 Z3 _ _ bo ⟨rfl,hZ3⟩
  replace ap:=ap.trans bo
  refine yO [] [(1,vI r3.1)] <| zH <| zE <| xF 2 [] [(82,vS p a01 c),(83,vI i)] <| gW rfl rfl hr hok λad9 hat9=>xF 5 [] [(86,.pointer (some (ad9.add 8)))] <| zBl 8 [vS p4 x.Value.Kids c4] (vS p4 x.Value.Kids c4) rfl hat9 hr hok <| xF 7 [] [(88,vI r3.1)] ?_
  obtain⟨r4,hr4,hM⟩:=zF hM
  refine mV rfl (λZ=>hO zJ (vS p a01 c) (flR (ae.set i.toNat ⟨[vT s1.l,vS p1 x.Write.Subs c1,vI r1.1,vI (W (r1.1+1)),vS p2 x.Value.Index.Coefs c2,vI r2.1,vT s2.l,vS p3 x.Value.Read.Subs c3,vS p4 x.Value.Kids c4]⟩)) :: (X1++(Z1++(Z2++(Z3++(Z++X2)))))) (λZ=>pm5 [_] X1 Z1 Z2 Z3 Z _) rfl (zFF x.Value.Kids r3.1 _ hr4 hS4) ?_
  rintro imm6 Z4 _ _ bB ⟨rfl,hZ4⟩
  replace ap:=ap.trans bB
  refine yO [] [(1,vI r4.1)] <| zQ <| zH <| zE <| yO [] [(5,vI (W (i+1)))] <| yL <| rX [(0,vS p a01 c),(1,vI r4.1),(5,vI (W (i+1)))] ?_
  have el : (a01.set i.toNat (zJ.mk (zK.mk s1 r1.2) (zD.mk r1.1 (W (r1.1+1)) (zC.mk r2.2 r2.1) (zK.mk s2 r3.2) r4.2))).length = a01.length:=by simp only[cF]
  rw[show vS p a01 c = vS p (a01.set i.toNat (zJ.mk (zK.mk s1 r1.2) (zD.mk r1.1 (W (r1.1+1)) (zC.mk r2.2 r2.1) (zK.mk s2 r3.2) r4.2))) c from by simp only[vS,el]]
  refine zEO _ ?_ (ih (a01.set i.toNat (zJ.mk (zK.mk s1 r1.2) (zD.mk r1.1 (W (r1.1+1)) (zC.mk r2.2 r2.1) (zK.mk s2 r3.2) r4.2))) r4.1 (W (i+1)) _ hM ap (bJ (Z1++(Z2++(Z3++Z4))) [vT s1.l,vS p1 x.Write.Subs c1,vI r1.1,vI (W (r1.1+1)),vS p2 x.Value.Index.Coefs c2,vI r2.1,vT s2.l,vS p3 x.Value.Read.Subs c3,vS p4 x.Value.Kids c4] (zJ.mk (zK.mk s1 r1.2) (zD.mk r1.1 (W (r1.1+1)) (zC.mk r2.2 r2.1) (zK.mk s2 r3.2) r4.2)) ⟨[vT s1.l,vS p1 x.Write.Subs c1],[vI r1.1,vI (W (r1.1+1)),vS p2 x.Value.Index.Coefs c2,vI r2.1,vT s2.l,vS p3 x.Value.Read.Subs c3,vS p4 x.Value.Kids c4],Z1,(Z2++(Z3++Z4)),rfl,rfl,⟨_,rfl,hZ1⟩,(zAH (e:=(zD.mk r1.1 (W (r1.1+1)) (zC.mk r2.2 r2.1) (zK.mk s2 r3.2) r4.2)) hZ2 hZ3 hZ4)⟩) hg ho λaf raws2 X2 hl hdl le=>hx af raws2 X2 (hl.trans el) hdl le)
  exact .of_eq (by simp only[bZ])
 ·intro hc hM
  obtain rfl:=zB hM
  exact oO <| yH <| yH <| dZ [(1,vI k01)] <| hx _ _ _ rfl hd ap
def zAR(a0 : List zJ)(k0 : Int): Option (Int × List zJ):=sV a0 k0 0
theorem zFG(a0 : List zJ)(k0 : Int)(r)(hM : zAR a0 k0 = some r){imm : Imm}{p : Option Addr}{c : Nat}{X : List HA}(h : DS X (vS p a0 c) a0): Ret Tryz.prog 51 [vS p a0 c,vI k0] imm X (DMo (vS p a0 c) r):=zEU (zDE _ _ _ _ hM) h
def sW(a01 : List zN)(k01 : Int)(i : Int): Option (Int × List zN):=do
 if(decide (i<(a01.length : Int))) then
  let x <- idx a01 i
  let r1 <- zAQ x.Nest k01
  let r2 <- zAR x.Body r1.1
  sW (a01.set i.toNat (zN.mk r1.2 r2.2)) r2.1 (W (i+1))
 else
  pure (k01,a01)
 partial_fixpoint
def zBr(a01 : List zN)(k01 i : Int)(o : Int × List zN): Prop:=
 ∀{B : Base} {imm0 imm : Imm} {Q : Exit -> Act -> World -> Prop} {p : Option Addr} {c : Nat} {ae : List (RawN zN)} {X : List HA},imm0.le imm -> dpR X ae a01 -> (∀gl a w,¬ Q (.goto gl) a w) -> (∀a w,¬ Q .outgrown a w) -> (∀(af : Imm) (raws2 : List (RawN zN)) (X2 : List HA),o.2.length = a01.length -> dpR X2 raws2 o.2 -> imm0.le af -> T 27 B Q (.exit 0) af (hO zN (vS p o.2 c) (flR raws2) :: X2) [(1,vI o.1)]) -> J Tryz.prog 27 B (nav (bodyOf f25) [1,0,1,0]) Q imm (hO zN (vS p a01 c) (flR ae) :: X) [(0,vS p a01 c),(1,vI k01),(5,vI i)]
theorem zEV{a0 : List zN}{k0 : Int}{r : Int × List zN}(hL : zBr a0 k0 0 r){imm : Imm}{p : Option Addr}{c : Nat}{X : List HA}(h : DS X (vS p a0 c) a0): Ret Tryz.prog 25 [vS p a0 c,vI k0] imm X (DMo (vS p a0 c) r):=by
 obtain⟨_,_,ae,Y,-,rfl,hd⟩:=h
 refine xW (fn:=f25) (c:=(bodyOf f25)) func25 rfl rfl ?_
 rintro B - -
 refine zM <| zE <| yO [] [] <| zH <| zM <| zM <| zE <| yO [] [(5,vI 0)] <| zH <| zZ <| rX [(0,vS p a0 c),(1,vI k0),(5,vI 0)] ?_
 refine hL (Imm.le.refl _) hd (λ_ _ _ h=>h) (λ_ _ h=>h) ?_
 intro af raws2 X2 hl h3 le
 refine zU <| zH <| zM <| zE <| yO [] [(4,vI r.1)] <| zH <| yF ?_
 exact yV ⟨_,_,(.tmp rfl ResV.nil),(λ_ g=>g),⟨rfl,by rw[show vS p a0 c = vS p r.2 c from by simp only[vS,hl]];exact .mk' h3⟩⟩
theorem zDF : ∀(a01 : List zN) (k01 i : Int) (o : Int × List zN),sW a01 k01 i = some o -> zBr a01 k01 i o:=by
 refine sW.partial_correctness _ ?_
 intro aG ih a01 k01 i o hM B imm0 imm Q p c ae X ap hd hg ho hx
 refine yK hg ho <| zM <| zM <| zE <| yO [] [(9,.bool (decide (i<(a01.length : Int))))] <| zH <| yD hM ?_ ?_
 ·intro hc hM
  refine zT <| zH <| zM <| zZ ?_
  obtain⟨x,hy,hM⟩:=zF hM
  obtain⟨⟨cc⟩,X1,Y,X2,hr,rfl,hY,bJ⟩:=hd.at hy
  change Dp.dp Y cc x at hY
  obtain⟨v1,v2,Y1,Y2,rfl,rfl,hS1,hS2⟩:=hY
  obtain⟨p1,c1,rfl⟩:=hS1.form
  obtain⟨p2,c2,rfl⟩:=hS2.form
  have hok:=hd.ok
  replace hr : idx ae i = some ⟨[vS p1 x.Nest c1,vS p2 x.Body c2]⟩:=hr
  refine zEO (hO zN (vS p a01 c) (flR (ae.set i.toNat ⟨[vS p1 x.Nest c1,vS p2 x.Body c2]⟩)) :: (X1++(Y1++(Y2++X2)))) (.of_eq (by rw[zBP hr];simp only[bZ])) ?_
  refine zM <| zE <| xF 2 [] [(12,vS p a01 c),(13,vI i)] <| gW rfl rfl hr hok λad1 au=>xF 4 [] [(15,.pointer (some (ad1.add 0)))] <| zBl 0 [vS p1 x.Nest c1] (vS p1 x.Nest c1) rfl au hr hok <| xF 6 [] [(17,vI k01)] ?_
  obtain⟨r1,hr1,hM⟩:=zF hM
  refine mV rfl (λZ=>hO zN (vS p a01 c) (flR (ae.set i.toNat ⟨[vS p1 x.Nest c1,vS p2 x.Body c2]⟩)) :: (X1++(Z++(Y2++X2)))) (λZ=>pm2 [_] X1 Z _) rfl (zFE x.Nest k01 _ hr1 hS1) ?_
  rintro imm1 Z1 _ _ ai ⟨rfl,hZ1⟩
  replace ap:=ap.trans ai
  refine yO [] [(1,vI r1.1)] <| zH <| zE <| xF 2 [] [(19,vS p a01 c),(20,vI i)] <| gW rfl rfl hr hok λad2 aS=>xF 4 [] [(22,.pointer (some (ad2.add 1)))] <| zBl 1 [vS p2 x.Body c2] (vS p2 x.Body c2) rfl aS hr hok <| xF 6 [] [(24,vI r1.1)] ?_
  obtain⟨r2,hr2,hM⟩:=zF hM
  refine mV rfl (λZ=>hO zN (vS p a01 c) (flR (ae.set i.toNat ⟨[vS p1 x.Nest c1,vS p2 x.Body c2]⟩)) :: (X1++(Z1++(Z++X2)))) (λZ=>pm3 [_] X1 Z1 Z _) rfl (zFG x.Body r1.1 _ hr2 hS2) ?_
  rintro imm2 Z2 _ _ ax ⟨rfl,hZ2⟩
  replace ap:=ap.trans ax
  refine yO [] [(1,vI r2.1)] <| zQ <| zH <| zE <| yO [] [(5,vI (W (i+1)))] <| yL <| rX [(0,vS p a01 c),(1,vI r2.1),(5,vI (W (i+1)))] ?_
  have el : (a01.set i.toNat (zN.mk r1.2 r2.2)).length = a01.length:=by simp only[cF]
  rw[show vS p a01 c = vS p (a01.set i.toNat (zN.mk r1.2 r2.2)) c from by simp only[vS,el]]
  refine zEO _ ?_ (ih (a01.set i.toNat (zN.mk r1.2 r2.2)) r2.1 (W (i+1)) _ hM ap (bJ (Z1++Z2) [vS p1 x.Nest c1,vS p2 x.Body c2] (zN.mk r1.2 r2.2) ⟨_,_,Z1,Z2,rfl,rfl,hZ1,hZ2⟩) hg ho λaf raws2 X2 hl hdl le=>hx af raws2 X2 (hl.trans el) hdl le)
  exact .of_eq (by simp only[bZ])
 ·intro hc hM
  obtain rfl:=zB hM
  exact oO <| yH <| yH <| dZ [(1,vI k01)] <| hx _ _ _ rfl hd ap
def zAS(a0 : List zN)(k0 : Int): Option (Int × List zN):=sW a0 k0 0
theorem zFH(a0 : List zN)(k0 : Int)(r)(hM : zAS a0 k0 = some r){imm : Imm}{p : Option Addr}{c : Nat}{X : List HA}(h : DS X (vS p a0 c) a0): Ret Tryz.prog 25 [vS p a0 c,vI k0] imm X (DMo (vS p a0 c) r):=zEV (zDF _ _ _ _ hM) h
end Go.LN
