/- Helper of the proof (see the last text). -/
import Derived.Test.YtkipogionmkncaaGreatHM5
import Derived.Test.YtkipogionmkncaaGreatLnDP
set_option linter.unusedVariables false
set_option linter.unusedSimpArgs false
namespace Go.LN
open Go.Proofs Go.Proofs.Tryz
set_option maxRecDepth 20000
def vL(a0 : zC): Option (zC):=do
 let y <- wU a0.Coefs
 pure (zC.mk y a0.Const)
theorem zAK : ∀(a0 : zC) r,vL a0 = some r -> ∀{imm : Imm} {p : Option Addr} {c : Nat},(SL imm (vS p a0.Coefs c) a0.Coefs) -> Ret Tryz.prog 82 [vA [vS p a0.Coefs c,vI a0.Const]] imm [] (DPo r):=by
 intro a0 r hM imm p c h
 unfold vL at hM
 refine xW (fn:=f82) (c:=(bodyOf f82)) func82 rfl rfl ?_
 rintro B - -
 have ap : imm.le imm:=Imm.le.refl _
 refine zM <| zE <| eX (c:=⟨[vS p a0.Coefs c,vI a0.Const]⟩) rfl rfl rfl rfl rfl ?_
 intro b hb
 refine xT (c:=⟨[.slice none 0 0,vI 0]⟩) rfl rfl rfl (by kernel_rfl) ?_
 intro b1 hb1
 refine zX rfl <| zH <| zM ?_
 obtain⟨y,hy,hM⟩:=zF hM
 refine uX [.p (vP b 0) [],.p (vS p a0.Coefs c) [1],.x (λaf v hx => ∃(p1 : Option Addr) (c1 : Nat) (cs : List Value),v = vS p1 y c1 /\ hx = [hO Int (vS p1 y c1) cs] /\ (RL af cs y)),.p (vP b 1) [],.p (vI a0.Const) [1],.x (λaf v hx => ∃(a7 : Option Addr) (a6 : Nat) (aM : List Value),v = vA [vS a7 y a6,vI a0.Const] /\ hx = [hO Int (vS a7 y a6) aM] /\ (RL af aM y))] [[],[(0,false)],[(1,false)],[],[(3,false)],[(2,true),(4,false)]] [hB b1 [.slice none 0 0,vI 0],hB b [vS p a0.Coefs c,vI a0.Const]] [] [(5,true)] (yN [0,1] rfl (by decide)) ?_ ?_
 ·refine Op <| Op <| Ox ?_ <| Op <| Op <| Ox ?_ <| On
  ·intro imm1 hf ai
   refine yI ?_
   rintro _ _ ⟨rfl,rfl⟩
   refine xQ <| tQ (hB b1 [.slice none 0 0,vI 0] :: hB b [vS p a0.Coefs c,vI a0.Const] :: hf) [(4,vS p a0.Coefs c)] ?_
   have ap:=Imm.le.refl imm1
   replace h:=h.mono ai
   refine uZ (hs1:=[]) (rest:=(hB b1 [.slice none 0 0,vI 0] :: hB b [vS p a0.Coefs c,vI a0.Const] :: hf)) rfl rfl rfl rfl (by kernel_rfl) rfl rfl (qD a0.Coefs _ hy h) ?_
   rintro imm0 aK v2 k2 le - ⟨p1,c1,cs,rfl,rfl,h1⟩ -
   replace h:=h.mono le
   replace ap:=ap.trans le
   exact rY (hx:=[hO Int (vS p1 y c1) cs]) rfl ap rfl (xX rfl) ⟨_,_,_,rfl,rfl,h1⟩
  ·intro imm1 hf ai
   refine yI ?_
   rintro _ _ ⟨p1,c1,cs,rfl,rfl,h1⟩
   refine yI ?_
   rintro _ _ ⟨rfl,rfl⟩
   refine xQ <| tQ (hO Int (vS p1 y c1) cs :: hB b1 [.slice none 0 0,vI 0] :: hB b [vS p a0.Coefs c,vI a0.Const] :: hf) [(5,vS p1 y c1),(7,vI a0.Const)] ?_
   have ap:=Imm.le.refl imm1
   exact nP 6 [(8,vA [vS p1 y c1,vI a0.Const])] <| rY (hx:=[hO Int (vS p1 y c1) cs]) rfl ap rfl (xX rfl) ⟨_,_,_,rfl,rfl,h1⟩
 ·intro imm01 ai
  refine yI ?_
  rintro _ _ ⟨a7,a6,aM,rfl,rfl,h11⟩
  refine xQ <| tQ [hO Int (vS a7 y a6) aM,hB b1 [.slice none 0 0,vI 0],hB b [vS p a0.Coefs c,vI a0.Const]] [(2,vP b1 0),(8,vA [vS a7 y a6,vI a0.Const])] ?_
  replace h:=h.mono ai
  replace ap:=ap.trans ai
  refine uJ 1 [vS a7 y a6,vI a0.Const] [hO Int (vS a7 y a6) aM,hB b1 [vS a7 y a6,vI a0.Const],hB b [vS p a0.Coefs c,vI a0.Const]] rfl rfl rfl rfl <| zX rfl <| zH <| yF ?_
  obtain rfl:=zB hM
  exact yV ⟨_,_,(.cell 1 rfl rfl (by kernel_rfl) ResV.nil),(yN [0] rfl (by decide)),⟨_,rfl,⟨_,rfl,dsI h11⟩⟩⟩
def sX(a0 : zK)(t14 : Int)(Subs : List zC): Option (List zC):=do
 if(decide (t14<(a0.Subs.length : Int))) then
  let x <- idx a0.Subs t14
  let y <- vL x
  let l <- app 32 Subs ([y] : List zC)
  sX a0 (W (t14+1)) l
 else
  pure (id Subs)
 partial_fixpoint
theorem zDG(a0 : zK): ∀(t14 : Int) (Subs : List zC) (o : List zC),sX a0 t14 Subs = some o -> ∀{B : Base} {imm0 imm : Imm} {Q : Exit -> Act -> World -> Prop} {p : Option Addr} {c : Nat} {b1 : Nat} {b2 : Nat} {p1 : Option Addr} {c1 : Nat} {ae : List (RawN zC)} {X : List HA},imm0.le imm -> (SL imm (vS p a0.Subs c) a0.Subs) -> (dpR X ae Subs) -> (∀gl a w,¬ Q (.goto gl) a w) -> (∀a w,¬ Q .outgrown a w) -> (∀(af : Imm) (Subs1 : List zC) (p2 : Option Addr) (c2 : Nat) (raws2 : List (RawN zC)) (X2 : List HA),o = Subs1 -> imm0.le af -> (dpR X2 raws2 Subs1) -> T 28 B Q (.exit 0) af (hO zC (vS p2 Subs1 c2) (flR raws2) :: hB b2 [vT a0.Array.l,vS p2 Subs1 c2] :: hB b1 [vT ([]),.slice none 0 0] :: X2) [(4,vP b1 0),(5,vP b2 0)]) -> J Tryz.prog 28 B (nav (bodyOf f127) [1,1,0,1,0]) Q imm (hO zC (vS p1 Subs c1) (flR ae) :: hB b2 [vT a0.Array.l,vS p1 Subs c1] :: hB b1 [vT ([]),.slice none 0 0] :: X) [(1,.func (.func 82) ⟨[]⟩ ⟨[]⟩),(4,vP b1 0),(5,vP b2 0),(12,vS p a0.Subs c),(13,vI (a0.Subs.length : Int)),(14,vI t14)]:=by
 refine sX.partial_correctness a0 _ ?_
 intro aG ih t14 Subs o hM B imm0 imm Q p c b1 b2 p1 c1 ae X ap h hd hg ho hx
 refine yK hg ho <| zM <| zE <| yO [] [(15,.bool (decide (t14<(a0.Subs.length : Int))))] <| zH <| zM <| yD hM ?_ ?_
 ·intro hc hM
  refine zT <| zH <| zM <| zZ <| zM <| zE ?_
  obtain⟨x,aw,hM⟩:=zF hM
  refine xL rfl rfl h aw ?_
  intro ad aF av aq
  obtain⟨v60,rfl,m0⟩:=zAM aq
  obtain⟨p60,c60,rfl⟩:=m0.form
  refine yY 0 av [vS p60 x.Coefs c60,vI x.Const] (vA [vS p60 x.Coefs c60,vI x.Const]) rfl <| xT (c:=⟨[.slice none 0 0,vI 0]⟩) rfl rfl rfl (by kernel_rfl) ?_
  intro b3 hb3
  refine uJ 0 [vS p60 x.Coefs c60,vI x.Const] (hB b3 [vS p60 x.Coefs c60,vI x.Const] :: hO zC (vS p1 Subs c1) (flR ae) :: hB b2 [vT a0.Array.l,vS p1 Subs c1] :: hB b1 [vT ([]),.slice none 0 0] :: X) rfl rfl rfl rfl <| zX rfl <| zH ?_
  obtain⟨y,aI,hM⟩:=zF hM
  obtain⟨l,aW,hM⟩:=zF hM
  refine uX [.p (vP b2 1) [],.p (vS p1 Subs c1) [1],.p (.func (.func 82) ⟨[]⟩ ⟨[]⟩) [],.p (vA [vS p60 x.Coefs c60,vI x.Const]) [0],.x (λaf v hx => ∃(q0 : Option Addr) (d0 : Nat),v = vA [vS q0 y.Coefs d0,vI y.Const] /\ Dp.dp hx [vS q0 y.Coefs d0,vI y.Const] y),.x (λaf v hx => ∃(b4 : Nat) (cs : List Value),v = vS (some ⟨b4,0,none⟩) ([⟨cs⟩] : List (RawN zC)) 1 /\ SL af (vS (some ⟨b4,0,none⟩) ([⟨cs⟩] : List (RawN zC)) 1) ([⟨cs⟩] : List (RawN zC)) /\ Dp.dp hx cs y),.x (λaf v hx => ∃(p5 : Option Addr) (c5 : Nat) (raws2 : List (RawN zC)) (X2 : List HA),v = vS p5 l c5 /\ hx = hO zC (vS p5 l c5) (flR raws2) :: X2 /\ dpR X2 raws2 l)] [[],[(0,false)],[],[],[(2,false),(3,false)],[(4,true)],[(1,false),(5,true),(9,true)]] (hB b3 [vS p60 x.Coefs c60,vI x.Const] :: hB b2 [vT a0.Array.l,vS p1 Subs c1] :: hB b1 [vT ([]),.slice none 0 0] :: []) [hO zC (vS p1 Subs c1) (flR ae) :: X] [(6,true)] (zF7 [_] (_ :: _ :: []) _ _) ?_ ?_
  ·refine Op <| Op <| Op <| Op <| Ox ?_ <| Ox ?_ <| Ox ?_ <| On
   ·intro imm1 hf ai
    refine yI ?_
    rintro _ _ ⟨rfl,rfl⟩
    refine yI ?_
    rintro _ _ ⟨rfl,rfl⟩
    refine xQ <| tQ (hB b3 [vS p60 x.Coefs c60,vI x.Const] :: hB b2 [vT a0.Array.l,vS p1 Subs c1] :: hB b1 [vT ([]),.slice none 0 0] :: hf) [(20,.func (.func 82) ⟨[]⟩ ⟨[]⟩),(21,vA [vS p60 x.Coefs c60,vI x.Const])] ?_
    refine uZ (hs1:=[]) (rest:=(hB b3 [vS p60 x.Coefs c60,vI x.Const] :: hB b2 [vT a0.Array.l,vS p1 Subs c1] :: hB b1 [vT ([]),.slice none 0 0] :: hf)) rfl rfl rfl rfl (by kernel_rfl) rfl rfl (zAK x _ aI (m0.mono ai)) ?_
    rintro imm2 Y v2 k2 ax - ⟨aV,rfl,hD⟩ -
    have g70:=hD
    obtain⟨w70,rfl,k70⟩:=g70
    obtain⟨p70,c70,rfl⟩:=k70.form
    exact rY (hx:=Y) rfl ax rfl (xX rfl) ⟨_,_,rfl,hD⟩
   ·intro imm1 hf ai
    refine yI ?_
    rintro _ Y ⟨q0,d0,rfl,hD⟩
    refine xQ <| tQ (Y++(hB b3 [vS p60 x.Coefs c60,vI x.Const] :: hB b2 [vT a0.Array.l,vS p1 Subs c1] :: hB b1 [vT ([]),.slice none 0 0] :: hf)) [(22,vA [vS q0 y.Coefs d0,vI y.Const])] ?_
    refine nM (cs:=[vS q0 y.Coefs d0,vI y.Const]) (Rp.sz zC) rfl rfl rfl rfl (by kernel_rfl) (by kernel_rfl) ?_
    intro b4 hb4
    have h7 : RL imm1 [vS q0 y.Coefs d0,vI y.Const] ([⟨[vS q0 y.Coefs d0,vI y.Const]⟩] : List (RawN zC)):=⟨_,[],rfl,rfl,⟨rfl,okC.out (by kernel_rfl)⟩,rfl⟩
    refine tP 0 rfl ?_
    intro imm2 ax hl0
    have h8:=SL.of_frozen (α:=RawN zC) hl0 ax h7
    exact rY (hx:=Y) rfl ax rfl (xX rfl) ⟨b4,_,rfl,h8,hD⟩
   ·intro imm1 hf ai
    refine yI ?_
    rintro _ _ ⟨rfl,rfl⟩
    refine yI ?_
    rintro _ Y ⟨b4,aV,rfl,h8,hD⟩
    refine yI ?_
    rintro _ _ rfl
    refine xQ <| tQ (hO zC (vS p1 Subs c1) (flR ae) :: (X++(Y++(hB b3 [vS p60 x.Coefs c60,vI x.Const] :: hB b2 [vT a0.Array.l,vS p1 Subs c1] :: hB b1 [vT ([]),.slice none 0 0] :: hf)))) [(19,vS p1 Subs c1),(23,vS (some ⟨b4,0,none⟩) ([⟨aV⟩] : List (RawN zC)) 1)] ?_
    refine zGl 50 2 rfl rfl hd hD h8.src aW ?_
    intro p5 c5 raws2 h9
    exact rY (hx:=hO zC (vS p5 l c5) (flR raws2) :: (X++Y)) rfl (Imm.le.refl _) (app3 _ _ _ _) (xX rfl) ⟨_,_,_,_,rfl,rfl,h9⟩
  ·intro imm2 ax
   refine yI ?_
   rintro _ _ ⟨p5,c5,raws2,X2,rfl,rfl,h9⟩
   refine xQ <| tQ (hO zC (vS p5 l c5) (flR raws2) :: (X2++(hB b3 [vS p60 x.Coefs c60,vI x.Const] :: hB b2 [vT a0.Array.l,vS p1 Subs c1] :: hB b1 [vT ([]),.slice none 0 0] :: []))) [(1,.func (.func 82) ⟨[]⟩ ⟨[]⟩),(4,vP b1 0),(5,vP b2 0),(12,vS p a0.Subs c),(13,vI (a0.Subs.length : Int)),(14,vI t14),(24,vS p5 l c5)] ?_
   refine zCF (hO zC (vS p5 l c5) (flR raws2) :: hB b3 [vS p60 x.Coefs c60,vI x.Const] :: hB b2 [vT a0.Array.l,vS p1 Subs c1] :: hB b1 [vT ([]),.slice none 0 0] :: X2) (cf.cons _) ?_
   exact xF 8 [] [(25,vP b2 1)] <| uJ 2 [vT a0.Array.l,vS p5 l c5] (hO zC (vS p5 l c5) (flR raws2) :: hB b3 [vS p60 x.Coefs c60,vI x.Const] :: hB b2 [vT a0.Array.l,vS p5 l c5] :: hB b1 [vT ([]),.slice none 0 0] :: X2) rfl rfl rfl rfl <| zX rfl <| zQ <| zH <| zE <| yO [] [(14,vI (W (t14+1)))] <| yL <| kU (uI 1 rfl) <| rX [(1,.func (.func 82) ⟨[]⟩ ⟨[]⟩),(4,vP b1 0),(5,vP b2 0),(12,vS p a0.Subs c),(13,vI (a0.Subs.length : Int)),(14,vI (W (t14+1)))] <| ih (W (t14+1)) l _ hM (ap.trans ax) (h.mono ax) h9 hg ho hx
 ·intro hc hM
  exact oO <| yH <| yH <| dZ [(4,vP b1 0),(5,vP b2 0)] <| hx _ _ _ _ _ _ (zB hM).symm ap hd
def mA(a0 : zK): Option (zK):=do
 let Subs1 <- sX a0 0 ([] : List zC)
 pure (zK.mk a0.Array Subs1)
theorem zBR : ∀(a0 : zK) r,mA a0 = some r -> ∀{imm : Imm} {p : Option Addr} {c : Nat},(SL imm (vS p a0.Subs c) a0.Subs) -> Ret Tryz.prog 127 [vA [vT a0.Array.l,vS p a0.Subs c],.func (.func 82) ⟨[]⟩ ⟨[]⟩] imm [] (DPo r):=by
 intro a0 r hM imm p c h
 unfold mA at hM
 refine xW (fn:=f127) (c:=(bodyOf f127)) func127 rfl rfl ?_
 rintro B - -
 have ap : imm.le imm:=Imm.le.refl _
 refine zM <| zE <| eX (c:=⟨[vT a0.Array.l,vS p a0.Subs c]⟩) rfl rfl rfl rfl rfl ?_
 intro b hb
 refine xT (c:=⟨[vT ([]),.slice none 0 0]⟩) rfl rfl rfl (by kernel_rfl) ?_
 intro b1 hb1
 refine zX rfl <| zH <| zM <| zE <| xF 3 [1] [(10,vA [vT a0.Array.l,.slice none 0 0])] <| xT (c:=⟨[vT ([]),.slice none 0 0]⟩) rfl rfl rfl (by kernel_rfl) ?_
 intro b2 hb2
 refine uJ 0 [vT a0.Array.l,.slice none 0 0] [hB b2 [vT a0.Array.l,.slice none 0 0],hB b1 [vT ([]),.slice none 0 0],hB b [vT a0.Array.l,vS p a0.Subs c]] rfl rfl rfl rfl <| zX rfl <| zH <| zM <| zM <| zE <| yO [2] [(12,vS p a0.Subs c),(13,vI (a0.Subs.length : Int)),(14,vI 0)] <| zH <| zZ <| kU (yN [0,1] (aj:=[hB b2 [vT a0.Array.l,.slice none 0 0],hB b1 [vT ([]),.slice none 0 0]]) rfl (by decide)) <| rX [(1,.func (.func 82) ⟨[]⟩ ⟨[]⟩),(4,vP b1 0),(5,vP b2 0),(12,vS p a0.Subs c),(13,vI (a0.Subs.length : Int)),(14,vI 0)] <| kU (zAZ (Rp.sz zC)) ?_
 obtain⟨o0,ay,aB⟩:=zF hM
 refine zDG a0 0 ([] : List zC) o0 ay (ae:=[]) (X:=[]) (p1:=none) (c1:=0) (Imm.le.refl _) h .nil (λ_ _ _ h=>h) (λ_ _ h=>h) ?_
 intro imm03 Subs1 p2 c2 raws2 X2 heq aR h3
 subst o0
 refine zU <| zH <| zM <| zE <| xF 1 [1] [(27,vA [vT a0.Array.l,vS p2 Subs1 c2])] <| uJ 2 [vT a0.Array.l,vS p2 Subs1 c2] (hO zC (vS p2 Subs1 c2) (flR raws2) :: hB b2 [vT a0.Array.l,vS p2 Subs1 c2] :: hB b1 [vT a0.Array.l,vS p2 Subs1 c2] :: X2) rfl rfl rfl rfl <| zX rfl <| zH <| yF ?_
 obtain rfl:=zB aB
 exact yV ⟨_,hO zC (vS p2 Subs1 c2) (flR raws2) :: X2,(.cell 2 rfl rfl (by kernel_rfl) ResV.nil),(λw g=>uI 1 rfl w (uI 1 rfl w g)),⟨_,rfl,⟨_,rfl,.mk' h3⟩⟩⟩
mutual
def mO(e0 : zD): Option (zD):=do
 let (IndexCoefs,IndexConst,ReadArray,ReadSubs) <- (do
  if(e0.Kind==2) then
   let y <- vL e0.Index
   pure (y.Coefs,y.Const,(⟨[]⟩ : Str),([] : List zC))
  else
   let (ReadArray1,ReadSubs1) <- (do
    if(e0.Kind==3) then
     let y1 <- mA e0.Read
     pure (y1.Array,y1.Subs)
    else
     pure ((⟨[]⟩ : Str),([] : List zC))
      : Option (Str × List zC))
   pure (([] : List Int),0,ReadArray1,ReadSubs1)
    : Option (List Int × Int × Str × List zC))
 let Kids1 <- rA (same e0) (same 0) ([] : List zD)
 pure (zD.mk e0.Kind e0.Num (zC.mk IndexCoefs IndexConst) (zK.mk ReadArray ReadSubs) Kids1)
 partial_fixpoint
def rA(e0 : zD)(t32 : Int)(Kids : List zD): Option (List zD):=do
 if(decide (t32<(e0.Kids.length : Int))) then
  let x <- idx e0.Kids t32
  let y2 <- mO (same x)
  let l <- app 112 Kids ([y2] : List zD)
  rA (same e0) (W (t32+1)) (same l)
 else
  pure (id Kids)
 partial_fixpoint
end
theorem zFa : (∀(e0 : zD) r,mO e0 = some r -> ∀{imm : Imm} {p : Option Addr} {c : Nat} {p1 : Option Addr} {c1 : Nat} {p2 : Option Addr} {c2 : Nat},(SL imm (vS p e0.Index.Coefs c) e0.Index.Coefs) -> (SL imm (vS p1 e0.Read.Subs c1) e0.Read.Subs) -> (SL imm (vS p2 e0.Kids c2) e0.Kids) -> Ret Tryz.prog 128 [vA [vI e0.Kind,vI e0.Num,vS p e0.Index.Coefs c,vI e0.Index.Const,vT e0.Read.Array.l,vS p1 e0.Read.Subs c1,vS p2 e0.Kids c2],.func (.func 82) ⟨[]⟩ ⟨[]⟩] imm [] (DPo r)) /\ (∀(e0 : zD) (t32 : Int) (Kids : List zD) o,rA e0 t32 Kids = some o -> ∀{B : Base} {imm0 imm : Imm} {Q : Exit -> Act -> World -> Prop} {IndexCoefs : List Int} {IndexConst : Int} {ReadArray : Str} {ReadSubs : List zC} {p2 : Option Addr} {c2 : Nat} {b1 : Nat} {b2 : Nat} {p3 : Option Addr} {c3 : Nat} {p4 : Option Addr} {c4 : Nat} {p8 : Option Addr} {c8 : Nat} {ae : List (RawN zD)} {X Z : List HA},imm0.le imm -> (SL imm (vS p2 e0.Kids c2) e0.Kids) -> (dpR X ae Kids) -> (∀gl a w,¬ Q (.goto gl) a w) -> (∀a w,¬ Q .outgrown a w) -> (∀(af : Imm) (Kids1 : List zD) (p9 : Option Addr) (c9 : Nat) (raws2 : List (RawN zD)) (X2 : List HA),o = Kids1 -> imm0.le af -> (dpR X2 raws2 Kids1) -> T 46 B Q (.exit 1) af (hO zD (vS p9 Kids1 c9) (flR raws2) :: hB b2 [vI e0.Kind,vI e0.Num,vS p3 IndexCoefs c3,vI IndexConst,vT ReadArray.l,vS p4 ReadSubs c4,vS p9 Kids1 c9] :: hB b1 [vI 0,vI 0,.slice none 0 0,vI 0,vT ([]),.slice none 0 0,.slice none 0 0] :: (Z++X2)) [(4,vP b1 0),(5,vP b2 0)]) -> J Tryz.prog 46 B (nav (bodyOf f128) [1,1,1,0,1,0]) Q imm (hO zD (vS p8 Kids c8) (flR ae) :: hB b2 [vI e0.Kind,vI e0.Num,vS p3 IndexCoefs c3,vI IndexConst,vT ReadArray.l,vS p4 ReadSubs c4,vS p8 Kids c8] :: hB b1 [vI 0,vI 0,.slice none 0 0,vI 0,vT ([]),.slice none 0 0,.slice none 0 0] :: (Z++X)) [(1,.func (.func 82) ⟨[]⟩ ⟨[]⟩),(4,vP b1 0),(5,vP b2 0),(30,vS p2 e0.Kids c2),(31,vI (e0.Kids.length : Int)),(32,vI t32)]):=by
 refine mO.mutual_partial_correctness (λe0 r => ∀{imm : Imm} {p : Option Addr} {c : Nat} {p1 : Option Addr} {c1 : Nat} {p2 : Option Addr} {c2 : Nat},(SL imm (vS p e0.Index.Coefs c) e0.Index.Coefs) -> (SL imm (vS p1 e0.Read.Subs c1) e0.Read.Subs) -> (SL imm (vS p2 e0.Kids c2) e0.Kids) -> Ret Tryz.prog 128 [vA [vI e0.Kind,vI e0.Num,vS p e0.Index.Coefs c,vI e0.Index.Const,vT e0.Read.Array.l,vS p1 e0.Read.Subs c1,vS p2 e0.Kids c2],.func (.func 82) ⟨[]⟩ ⟨[]⟩] imm [] (DPo r)) (λe0 t32 Kids o => ∀{B : Base} {imm0 imm : Imm} {Q : Exit -> Act -> World -> Prop} {IndexCoefs : List Int} {IndexConst : Int} {ReadArray : Str} {ReadSubs : List zC} {p2 : Option Addr} {c2 : Nat} {b1 : Nat} {b2 : Nat} {p3 : Option Addr} {c3 : Nat} {p4 : Option Addr} {c4 : Nat} {p8 : Option Addr} {c8 : Nat} {ae : List (RawN zD)} {X Z : List HA},imm0.le imm -> (SL imm (vS p2 e0.Kids c2) e0.Kids) -> (dpR X ae Kids) -> (∀gl a w,¬ Q (.goto gl) a w) -> (∀a w,¬ Q .outgrown a w) -> (∀(af : Imm) (Kids1 : List zD) (p9 : Option Addr) (c9 : Nat) (raws2 : List (RawN zD)) (X2 : List HA),o = Kids1 -> imm0.le af -> (dpR X2 raws2 Kids1) -> T 46 B Q (.exit 1) af (hO zD (vS p9 Kids1 c9) (flR raws2) :: hB b2 [vI e0.Kind,vI e0.Num,vS p3 IndexCoefs c3,vI IndexConst,vT ReadArray.l,vS p4 ReadSubs c4,vS p9 Kids1 c9] :: hB b1 [vI 0,vI 0,.slice none 0 0,vI 0,vT ([]),.slice none 0 0,.slice none 0 0] :: (Z++X2)) [(4,vP b1 0),(5,vP b2 0)]) -> J Tryz.prog 46 B (nav (bodyOf f128) [1,1,1,0,1,0]) Q imm (hO zD (vS p8 Kids c8) (flR ae) :: hB b2 [vI e0.Kind,vI e0.Num,vS p3 IndexCoefs c3,vI IndexConst,vT ReadArray.l,vS p4 ReadSubs c4,vS p8 Kids c8] :: hB b1 [vI 0,vI 0,.slice none 0 0,vI 0,vT ([]),.slice none 0 0,.slice none 0 0] :: (Z++X)) [(1,.func (.func 82) ⟨[]⟩ ⟨[]⟩),(4,vP b1 0),(5,vP b2 0),(30,vS p2 e0.Kids c2),(31,vI (e0.Kids.length : Int)),(32,vI t32)]) ?_ ?_
 ·intro F_impl_exprMap_l1 ih_impl_exprMap_l1 e0 r hM imm p c p1 c1 p2 c2 h h1 h2
  refine xW (fn:=f128) (c:=(bodyOf f128)) func128 rfl rfl ?_
  rintro B - -
  have ap : imm.le imm:=Imm.le.refl _
  refine zM <| zE <| eX (c:=⟨[vI e0.Kind,vI e0.Num,vS p e0.Index.Coefs c,vI e0.Index.Const,vT e0.Read.Array.l,vS p1 e0.Read.Subs c1,vS p2 e0.Kids c2]⟩) rfl rfl rfl rfl rfl ?_
  intro b hb
  refine xT (c:=⟨[vI 0,vI 0,.slice none 0 0,vI 0,vT ([]),.slice none 0 0,.slice none 0 0]⟩) rfl rfl rfl (by kernel_rfl) ?_
  intro b1 hb1
  refine zX rfl <| zH <| zM <| zE <| xF 5 [1,1] [(12,vA [vI e0.Kind,vI e0.Num,.slice none 0 0,vI 0,vT ([]),.slice none 0 0,.slice none 0 0])] <| xT (c:=⟨[vI 0,vI 0,.slice none 0 0,vI 0,vT ([]),.slice none 0 0,.slice none 0 0]⟩) rfl rfl rfl (by kernel_rfl) ?_
  intro b2 hb2
  refine uJ 0 [vI e0.Kind,vI e0.Num,.slice none 0 0,vI 0,vT ([]),.slice none 0 0,.slice none 0 0] [hB b2 [vI e0.Kind,vI e0.Num,.slice none 0 0,vI 0,vT ([]),.slice none 0 0,.slice none 0 0],hB b1 [vI 0,vI 0,.slice none 0 0,vI 0,vT ([]),.slice none 0 0,.slice none 0 0],hB b [vI e0.Kind,vI e0.Num,vS p e0.Index.Coefs c,vI e0.Index.Const,vT e0.Read.Array.l,vS p1 e0.Read.Subs c1,vS p2 e0.Kids c2]] rfl rfl rfl rfl <| zX rfl <| zH <| zM <| zM <| zE <| yO [2] [(14,vI e0.Kind)] <| zH <| zZ <| zM <| zE <| yO [] [(15,.bool (e0.Kind==2))] <| zH ?_
  obtain⟨o0,ay,aT⟩:=zF hM
  refine zA0 (λaf aj m' => ∃(IndexCoefs : List Int) (IndexConst : Int) (ReadArray : Str) (ReadSubs : List zC) (p3 : Option Addr) (c3 : Nat) (p4 : Option Addr) (c4 : Nat) (Z0 Z1 : List HA),o0 = (IndexCoefs,IndexConst,ReadArray,ReadSubs) /\ imm.le af /\ DS Z0 (vS p3 IndexCoefs c3) IndexCoefs /\ DS Z1 (vS p4 ReadSubs c4) ReadSubs /\ aj = hB b2 [vI e0.Kind,vI e0.Num,vS p3 IndexCoefs c3,vI IndexConst,vT ReadArray.l,vS p4 ReadSubs c4,.slice none 0 0] :: hB b1 [vI 0,vI 0,.slice none 0 0,vI 0,vT ([]),.slice none 0 0,.slice none 0 0] :: hB b [vI e0.Kind,vI e0.Num,vS p e0.Index.Coefs c,vI e0.Index.Const,vT e0.Read.Array.l,vS p1 e0.Read.Subs c1,vS p2 e0.Kids c2] :: (Z0++Z1) /\ m' = [(1,.func (.func 82) ⟨[]⟩ ⟨[]⟩),(2,vP b 0),(4,vP b1 0),(5,vP b2 0)]) ?_ ?_
  ·refine yD ay ?_ ?_
   ·intro hc hM
    refine zE <| xF 3 [2] [(17,.func (.func 82) ⟨[]⟩ ⟨[]⟩),(19,vA [vS p e0.Index.Coefs c,vI e0.Index.Const])] ?_
    obtain⟨y,hy,hM⟩:=zF hM
    refine uO rfl (zAK e0.Index _ hy h) ?_
    rintro imm01 Y v2 k2 le ⟨cs,rfl,h5⟩
    obtain⟨w0,rfl,h6⟩:=h5
    obtain⟨p5,c5,rfl⟩:=h6.form
    exact xF 5 [] [(21,vP b2 2)] <| uJ 0 [vI e0.Kind,vI e0.Num,vS p5 y.Coefs c5,vI y.Const,vT ([]),.slice none 0 0,.slice none 0 0] (hB b2 [vI e0.Kind,vI e0.Num,vS p5 y.Coefs c5,vI y.Const,vT ([]),.slice none 0 0,.slice none 0 0] :: hB b1 [vI 0,vI 0,.slice none 0 0,vI 0,vT ([]),.slice none 0 0,.slice none 0 0] :: hB b [vI e0.Kind,vI e0.Num,vS p e0.Index.Coefs c,vI e0.Index.Const,vT e0.Read.Array.l,vS p1 e0.Read.Subs c1,vS p2 e0.Kids c2] :: Y) rfl rfl rfl rfl <| zX rfl <| dZ [(1,.func (.func 82) ⟨[]⟩ ⟨[]⟩),(2,vP b 0),(4,vP b1 0),(5,vP b2 0)] <| wM (zHR 2) <| zY ⟨y.Coefs,y.Const,⟨[]⟩,[],p5,c5,none,0,Y,[_],(zB hM).symm,le,h6,.nil,rfl,rfl⟩
   ·intro hc hM
    refine zM <| zE <| yO [] [(22,.bool (e0.Kind==3))] <| zH ?_
    obtain⟨aO,aJ,hMc1⟩:=zF hM
    refine zA0 (λaf aj m' => ∃(ReadArray1 : Str) (ReadSubs1 : List zC) (p6 : Option Addr) (c6 : Nat) (Z1 : List HA),aO = (ReadArray1,ReadSubs1) /\ imm.le af /\ DS Z1 (vS p6 ReadSubs1 c6) ReadSubs1 /\ aj = hB b2 [vI e0.Kind,vI e0.Num,.slice none 0 0,vI 0,vT ReadArray1.l,vS p6 ReadSubs1 c6,.slice none 0 0] :: hB b1 [vI 0,vI 0,.slice none 0 0,vI 0,vT ([]),.slice none 0 0,.slice none 0 0] :: hB b [vI e0.Kind,vI e0.Num,vS p e0.Index.Coefs c,vI e0.Index.Const,vT e0.Read.Array.l,vS p1 e0.Read.Subs c1,vS p2 e0.Kids c2] :: Z1 /\ m' = [(1,.func (.func 82) ⟨[]⟩ ⟨[]⟩),(2,vP b 0),(4,vP b1 0),(5,vP b2 0)]) ?_ ?_
    ·refine yD aJ ?_ ?_
     ·intro aE hM
      refine zE <| xF 3 [2] [(25,vA [vT e0.Read.Array.l,vS p1 e0.Read.Subs c1]),(26,.func (.func 82) ⟨[]⟩ ⟨[]⟩)] ?_
      obtain⟨y1,aw,hM⟩:=zF hM
      refine uO rfl (zBR e0.Read _ aw h1) ?_
      rintro imm03 Y v2 k2 ai ⟨aM,rfl,h8⟩
      obtain⟨w0,rfl,h9⟩:=h8
      obtain⟨p7,c7,rfl⟩:=h9.form
      exact xF 5 [] [(28,vP b2 4)] <| uJ 0 [vI e0.Kind,vI e0.Num,.slice none 0 0,vI 0,vT y1.Array.l,vS p7 y1.Subs c7,.slice none 0 0] (hB b2 [vI e0.Kind,vI e0.Num,.slice none 0 0,vI 0,vT y1.Array.l,vS p7 y1.Subs c7,.slice none 0 0] :: hB b1 [vI 0,vI 0,.slice none 0 0,vI 0,vT ([]),.slice none 0 0,.slice none 0 0] :: hB b [vI e0.Kind,vI e0.Num,vS p e0.Index.Coefs c,vI e0.Index.Const,vT e0.Read.Array.l,vS p1 e0.Read.Subs c1,vS p2 e0.Kids c2] :: Y) rfl rfl rfl rfl <| zX rfl <| dZ [(1,.func (.func 82) ⟨[]⟩ ⟨[]⟩),(2,vP b 0),(4,vP b1 0),(5,vP b2 0)] <| zY ⟨_,_,_,_,Y,(zB hM).symm,ai,h9,rfl,rfl⟩
     ·intro aE hM
      exact zT <| dZ [(1,.func (.func 82) ⟨[]⟩ ⟨[]⟩),(2,vP b 0),(4,vP b1 0),(5,vP b2 0)] <| wM (zHR 2) <| zY ⟨⟨[]⟩,[],none,0,[_],(zB hM).symm,Imm.le.refl _,.nil,rfl,rfl⟩
    ·rintro imm02 aK m2 ⟨ReadArray1,ReadSubs1,p6,c6,Z1,heq,ax,h7,rfl,rfl⟩
     subst aO
     exact dZ [(1,.func (.func 82) ⟨[]⟩ ⟨[]⟩),(2,vP b 0),(4,vP b1 0),(5,vP b2 0)] <| wM (zJ9 1 [_,_,_] Z1) <| zY ⟨[],0,_,_,none,0,_,_,[_],Z1,(zB hMc1).symm,ax,.nil,h7,rfl,rfl⟩
  ·rintro imm0 aK m2 ⟨IndexCoefs,IndexConst,ReadArray,ReadSubs,p3,c3,p4,c4,Z0,Z1,heq1,aR,h3,h4,rfl,rfl⟩
   subst o0
   replace h2:=h2.mono aR
   refine zQ <| zH <| zM <| zM <| zE <| yO [2] [(30,vS p2 e0.Kids c2),(31,vI (e0.Kids.length : Int)),(32,vI 0)] <| zH <| zZ <| kU (aj:=hO zD (vS none ([] : List zD) 0) (flR ([] : List (RawN zD))) :: hB b2 [vI e0.Kind,vI e0.Num,vS p3 IndexCoefs c3,vI IndexConst,vT ReadArray.l,vS p4 ReadSubs c4,vS none ([] : List zD) 0] :: hB b1 [vI 0,vI 0,.slice none 0 0,vI 0,vT ([]),.slice none 0 0,.slice none 0 0] :: ((Z0++Z1)++[])) (λw g=>by rw[ce];exact(uI 2 rfl w g).nil_osl _) <| rX [(1,.func (.func 82) ⟨[]⟩ ⟨[]⟩),(4,vP b1 0),(5,vP b2 0),(30,vS p2 e0.Kids c2),(31,vI (e0.Kids.length : Int)),(32,vI 0)] ?_
   obtain⟨o02,ho02,aB⟩:=zF aT
   refine ih_impl_exprMap_l1 e0 0 ([] : List zD) o02 ho02 (Imm.le.refl _) h2 .nil (λ_ _ _ h=>h) (λ_ _ h=>h) ?_
   intro imm07 Kids1 p9 c9 raws2 X2 heq2 le7 h12
   subst o02
   refine zU <| zH <| zM <| zE <| xF 1 [1] [(45,vA [vI e0.Kind,vI e0.Num,vS p3 IndexCoefs c3,vI IndexConst,vT ReadArray.l,vS p4 ReadSubs c4,vS p9 Kids1 c9])] <| uJ 2 [vI e0.Kind,vI e0.Num,vS p3 IndexCoefs c3,vI IndexConst,vT ReadArray.l,vS p4 ReadSubs c4,vS p9 Kids1 c9] (hO zD (vS p9 Kids1 c9) (flR raws2) :: hB b2 [vI e0.Kind,vI e0.Num,vS p3 IndexCoefs c3,vI IndexConst,vT ReadArray.l,vS p4 ReadSubs c4,vS p9 Kids1 c9] :: hB b1 [vI e0.Kind,vI e0.Num,vS p3 IndexCoefs c3,vI IndexConst,vT ReadArray.l,vS p4 ReadSubs c4,vS p9 Kids1 c9] :: ((Z0++Z1)++X2)) rfl rfl rfl rfl <| zX rfl <| zH <| yF ?_
   obtain rfl:=zB aB
   exact yV ⟨_,Z0++(Z1++(hO zD (vS p9 Kids1 c9) (flR raws2) :: X2)),(.cell 2 rfl rfl (by kernel_rfl) ResV.nil),(λw g=>(uI 1 rfl w (uI 1 rfl w g)).perm (by rw[bZ];exact pm2 Z0 Z1 [_] X2)),⟨_,rfl,zAH (e:=zD.mk e0.Kind e0.Num (zC.mk IndexCoefs IndexConst) (zK.mk ReadArray ReadSubs) Kids1) h3 h4 (.mk' h12)⟩⟩
 ·intro F_impl_exprMap F_impl_exprMap_l1 ih_impl_exprMap ih_impl_exprMap_l1 e0 t32 Kids o hM B imm0 imm Q IndexCoefs IndexConst ReadArray ReadSubs p2 c2 b1 b2 p3 c3 p4 c4 p8 c8 ae X Z ap h2 hd hg ho hx
  refine yK hg ho <| zM <| zE <| yO [] [(33,.bool (decide (t32<(e0.Kids.length : Int))))] <| zH <| zM <| yD hM ?_ ?_
  ·intro aQ hM
   refine zT <| zH <| zM <| zZ <| zM <| zE ?_
   obtain⟨x,aw,hM⟩:=zF hM
   refine xL rfl rfl h2 aw ?_
   intro ad aF av aq
   obtain⟨v60,v61,v62,rfl,m0,m1,m2⟩:=zAq aq
   obtain⟨p60,c60,rfl⟩:=m0.form
   obtain⟨p61,c61,rfl⟩:=m1.form
   obtain⟨p62,c62,rfl⟩:=m2.form
   refine yY 0 av [vI x.Kind,vI x.Num,vS p60 x.Index.Coefs c60,vI x.Index.Const,vT x.Read.Array.l,vS p61 x.Read.Subs c61,vS p62 x.Kids c62] (vA [vI x.Kind,vI x.Num,vS p60 x.Index.Coefs c60,vI x.Index.Const,vT x.Read.Array.l,vS p61 x.Read.Subs c61,vS p62 x.Kids c62]) rfl <| xT (c:=⟨[vI 0,vI 0,.slice none 0 0,vI 0,vT ([]),.slice none 0 0,.slice none 0 0]⟩) rfl rfl rfl (by kernel_rfl) ?_
   intro b3 hb3
   refine uJ 0 [vI x.Kind,vI x.Num,vS p60 x.Index.Coefs c60,vI x.Index.Const,vT x.Read.Array.l,vS p61 x.Read.Subs c61,vS p62 x.Kids c62] (hB b3 [vI x.Kind,vI x.Num,vS p60 x.Index.Coefs c60,vI x.Index.Const,vT x.Read.Array.l,vS p61 x.Read.Subs c61,vS p62 x.Kids c62] :: hO zD (vS p8 Kids c8) (flR ae) :: hB b2 [vI e0.Kind,vI e0.Num,vS p3 IndexCoefs c3,vI IndexConst,vT ReadArray.l,vS p4 ReadSubs c4,vS p8 Kids c8] :: hB b1 [vI 0,vI 0,.slice none 0 0,vI 0,vT ([]),.slice none 0 0,.slice none 0 0] :: (Z++X)) rfl rfl rfl rfl <| zX rfl <| zH ?_
   obtain⟨y,aI,hM⟩:=zF hM
   obtain⟨l,aW,hM⟩:=zF hM
   refine uX [.p (vP b2 6) [],.p (vS p8 Kids c8) [1],.p (vA [vI x.Kind,vI x.Num,vS p60 x.Index.Coefs c60,vI x.Index.Const,vT x.Read.Array.l,vS p61 x.Read.Subs c61,vS p62 x.Kids c62]) [0],.p (.func (.func 82) ⟨[]⟩ ⟨[]⟩) [],.x (λaf v hx => ∃(q0 : Option Addr) (d0 : Nat) (q1 : Option Addr) (d1 : Nat) (q2 : Option Addr) (d2 : Nat),v = vA [vI y.Kind,vI y.Num,vS q0 y.Index.Coefs d0,vI y.Index.Const,vT y.Read.Array.l,vS q1 y.Read.Subs d1,vS q2 y.Kids d2] /\ Dp.dp hx [vI y.Kind,vI y.Num,vS q0 y.Index.Coefs d0,vI y.Index.Const,vT y.Read.Array.l,vS q1 y.Read.Subs d1,vS q2 y.Kids d2] y),.x (λaf v hx => ∃(b4 : Nat) (cs : List Value),v = vS (some ⟨b4,0,none⟩) ([⟨cs⟩] : List (RawN zD)) 1 /\ SL af (vS (some ⟨b4,0,none⟩) ([⟨cs⟩] : List (RawN zD)) 1) ([⟨cs⟩] : List (RawN zD)) /\ Dp.dp hx cs y),.x (λaf v hx => ∃(p5 : Option Addr) (c5 : Nat) (raws2 : List (RawN zD)) (X2 : List HA),v = vS p5 l c5 /\ hx = hO zD (vS p5 l c5) (flR raws2) :: X2 /\ dpR X2 raws2 l)] [[],[(0,false)],[],[],[(2,false),(3,false)],[(4,true)],[(1,false),(5,true),(9,true)]] (hB b3 [vI x.Kind,vI x.Num,vS p60 x.Index.Coefs c60,vI x.Index.Const,vT x.Read.Array.l,vS p61 x.Read.Subs c61,vS p62 x.Kids c62] :: hB b2 [vI e0.Kind,vI e0.Num,vS p3 IndexCoefs c3,vI IndexConst,vT ReadArray.l,vS p4 ReadSubs c4,vS p8 Kids c8] :: hB b1 [vI 0,vI 0,.slice none 0 0,vI 0,vT ([]),.slice none 0 0,.slice none 0 0] :: Z) [hO zD (vS p8 Kids c8) (flR ae) :: X] [(6,true)] (zF7 [_] (_ :: _ :: Z) _ _) ?_ ?_
   ·refine Op <| Op <| Op <| Op <| Ox ?_ <| Ox ?_ <| Ox ?_ <| On
    ·intro imm1 hf ai
     refine yI ?_
     rintro _ _ ⟨rfl,rfl⟩
     refine yI ?_
     rintro _ _ ⟨rfl,rfl⟩
     refine xQ <| tQ (hB b3 [vI x.Kind,vI x.Num,vS p60 x.Index.Coefs c60,vI x.Index.Const,vT x.Read.Array.l,vS p61 x.Read.Subs c61,vS p62 x.Kids c62] :: hB b2 [vI e0.Kind,vI e0.Num,vS p3 IndexCoefs c3,vI IndexConst,vT ReadArray.l,vS p4 ReadSubs c4,vS p8 Kids c8] :: hB b1 [vI 0,vI 0,.slice none 0 0,vI 0,vT ([]),.slice none 0 0,.slice none 0 0] :: (Z++hf)) [(38,vA [vI x.Kind,vI x.Num,vS p60 x.Index.Coefs c60,vI x.Index.Const,vT x.Read.Array.l,vS p61 x.Read.Subs c61,vS p62 x.Kids c62]),(39,.func (.func 82) ⟨[]⟩ ⟨[]⟩)] ?_
     refine uZ (hs1:=[]) (rest:=(hB b3 [vI x.Kind,vI x.Num,vS p60 x.Index.Coefs c60,vI x.Index.Const,vT x.Read.Array.l,vS p61 x.Read.Subs c61,vS p62 x.Kids c62] :: hB b2 [vI e0.Kind,vI e0.Num,vS p3 IndexCoefs c3,vI IndexConst,vT ReadArray.l,vS p4 ReadSubs c4,vS p8 Kids c8] :: hB b1 [vI 0,vI 0,.slice none 0 0,vI 0,vT ([]),.slice none 0 0,.slice none 0 0] :: (Z++hf))) rfl rfl rfl rfl (by kernel_rfl) rfl rfl (ih_impl_exprMap x _ aI (m0.mono ai) (m1.mono ai) (m2.mono ai)) ?_
     rintro imm2 Y v2 k2 ax - ⟨aV,rfl,hD⟩ -
     have g70:=eH hD
     obtain⟨w70,w71,w72,_,_,_,rfl,-,k70,k71,k72⟩:=g70
     obtain⟨p70,c70,rfl⟩:=k70.form
     obtain⟨p71,c71,rfl⟩:=k71.form
     obtain⟨p72,c72,rfl⟩:=k72.form
     exact rY (hx:=Y) rfl ax rfl (xX rfl) ⟨_,_,_,_,_,_,rfl,hD⟩
    ·intro imm1 hf ai
     refine yI ?_
     rintro _ Y ⟨q0,d0,q1,d1,q2,d2,rfl,hD⟩
     refine xQ <| tQ (Y++(hB b3 [vI x.Kind,vI x.Num,vS p60 x.Index.Coefs c60,vI x.Index.Const,vT x.Read.Array.l,vS p61 x.Read.Subs c61,vS p62 x.Kids c62] :: hB b2 [vI e0.Kind,vI e0.Num,vS p3 IndexCoefs c3,vI IndexConst,vT ReadArray.l,vS p4 ReadSubs c4,vS p8 Kids c8] :: hB b1 [vI 0,vI 0,.slice none 0 0,vI 0,vT ([]),.slice none 0 0,.slice none 0 0] :: (Z++hf))) [(40,vA [vI y.Kind,vI y.Num,vS q0 y.Index.Coefs d0,vI y.Index.Const,vT y.Read.Array.l,vS q1 y.Read.Subs d1,vS q2 y.Kids d2])] ?_
     refine nM (cs:=[vI y.Kind,vI y.Num,vS q0 y.Index.Coefs d0,vI y.Index.Const,vT y.Read.Array.l,vS q1 y.Read.Subs d1,vS q2 y.Kids d2]) (Rp.sz zD) rfl rfl rfl rfl (by kernel_rfl) (by kernel_rfl) ?_
     intro b4 hb4
     have h7 : RL imm1 [vI y.Kind,vI y.Num,vS q0 y.Index.Coefs d0,vI y.Index.Const,vT y.Read.Array.l,vS q1 y.Read.Subs d1,vS q2 y.Kids d2] ([⟨[vI y.Kind,vI y.Num,vS q0 y.Index.Coefs d0,vI y.Index.Const,vT y.Read.Array.l,vS q1 y.Read.Subs d1,vS q2 y.Kids d2]⟩] : List (RawN zD)):=⟨_,[],rfl,rfl,⟨rfl,okC.out (by kernel_rfl)⟩,rfl⟩
     refine tP 0 rfl ?_
     intro imm2 ax hl0
     have h8:=SL.of_frozen (α:=RawN zD) hl0 ax h7
     exact rY (hx:=Y) rfl ax rfl (xX rfl) ⟨b4,_,rfl,h8,hD⟩
    ·intro imm1 hf ai
     refine yI ?_
     rintro _ _ ⟨rfl,rfl⟩
     refine yI ?_
     rintro _ Y ⟨b4,aV,rfl,h8,hD⟩
     refine yI ?_
     rintro _ _ rfl
     refine xQ <| tQ (hO zD (vS p8 Kids c8) (flR ae) :: (X++(Y++(hB b3 [vI x.Kind,vI x.Num,vS p60 x.Index.Coefs c60,vI x.Index.Const,vT x.Read.Array.l,vS p61 x.Read.Subs c61,vS p62 x.Kids c62] :: hB b2 [vI e0.Kind,vI e0.Num,vS p3 IndexCoefs c3,vI IndexConst,vT ReadArray.l,vS p4 ReadSubs c4,vS p8 Kids c8] :: hB b1 [vI 0,vI 0,.slice none 0 0,vI 0,vT ([]),.slice none 0 0,.slice none 0 0] :: (Z++hf))))) [(37,vS p8 Kids c8),(41,vS (some ⟨b4,0,none⟩) ([⟨aV⟩] : List (RawN zD)) 1)] ?_
     refine zGl 53 7 rfl rfl hd hD h8.src aW ?_
     intro p5 c5 raws2 h9
     exact rY (hx:=hO zD (vS p5 l c5) (flR raws2) :: (X++Y)) rfl (Imm.le.refl _) (app3 _ _ _ _) (xX rfl) ⟨_,_,_,_,rfl,rfl,h9⟩
   ·intro imm2 ax
    refine yI ?_
    rintro _ _ ⟨p5,c5,raws2,X2,rfl,rfl,h9⟩
    refine xQ <| tQ (hO zD (vS p5 l c5) (flR raws2) :: (X2++(hB b3 [vI x.Kind,vI x.Num,vS p60 x.Index.Coefs c60,vI x.Index.Const,vT x.Read.Array.l,vS p61 x.Read.Subs c61,vS p62 x.Kids c62] :: hB b2 [vI e0.Kind,vI e0.Num,vS p3 IndexCoefs c3,vI IndexConst,vT ReadArray.l,vS p4 ReadSubs c4,vS p8 Kids c8] :: hB b1 [vI 0,vI 0,.slice none 0 0,vI 0,vT ([]),.slice none 0 0,.slice none 0 0] :: Z))) [(1,.func (.func 82) ⟨[]⟩ ⟨[]⟩),(4,vP b1 0),(5,vP b2 0),(30,vS p2 e0.Kids c2),(31,vI (e0.Kids.length : Int)),(32,vI t32),(42,vS p5 l c5)] ?_
    refine zCF (hO zD (vS p5 l c5) (flR raws2) :: hB b3 [vI x.Kind,vI x.Num,vS p60 x.Index.Coefs c60,vI x.Index.Const,vT x.Read.Array.l,vS p61 x.Read.Subs c61,vS p62 x.Kids c62] :: hB b2 [vI e0.Kind,vI e0.Num,vS p3 IndexCoefs c3,vI IndexConst,vT ReadArray.l,vS p4 ReadSubs c4,vS p8 Kids c8] :: hB b1 [vI 0,vI 0,.slice none 0 0,vI 0,vT ([]),.slice none 0 0,.slice none 0 0] :: (Z++X2)) (cf.cons _) ?_
    exact xF 8 [] [(43,vP b2 6)] <| uJ 2 [vI e0.Kind,vI e0.Num,vS p3 IndexCoefs c3,vI IndexConst,vT ReadArray.l,vS p4 ReadSubs c4,vS p5 l c5] (hO zD (vS p5 l c5) (flR raws2) :: hB b3 [vI x.Kind,vI x.Num,vS p60 x.Index.Coefs c60,vI x.Index.Const,vT x.Read.Array.l,vS p61 x.Read.Subs c61,vS p62 x.Kids c62] :: hB b2 [vI e0.Kind,vI e0.Num,vS p3 IndexCoefs c3,vI IndexConst,vT ReadArray.l,vS p4 ReadSubs c4,vS p5 l c5] :: hB b1 [vI 0,vI 0,.slice none 0 0,vI 0,vT ([]),.slice none 0 0,.slice none 0 0] :: (Z++X2)) rfl rfl rfl rfl <| zX rfl <| zQ <| zH <| zE <| yO [] [(32,vI (W (t32+1)))] <| yL <| kU (uI 1 rfl) <| rX [(1,.func (.func 82) ⟨[]⟩ ⟨[]⟩),(4,vP b1 0),(5,vP b2 0),(30,vS p2 e0.Kids c2),(31,vI (e0.Kids.length : Int)),(32,vI (W (t32+1)))] <| ih_impl_exprMap_l1 e0 (W (t32+1)) l _ hM (ap.trans ax) (h2.mono ax) h9 hg ho hx
  ·intro aQ hM
   exact oO <| yH <| yH <| dZ [(4,vP b1 0),(5,vP b2 0)] <| hx _ _ _ _ _ _ (zB hM).symm ap hd
theorem zGE : ∀(e0 : zD) r,mO e0 = some r -> ∀{imm : Imm} {p : Option Addr} {c : Nat} {p1 : Option Addr} {c1 : Nat} {p2 : Option Addr} {c2 : Nat},(SL imm (vS p e0.Index.Coefs c) e0.Index.Coefs) -> (SL imm (vS p1 e0.Read.Subs c1) e0.Read.Subs) -> (SL imm (vS p2 e0.Kids c2) e0.Kids) -> Ret Tryz.prog 128 [vA [vI e0.Kind,vI e0.Num,vS p e0.Index.Coefs c,vI e0.Index.Const,vT e0.Read.Array.l,vS p1 e0.Read.Subs c1,vS p2 e0.Kids c2],.func (.func 82) ⟨[]⟩ ⟨[]⟩] imm [] (DPo r):=zFa.1
def eN(s : zJ): Option (zJ):=do
 let y <- mA s.Write
 let y1 <- mO s.Value
 pure (zJ.mk y y1)
theorem zGF : ∀(s : zJ) r,eN s = some r -> ∀{imm : Imm} {p : Option Addr} {c : Nat} {p1 : Option Addr} {c1 : Nat} {p2 : Option Addr} {c2 : Nat} {p3 : Option Addr} {c3 : Nat},(SL imm (vS p s.Write.Subs c) s.Write.Subs) -> (SL imm (vS p1 s.Value.Index.Coefs c1) s.Value.Index.Coefs) -> (SL imm (vS p2 s.Value.Read.Subs c2) s.Value.Read.Subs) -> (SL imm (vS p3 s.Value.Kids c3) s.Value.Kids) -> Ret Tryz.prog 81 [vA [vT s.Write.Array.l,vS p s.Write.Subs c,vI s.Value.Kind,vI s.Value.Num,vS p1 s.Value.Index.Coefs c1,vI s.Value.Index.Const,vT s.Value.Read.Array.l,vS p2 s.Value.Read.Subs c2,vS p3 s.Value.Kids c3],.func (.func 82) ⟨[]⟩ ⟨[]⟩] imm [] (DPo r):=by
 intro s r hM imm p c p1 c1 p2 c2 p3 c3 h h1 h2 h3
 unfold eN at hM
 refine xW (fn:=f81) (c:=(bodyOf f81)) func81 rfl rfl ?_
 rintro B - -
 have ap : imm.le imm:=Imm.le.refl _
 refine zM <| zE <| eX (c:=⟨[vT s.Write.Array.l,vS p s.Write.Subs c,vI s.Value.Kind,vI s.Value.Num,vS p1 s.Value.Index.Coefs c1,vI s.Value.Index.Const,vT s.Value.Read.Array.l,vS p2 s.Value.Read.Subs c2,vS p3 s.Value.Kids c3]⟩) rfl rfl rfl rfl rfl ?_
 intro b hb
 refine xT (c:=⟨[vT ([]),.slice none 0 0,vI 0,vI 0,.slice none 0 0,vI 0,vT ([]),.slice none 0 0,.slice none 0 0]⟩) rfl rfl rfl (by kernel_rfl) ?_
 intro b1 hb1
 refine zX rfl <| zH <| zM ?_
 obtain⟨y,hy,hM⟩:=zF hM
 obtain⟨y1,aw,hM⟩:=zF hM
 refine uX [.p (vP b 0) [],.p (vA [vT s.Write.Array.l,vS p s.Write.Subs c]) [1],.p (.func (.func 82) ⟨[]⟩ ⟨[]⟩) [],.x (λaf v hx => ∃(q0 : Option Addr) (d0 : Nat),v = vA [vT y.Array.l,vS q0 y.Subs d0] /\ Dp.dp hx [vT y.Array.l,vS q0 y.Subs d0] y),.p (vP b 2) [],.p (vA [vI s.Value.Kind,vI s.Value.Num,vS p1 s.Value.Index.Coefs c1,vI s.Value.Index.Const,vT s.Value.Read.Array.l,vS p2 s.Value.Read.Subs c2,vS p3 s.Value.Kids c3]) [1],.p (.func (.func 82) ⟨[]⟩ ⟨[]⟩) [],.x (λaf v hx => ∃(q1 : Option Addr) (d1 : Nat) (q2 : Option Addr) (d2 : Nat) (q3 : Option Addr) (d3 : Nat),v = vA [vI y1.Kind,vI y1.Num,vS q1 y1.Index.Coefs d1,vI y1.Index.Const,vT y1.Read.Array.l,vS q2 y1.Read.Subs d2,vS q3 y1.Kids d3] /\ Dp.dp hx [vI y1.Kind,vI y1.Num,vS q1 y1.Index.Coefs d1,vI y1.Index.Const,vT y1.Read.Array.l,vS q2 y1.Read.Subs d2,vS q3 y1.Kids d3] y1),.x (λaf v hx => ∃(q0 : Option Addr) (d0 : Nat) (q1 : Option Addr) (d1 : Nat) (q2 : Option Addr) (d2 : Nat) (q3 : Option Addr) (d3 : Nat),v = vA [vT y.Array.l,vS q0 y.Subs d0,vI y1.Kind,vI y1.Num,vS q1 y1.Index.Coefs d1,vI y1.Index.Const,vT y1.Read.Array.l,vS q2 y1.Read.Subs d2,vS q3 y1.Kids d3] /\ Dp.dp hx [vT y.Array.l,vS q0 y.Subs d0,vI y1.Kind,vI y1.Num,vS q1 y1.Index.Coefs d1,vI y1.Index.Const,vT y1.Read.Array.l,vS q2 y1.Read.Subs d2,vS q3 y1.Kids d3] (zJ.mk y y1))] [[],[(0,false)],[],[(1,false),(2,false)],[],[(4,false)],[],[(5,false),(6,false)],[(7,true),(3,true)]] [hB b1 [vT ([]),.slice none 0 0,vI 0,vI 0,.slice none 0 0,vI 0,vT ([]),.slice none 0 0,.slice none 0 0],hB b [vT s.Write.Array.l,vS p s.Write.Subs c,vI s.Value.Kind,vI s.Value.Num,vS p1 s.Value.Index.Coefs c1,vI s.Value.Index.Const,vT s.Value.Read.Array.l,vS p2 s.Value.Read.Subs c2,vS p3 s.Value.Kids c3]] [] [(8,true)] (yN [0,1] rfl (by decide)) ?_ ?_
 ·refine Op <| Op <| Op <| Ox ?_ <| Op <| Op <| Op <| Ox ?_ <| Ox ?_ <| On
  ·intro imm1 hf ai
   refine yI ?_
   rintro _ _ ⟨rfl,rfl⟩
   refine yI ?_
   rintro _ _ ⟨rfl,rfl⟩
   refine xQ <| tQ (hB b1 [vT ([]),.slice none 0 0,vI 0,vI 0,.slice none 0 0,vI 0,vT ([]),.slice none 0 0,.slice none 0 0] :: hB b [vT s.Write.Array.l,vS p s.Write.Subs c,vI s.Value.Kind,vI s.Value.Num,vS p1 s.Value.Index.Coefs c1,vI s.Value.Index.Const,vT s.Value.Read.Array.l,vS p2 s.Value.Read.Subs c2,vS p3 s.Value.Kids c3] :: hf) [(6,vA [vT s.Write.Array.l,vS p s.Write.Subs c]),(7,.func (.func 82) ⟨[]⟩ ⟨[]⟩)] ?_
   refine uZ (hs1:=[]) (rest:=(hB b1 [vT ([]),.slice none 0 0,vI 0,vI 0,.slice none 0 0,vI 0,vT ([]),.slice none 0 0,.slice none 0 0] :: hB b [vT s.Write.Array.l,vS p s.Write.Subs c,vI s.Value.Kind,vI s.Value.Num,vS p1 s.Value.Index.Coefs c1,vI s.Value.Index.Const,vT s.Value.Read.Array.l,vS p2 s.Value.Read.Subs c2,vS p3 s.Value.Kids c3] :: hf)) rfl rfl rfl rfl (by kernel_rfl) rfl rfl (zBR s.Write _ hy (h.mono ai)) ?_
   rintro imm2 Y v2 k2 ax - ⟨aV,rfl,hD⟩ -
   have hD2:=hD
   obtain⟨w0,rfl,k0⟩:=hD2
   obtain⟨q0,d0,rfl⟩:=k0.form
   exact rY (hx:=Y) rfl ax rfl (xX rfl) ⟨_,_,rfl,hD⟩
  ·intro imm1 hf ai
   refine yI ?_
   rintro _ _ ⟨rfl,rfl⟩
   refine yI ?_
   rintro _ _ ⟨rfl,rfl⟩
   refine xQ <| tQ (hB b1 [vT ([]),.slice none 0 0,vI 0,vI 0,.slice none 0 0,vI 0,vT ([]),.slice none 0 0,.slice none 0 0] :: hB b [vT s.Write.Array.l,vS p s.Write.Subs c,vI s.Value.Kind,vI s.Value.Num,vS p1 s.Value.Index.Coefs c1,vI s.Value.Index.Const,vT s.Value.Read.Array.l,vS p2 s.Value.Read.Subs c2,vS p3 s.Value.Kids c3] :: hf) [(10,vA [vI s.Value.Kind,vI s.Value.Num,vS p1 s.Value.Index.Coefs c1,vI s.Value.Index.Const,vT s.Value.Read.Array.l,vS p2 s.Value.Read.Subs c2,vS p3 s.Value.Kids c3]),(11,.func (.func 82) ⟨[]⟩ ⟨[]⟩)] ?_
   refine uZ (hs1:=[]) (rest:=(hB b1 [vT ([]),.slice none 0 0,vI 0,vI 0,.slice none 0 0,vI 0,vT ([]),.slice none 0 0,.slice none 0 0] :: hB b [vT s.Write.Array.l,vS p s.Write.Subs c,vI s.Value.Kind,vI s.Value.Num,vS p1 s.Value.Index.Coefs c1,vI s.Value.Index.Const,vT s.Value.Read.Array.l,vS p2 s.Value.Read.Subs c2,vS p3 s.Value.Kids c3] :: hf)) rfl rfl rfl rfl (by kernel_rfl) rfl rfl (zGE s.Value _ aw (h1.mono ai) (h2.mono ai) (h3.mono ai)) ?_
   rintro imm2 Y v2 k2 ax - ⟨aV,rfl,hD⟩ -
   have hD2:=eH hD
   obtain⟨w1,w2,w3,_,_,_,rfl,-,k1,k2,k3⟩:=hD2
   obtain⟨q1,d1,rfl⟩:=k1.form
   obtain⟨q2,d2,rfl⟩:=k2.form
   obtain⟨q3,d3,rfl⟩:=k3.form
   exact rY (hx:=Y) rfl ax rfl (xX rfl) ⟨_,_,_,_,_,_,rfl,hD⟩
  ·intro imm1 hf ai
   refine yI ?_
   rintro _ Y1 ⟨q1,d1,q2,d2,q3,d3,rfl,hD1⟩
   refine yI ?_
   rintro _ Y0 ⟨q0,d0,rfl,hD0⟩
   refine xQ <| tQ (Y0++(Y1++(hB b1 [vT ([]),.slice none 0 0,vI 0,vI 0,.slice none 0 0,vI 0,vT ([]),.slice none 0 0,.slice none 0 0] :: hB b [vT s.Write.Array.l,vS p s.Write.Subs c,vI s.Value.Kind,vI s.Value.Num,vS p1 s.Value.Index.Coefs c1,vI s.Value.Index.Const,vT s.Value.Read.Array.l,vS p2 s.Value.Read.Subs c2,vS p3 s.Value.Kids c3] :: hf))) [(8,vA [vT y.Array.l,vS q0 y.Subs d0]),(12,vA [vI y1.Kind,vI y1.Num,vS q1 y1.Index.Coefs d1,vI y1.Index.Const,vT y1.Read.Array.l,vS q2 y1.Read.Subs d2,vS q3 y1.Kids d3])] ?_
   exact nP 9 [(13,vA [vT y.Array.l,vS q0 y.Subs d0,vI y1.Kind,vI y1.Num,vS q1 y1.Index.Coefs d1,vI y1.Index.Const,vT y1.Read.Array.l,vS q2 y1.Read.Subs d2,vS q3 y1.Kids d3])] <| rY (hx:=Y0++Y1) rfl (Imm.le.refl _) (bZ ..).symm (xX rfl) ⟨_,_,_,_,_,_,_,_,rfl,⟨[vT y.Array.l,vS q0 y.Subs d0],[vI y1.Kind,vI y1.Num,vS q1 y1.Index.Coefs d1,vI y1.Index.Const,vT y1.Read.Array.l,vS q2 y1.Read.Subs d2,vS q3 y1.Kids d3],Y0,Y1,rfl,rfl,hD0,hD1⟩⟩
 ·intro imm02 ax
  refine yI ?_
  rintro _ Y ⟨q0,d0,q1,d1,q2,d2,q3,d3,rfl,hD⟩
  refine xQ <| tQ (Y++[hB b1 [vT ([]),.slice none 0 0,vI 0,vI 0,.slice none 0 0,vI 0,vT ([]),.slice none 0 0,.slice none 0 0],hB b [vT s.Write.Array.l,vS p s.Write.Subs c,vI s.Value.Kind,vI s.Value.Num,vS p1 s.Value.Index.Coefs c1,vI s.Value.Index.Const,vT s.Value.Read.Array.l,vS p2 s.Value.Read.Subs c2,vS p3 s.Value.Kids c3]]) [(4,vP b1 0),(13,vA [vT y.Array.l,vS q0 y.Subs d0,vI y1.Kind,vI y1.Num,vS q1 y1.Index.Coefs d1,vI y1.Index.Const,vT y1.Read.Array.l,vS q2 y1.Read.Subs d2,vS q3 y1.Kids d3])] ?_
  refine zCF (hB b1 [vT ([]),.slice none 0 0,vI 0,vI 0,.slice none 0 0,vI 0,vT ([]),.slice none 0 0,.slice none 0 0] :: hB b [vT s.Write.Array.l,vS p s.Write.Subs c,vI s.Value.Kind,vI s.Value.Num,vS p1 s.Value.Index.Coefs c1,vI s.Value.Index.Const,vT s.Value.Read.Array.l,vS p2 s.Value.Read.Subs c2,vS p3 s.Value.Kids c3] :: Y) cf ?_
  refine uJ 0 [vT y.Array.l,vS q0 y.Subs d0,vI y1.Kind,vI y1.Num,vS q1 y1.Index.Coefs d1,vI y1.Index.Const,vT y1.Read.Array.l,vS q2 y1.Read.Subs d2,vS q3 y1.Kids d3] (hB b1 [vT y.Array.l,vS q0 y.Subs d0,vI y1.Kind,vI y1.Num,vS q1 y1.Index.Coefs d1,vI y1.Index.Const,vT y1.Read.Array.l,vS q2 y1.Read.Subs d2,vS q3 y1.Kids d3] :: hB b [vT s.Write.Array.l,vS p s.Write.Subs c,vI s.Value.Kind,vI s.Value.Num,vS p1 s.Value.Index.Coefs c1,vI s.Value.Index.Const,vT s.Value.Read.Array.l,vS p2 s.Value.Read.Subs c2,vS p3 s.Value.Kids c3] :: Y) rfl rfl rfl rfl <| zX rfl <| zH <| yF ?_
  obtain rfl:=zB hM
  exact yV ⟨_,Y,(.cell 0 rfl rfl (by kernel_rfl) ResV.nil),(λ_ g=>g.tail.tail),⟨_,rfl,hD⟩⟩
def gD(s : zJ): Option (zJ):=do
 let y <- eN s
 pure (id y)
theorem zCU : ∀(s : zJ) r,gD s = some r -> ∀{imm : Imm} {p : Option Addr} {c : Nat} {p1 : Option Addr} {c1 : Nat} {p2 : Option Addr} {c2 : Nat} {p3 : Option Addr} {c3 : Nat},(SL imm (vS p s.Write.Subs c) s.Write.Subs) -> (SL imm (vS p1 s.Value.Index.Coefs c1) s.Value.Index.Coefs) -> (SL imm (vS p2 s.Value.Read.Subs c2) s.Value.Read.Subs) -> (SL imm (vS p3 s.Value.Kids c3) s.Value.Kids) -> Ret Tryz.prog 44 [vA [vT s.Write.Array.l,vS p s.Write.Subs c,vI s.Value.Kind,vI s.Value.Num,vS p1 s.Value.Index.Coefs c1,vI s.Value.Index.Const,vT s.Value.Read.Array.l,vS p2 s.Value.Read.Subs c2,vS p3 s.Value.Kids c3]] imm [] (DPo r):=by
 intro s r hM imm p c p1 c1 p2 c2 p3 c3 h h1 h2 h3
 unfold gD at hM
 refine xW (fn:=f44) (c:=(bodyOf f44)) func44 rfl rfl ?_
 rintro B - -
 have ap : imm.le imm:=Imm.le.refl _
 refine zM <| zE <| eX (c:=⟨[vT s.Write.Array.l,vS p s.Write.Subs c,vI s.Value.Kind,vI s.Value.Num,vS p1 s.Value.Index.Coefs c1,vI s.Value.Index.Const,vT s.Value.Read.Array.l,vS p2 s.Value.Read.Subs c2,vS p3 s.Value.Kids c3]⟩) rfl rfl rfl rfl rfl ?_
 intro b hb
 refine xT (c:=⟨[vT ([]),.slice none 0 0,vI 0,vI 0,.slice none 0 0,vI 0,vT ([]),.slice none 0 0,.slice none 0 0]⟩) rfl rfl rfl (by kernel_rfl) ?_
 intro b1 hb1
 refine zX rfl <| zH <| zM <| zE <| xF 1 [1] [(3,vA [vT s.Write.Array.l,vS p s.Write.Subs c,vI s.Value.Kind,vI s.Value.Num,vS p1 s.Value.Index.Coefs c1,vI s.Value.Index.Const,vT s.Value.Read.Array.l,vS p2 s.Value.Read.Subs c2,vS p3 s.Value.Kids c3])] ?_
 obtain⟨y,hy,hM⟩:=zF hM
 refine uO rfl (zGF s _ hy h h1 h2 h3) ?_
 rintro imm0 Y v2 k2 le ⟨cs,rfl,hD⟩
 obtain⟨w0,w1,w2,w3,_,_,_,_,rfl,-,k0,k1,k2,k3⟩:=zFB hD
 obtain⟨q0,d0,rfl⟩:=k0.form
 obtain⟨q1,d1,rfl⟩:=k1.form
 obtain⟨q2,d2,rfl⟩:=k2.form
 obtain⟨q3,d3,rfl⟩:=k3.form
 refine uJ 0 [vT y.Write.Array.l,vS q0 y.Write.Subs d0,vI y.Value.Kind,vI y.Value.Num,vS q1 y.Value.Index.Coefs d1,vI y.Value.Index.Const,vT y.Value.Read.Array.l,vS q2 y.Value.Read.Subs d2,vS q3 y.Value.Kids d3] (hB b1 [vT y.Write.Array.l,vS q0 y.Write.Subs d0,vI y.Value.Kind,vI y.Value.Num,vS q1 y.Value.Index.Coefs d1,vI y.Value.Index.Const,vT y.Value.Read.Array.l,vS q2 y.Value.Read.Subs d2,vS q3 y.Value.Kids d3] :: hB b [vT s.Write.Array.l,vS p s.Write.Subs c,vI s.Value.Kind,vI s.Value.Num,vS p1 s.Value.Index.Coefs c1,vI s.Value.Index.Const,vT s.Value.Read.Array.l,vS p2 s.Value.Read.Subs c2,vS p3 s.Value.Kids c3] :: Y) rfl rfl rfl rfl <| zX rfl <| zH <| yF ?_
 obtain rfl:=zB hM
 exact yV ⟨_,Y,(.cell 0 rfl rfl (by kernel_rfl) ResV.nil),(λ_ g=>g.tail.tail),⟨_,rfl,hD⟩⟩
def tY(ag : (List zC))(out : List zC)(t8 : Int): Option (List zC):=do
 if(decide (t8<(ag.length : Int))) then
  let x <- idx ag t8
  let y <- vL x
  let ar <- app 32 out ([y] : List zC)
  tY ag ar (W (t8+1))
 else
  pure (id out)
 partial_fixpoint
theorem zC3(ag : (List zC)): ∀(out : List zC) (t8 : Int) (o : List zC),tY ag out t8 = some o -> ∀{B : Base} {imm0 imm : Imm} {Q : Exit -> Act -> World -> Prop} {p : Option Addr} {c : Nat} {p1 : Option Addr} {c1 : Nat} {ae : List (RawN zC)} {X : List HA},imm0.le imm -> (SL imm (vS p ag c) ag) -> (dpR X ae out) -> (∀gl a w,¬ Q (.goto gl) a w) -> (∀a w,¬ Q .outgrown a w) -> (∀(af : Imm) (ak : List zC) (p2 : Option Addr) (c2 : Nat) (raws2 : List (RawN zC)) (X2 : List HA),o = ak -> imm0.le af -> (dpR X2 raws2 ak) -> T 19 B Q (.exit 0) af (hO zC (vS p2 ak c2) (flR raws2) :: X2) [(3,vS p2 ak c2)]) -> J Tryz.prog 19 B (nav (bodyOf f126) [1,1,0,1,0]) Q imm (hO zC (vS p1 out c1) (flR ae) :: X) [(3,vS p1 out c1),(6,vS p ag c),(7,vI (ag.length : Int)),(8,vI t8)]:=by
 refine tY.partial_correctness ag _ ?_
 intro aG ih out t8 o hM B imm0 imm Q p c p1 c1 ae X ap h hd hg ho hx
 refine yK hg ho <| zM <| zE <| yO [] [(9,.bool (decide (t8<(ag.length : Int))))] <| zH <| zM <| yD hM ?_ ?_
 ·intro hc hM
  refine zT <| zH <| zM <| zZ <| zM <| zE ?_
  obtain⟨x,hy,hM⟩:=zF hM
  refine xL rfl rfl h hy ?_
  intro ad aF av aq
  obtain⟨v0,rfl,h4⟩:=zAM aq
  obtain⟨p3,c3,rfl⟩:=h4.form
  refine yY 0 av [vS p3 x.Coefs c3,vI x.Const] (vA [vS p3 x.Coefs c3,vI x.Const]) rfl <| xT (c:=⟨[.slice none 0 0,vI 0]⟩) rfl rfl rfl (by kernel_rfl) ?_
  intro b hb
  refine uJ 0 [vS p3 x.Coefs c3,vI x.Const] (hB b [vS p3 x.Coefs c3,vI x.Const] :: hO zC (vS p1 out c1) (flR ae) :: X) rfl rfl rfl rfl <| zX rfl <| zH <| zE <| xF 2 [0] [(12,vS p1 out c1),(13,vA [vS p3 x.Coefs c3,vI x.Const])] ?_
  obtain⟨y,aw,hM⟩:=zF hM
  refine uO rfl (zAK x _ aw h4) ?_
  rintro imm0 Y v2 k2 le ⟨aV,rfl,hD⟩
  replace h:=h.mono le
  replace ap:=ap.trans le
  have hD2:=hD
  obtain⟨w0,rfl,k0⟩:=hD2
  obtain⟨p4,c4,rfl⟩:=k0.form
  refine nM (cs:=[vS p4 y.Coefs c4,vI y.Const]) (Rp.sz zC) rfl rfl rfl rfl (by kernel_rfl) (by kernel_rfl) ?_
  intro b1 hb1
  obtain⟨ar,aI,hM⟩:=zF hM
  refine zCF (hO zC (vS p1 out c1) (flR ae) :: hO zC (.slice (some ⟨b1,0,none⟩) 1 1) [vS p4 y.Coefs c4,vI y.Const] :: hB b [vS p3 x.Coefs c3,vI x.Const] :: (X++Y)) (List.perm_middle (l₁:=[_,_])) ?_
  refine zGl 50 2 rfl rfl hd hD (.inr ⟨1,rfl⟩) aI ?_
  intro p5 c5 raws2 h8
  exact yO [] [(3,vS p5 ar c5)] <| zQ <| zH <| zE <| yO [] [(8,vI (W (t8+1)))] <| yL <| kU (uI 1 rfl) <| kU (uI 1 rfl) <| rX [(3,vS p5 ar c5),(6,vS p ag c),(7,vI (ag.length : Int)),(8,vI (W (t8+1)))] <| ih ar (W (t8+1)) _ hM ap h h8 hg ho hx
 ·intro hc hM
  exact oO <| yH <| yH <| dZ [(3,vS p1 out c1)] <| hx _ _ _ _ _ _ (zB hM).symm ap hd
def rB(ag : (List zC)): Option ((List zC)):=do
 let ak <- tY ag ([] : List zC) 0
 pure (id ak)
theorem zAz : ∀(ag : (List zC)) r,rB ag = some r -> ∀{imm : Imm} {p : Option Addr} {c : Nat},(SL imm (vS p ag c) ag) -> Ret Tryz.prog 126 [vS p ag c] imm [] (DSo r):=by
 intro ag r hM imm p c h
 unfold rB at hM
 refine xW (fn:=f126) (c:=(bodyOf f126)) func126 rfl rfl ?_
 rintro B - -
 have ap : imm.le imm:=Imm.le.refl _
 refine zM <| zE <| yO [] [] <| zH <| zM <| zE <| yO [] [(3,.slice none 0 0)] <| zH <| zM <| zM <| zE <| yO [] [(6,vS p ag c),(7,vI (ag.length : Int)),(8,vI 0)] <| zH <| zZ <| rX [(3,.slice none 0 0),(6,vS p ag c),(7,vI (ag.length : Int)),(8,vI 0)] <| kU (zAZ (Rp.sz zC)) ?_
 obtain⟨o0,ay,aB⟩:=zF hM
 refine zC3 ag ([] : List zC) 0 o0 ay (ae:=[]) (X:=[]) (p1:=none) (c1:=0) (Imm.le.refl _) h .nil (λ_ _ _ h=>h) (λ_ _ h=>h) ?_
 intro imm01 ak p2 c2 raws2 X2 heq ai h3
 subst o0
 refine zU <| zH <| zM <| zE <| yO [] [(2,vS p2 ak c2)] <| zH <| yF ?_
 obtain rfl:=zB aB
 exact yV ⟨_,_,(.tmp rfl ResV.nil),(λ_ g=>g),⟨_,rfl,.mk' h3⟩⟩
def pD(nest : (List zL))(out : List zL)(t8 : Int): Option (List zL):=do
 if(decide (t8<(nest.length : Int))) then
  let x <- idx nest t8
  let y <- rB x.Lo
  let y1 <- rB x.Hi
  let ar <- app 48 out ([(zL.mk y y1)] : List zL)
  pD nest ar (W (t8+1))
 else
  pure (id out)
 partial_fixpoint
theorem zEW(nest : (List zL)): ∀(out : List zL) (t8 : Int) (o : List zL),pD nest out t8 = some o -> ∀{B : Base} {imm0 imm : Imm} {Q : Exit -> Act -> World -> Prop} {p : Option Addr} {c : Nat} {p1 : Option Addr} {c1 : Nat} {ae : List (RawN zL)} {X : List HA},imm0.le imm -> (SL imm (vS p nest c) nest) -> (dpR X ae out) -> (∀gl a w,¬ Q (.goto gl) a w) -> (∀a w,¬ Q .outgrown a w) -> (∀(af : Imm) (ak : List zL) (p2 : Option Addr) (c2 : Nat) (raws2 : List (RawN zL)) (X2 : List HA),o = ak -> imm0.le af -> (dpR X2 raws2 ak) -> T 24 B Q (.exit 0) af (hO zL (vS p2 ak c2) (flR raws2) :: X2) [(3,vS p2 ak c2)]) -> J Tryz.prog 24 B (nav (bodyOf f80) [1,1,0,1,0]) Q imm (hO zL (vS p1 out c1) (flR ae) :: X) [(3,vS p1 out c1),(6,vS p nest c),(7,vI (nest.length : Int)),(8,vI t8)]:=by
 refine pD.partial_correctness nest _ ?_
 intro aG ih out t8 o hM B imm0 imm Q p c p1 c1 ae X ap h hd hg ho hx
 refine yK hg ho <| zM <| zE <| yO [] [(9,.bool (decide (t8<(nest.length : Int))))] <| zH <| zM <| yD hM ?_ ?_
 ·intro hc hM
  refine zT <| zH <| zM <| zZ <| zM <| zE ?_
  obtain⟨x,hy,hM⟩:=zF hM
  refine xL rfl rfl h hy ?_
  intro ad aF av aq
  obtain⟨v0,v01,rfl,h4,h5⟩:=zCc aq
  obtain⟨p3,c3,rfl⟩:=h4.form
  obtain⟨p4,c4,rfl⟩:=h5.form
  refine yY 0 av [vS p3 x.Lo c3,vS p4 x.Hi c4] (vA [vS p3 x.Lo c3,vS p4 x.Hi c4]) rfl <| xT (c:=⟨[.slice none 0 0,.slice none 0 0]⟩) rfl rfl rfl (by kernel_rfl) ?_
  intro b hb
  refine uJ 0 [vS p3 x.Lo c3,vS p4 x.Hi c4] (hB b [vS p3 x.Lo c3,vS p4 x.Hi c4] :: hO zL (vS p1 out c1) (flR ae) :: X) rfl rfl rfl rfl <| zX rfl <| zH ?_
  obtain⟨y,aw,hM⟩:=zF hM
  obtain⟨y1,aI,hM⟩:=zF hM
  obtain⟨ar,aW,hM⟩:=zF hM
  refine uX [.p (vS p1 out c1) [],.p (vP b 0) [],.p (vS p3 x.Lo c3) [0],.x (λaf v hx => ∃(p5 : Option Addr) (c5 : Nat),v = vS p5 y c5 /\ DS hx (vS p5 y c5) y),.p (vP b 1) [],.p (vS p4 x.Hi c4) [0],.x (λaf v hx => ∃(p6 : Option Addr) (c6 : Nat),v = vS p6 y1 c6 /\ DS hx (vS p6 y1 c6) y1),.x (λaf v hx => ∃(p5 : Option Addr) (c5 : Nat) (p6 : Option Addr) (c6 : Nat),v = vA [vS p5 y c5,vS p6 y1 c6] /\ Dp.dp hx [vS p5 y c5,vS p6 y1 c6] (zL.mk y y1)),.x (λaf v hx => ∃(b4 : Nat) (cs : List Value),v = vS (some ⟨b4,0,none⟩) ([⟨cs⟩] : List (RawN zL)) 1 /\ SL af (vS (some ⟨b4,0,none⟩) ([⟨cs⟩] : List (RawN zL)) 1) ([⟨cs⟩] : List (RawN zL)) /\ Dp.dp hx cs (zL.mk y y1)),.x (λaf v hx => ∃(p7 : Option Addr) (c7 : Nat) (raws2 : List (RawN zL)) (X2 : List HA),v = vS p7 ar c7 /\ hx = hO zL (vS p7 ar c7) (flR raws2) :: X2 /\ dpR X2 raws2 ar)] [[],[],[(1,false)],[(2,false)],[],[(4,false)],[(5,false)],[(6,true),(3,true)],[(7,true)],[(0,false),(8,true),(11,true)]] [hB b [vS p3 x.Lo c3,vS p4 x.Hi c4]] [hO zL (vS p1 out c1) (flR ae) :: X] [(9,true)] (zF7 [_] [] _ _) ?_ ?_
  ·refine Op <| Op <| Op <| Ox ?_ <| Op <| Op <| Ox ?_ <| Ox ?_ <| Ox ?_ <| Ox ?_ <| On
   ·intro imm1 hf ai
    refine yI ?_
    rintro _ _ ⟨rfl,rfl⟩
    refine xQ <| tQ (hB b [vS p3 x.Lo c3,vS p4 x.Hi c4] :: hf) [(14,vS p3 x.Lo c3)] ?_
    refine uZ (hs1:=[]) (rest:=(hB b [vS p3 x.Lo c3,vS p4 x.Hi c4] :: hf)) rfl rfl rfl rfl (by kernel_rfl) rfl rfl (zAz x.Lo _ aw (h4.mono ai)) ?_
    rintro imm2 Y v2 k2 ax - ⟨v02,rfl,h6⟩ -
    obtain⟨p5,c5,rfl⟩:=h6.form
    exact rY (hx:=Y) rfl ax rfl (xX rfl) ⟨_,_,rfl,h6⟩
   ·intro imm1 hf ai
    refine yI ?_
    rintro _ _ ⟨rfl,rfl⟩
    refine xQ <| tQ (hB b [vS p3 x.Lo c3,vS p4 x.Hi c4] :: hf) [(17,vS p4 x.Hi c4)] ?_
    refine uZ (hs1:=[]) (rest:=(hB b [vS p3 x.Lo c3,vS p4 x.Hi c4] :: hf)) rfl rfl rfl rfl (by kernel_rfl) rfl rfl (zAz x.Hi _ aI (h5.mono ai)) ?_
    rintro imm2 Y v2 k2 ax - ⟨v02,rfl,h7⟩ -
    obtain⟨p6,c6,rfl⟩:=h7.form
    exact rY (hx:=Y) rfl ax rfl (xX rfl) ⟨_,_,rfl,h7⟩
   ·intro imm1 hf ai
    refine yI ?_
    rintro _ Y1 ⟨p6,c6,rfl,h7⟩
    refine yI ?_
    rintro _ Y0 ⟨p5,c5,rfl,h6⟩
    refine xQ <| tQ (Y0++(Y1++(hB b [vS p3 x.Lo c3,vS p4 x.Hi c4] :: hf))) [(15,vS p5 y c5),(18,vS p6 y1 c6)] ?_
    exact nP 8 [(19,vA [vS p5 y c5,vS p6 y1 c6])] <| rY (hx:=Y0++Y1) rfl (Imm.le.refl _) (bZ ..).symm (xX rfl) ⟨_,_,_,_,rfl,⟨_,_,Y0,Y1,rfl,rfl,h6,h7⟩⟩
   ·intro imm1 hf ai
    refine yI ?_
    rintro _ Y ⟨p5,c5,p6,c6,rfl,hD⟩
    refine xQ <| tQ (Y++(hB b [vS p3 x.Lo c3,vS p4 x.Hi c4] :: hf)) [(19,vA [vS p5 y c5,vS p6 y1 c6])] ?_
    refine nM (cs:=[vS p5 y c5,vS p6 y1 c6]) (Rp.sz zL) rfl rfl rfl rfl (by kernel_rfl) (by kernel_rfl) ?_
    intro b4 hb4
    have h8 : RL imm1 [vS p5 y c5,vS p6 y1 c6] ([⟨[vS p5 y c5,vS p6 y1 c6]⟩] : List (RawN zL)):=⟨_,[],rfl,rfl,⟨rfl,okC.out (by kernel_rfl)⟩,rfl⟩
    refine tP 0 rfl ?_
    intro imm2 ax hl0
    have h9:=SL.of_frozen (α:=RawN zL) hl0 ax h8
    exact rY (hx:=Y) rfl ax rfl (xX rfl) ⟨b4,_,rfl,h9,hD⟩
   ·intro imm1 hf ai
    refine yI ?_
    rintro _ _ ⟨rfl,rfl⟩
    refine yI ?_
    rintro _ Y ⟨b4,aV,rfl,h9,hD⟩
    refine yI ?_
    rintro _ _ rfl
    refine xQ <| tQ (hO zL (vS p1 out c1) (flR ae) :: (X++(Y++(hB b [vS p3 x.Lo c3,vS p4 x.Hi c4] :: hf)))) [(12,vS p1 out c1),(20,vS (some ⟨b4,0,none⟩) ([⟨aV⟩] : List (RawN zL)) 1)] ?_
    refine zGl 107 2 rfl rfl hd hD h9.src aW ?_
    intro p7 c7 raws2 h10
    exact rY (hx:=hO zL (vS p7 ar c7) (flR raws2) :: (X++Y)) rfl (Imm.le.refl _) (app3 _ _ _ _) (xX rfl) ⟨_,_,_,_,rfl,rfl,h10⟩
  ·intro imm3 aR
   refine yI ?_
   rintro _ _ ⟨p7,c7,raws2,X2,rfl,rfl,h10⟩
   refine xQ <| tQ (hO zL (vS p7 ar c7) (flR raws2) :: (X2++[hB b [vS p3 x.Lo c3,vS p4 x.Hi c4]])) [(6,vS p nest c),(7,vI (nest.length : Int)),(8,vI t8),(21,vS p7 ar c7)] ?_
   exact yO [] [(3,vS p7 ar c7)] <| zQ <| zH <| zE <| yO [] [(8,vI (W (t8+1)))] <| yL <| kU (aj:=hO zL (vS p7 ar c7) (flR raws2) :: X2) (λw g=>zGk (hs:=hO zL (vS p7 ar c7) (flR raws2) :: X2) g) <| rX [(3,vS p7 ar c7),(6,vS p nest c),(7,vI (nest.length : Int)),(8,vI (W (t8+1)))] <| ih ar (W (t8+1)) _ hM (ap.trans aR) (h.mono aR) h10 hg ho hx
 ·intro hc hM
  exact oO <| yH <| yH <| dZ [(3,vS p1 out c1)] <| hx _ _ _ _ _ _ (zB hM).symm ap hd
def eO(nest : (List zL)): Option ((List zL)):=do
 let ak <- pD nest ([] : List zL) 0
 pure (id ak)
theorem zGG : ∀(nest : (List zL)) r,eO nest = some r -> ∀{imm : Imm} {p : Option Addr} {c : Nat},(SL imm (vS p nest c) nest) -> Ret Tryz.prog 80 [vS p nest c] imm [] (DSo r):=by
 intro nest r hM imm p c h
 unfold eO at hM
 refine xW (fn:=f80) (c:=(bodyOf f80)) func80 rfl rfl ?_
 rintro B - -
 have ap : imm.le imm:=Imm.le.refl _
 refine zM <| zE <| yO [] [] <| zH <| zM <| zE <| yO [] [(3,.slice none 0 0)] <| zH <| zM <| zM <| zE <| yO [] [(6,vS p nest c),(7,vI (nest.length : Int)),(8,vI 0)] <| zH <| zZ <| rX [(3,.slice none 0 0),(6,vS p nest c),(7,vI (nest.length : Int)),(8,vI 0)] <| kU (zAZ (Rp.sz zL)) ?_
 obtain⟨o0,ay,aB⟩:=zF hM
 refine zEW nest ([] : List zL) 0 o0 ay (ae:=[]) (X:=[]) (p1:=none) (c1:=0) (Imm.le.refl _) h .nil (λ_ _ _ h=>h) (λ_ _ h=>h) ?_
 intro imm01 ak p2 c2 raws2 X2 heq ai h3
 subst o0
 refine zU <| zH <| zM <| zE <| yO [] [(2,vS p2 ak c2)] <| zH <| yF ?_
 obtain rfl:=zB aB
 exact yV ⟨_,_,(.tmp rfl ResV.nil),(λ_ g=>g),⟨_,rfl,.mk' h3⟩⟩
def pE(p : zN)(t13 : Int)(Body : List zJ): Option (List zJ):=do
 if(decide (t13<(p.Body.length : Int))) then
  let x <- idx p.Body t13
  let y1 <- gD x
  let l <- app 152 Body ([y1] : List zJ)
  pE p (W (t13+1)) l
 else
  pure (id Body)
 partial_fixpoint
theorem zEX(p : zN): ∀(t13 : Int) (Body : List zJ) (o : List zJ),pE p t13 Body = some o -> ∀{B : Base} {imm0 imm : Imm} {Q : Exit -> Act -> World -> Prop} {y0 : (List zL)} {p2 : Option Addr} {c1 : Nat} {b1 : Nat} {p3 : Option Addr} {c2 : Nat} {b2 : Nat} {p4 : Option Addr} {c3 : Nat} {ae : List (RawN zJ)} {X Z : List HA},imm0.le imm -> (SL imm (vS p2 p.Body c1) p.Body) -> (dpR X ae Body) -> (∀gl a w,¬ Q (.goto gl) a w) -> (∀a w,¬ Q .outgrown a w) -> (∀(af : Imm) (bi : List zJ) (p5 : Option Addr) (c4 : Nat) (raws2 : List (RawN zJ)) (X2 : List HA),o = bi -> imm0.le af -> (dpR X2 raws2 bi) -> T 26 B Q (.exit 0) af (hO zJ (vS p5 bi c4) (flR raws2) :: hB b2 [vS p3 y0 c2,vS p5 bi c4] :: hB b1 [.slice none 0 0,.slice none 0 0] :: (Z++X2)) [(2,vP b1 0),(3,vP b2 0)]) -> J Tryz.prog 26 B (nav (bodyOf f43) [1,1,0,1,0]) Q imm (hO zJ (vS p4 Body c3) (flR ae) :: hB b2 [vS p3 y0 c2,vS p4 Body c3] :: hB b1 [.slice none 0 0,.slice none 0 0] :: (Z++X)) [(2,vP b1 0),(3,vP b2 0),(11,vS p2 p.Body c1),(12,vI (p.Body.length : Int)),(13,vI t13)]:=by
 refine pE.partial_correctness p _ ?_
 intro aG ih t13 Body o hM B imm0 imm Q y0 p2 c1 b1 p3 c2 b2 p4 c3 ae X Z ap h1 hd hg ho hx
 refine yK hg ho <| zM <| zE <| yO [] [(14,.bool (decide (t13<(p.Body.length : Int))))] <| zH <| zM <| yD hM ?_ ?_
 ·intro hc hM
  refine zT <| zH <| zM <| zZ <| zM <| zE ?_
  obtain⟨x,aw,hM⟩:=zF hM
  refine xL rfl rfl h1 aw ?_
  intro ad aF av aq
  obtain⟨v60,v61,v62,v63,rfl,m0,m1,m2,m3⟩:=zCd aq
  obtain⟨p60,c60,rfl⟩:=m0.form
  obtain⟨p61,c61,rfl⟩:=m1.form
  obtain⟨p62,c62,rfl⟩:=m2.form
  obtain⟨p63,c63,rfl⟩:=m3.form
  refine yY 0 av [vT x.Write.Array.l,vS p60 x.Write.Subs c60,vI x.Value.Kind,vI x.Value.Num,vS p61 x.Value.Index.Coefs c61,vI x.Value.Index.Const,vT x.Value.Read.Array.l,vS p62 x.Value.Read.Subs c62,vS p63 x.Value.Kids c63] (vA [vT x.Write.Array.l,vS p60 x.Write.Subs c60,vI x.Value.Kind,vI x.Value.Num,vS p61 x.Value.Index.Coefs c61,vI x.Value.Index.Const,vT x.Value.Read.Array.l,vS p62 x.Value.Read.Subs c62,vS p63 x.Value.Kids c63]) rfl <| xT (c:=⟨[vT ([]),.slice none 0 0,vI 0,vI 0,.slice none 0 0,vI 0,vT ([]),.slice none 0 0,.slice none 0 0]⟩) rfl rfl rfl (by kernel_rfl) ?_
  intro b3 hb3
  refine uJ 0 [vT x.Write.Array.l,vS p60 x.Write.Subs c60,vI x.Value.Kind,vI x.Value.Num,vS p61 x.Value.Index.Coefs c61,vI x.Value.Index.Const,vT x.Value.Read.Array.l,vS p62 x.Value.Read.Subs c62,vS p63 x.Value.Kids c63] (hB b3 [vT x.Write.Array.l,vS p60 x.Write.Subs c60,vI x.Value.Kind,vI x.Value.Num,vS p61 x.Value.Index.Coefs c61,vI x.Value.Index.Const,vT x.Value.Read.Array.l,vS p62 x.Value.Read.Subs c62,vS p63 x.Value.Kids c63] :: hO zJ (vS p4 Body c3) (flR ae) :: hB b2 [vS p3 y0 c2,vS p4 Body c3] :: hB b1 [.slice none 0 0,.slice none 0 0] :: (Z++X)) rfl rfl rfl rfl <| zX rfl <| zH ?_
  obtain⟨y,aI,hM⟩:=zF hM
  obtain⟨l,aW,hM⟩:=zF hM
  refine uX [.p (vP b2 1) [],.p (vS p4 Body c3) [1],.p (vA [vT x.Write.Array.l,vS p60 x.Write.Subs c60,vI x.Value.Kind,vI x.Value.Num,vS p61 x.Value.Index.Coefs c61,vI x.Value.Index.Const,vT x.Value.Read.Array.l,vS p62 x.Value.Read.Subs c62,vS p63 x.Value.Kids c63]) [0],.x (λaf v hx => ∃(q0 : Option Addr) (d0 : Nat) (q1 : Option Addr) (d1 : Nat) (q2 : Option Addr) (d2 : Nat) (q3 : Option Addr) (d3 : Nat),v = vA [vT y.Write.Array.l,vS q0 y.Write.Subs d0,vI y.Value.Kind,vI y.Value.Num,vS q1 y.Value.Index.Coefs d1,vI y.Value.Index.Const,vT y.Value.Read.Array.l,vS q2 y.Value.Read.Subs d2,vS q3 y.Value.Kids d3] /\ Dp.dp hx [vT y.Write.Array.l,vS q0 y.Write.Subs d0,vI y.Value.Kind,vI y.Value.Num,vS q1 y.Value.Index.Coefs d1,vI y.Value.Index.Const,vT y.Value.Read.Array.l,vS q2 y.Value.Read.Subs d2,vS q3 y.Value.Kids d3] y),.x (λaf v hx => ∃(b4 : Nat) (cs : List Value),v = vS (some ⟨b4,0,none⟩) ([⟨cs⟩] : List (RawN zJ)) 1 /\ SL af (vS (some ⟨b4,0,none⟩) ([⟨cs⟩] : List (RawN zJ)) 1) ([⟨cs⟩] : List (RawN zJ)) /\ Dp.dp hx cs y),.x (λaf v hx => ∃(p5 : Option Addr) (c5 : Nat) (raws2 : List (RawN zJ)) (X2 : List HA),v = vS p5 l c5 /\ hx = hO zJ (vS p5 l c5) (flR raws2) :: X2 /\ dpR X2 raws2 l)] [[],[(0,false)],[],[(2,false)],[(3,true)],[(1,false),(4,true),(8,true)]] (hB b3 [vT x.Write.Array.l,vS p60 x.Write.Subs c60,vI x.Value.Kind,vI x.Value.Num,vS p61 x.Value.Index.Coefs c61,vI x.Value.Index.Const,vT x.Value.Read.Array.l,vS p62 x.Value.Read.Subs c62,vS p63 x.Value.Kids c63] :: hB b2 [vS p3 y0 c2,vS p4 Body c3] :: hB b1 [.slice none 0 0,.slice none 0 0] :: Z) [hO zJ (vS p4 Body c3) (flR ae) :: X] [(5,true)] (zF7 [_] (_ :: _ :: Z) _ _) ?_ ?_
  ·refine Op <| Op <| Op <| Ox ?_ <| Ox ?_ <| Ox ?_ <| On
   ·intro imm1 hf ai
    refine yI ?_
    rintro _ _ ⟨rfl,rfl⟩
    refine xQ <| tQ (hB b3 [vT x.Write.Array.l,vS p60 x.Write.Subs c60,vI x.Value.Kind,vI x.Value.Num,vS p61 x.Value.Index.Coefs c61,vI x.Value.Index.Const,vT x.Value.Read.Array.l,vS p62 x.Value.Read.Subs c62,vS p63 x.Value.Kids c63] :: hB b2 [vS p3 y0 c2,vS p4 Body c3] :: hB b1 [.slice none 0 0,.slice none 0 0] :: (Z++hf)) [(19,vA [vT x.Write.Array.l,vS p60 x.Write.Subs c60,vI x.Value.Kind,vI x.Value.Num,vS p61 x.Value.Index.Coefs c61,vI x.Value.Index.Const,vT x.Value.Read.Array.l,vS p62 x.Value.Read.Subs c62,vS p63 x.Value.Kids c63])] ?_
    refine uZ (hs1:=[]) (rest:=(hB b3 [vT x.Write.Array.l,vS p60 x.Write.Subs c60,vI x.Value.Kind,vI x.Value.Num,vS p61 x.Value.Index.Coefs c61,vI x.Value.Index.Const,vT x.Value.Read.Array.l,vS p62 x.Value.Read.Subs c62,vS p63 x.Value.Kids c63] :: hB b2 [vS p3 y0 c2,vS p4 Body c3] :: hB b1 [.slice none 0 0,.slice none 0 0] :: (Z++hf))) rfl rfl rfl rfl (by kernel_rfl) rfl rfl (zCU x _ aI (m0.mono ai) (m1.mono ai) (m2.mono ai) (m3.mono ai)) ?_
    rintro imm2 Y v2 k2 ax - ⟨aV,rfl,hD⟩ -
    have g70:=zFB hD
    obtain⟨w70,w71,w72,w73,_,_,_,_,rfl,-,k70,k71,k72,k73⟩:=g70
    obtain⟨p70,c70,rfl⟩:=k70.form
    obtain⟨p71,c71,rfl⟩:=k71.form
    obtain⟨p72,c72,rfl⟩:=k72.form
    obtain⟨p73,c73,rfl⟩:=k73.form
    exact rY (hx:=Y) rfl ax rfl (xX rfl) ⟨_,_,_,_,_,_,_,_,rfl,hD⟩
   ·intro imm1 hf ai
    refine yI ?_
    rintro _ Y ⟨q0,d0,q1,d1,q2,d2,q3,d3,rfl,hD⟩
    refine xQ <| tQ (Y++(hB b3 [vT x.Write.Array.l,vS p60 x.Write.Subs c60,vI x.Value.Kind,vI x.Value.Num,vS p61 x.Value.Index.Coefs c61,vI x.Value.Index.Const,vT x.Value.Read.Array.l,vS p62 x.Value.Read.Subs c62,vS p63 x.Value.Kids c63] :: hB b2 [vS p3 y0 c2,vS p4 Body c3] :: hB b1 [.slice none 0 0,.slice none 0 0] :: (Z++hf))) [(20,vA [vT y.Write.Array.l,vS q0 y.Write.Subs d0,vI y.Value.Kind,vI y.Value.Num,vS q1 y.Value.Index.Coefs d1,vI y.Value.Index.Const,vT y.Value.Read.Array.l,vS q2 y.Value.Read.Subs d2,vS q3 y.Value.Kids d3])] ?_
    refine nM (cs:=[vT y.Write.Array.l,vS q0 y.Write.Subs d0,vI y.Value.Kind,vI y.Value.Num,vS q1 y.Value.Index.Coefs d1,vI y.Value.Index.Const,vT y.Value.Read.Array.l,vS q2 y.Value.Read.Subs d2,vS q3 y.Value.Kids d3]) (Rp.sz zJ) rfl rfl rfl rfl (by kernel_rfl) (by kernel_rfl) ?_
    intro b4 hb4
    have h7 : RL imm1 [vT y.Write.Array.l,vS q0 y.Write.Subs d0,vI y.Value.Kind,vI y.Value.Num,vS q1 y.Value.Index.Coefs d1,vI y.Value.Index.Const,vT y.Value.Read.Array.l,vS q2 y.Value.Read.Subs d2,vS q3 y.Value.Kids d3] ([⟨[vT y.Write.Array.l,vS q0 y.Write.Subs d0,vI y.Value.Kind,vI y.Value.Num,vS q1 y.Value.Index.Coefs d1,vI y.Value.Index.Const,vT y.Value.Read.Array.l,vS q2 y.Value.Read.Subs d2,vS q3 y.Value.Kids d3]⟩] : List (RawN zJ)):=⟨_,[],rfl,rfl,⟨rfl,okC.out (by kernel_rfl)⟩,rfl⟩
    refine tP 0 rfl ?_
    intro imm2 ax hl0
    have h8:=SL.of_frozen (α:=RawN zJ) hl0 ax h7
    exact rY (hx:=Y) rfl ax rfl (xX rfl) ⟨b4,_,rfl,h8,hD⟩
   ·intro imm1 hf ai
    refine yI ?_
    rintro _ _ ⟨rfl,rfl⟩
    refine yI ?_
    rintro _ Y ⟨b4,aV,rfl,h8,hD⟩
    refine yI ?_
    rintro _ _ rfl
    refine xQ <| tQ (hO zJ (vS p4 Body c3) (flR ae) :: (X++(Y++(hB b3 [vT x.Write.Array.l,vS p60 x.Write.Subs c60,vI x.Value.Kind,vI x.Value.Num,vS p61 x.Value.Index.Coefs c61,vI x.Value.Index.Const,vT x.Value.Read.Array.l,vS p62 x.Value.Read.Subs c62,vS p63 x.Value.Kids c63] :: hB b2 [vS p3 y0 c2,vS p4 Body c3] :: hB b1 [.slice none 0 0,.slice none 0 0] :: (Z++hf))))) [(18,vS p4 Body c3),(21,vS (some ⟨b4,0,none⟩) ([⟨aV⟩] : List (RawN zJ)) 1)] ?_
    refine zGl 55 9 rfl rfl hd hD h8.src aW ?_
    intro p5 c5 raws2 h9
    exact rY (hx:=hO zJ (vS p5 l c5) (flR raws2) :: (X++Y)) rfl (Imm.le.refl _) (app3 _ _ _ _) (xX rfl) ⟨_,_,_,_,rfl,rfl,h9⟩
  ·intro imm2 ax
   refine yI ?_
   rintro _ _ ⟨p5,c5,raws2,X2,rfl,rfl,h9⟩
   refine xQ <| tQ (hO zJ (vS p5 l c5) (flR raws2) :: (X2++(hB b3 [vT x.Write.Array.l,vS p60 x.Write.Subs c60,vI x.Value.Kind,vI x.Value.Num,vS p61 x.Value.Index.Coefs c61,vI x.Value.Index.Const,vT x.Value.Read.Array.l,vS p62 x.Value.Read.Subs c62,vS p63 x.Value.Kids c63] :: hB b2 [vS p3 y0 c2,vS p4 Body c3] :: hB b1 [.slice none 0 0,.slice none 0 0] :: Z))) [(2,vP b1 0),(3,vP b2 0),(11,vS p2 p.Body c1),(12,vI (p.Body.length : Int)),(13,vI t13),(22,vS p5 l c5)] ?_
   refine zCF (hO zJ (vS p5 l c5) (flR raws2) :: hB b3 [vT x.Write.Array.l,vS p60 x.Write.Subs c60,vI x.Value.Kind,vI x.Value.Num,vS p61 x.Value.Index.Coefs c61,vI x.Value.Index.Const,vT x.Value.Read.Array.l,vS p62 x.Value.Read.Subs c62,vS p63 x.Value.Kids c63] :: hB b2 [vS p3 y0 c2,vS p4 Body c3] :: hB b1 [.slice none 0 0,.slice none 0 0] :: (Z++X2)) (cf.cons _) ?_
   exact xF 7 [] [(23,vP b2 1)] <| uJ 2 [vS p3 y0 c2,vS p5 l c5] (hO zJ (vS p5 l c5) (flR raws2) :: hB b3 [vT x.Write.Array.l,vS p60 x.Write.Subs c60,vI x.Value.Kind,vI x.Value.Num,vS p61 x.Value.Index.Coefs c61,vI x.Value.Index.Const,vT x.Value.Read.Array.l,vS p62 x.Value.Read.Subs c62,vS p63 x.Value.Kids c63] :: hB b2 [vS p3 y0 c2,vS p5 l c5] :: hB b1 [.slice none 0 0,.slice none 0 0] :: (Z++X2)) rfl rfl rfl rfl <| zX rfl <| zQ <| zH <| zE <| yO [] [(13,vI (W (t13+1)))] <| yL <| kU (uI 1 rfl) <| rX [(2,vP b1 0),(3,vP b2 0),(11,vS p2 p.Body c1),(12,vI (p.Body.length : Int)),(13,vI (W (t13+1)))] <| ih (W (t13+1)) l _ hM (ap.trans ax) (h1.mono ax) h9 hg ho hx
 ·intro hc hM
  exact oO <| yH <| yH <| dZ [(2,vP b1 0),(3,vP b2 0)] <| hx _ _ _ _ _ _ (zB hM).symm ap hd
def eQ(p : zN): Option (zN):=do
 let y <- eO p.Nest
 let bi <- pE p 0 ([] : List zJ)
 pure (zN.mk y bi)
theorem zGH : ∀(p : zN) r,eQ p = some r -> ∀{imm : Imm} {p1 : Option Addr} {c : Nat} {p2 : Option Addr} {c1 : Nat},(SL imm (vS p1 p.Nest c) p.Nest) -> (SL imm (vS p2 p.Body c1) p.Body) -> Ret Tryz.prog 43 [vA [vS p1 p.Nest c,vS p2 p.Body c1]] imm [] (DPo r):=by
 intro p r hM imm p1 c p2 c1 h h1
 unfold eQ at hM
 refine xW (fn:=f43) (c:=(bodyOf f43)) func43 rfl rfl ?_
 rintro B - -
 have ap : imm.le imm:=Imm.le.refl _
 refine zM <| zE <| eX (c:=⟨[vS p1 p.Nest c,vS p2 p.Body c1]⟩) rfl rfl rfl rfl rfl ?_
 intro b hb
 refine xT (c:=⟨[.slice none 0 0,.slice none 0 0]⟩) rfl rfl rfl (by kernel_rfl) ?_
 intro b1 hb1
 refine zX rfl <| zH <| zM <| zE <| xF 2 [1] [(7,vS p1 p.Nest c)] ?_
 obtain⟨y,hy,hM⟩:=zF hM
 refine uO rfl (zGG p.Nest _ hy h) ?_
 rintro imm0 Z v2 k2 le ⟨v0,rfl,h2⟩
 obtain⟨p3,c2,rfl⟩:=h2.form
 refine xF 4 [] [(9,vA [vS p3 y c2,.slice none 0 0])] <| xT (c:=⟨[.slice none 0 0,.slice none 0 0]⟩) rfl rfl rfl (by kernel_rfl) ?_
 intro b2 hb2
 refine uJ 0 [vS p3 y c2,.slice none 0 0] (hB b2 [vS p3 y c2,.slice none 0 0] :: hB b1 [.slice none 0 0,.slice none 0 0] :: hB b [vS p1 p.Nest c,vS p2 p.Body c1] :: Z) rfl rfl rfl rfl <| zX rfl <| zH <| zM <| zM <| zE <| yO [2] [(11,vS p2 p.Body c1),(12,vI (p.Body.length : Int)),(13,vI 0)] <| zH <| zZ <| kU (aj:=hO zJ (vS none ([] : List zJ) 0) (flR ([] : List (RawN zJ))) :: hB b2 [vS p3 y c2,vS none ([] : List zJ) 0] :: hB b1 [.slice none 0 0,.slice none 0 0] :: (Z++[])) (λw g=>by rw[ce];exact(uI 2 rfl w g).nil_osl _) <| rX [(2,vP b1 0),(3,vP b2 0),(11,vS p2 p.Body c1),(12,vI (p.Body.length : Int)),(13,vI 0)] ?_
 obtain⟨o0,ay,aB⟩:=zF hM
 refine zEX p 0 ([] : List zJ) o0 ay (Imm.le.refl _) (h1.mono le) .nil (λ_ _ _ h=>h) (λ_ _ h=>h) ?_
 intro imm04 bi p5 c4 raws2 X2 heq bg h5
 subst o0
 refine zU <| zH <| zM <| zE <| xF 1 [1] [(25,vA [vS p3 y c2,vS p5 bi c4])] <| uJ 2 [vS p3 y c2,vS p5 bi c4] (hO zJ (vS p5 bi c4) (flR raws2) :: hB b2 [vS p3 y c2,vS p5 bi c4] :: hB b1 [vS p3 y c2,vS p5 bi c4] :: (Z++X2)) rfl rfl rfl rfl <| zX rfl <| zH <| yF ?_
 obtain rfl:=zB aB
 exact yV ⟨_,Z++(hO zJ (vS p5 bi c4) (flR raws2) :: X2),(.cell 2 rfl rfl (by kernel_rfl) ResV.nil),(λw g=>(uI 1 rfl w (uI 1 rfl w g)).perm (pm1 Z [_] X2)),⟨_,rfl,⟨_,_,Z,_,rfl,rfl,h2,.mk' h5⟩⟩⟩
def zAT(n0 : Int): Option (zD):=do
 pure (zD.mk 1 n0 (zC.mk ([] : List Int) 0) (zK.mk (⟨[]⟩ : Str) ([] : List zC)) ([] : List zD))
theorem zDH : ∀(n0 : Int) r,zAT n0 = some r -> ∀{imm : Imm} , Ret Tryz.prog 84 [vI n0] imm [] (λ_ _ aj v=>aj = [] /\ v = tupV [vA [vI 1,vI n0,.slice none 0 0,vI 0,vT ([]),.slice none 0 0,.slice none 0 0]] /\ Dp.dp nilE [vI 1,vI n0,.slice none 0 0,vI 0,vT ([]),.slice none 0 0,.slice none 0 0] r):=by
 intro n0 r hM imm
 unfold zAT at hM
 refine xW (fn:=f84) (c:=(bodyOf f84)) func84 rfl rfl ?_
 rintro B - -
 have ap : imm.le imm:=Imm.le.refl _
 refine zM <| zE <| xT (c:=⟨[vI 0,vI 0,.slice none 0 0,vI 0,vT ([]),.slice none 0 0,.slice none 0 0]⟩) rfl rfl rfl (by kernel_rfl) ?_
 intro b hb
 refine zX rfl <| zH <| zM <| zE <| xF 2 [] [(4,vA [vI 1,vI n0,.slice none 0 0,vI 0,vT ([]),.slice none 0 0,.slice none 0 0])] <| uJ 0 [vI 1,vI n0,.slice none 0 0,vI 0,vT ([]),.slice none 0 0,.slice none 0 0] [hB b [vI 1,vI n0,.slice none 0 0,vI 0,vT ([]),.slice none 0 0,.slice none 0 0]] rfl rfl rfl rfl <| zX rfl <| zH <| yF ?_
 obtain rfl:=zB hM
 exact yV ⟨_,_,(.cell 0 rfl rfl (by kernel_rfl) ResV.nil),zO,⟨rfl,rfl,zAH (X0:=[_]) (X1:=[_]) (X2:=[_]) (e:=zD.mk 1 n0 (zC.mk ([] : List Int) 0) (zK.mk (⟨[]⟩ : Str) ([] : List zC)) ([] : List zD)) .nil .nil .nil⟩⟩
def zGI(r : Bool): Nat -> Imm -> List HA -> Value -> Prop:=λkk af aj v=>
 ∃(v0 : Value),aj = [] /\ v = tupV [v0] /\ v0 = .bool r
def rG(e0 : zD)(n0 : Int): Option (Bool):=do
 let t4 <- (do
  if(e0.Kind==1) then
   pure (e0.Num==n0)
  else
   pure false
    : Option Bool)
 pure (id t4)
theorem nT : ∀(e0 : zD) (n0 : Int) r,rG e0 n0 = some r -> ∀{imm : Imm} {p : Option Addr} {c : Nat} {p1 : Option Addr} {c1 : Nat} {p2 : Option Addr} {c2 : Nat},Ret Tryz.prog 86 [vA [vI e0.Kind,vI e0.Num,vS p e0.Index.Coefs c,vI e0.Index.Const,vT e0.Read.Array.l,vS p1 e0.Read.Subs c1,vS p2 e0.Kids c2],vI n0] imm [] (zGI  r):=by
 intro e0 n0 r hM imm p c p1 c1 p2 c2
 unfold rG at hM
 refine xW (fn:=f86) (c:=(bodyOf f86)) func86 rfl rfl ?_
 rintro B - -
 have ap : imm.le imm:=Imm.le.refl _
 refine zM <| zE <| eX (c:=⟨[vI e0.Kind,vI e0.Num,vS p e0.Index.Coefs c,vI e0.Index.Const,vT e0.Read.Array.l,vS p1 e0.Read.Subs c1,vS p2 e0.Kids c2]⟩) rfl rfl rfl rfl rfl ?_
 intro b hb
 refine yO [] [] <| zH <| zM ?_
 obtain⟨o0,ay,aT⟩:=zF hM
 refine zA0 (λaf aj m' => ∃(t4 : Bool),o0 = t4 /\ imm.le af /\ aj = [] /\ m' = [(4,.bool t4)]) ?_ ?_
 ·have hle0:=ap
  have ap : imm.le imm:=Imm.le.refl _
  refine zE <| xF 4 [0] [(8,.bool (e0.Kind==1))] <| wN [8] ay ?_ ?_
  ·intro hc hM
   exact yO [0] [(4,.bool (e0.Num==n0))] <| wM (yN [] rfl (by decide)) <| dZ [(4,.bool (e0.Num==n0))] <| zY ⟨_,(zB hM).symm,ap,rfl,rfl⟩
  ·intro hc hM
   exact yO [] [(4,.bool false)] <| wM (yN [] rfl (by decide)) <| dZ [(4,.bool false)] <| zY ⟨_,(zB hM).symm,ap,rfl,rfl⟩
 ·rintro imm0 aK m2 ⟨t4,heq,le,rfl,rfl⟩
  subst o0
  replace ap:=ap.trans le
  refine zH <| yF ?_
  obtain rfl:=zB aT
  exact yV ⟨_,_,(.tmp rfl ResV.nil),zO,⟨_,rfl,rfl,rfl⟩⟩
def eR(e0 : zD): Option (zD):=do
 let t22 <- (do
  if(e0.Kind==2) then
   let y <- tE e0.Index
   if(y==0) then
    pure (decide (e0.Index.Const>=0))
   else
    pure false
  else
   pure false
    : Option Bool)
 if t22 then
  let y1 <- zAT e0.Index.Const
  pure (id y1)
 else
  let y2 <- nR e0.Kind
  if(!y2) then
   pure (id e0)
  else
   let x <- idx e0.Kids 0
   let y3 <- eR (same x)
   let x1 <- idx e0.Kids 1
   let y4 <- eR (same x1)
   let t58 <- (do
    if(y3.Kind==1) then
     pure (y4.Kind==1)
    else
     pure false
      : Option Bool)
   if t58 then
    let n0 <- (do
     if(e0.Kind==5) then
      pure (W (y3.Num - y4.Num))
     else
      let n01 <- (do
       if(e0.Kind==6) then
        pure (W (y3.Num*y4.Num))
       else
        pure (W (y3.Num+y4.Num))
         : Option Int)
      pure (id n01)
       : Option Int)
    let y5 <- wH n0 0 99
    if y5 then
     let y6 <- zAT n0
     pure (id y6)
    else
     pure (zD.mk e0.Kind 0 (zC.mk ([] : List Int) 0) (zK.mk (⟨[]⟩ : Str) ([] : List zC)) ([y3,y4] : List zD))
   else
    let t85 <- (do
     if(!(e0.Kind==6)) then
      let y7 <- rG y4 0
      if y7 then
       pure true
      else
       if(e0.Kind==6) then
        let y8 <- rG y4 1
        pure (id y8)
       else
        pure false
     else
      if(e0.Kind==6) then
       let y9 <- rG y4 1
       pure (id y9)
      else
       pure false
       : Option Bool)
    if t85 then
     pure (id y3)
    else
     let t100 <- (do
      if(e0.Kind==4) then
       let y10 <- rG y3 0
       if y10 then
        pure true
       else
        if(e0.Kind==6) then
         let y11 <- rG y3 1
         pure (id y11)
        else
         pure false
      else
       if(e0.Kind==6) then
        let y12 <- rG y3 1
        pure (id y12)
       else
        pure false
        : Option Bool)
     if t100 then
      pure (id y4)
     else
      let t116 <- (do
       if(e0.Kind==6) then
        let y13 <- rG y3 0
        if y13 then
         pure true
        else
         let y14 <- rG y4 0
         pure (id y14)
       else
        pure false
         : Option Bool)
      if t116 then
       let y15 <- zAT 0
       pure (id y15)
      else
       pure (zD.mk e0.Kind 0 (zC.mk ([] : List Int) 0) (zK.mk (⟨[]⟩ : Str) ([] : List zC)) ([y3,y4] : List zD))
 partial_fixpoint
theorem zHb : ∀(e0 : zD) r,eR e0 = some r -> ∀{imm : Imm} {p : Option Addr} {c : Nat} {p1 : Option Addr} {c1 : Nat} {p2 : Option Addr} {c2 : Nat} {X0 X1 X2 : List HA},DS X0 (vS p e0.Index.Coefs c) e0.Index.Coefs -> DS X1 (vS p1 e0.Read.Subs c1) e0.Read.Subs -> DS X2 (vS p2 e0.Kids c2) e0.Kids -> Ret Tryz.prog 45 [vA [vI e0.Kind,vI e0.Num,vS p e0.Index.Coefs c,vI e0.Index.Const,vT e0.Read.Array.l,vS p1 e0.Read.Subs c1,vS p2 e0.Kids c2]] imm (X0++(X1++X2)) (DPo r):=by
 refine eR.partial_correctness (λe0 r => ∀{imm : Imm} {p : Option Addr} {c : Nat} {p1 : Option Addr} {c1 : Nat} {p2 : Option Addr} {c2 : Nat} {X0 X1 X2 : List HA},DS X0 (vS p e0.Index.Coefs c) e0.Index.Coefs -> DS X1 (vS p1 e0.Read.Subs c1) e0.Read.Subs -> DS X2 (vS p2 e0.Kids c2) e0.Kids -> Ret Tryz.prog 45 [vA [vI e0.Kind,vI e0.Num,vS p e0.Index.Coefs c,vI e0.Index.Const,vT e0.Read.Array.l,vS p1 e0.Read.Subs c1,vS p2 e0.Kids c2]] imm (X0++(X1++X2)) (DPo r)) ?_
 intro F_impl_fold ih_impl_fold e0 r hM imm p c p1 c1 p2 c2 X0 X1 X2 h h1 h2
 refine xW (fn:=f45) (c:=(bodyOf f45)) func45 rfl rfl ?_
 rintro B - -
 have ap : imm.le imm:=Imm.le.refl _
 refine zM <| zE <| eX (c:=⟨[vI e0.Kind,vI e0.Num,vS p e0.Index.Coefs c,vI e0.Index.Const,vT e0.Read.Array.l,vS p1 e0.Read.Subs c1,vS p2 e0.Kids c2]⟩) rfl rfl rfl rfl rfl ?_
 intro b hb
 refine xT (c:=⟨[vI 0,vI 0,.slice none 0 0,vI 0,vT ([]),.slice none 0 0,.slice none 0 0]⟩) rfl rfl rfl (by kernel_rfl) ?_
 intro b1 hb1
 refine zX rfl <| zH <| zM <| zM ?_
 obtain⟨o0,ay,aT⟩:=zF hM
 refine zA0 (λaf aj m' => ∃(t22 : Bool),o0 = t22 /\ imm.le af /\ aj = (hB b1 [vI 0,vI 0,.slice none 0 0,vI 0,vT ([]),.slice none 0 0,.slice none 0 0] :: hB b [vI e0.Kind,vI e0.Num,vS p e0.Index.Coefs c,vI e0.Index.Const,vT e0.Read.Array.l,vS p1 e0.Read.Subs c1,vS p2 e0.Kids c2] :: (X0++(X1++X2))) /\ m' = [(1,vP b 0),(2,vP b1 0),(22,.bool t22)]) ?_ ?_
 ·have hle0:=ap
  have ap : imm.le imm:=Imm.le.refl _
  refine zE <| xF 4 [1] [(11,.bool (e0.Kind==2))] <| wN [11] ay ?_ ?_
  ·intro hc hM
   refine xF 6 [1] [(13,vA [vS p e0.Index.Coefs c,vI e0.Index.Const])] ?_
   obtain⟨y,hy,hM⟩:=zF hM
   refine zBk (L:=X0) rfl (pm1 [_,_] X0 _) h.plain (λimm1 _ hl=>kY e0.Index _ hy (h.sl hl)) ?_
   rintro imm2 imm01 v2 k2 le - ⟨_,v0,-,rfl,rfl⟩
   replace ap:=ap.trans le
   refine xF 10 [] [(17,.bool (y==0))] <| wN [17] hM ?_ ?_
   ·intro aE hM
    exact yO [1] [(22,.bool (decide (e0.Index.Const>=0)))] <| dZ [(1,vP b 0),(2,vP b1 0),(22,.bool (decide (e0.Index.Const>=0)))] <| zY ⟨_,(zB hM).symm,ap,rfl,rfl⟩
   ·intro aE hM
    exact yO [] [(22,.bool false)] <| dZ [(1,vP b 0),(2,vP b1 0),(22,.bool false)] <| zY ⟨_,(zB hM).symm,ap,rfl,rfl⟩
  ·intro hc hM
   exact yO [] [(22,.bool false)] <| dZ [(1,vP b 0),(2,vP b1 0),(22,.bool false)] <| zY ⟨_,(zB hM).symm,ap,rfl,rfl⟩
 ·rintro imm0 aK m2 ⟨t22,heq,ai,rfl,rfl⟩
  subst o0
  replace ap:=ap.trans ai
  refine zH <| yD aT ?_ ?_
  ·intro aQ hM
   refine zM <| zE <| xF 3 [1] [(25,vI e0.Index.Const)] ?_
   obtain⟨y1,aw,hM⟩:=zF hM
   refine uZ (hs1:=[]) (rest:=(hB b1 [vI 0,vI 0,.slice none 0 0,vI 0,vT ([]),.slice none 0 0,.slice none 0 0] :: hB b [vI e0.Kind,vI e0.Num,vS p e0.Index.Coefs c,vI e0.Index.Const,vT e0.Read.Array.l,vS p1 e0.Read.Subs c1,vS p2 e0.Kids c2] :: (X0++(X1++X2)))) rfl rfl rfl rfl (by kernel_rfl) rfl rfl (zDH e0.Index.Const _ aw ) ?_
   rintro imm02 aK v2 k2 ax - ⟨rfl,rfl,hN⟩ -
   replace ap:=ap.trans ax
   refine uJ 0 [vI 1,vI e0.Index.Const,.slice none 0 0,vI 0,vT ([]),.slice none 0 0,.slice none 0 0] (hB b1 [vI 1,vI e0.Index.Const,.slice none 0 0,vI 0,vT ([]),.slice none 0 0,.slice none 0 0] :: hB b [vI e0.Kind,vI e0.Num,vS p e0.Index.Coefs c,vI e0.Index.Const,vT e0.Read.Array.l,vS p1 e0.Read.Subs c1,vS p2 e0.Kids c2] :: (X0++(X1++X2))) rfl rfl rfl rfl <| zX rfl <| zH <| yF <| zG ?_
   obtain rfl:=zB hM
   exact yV ⟨_,nilE,(.cell 0 rfl rfl (by kernel_rfl) ResV.nil),zF6,⟨_,rfl,hN⟩⟩
  ·intro aQ hM
   refine zT <| zH <| zM <| zM <| zE <| xF 2 [1] [(28,vI e0.Kind)] ?_
   obtain⟨y2,aI,hM⟩:=zF hM
   refine uZ (hs1:=[]) (rest:=(hB b1 [vI 0,vI 0,.slice none 0 0,vI 0,vT ([]),.slice none 0 0,.slice none 0 0] :: hB b [vI e0.Kind,vI e0.Num,vS p e0.Index.Coefs c,vI e0.Index.Const,vT e0.Read.Array.l,vS p1 e0.Read.Subs c1,vS p2 e0.Kids c2] :: (X0++(X1++X2)))) rfl rfl rfl rfl (by kernel_rfl) rfl rfl (zEq e0.Kind _ aI ) ?_
   rintro imm03 aK v2 k2 aR - ⟨v05,rfl,rfl,rfl⟩ -
   replace ap:=ap.trans aR
   refine yO [] [(30,.bool (!y2))] <| zH <| yD hM ?_ ?_
   ·intro bp hM
    refine zM <| zE <| xF 1 [1] [(31,vA [vI e0.Kind,vI e0.Num,vS p e0.Index.Coefs c,vI e0.Index.Const,vT e0.Read.Array.l,vS p1 e0.Read.Subs c1,vS p2 e0.Kids c2])] <| uJ 0 [vI e0.Kind,vI e0.Num,vS p e0.Index.Coefs c,vI e0.Index.Const,vT e0.Read.Array.l,vS p1 e0.Read.Subs c1,vS p2 e0.Kids c2] (hB b1 [vI e0.Kind,vI e0.Num,vS p e0.Index.Coefs c,vI e0.Index.Const,vT e0.Read.Array.l,vS p1 e0.Read.Subs c1,vS p2 e0.Kids c2] :: hB b [vI e0.Kind,vI e0.Num,vS p e0.Index.Coefs c,vI e0.Index.Const,vT e0.Read.Array.l,vS p1 e0.Read.Subs c1,vS p2 e0.Kids c2] :: (X0++(X1++X2))) rfl rfl rfl rfl <| zX rfl <| zH <| yF <| zG ?_
    obtain rfl:=zB hM
    exact yV ⟨_,X0++(X1++X2),(.cell 0 rfl rfl (by kernel_rfl) ResV.nil),(λ_ g=>g.tail.tail),⟨_,rfl,zAH (e:=e0) h h1 h2⟩⟩
   ·intro bp hM
    refine zT <| zH <| zM ?_
    obtain⟨x,aW,hM⟩:=zF hM
    obtain⟨y3,bk,hM⟩:=zF hM
    obtain⟨x1,bC,hM⟩:=zF hM
    obtain⟨y4,hy6,hM⟩:=zF hM
    obtain⟨_,_,ae,Yk,-,rfl,hd⟩:=h2
    obtain⟨⟨w0⟩,⟨w1⟩,rt,Y0,Y1,Yt,rfl,rfl,hD0,hD1⟩:=hd.two aW bC
    have hok:=hd.ok
    change Dp.dp Y0 w0 x at hD0
    change Dp.dp Y1 w1 x1 at hD1
    obtain⟨u0,u1,u2,A0,A1,A2,rfl,rfl,m0,m1,m2⟩:=eH hD0
    obtain⟨p6,c6,rfl⟩:=m0.form
    obtain⟨p7,c7,rfl⟩:=m1.form
    obtain⟨p8,c8,rfl⟩:=m2.form
    obtain⟨u3,u4,u5,B0,B1,B2,rfl,rfl,m3,m4,m5⟩:=eH hD1
    obtain⟨bu,bc,rfl⟩:=m3.form
    obtain⟨aZ,bm,rfl⟩:=m4.form
    obtain⟨p14,c14,rfl⟩:=m5.form
    refine zEO _ (pm3 [_,_] X0 X1 [_] _) <| zB1 0 rfl ?_
    intro immK leK hlK
    have h2:=SL.of_frozen (α:=RawN zD) hlK leK (zEN hok)
    replace ap:=ap.trans leK
    refine kU (aj:=hB b1 [vI 0,vI 0,.slice none 0 0,vI 0,vT ([]),.slice none 0 0,.slice none 0 0] :: hB b [vI e0.Kind,vI e0.Num,vS p e0.Index.Coefs c,vI e0.Index.Const,vT e0.Read.Array.l,vS p1 e0.Read.Subs c1,vS p2 e0.Kids c2] :: ((A0++(A1++A2))++(B0++(B1++B2)))) (λw g=>nY Yt (nY X1 (nY X0 (g.perm (pmF [_,_] X0 X1 _ _ Yt))))) ?_
    refine uX [.p (vP b 6) [],.p (vS p2 e0.Kids c2) [1],.x (λaf v hx => ∃(ad : Addr),v = .pointer (some ad) /\ hx = [] /\ At af ad [vI x.Kind,vI x.Num,vS p6 x.Index.Coefs c6,vI x.Index.Const,vT x.Read.Array.l,vS p7 x.Read.Subs c7,vS p8 x.Kids c8]),.x (λaf v hx=>v = vA [vI x.Kind,vI x.Num,vS p6 x.Index.Coefs c6,vI x.Index.Const,vT x.Read.Array.l,vS p7 x.Read.Subs c7,vS p8 x.Kids c8] /\ hx = []),.x (λaf v hx => ∃(p9 : Option Addr) (c9 : Nat) (aX : Option Addr) (a8 : Nat) (a7 : Option Addr) (a6 : Nat),v = vA [vI y3.Kind,vI y3.Num,vS p9 y3.Index.Coefs c9,vI y3.Index.Const,vT y3.Read.Array.l,vS aX y3.Read.Subs a8,vS a7 y3.Kids a6] /\ Dp.dp hx [vI y3.Kind,vI y3.Num,vS p9 y3.Index.Coefs c9,vI y3.Index.Const,vT y3.Read.Array.l,vS aX y3.Read.Subs a8,vS a7 y3.Kids a6] y3),.p (vP b 6) [],.p (vS p2 e0.Kids c2) [1],.x (λaf v hx => ∃(ad : Addr),v = .pointer (some ad) /\ hx = [] /\ At af ad [vI x1.Kind,vI x1.Num,vS bu x1.Index.Coefs bc,vI x1.Index.Const,vT x1.Read.Array.l,vS aZ x1.Read.Subs bm,vS p14 x1.Kids c14]),.x (λaf v hx=>v = vA [vI x1.Kind,vI x1.Num,vS bu x1.Index.Coefs bc,vI x1.Index.Const,vT x1.Read.Array.l,vS aZ x1.Read.Subs bm,vS p14 x1.Kids c14] /\ hx = []),.x (λaf v hx => ∃(p15 : Option Addr) (c15 : Nat) (p16 : Option Addr) (c16 : Nat) (p17 : Option Addr) (c17 : Nat),v = vA [vI y4.Kind,vI y4.Num,vS p15 y4.Index.Coefs c15,vI y4.Index.Const,vT y4.Read.Array.l,vS p16 y4.Read.Subs c16,vS p17 y4.Kids c17] /\ Dp.dp hx [vI y4.Kind,vI y4.Num,vS p15 y4.Index.Coefs c15,vI y4.Index.Const,vT y4.Read.Array.l,vS p16 y4.Read.Subs c16,vS p17 y4.Kids c17] y4),.x (λaf v hx => ∃(b2 : Nat),v = vP b2 0 /\ hx = [hB b2 [vI 0,vI 0,.slice none 0 0,vI 0,vT ([]),.slice none 0 0,.slice none 0 0]]),.x (λaf v hx => ∃(b3 : Nat),v = vP b3 0 /\ hx = [hB b3 [vI 0,vI 0,.slice none 0 0,vI 0,vT ([]),.slice none 0 0,.slice none 0 0]]),.x (λaf v hx => ∃(b21 : Nat) (p91 : Option Addr) (c91 : Nat) (p101 : Option Addr) (c101 : Nat) (p111 : Option Addr) (c111 : Nat) (Y : List HA),v = vP b21 0 /\ hx = hB b21 [vI y3.Kind,vI y3.Num,vS p91 y3.Index.Coefs c91,vI y3.Index.Const,vT y3.Read.Array.l,vS p101 y3.Read.Subs c101,vS p111 y3.Kids c111] :: Y /\ Dp.dp Y [vI y3.Kind,vI y3.Num,vS p91 y3.Index.Coefs c91,vI y3.Index.Const,vT y3.Read.Array.l,vS p101 y3.Read.Subs c101,vS p111 y3.Kids c111] y3)] [[],[(0,false)],[(1,false)],[(2,false)],[(3,false),(14,true)],[],[(5,false)],[(6,false)],[(7,false)],[(8,false),(15,true)],[],[],[(4,true),(10,true)]] [hB b1 [vI 0,vI 0,.slice none 0 0,vI 0,vT ([]),.slice none 0 0,.slice none 0 0],hB b [vI e0.Kind,vI e0.Num,vS p e0.Index.Coefs c,vI e0.Index.Const,vT e0.Read.Array.l,vS p1 e0.Read.Subs c1,vS p2 e0.Kids c2]] [A0++(A1++A2),B0++(B1++B2)] [(9,true),(11,true),(12,true)] (λw g=>g.perm (.of_eq (by simp only[ey,List.flatten_nil,ce,em,cj]))) ?_ ?_
    ·refine Op <| Op <| Ox ?_ <| Ox ?_ <| Ox ?_ <| Op <| Op <| Ox ?_ <| Ox ?_ <| Ox ?_ <| Ox ?_ <| Ox ?_ <| Ox ?_ <| On
     ·intro imm1 hf ai
      refine yI ?_
      rintro _ _ ⟨rfl,rfl⟩
      refine xQ <| tQ (hB b1 [vI 0,vI 0,.slice none 0 0,vI 0,vT ([]),.slice none 0 0,.slice none 0 0] :: hB b [vI e0.Kind,vI e0.Num,vS p e0.Index.Coefs c,vI e0.Index.Const,vT e0.Read.Array.l,vS p1 e0.Read.Subs c1,vS p2 e0.Kids c2] :: hf) [(33,vS p2 e0.Kids c2)] ?_
      refine xL (i:=0) (y:=(⟨[vI x.Kind,vI x.Num,vS p6 x.Index.Coefs c6,vI x.Index.Const,vT x.Read.Array.l,vS p7 x.Read.Subs c7,vS p8 x.Kids c8]⟩ : RawN zD)) rfl rfl (h2.mono ai) rfl ?_
      rintro ad aF av ⟨rfl,-⟩
      exact rY (hx:=[]) rfl (Imm.le.refl _) rfl (xX rfl) ⟨_,rfl,rfl,av⟩
     ·intro imm1 hf ai
      refine yI ?_
      rintro _ _ ⟨ad,rfl,rfl,av⟩
      refine xQ <| tQ (hB b1 [vI 0,vI 0,.slice none 0 0,vI 0,vT ([]),.slice none 0 0,.slice none 0 0] :: hB b [vI e0.Kind,vI e0.Num,vS p e0.Index.Coefs c,vI e0.Index.Const,vT e0.Read.Array.l,vS p1 e0.Read.Subs c1,vS p2 e0.Kids c2] :: hf) [(34,.pointer (some ad))] ?_
      exact yY 0 av [vI x.Kind,vI x.Num,vS p6 x.Index.Coefs c6,vI x.Index.Const,vT x.Read.Array.l,vS p7 x.Read.Subs c7,vS p8 x.Kids c8] (vA [vI x.Kind,vI x.Num,vS p6 x.Index.Coefs c6,vI x.Index.Const,vT x.Read.Array.l,vS p7 x.Read.Subs c7,vS p8 x.Kids c8]) rfl <| rY (hx:=[]) rfl (Imm.le.refl _) rfl (xX rfl) ⟨rfl,rfl⟩
     ·intro imm1 hf ai
      refine yI ?_
      rintro _ _ ⟨rfl,rfl⟩
      refine yI ?_
      rintro _ _ rfl
      refine xQ <| tQ ((A0++(A1++A2))++(hB b1 [vI 0,vI 0,.slice none 0 0,vI 0,vT ([]),.slice none 0 0,.slice none 0 0] :: hB b [vI e0.Kind,vI e0.Num,vS p e0.Index.Coefs c,vI e0.Index.Const,vT e0.Read.Array.l,vS p1 e0.Read.Subs c1,vS p2 e0.Kids c2] :: hf)) [(35,vA [vI x.Kind,vI x.Num,vS p6 x.Index.Coefs c6,vI x.Index.Const,vT x.Read.Array.l,vS p7 x.Read.Subs c7,vS p8 x.Kids c8])] ?_
      refine uZ (hs1:=A0++(A1++A2)) (rest:=(hB b1 [vI 0,vI 0,.slice none 0 0,vI 0,vT ([]),.slice none 0 0,.slice none 0 0] :: hB b [vI e0.Kind,vI e0.Num,vS p e0.Index.Coefs c,vI e0.Index.Const,vT e0.Read.Array.l,vS p1 e0.Read.Subs c1,vS p2 e0.Kids c2] :: hf)) rfl rfl rfl rfl (by kernel_rfl) rfl rfl (ih_impl_fold x _ bk m0 m1 m2) ?_
      rintro imm2 Y v2 k2 ax - ⟨aM,rfl,hD⟩ -
      have hD2:=eH hD
      obtain⟨g0,g1,g2,_,_,_,rfl,-,n0,n1,n2⟩:=hD2
      obtain⟨p9,c9,rfl⟩:=n0.form
      obtain⟨aX,a8,rfl⟩:=n1.form
      obtain⟨a7,a6,rfl⟩:=n2.form
      exact rY (hx:=Y) rfl ax rfl (xX rfl) ⟨_,_,_,_,_,_,rfl,hD⟩
     ·intro imm1 hf ai
      refine yI ?_
      rintro _ _ ⟨rfl,rfl⟩
      refine xQ <| tQ (hB b1 [vI 0,vI 0,.slice none 0 0,vI 0,vT ([]),.slice none 0 0,.slice none 0 0] :: hB b [vI e0.Kind,vI e0.Num,vS p e0.Index.Coefs c,vI e0.Index.Const,vT e0.Read.Array.l,vS p1 e0.Read.Subs c1,vS p2 e0.Kids c2] :: hf) [(38,vS p2 e0.Kids c2)] ?_
      refine xL (i:=1) (y:=(⟨[vI x1.Kind,vI x1.Num,vS bu x1.Index.Coefs bc,vI x1.Index.Const,vT x1.Read.Array.l,vS aZ x1.Read.Subs bm,vS p14 x1.Kids c14]⟩ : RawN zD)) rfl rfl (h2.mono ai) rfl ?_
      rintro ad aF av ⟨rfl,-⟩
      exact rY (hx:=[]) rfl (Imm.le.refl _) rfl (xX rfl) ⟨_,rfl,rfl,av⟩
     ·intro imm1 hf ai
      refine yI ?_
      rintro _ _ ⟨ad,rfl,rfl,av⟩
      refine xQ <| tQ (hB b1 [vI 0,vI 0,.slice none 0 0,vI 0,vT ([]),.slice none 0 0,.slice none 0 0] :: hB b [vI e0.Kind,vI e0.Num,vS p e0.Index.Coefs c,vI e0.Index.Const,vT e0.Read.Array.l,vS p1 e0.Read.Subs c1,vS p2 e0.Kids c2] :: hf) [(39,.pointer (some ad))] ?_
      exact yY 0 av [vI x1.Kind,vI x1.Num,vS bu x1.Index.Coefs bc,vI x1.Index.Const,vT x1.Read.Array.l,vS aZ x1.Read.Subs bm,vS p14 x1.Kids c14] (vA [vI x1.Kind,vI x1.Num,vS bu x1.Index.Coefs bc,vI x1.Index.Const,vT x1.Read.Array.l,vS aZ x1.Read.Subs bm,vS p14 x1.Kids c14]) rfl <| rY (hx:=[]) rfl (Imm.le.refl _) rfl (xX rfl) ⟨rfl,rfl⟩
     ·intro imm1 hf ai
      refine yI ?_
      rintro _ _ ⟨rfl,rfl⟩
      refine yI ?_
      rintro _ _ rfl
      refine xQ <| tQ ((B0++(B1++B2))++(hB b1 [vI 0,vI 0,.slice none 0 0,vI 0,vT ([]),.slice none 0 0,.slice none 0 0] :: hB b [vI e0.Kind,vI e0.Num,vS p e0.Index.Coefs c,vI e0.Index.Const,vT e0.Read.Array.l,vS p1 e0.Read.Subs c1,vS p2 e0.Kids c2] :: hf)) [(40,vA [vI x1.Kind,vI x1.Num,vS bu x1.Index.Coefs bc,vI x1.Index.Const,vT x1.Read.Array.l,vS aZ x1.Read.Subs bm,vS p14 x1.Kids c14])] ?_
      refine uZ (hs1:=B0++(B1++B2)) (rest:=(hB b1 [vI 0,vI 0,.slice none 0 0,vI 0,vT ([]),.slice none 0 0,.slice none 0 0] :: hB b [vI e0.Kind,vI e0.Num,vS p e0.Index.Coefs c,vI e0.Index.Const,vT e0.Read.Array.l,vS p1 e0.Read.Subs c1,vS p2 e0.Kids c2] :: hf)) rfl rfl rfl rfl (by kernel_rfl) rfl rfl (ih_impl_fold x1 _ hy6 m3 m4 m5) ?_
      rintro imm2 Y v2 k2 ax - ⟨aM,rfl,hD⟩ -
      have hD2:=eH hD
      obtain⟨g0,g1,g2,_,_,_,rfl,-,n0,n1,n2⟩:=hD2
      obtain⟨p15,c15,rfl⟩:=n0.form
      obtain⟨p16,c16,rfl⟩:=n1.form
      obtain⟨p17,c17,rfl⟩:=n2.form
      exact rY (hx:=Y) rfl ax rfl (xX rfl) ⟨_,_,_,_,_,_,rfl,hD⟩
     ·intro imm1 hf ai
      refine xQ <| tQ (hB b1 [vI 0,vI 0,.slice none 0 0,vI 0,vT ([]),.slice none 0 0,.slice none 0 0] :: hB b [vI e0.Kind,vI e0.Num,vS p e0.Index.Coefs c,vI e0.Index.Const,vT e0.Read.Array.l,vS p1 e0.Read.Subs c1,vS p2 e0.Kids c2] :: hf) [] ?_
      refine xT (c:=⟨[vI 0,vI 0,.slice none 0 0,vI 0,vT ([]),.slice none 0 0,.slice none 0 0]⟩) rfl rfl rfl (by kernel_rfl) ?_
      intro b2 hb2
      exact rY (hx:=[hB b2 [vI 0,vI 0,.slice none 0 0,vI 0,vT ([]),.slice none 0 0,.slice none 0 0]]) rfl (Imm.le.refl _) rfl (xX rfl) ⟨_,rfl,rfl⟩
     ·intro imm1 hf ai
      refine xQ <| tQ (hB b1 [vI 0,vI 0,.slice none 0 0,vI 0,vT ([]),.slice none 0 0,.slice none 0 0] :: hB b [vI e0.Kind,vI e0.Num,vS p e0.Index.Coefs c,vI e0.Index.Const,vT e0.Read.Array.l,vS p1 e0.Read.Subs c1,vS p2 e0.Kids c2] :: hf) [] ?_
      refine xT (c:=⟨[vI 0,vI 0,.slice none 0 0,vI 0,vT ([]),.slice none 0 0,.slice none 0 0]⟩) rfl rfl rfl (by kernel_rfl) ?_
      intro b3 hb3
      exact rY (hx:=[hB b3 [vI 0,vI 0,.slice none 0 0,vI 0,vT ([]),.slice none 0 0,.slice none 0 0]]) rfl (Imm.le.refl _) rfl (xX rfl) ⟨_,rfl,rfl⟩
     ·intro imm1 hf ai
      refine yI ?_
      rintro _ Y ⟨p9,c9,aX,a8,a7,a6,rfl,hD⟩
      refine yI ?_
      rintro _ _ ⟨b2,rfl,rfl⟩
      refine xQ <| tQ (hB b2 [vI 0,vI 0,.slice none 0 0,vI 0,vT ([]),.slice none 0 0,.slice none 0 0] :: (Y++(hB b1 [vI 0,vI 0,.slice none 0 0,vI 0,vT ([]),.slice none 0 0,.slice none 0 0] :: hB b [vI e0.Kind,vI e0.Num,vS p e0.Index.Coefs c,vI e0.Index.Const,vT e0.Read.Array.l,vS p1 e0.Read.Subs c1,vS p2 e0.Kids c2] :: hf))) [(3,vP b2 0),(36,vA [vI y3.Kind,vI y3.Num,vS p9 y3.Index.Coefs c9,vI y3.Index.Const,vT y3.Read.Array.l,vS aX y3.Read.Subs a8,vS a7 y3.Kids a6])] ?_
      exact uJ 0 [vI y3.Kind,vI y3.Num,vS p9 y3.Index.Coefs c9,vI y3.Index.Const,vT y3.Read.Array.l,vS aX y3.Read.Subs a8,vS a7 y3.Kids a6] (hB b2 [vI y3.Kind,vI y3.Num,vS p9 y3.Index.Coefs c9,vI y3.Index.Const,vT y3.Read.Array.l,vS aX y3.Read.Subs a8,vS a7 y3.Kids a6] :: (Y++(hB b1 [vI 0,vI 0,.slice none 0 0,vI 0,vT ([]),.slice none 0 0,.slice none 0 0] :: hB b [vI e0.Kind,vI e0.Num,vS p e0.Index.Coefs c,vI e0.Index.Const,vT e0.Read.Array.l,vS p1 e0.Read.Subs c1,vS p2 e0.Kids c2] :: hf))) rfl rfl rfl rfl <| rY (hx:=hB b2 [vI y3.Kind,vI y3.Num,vS p9 y3.Index.Coefs c9,vI y3.Index.Const,vT y3.Read.Array.l,vS aX y3.Read.Subs a8,vS a7 y3.Kids a6] :: Y) rfl (Imm.le.refl _) rfl (xX rfl) ⟨_,_,_,_,_,_,_,_,rfl,rfl,hD⟩
    ·intro imm06 bB
     refine yI ?_
     rintro _ Yy ⟨p15,c15,p16,c16,p17,c17,rfl,hDy⟩
     refine yI ?_
     rintro _ _ ⟨b3,rfl,rfl⟩
     refine yI ?_
     rintro _ _ ⟨b21,p91,c91,p101,c101,p111,c111,Yx,rfl,rfl,hDx⟩
     refine xQ <| tQ (hB b21 [vI y3.Kind,vI y3.Num,vS p91 y3.Index.Coefs c91,vI y3.Index.Const,vT y3.Read.Array.l,vS p101 y3.Read.Subs c101,vS p111 y3.Kids c111] :: (Yx++(hB b3 [vI 0,vI 0,.slice none 0 0,vI 0,vT ([]),.slice none 0 0,.slice none 0 0] :: (Yy++[hB b1 [vI 0,vI 0,.slice none 0 0,vI 0,vT ([]),.slice none 0 0,.slice none 0 0],hB b [vI e0.Kind,vI e0.Num,vS p e0.Index.Coefs c,vI e0.Index.Const,vT e0.Read.Array.l,vS p1 e0.Read.Subs c1,vS p2 e0.Kids c2]])))) [(1,vP b 0),(2,vP b1 0),(3,vP b21 0),(4,vP b3 0),(41,vA [vI y4.Kind,vI y4.Num,vS p15 y4.Index.Coefs c15,vI y4.Index.Const,vT y4.Read.Array.l,vS p16 y4.Read.Subs c16,vS p17 y4.Kids c17])] ?_
     refine zCF (hB b21 [vI y3.Kind,vI y3.Num,vS p91 y3.Index.Coefs c91,vI y3.Index.Const,vT y3.Read.Array.l,vS p101 y3.Read.Subs c101,vS p111 y3.Kids c111] :: hB b3 [vI 0,vI 0,.slice none 0 0,vI 0,vT ([]),.slice none 0 0,.slice none 0 0] :: hB b1 [vI 0,vI 0,.slice none 0 0,vI 0,vT ([]),.slice none 0 0,.slice none 0 0] :: hB b [vI e0.Kind,vI e0.Num,vS p e0.Index.Coefs c,vI e0.Index.Const,vT e0.Read.Array.l,vS p1 e0.Read.Subs c1,vS p2 e0.Kids c2] :: (Yx++Yy)) ((pmE _ Yx Yy [_,_]).cons _) ?_
     replace ap:=ap.trans bB
     refine uJ 1 [vI y4.Kind,vI y4.Num,vS p15 y4.Index.Coefs c15,vI y4.Index.Const,vT y4.Read.Array.l,vS p16 y4.Read.Subs c16,vS p17 y4.Kids c17] (hB b21 [vI y3.Kind,vI y3.Num,vS p91 y3.Index.Coefs c91,vI y3.Index.Const,vT y3.Read.Array.l,vS p101 y3.Read.Subs c101,vS p111 y3.Kids c111] :: hB b3 [vI y4.Kind,vI y4.Num,vS p15 y4.Index.Coefs c15,vI y4.Index.Const,vT y4.Read.Array.l,vS p16 y4.Read.Subs c16,vS p17 y4.Kids c17] :: hB b1 [vI 0,vI 0,.slice none 0 0,vI 0,vT ([]),.slice none 0 0,.slice none 0 0] :: hB b [vI e0.Kind,vI e0.Num,vS p e0.Index.Coefs c,vI e0.Index.Const,vT e0.Read.Array.l,vS p1 e0.Read.Subs c1,vS p2 e0.Kids c2] :: (Yx++Yy)) rfl rfl rfl rfl <| zX rfl <| zH <| zM <| zE <| xF 4 [3,0,1] [(43,vI e0.Kind),(44,vA [vI y3.Kind,vI y3.Num,vS p91 y3.Index.Coefs c91,vI y3.Index.Const,vT y3.Read.Array.l,vS p101 y3.Read.Subs c101,vS p111 y3.Kids c111]),(45,vA [vI y4.Kind,vI y4.Num,vS p15 y4.Index.Coefs c15,vI y4.Index.Const,vT y4.Read.Array.l,vS p16 y4.Read.Subs c16,vS p17 y4.Kids c17])] <| nM (cs:=[vI y3.Kind,vI y3.Num,vS p91 y3.Index.Coefs c91,vI y3.Index.Const,vT y3.Read.Array.l,vS p101 y3.Read.Subs c101,vS p111 y3.Kids c111,vI y4.Kind,vI y4.Num,vS p15 y4.Index.Coefs c15,vI y4.Index.Const,vT y4.Read.Array.l,vS p16 y4.Read.Subs c16,vS p17 y4.Kids c17]) (Rp.sz zD) rfl rfl rfl rfl (by kernel_rfl) (by kernel_rfl) ?_
     intro b4 hb4
     refine xF 6 [] [(47,vA [vI e0.Kind,vI 0,.slice none 0 0,vI 0,vT ([]),.slice none 0 0,vS (some ⟨b4,0,none⟩) ([y3,y4] : List zD) 2])] <| xT (c:=⟨[vI 0,vI 0,.slice none 0 0,vI 0,vT ([]),.slice none 0 0,.slice none 0 0]⟩) rfl rfl rfl (by kernel_rfl) ?_
     intro b5 hb5
     refine uJ 0 [vI e0.Kind,vI 0,.slice none 0 0,vI 0,vT ([]),.slice none 0 0,vS (some ⟨b4,0,none⟩) ([y3,y4] : List zD) 2] (hB b5 [vI e0.Kind,vI 0,.slice none 0 0,vI 0,vT ([]),.slice none 0 0,vS (some ⟨b4,0,none⟩) ([y3,y4] : List zD) 2] :: hO zD (vS (some ⟨b4,0,none⟩) ([y3,y4] : List zD) 2) [vI y3.Kind,vI y3.Num,vS p91 y3.Index.Coefs c91,vI y3.Index.Const,vT y3.Read.Array.l,vS p101 y3.Read.Subs c101,vS p111 y3.Kids c111,vI y4.Kind,vI y4.Num,vS p15 y4.Index.Coefs c15,vI y4.Index.Const,vT y4.Read.Array.l,vS p16 y4.Read.Subs c16,vS p17 y4.Kids c17] :: hB b21 [vI y3.Kind,vI y3.Num,vS p91 y3.Index.Coefs c91,vI y3.Index.Const,vT y3.Read.Array.l,vS p101 y3.Read.Subs c101,vS p111 y3.Kids c111] :: hB b3 [vI y4.Kind,vI y4.Num,vS p15 y4.Index.Coefs c15,vI y4.Index.Const,vT y4.Read.Array.l,vS p16 y4.Read.Subs c16,vS p17 y4.Kids c17] :: hB b1 [vI 0,vI 0,.slice none 0 0,vI 0,vT ([]),.slice none 0 0,.slice none 0 0] :: hB b [vI e0.Kind,vI e0.Num,vS p e0.Index.Coefs c,vI e0.Index.Const,vT e0.Read.Array.l,vS p1 e0.Read.Subs c1,vS p2 e0.Kids c2] :: (Yx++Yy)) rfl rfl rfl rfl <| zX rfl <| zH <| zM <| zE <| yO [5] [(6,.bool (e0.Kind==6))] <| zH <| zM <| zM ?_
     obtain⟨aO,aJ,hMc1⟩:=zF hM
     refine zA0 (λaf aj m' => ∃(t58 : Bool),aO = t58 /\ imm06.le af /\ aj = (hB b5 [vI e0.Kind,vI 0,.slice none 0 0,vI 0,vT ([]),.slice none 0 0,vS (some ⟨b4,0,none⟩) ([y3,y4] : List zD) 2] :: hO zD (vS (some ⟨b4,0,none⟩) ([y3,y4] : List zD) 2) [vI y3.Kind,vI y3.Num,vS p91 y3.Index.Coefs c91,vI y3.Index.Const,vT y3.Read.Array.l,vS p101 y3.Read.Subs c101,vS p111 y3.Kids c111,vI y4.Kind,vI y4.Num,vS p15 y4.Index.Coefs c15,vI y4.Index.Const,vT y4.Read.Array.l,vS p16 y4.Read.Subs c16,vS p17 y4.Kids c17] :: hB b21 [vI y3.Kind,vI y3.Num,vS p91 y3.Index.Coefs c91,vI y3.Index.Const,vT y3.Read.Array.l,vS p101 y3.Read.Subs c101,vS p111 y3.Kids c111] :: hB b3 [vI y4.Kind,vI y4.Num,vS p15 y4.Index.Coefs c15,vI y4.Index.Const,vT y4.Read.Array.l,vS p16 y4.Read.Subs c16,vS p17 y4.Kids c17] :: hB b1 [vI 0,vI 0,.slice none 0 0,vI 0,vT ([]),.slice none 0 0,.slice none 0 0] :: hB b [vI e0.Kind,vI e0.Num,vS p e0.Index.Coefs c,vI e0.Index.Const,vT e0.Read.Array.l,vS p1 e0.Read.Subs c1,vS p2 e0.Kids c2] :: (Yx++Yy)) /\ m' = [(1,vP b 0),(2,vP b1 0),(3,vP b21 0),(4,vP b3 0),(5,vP b5 0),(6,.bool (e0.Kind==6)),(58,.bool t58)]) ?_ ?_
     ·have hle01:=ap
      have ap : imm06.le imm06:=Imm.le.refl _
      refine zE <| xF 4 [2] [(54,.bool (y3.Kind==1))] <| wN [54] aJ ?_ ?_
      ·intro bD hM
       exact yO [3] [(58,.bool (y4.Kind==1))] <| dZ [(1,vP b 0),(2,vP b1 0),(3,vP b21 0),(4,vP b3 0),(5,vP b5 0),(6,.bool (e0.Kind==6)),(58,.bool (y4.Kind==1))] <| zY ⟨_,(zB hM).symm,ap,rfl,rfl⟩
      ·intro bD hM
       exact yO [] [(58,.bool false)] <| dZ [(1,vP b 0),(2,vP b1 0),(3,vP b21 0),(4,vP b3 0),(5,vP b5 0),(6,.bool (e0.Kind==6)),(58,.bool false)] <| zY ⟨_,(zB hM).symm,ap,rfl,rfl⟩
     ·rintro imm07 aK m2 ⟨t58,heq1,le7,rfl,rfl⟩
      subst aO
      replace ap:=ap.trans le7
      refine zH <| yD hMc1 ?_ ?_
      ·intro hc5 hM
       refine zM <| zE <| yO [2,3] [(7,vI (W (y3.Num+y4.Num)))] <| zH <| zM <| zM <| zE <| yO [5] [(65,vI e0.Kind)] <| zH <| zZ <| zM <| zE <| yO [] [(66,.bool (e0.Kind==5))] <| zH <| zB1 2 rfl ?_
       intro imm08 le8 hl0
       have aS : At imm08 ⟨b21,0,none⟩ [vI y3.Kind,vI y3.Num,vS p91 y3.Index.Coefs c91,vI y3.Index.Const,vT y3.Read.Array.l,vS p101 y3.Read.Subs c101,vS p111 y3.Kids c111]:=At.of_blk hl0
       replace ap:=ap.trans le8
       refine zB1 2 rfl ?_
       intro imm09 le9 hl01
       have hat3 : At imm09 ⟨b3,0,none⟩ [vI y4.Kind,vI y4.Num,vS p15 y4.Index.Coefs c15,vI y4.Index.Const,vT y4.Read.Array.l,vS p16 y4.Read.Subs c16,vS p17 y4.Kids c17]:=At.of_blk hl01
       replace aS:=aS.mono le9
       replace ap:=ap.trans le9
       refine zB1 3 rfl ?_
       intro imm010 le10 hl02
       have hat4 : At imm010 ⟨b,0,none⟩ [vI e0.Kind,vI e0.Num,vS p e0.Index.Coefs c,vI e0.Index.Const,vT e0.Read.Array.l,vS p1 e0.Read.Subs c1,vS p2 e0.Kids c2]:=At.of_blk hl02
       replace aS:=aS.mono le10
       replace hat3:=hat3.mono le10
       replace ap:=ap.trans le10
       obtain⟨o02,ho02,hMc2⟩:=zF hM
       refine zA0 (λaf aj m' => ∃(n0 : Int),o02 = n0 /\ imm010.le af /\ aj = (hB b5 [vI e0.Kind,vI 0,.slice none 0 0,vI 0,vT ([]),.slice none 0 0,vS (some ⟨b4,0,none⟩) ([y3,y4] : List zD) 2] :: hO zD (vS (some ⟨b4,0,none⟩) ([y3,y4] : List zD) 2) [vI y3.Kind,vI y3.Num,vS p91 y3.Index.Coefs c91,vI y3.Index.Const,vT y3.Read.Array.l,vS p101 y3.Read.Subs c101,vS p111 y3.Kids c111,vI y4.Kind,vI y4.Num,vS p15 y4.Index.Coefs c15,vI y4.Index.Const,vT y4.Read.Array.l,vS p16 y4.Read.Subs c16,vS p17 y4.Kids c17] :: hB b1 [vI 0,vI 0,.slice none 0 0,vI 0,vT ([]),.slice none 0 0,.slice none 0 0] :: (Yx++Yy)) /\ m' = [(2,vP b1 0),(5,vP b5 0),(7,vI n0)]) ?_ ?_
       ·have hle02:=ap
        have ap : imm010.le imm010:=Imm.le.refl _
        refine yD ho02 ?_ ?_
        ·intro hc6 hM
         exact zE <| xF 1 [] [(68,vP b21 1)] <| yY 1 aS [vI y3.Num] (vI y3.Num) rfl <| xF 3 [] [(70,vP b3 1)] <| yY 1 hat3 [vI y4.Num] (vI y4.Num) rfl <| yO [] [(7,vI (W (y3.Num - y4.Num)))] <| dZ [(2,vP b1 0),(5,vP b5 0),(7,vI (W (y3.Num - y4.Num)))] <| zY ⟨_,(zB hM).symm,ap,rfl,rfl⟩
        ·intro hc6 hM
         refine zM <| zE <| yO [] [(73,.bool (e0.Kind==6))] <| zH ?_
         obtain⟨o03,ho03,hMc3⟩:=zF hM
         refine zA0 (λaf aj m' => ∃(n01 : Int),o03 = n01 /\ imm010.le af /\ aj = (hB b5 [vI e0.Kind,vI 0,.slice none 0 0,vI 0,vT ([]),.slice none 0 0,vS (some ⟨b4,0,none⟩) ([y3,y4] : List zD) 2] :: hO zD (vS (some ⟨b4,0,none⟩) ([y3,y4] : List zD) 2) [vI y3.Kind,vI y3.Num,vS p91 y3.Index.Coefs c91,vI y3.Index.Const,vT y3.Read.Array.l,vS p101 y3.Read.Subs c101,vS p111 y3.Kids c111,vI y4.Kind,vI y4.Num,vS p15 y4.Index.Coefs c15,vI y4.Index.Const,vT y4.Read.Array.l,vS p16 y4.Read.Subs c16,vS p17 y4.Kids c17] :: hB b1 [vI 0,vI 0,.slice none 0 0,vI 0,vT ([]),.slice none 0 0,.slice none 0 0] :: (Yx++Yy)) /\ m' = [(2,vP b1 0),(5,vP b5 0),(7,vI n01)]) ?_ ?_
         ·have hle03:=ap
          have ap : imm010.le imm010:=Imm.le.refl _
          refine yD ho03 ?_ ?_
          ·intro hc7 hM
           exact zE <| xF 1 [] [(75,vP b21 1)] <| yY 1 aS [vI y3.Num] (vI y3.Num) rfl <| xF 3 [] [(77,vP b3 1)] <| yY 1 hat3 [vI y4.Num] (vI y4.Num) rfl <| yO [] [(7,vI (W (y3.Num*y4.Num)))] <| dZ [(2,vP b1 0),(5,vP b5 0),(7,vI (W (y3.Num*y4.Num)))] <| zY ⟨_,(zB hM).symm,ap,rfl,rfl⟩
          ·intro hc7 hM
           exact zT <| dZ [(2,vP b1 0),(5,vP b5 0),(7,vI (W (y3.Num+y4.Num)))] <| zY ⟨_,(zB hM).symm,ap,rfl,rfl⟩
         ·rintro imm012 aK m2 ⟨n01,heq2,le11,rfl,rfl⟩
          subst o03
          replace ap:=ap.trans le11
          exact dZ [(2,vP b1 0),(5,vP b5 0),(7,vI n01)] <| zY ⟨_,(zB hMc3).symm,ap,rfl,rfl⟩
       ·rintro imm011 aK m2 ⟨n0,heq3,le12,rfl,rfl⟩
        subst o02
        replace ap:=ap.trans le12
        refine zQ <| zH <| zM <| zM <| zE <| xF 1 [] [(80,vI n0)] ?_
        obtain⟨y5,hy7,hM⟩:=zF hMc2
        refine uZ (hs1:=[]) (rest:=(hB b5 [vI e0.Kind,vI 0,.slice none 0 0,vI 0,vT ([]),.slice none 0 0,vS (some ⟨b4,0,none⟩) ([y3,y4] : List zD) 2] :: hO zD (vS (some ⟨b4,0,none⟩) ([y3,y4] : List zD) 2) [vI y3.Kind,vI y3.Num,vS p91 y3.Index.Coefs c91,vI y3.Index.Const,vT y3.Read.Array.l,vS p101 y3.Read.Subs c101,vS p111 y3.Kids c111,vI y4.Kind,vI y4.Num,vS p15 y4.Index.Coefs c15,vI y4.Index.Const,vT y4.Read.Array.l,vS p16 y4.Read.Subs c16,vS p17 y4.Kids c17] :: hB b1 [vI 0,vI 0,.slice none 0 0,vI 0,vT ([]),.slice none 0 0,.slice none 0 0] :: (Yx++Yy))) rfl rfl rfl rfl (by kernel_rfl) rfl rfl (wO n0 0 99 _ hy7 ) ?_
        rintro imm013 aK v2 k2 le13 - ⟨v020,rfl,rfl,rfl⟩ -
        replace ap:=ap.trans le13
        refine zX rfl <| zH <| yD hM ?_ ?_
        ·intro hc8 hM
         refine zM <| zE <| xF 1 [] [(82,vI n0)] ?_
         obtain⟨y6,hy8,hM⟩:=zF hM
         refine uZ (hs1:=[]) (rest:=(hB b5 [vI e0.Kind,vI 0,.slice none 0 0,vI 0,vT ([]),.slice none 0 0,vS (some ⟨b4,0,none⟩) ([y3,y4] : List zD) 2] :: hO zD (vS (some ⟨b4,0,none⟩) ([y3,y4] : List zD) 2) [vI y3.Kind,vI y3.Num,vS p91 y3.Index.Coefs c91,vI y3.Index.Const,vT y3.Read.Array.l,vS p101 y3.Read.Subs c101,vS p111 y3.Kids c111,vI y4.Kind,vI y4.Num,vS p15 y4.Index.Coefs c15,vI y4.Index.Const,vT y4.Read.Array.l,vS p16 y4.Read.Subs c16,vS p17 y4.Kids c17] :: hB b1 [vI 0,vI 0,.slice none 0 0,vI 0,vT ([]),.slice none 0 0,.slice none 0 0] :: (Yx++Yy))) rfl rfl rfl rfl (by kernel_rfl) rfl rfl (zDH n0 _ hy8 ) ?_
         rintro imm014 aK v2 k2 le14 - ⟨rfl,rfl,hN⟩ -
         replace ap:=ap.trans le14
         refine uJ 2 [vI 1,vI n0,.slice none 0 0,vI 0,vT ([]),.slice none 0 0,.slice none 0 0] (hB b5 [vI e0.Kind,vI 0,.slice none 0 0,vI 0,vT ([]),.slice none 0 0,vS (some ⟨b4,0,none⟩) ([y3,y4] : List zD) 2] :: hO zD (vS (some ⟨b4,0,none⟩) ([y3,y4] : List zD) 2) [vI y3.Kind,vI y3.Num,vS p91 y3.Index.Coefs c91,vI y3.Index.Const,vT y3.Read.Array.l,vS p101 y3.Read.Subs c101,vS p111 y3.Kids c111,vI y4.Kind,vI y4.Num,vS p15 y4.Index.Coefs c15,vI y4.Index.Const,vT y4.Read.Array.l,vS p16 y4.Read.Subs c16,vS p17 y4.Kids c17] :: hB b1 [vI 1,vI n0,.slice none 0 0,vI 0,vT ([]),.slice none 0 0,.slice none 0 0] :: (Yx++Yy)) rfl rfl rfl rfl <| zX rfl <| zH <| yF <| zG <| zG ?_
         obtain rfl:=zB hM
         exact yV ⟨_,nilE,(.cell 2 rfl rfl (by kernel_rfl) ResV.nil),zF6,⟨_,rfl,hN⟩⟩
        ·intro hc8 hM
         refine zT <| zH <| zM <| zE <| xF 1 [0] [(84,vA [vI e0.Kind,vI 0,.slice none 0 0,vI 0,vT ([]),.slice none 0 0,vS (some ⟨b4,0,none⟩) ([y3,y4] : List zD) 2])] <| uJ 2 [vI e0.Kind,vI 0,.slice none 0 0,vI 0,vT ([]),.slice none 0 0,vS (some ⟨b4,0,none⟩) ([y3,y4] : List zD) 2] (hB b5 [vI e0.Kind,vI 0,.slice none 0 0,vI 0,vT ([]),.slice none 0 0,vS (some ⟨b4,0,none⟩) ([y3,y4] : List zD) 2] :: hO zD (vS (some ⟨b4,0,none⟩) ([y3,y4] : List zD) 2) [vI y3.Kind,vI y3.Num,vS p91 y3.Index.Coefs c91,vI y3.Index.Const,vT y3.Read.Array.l,vS p101 y3.Read.Subs c101,vS p111 y3.Kids c111,vI y4.Kind,vI y4.Num,vS p15 y4.Index.Coefs c15,vI y4.Index.Const,vT y4.Read.Array.l,vS p16 y4.Read.Subs c16,vS p17 y4.Kids c17] :: hB b1 [vI e0.Kind,vI 0,.slice none 0 0,vI 0,vT ([]),.slice none 0 0,vS (some ⟨b4,0,none⟩) ([y3,y4] : List zD) 2] :: (Yx++Yy)) rfl rfl rfl rfl <| zX rfl <| zH <| yF <| zG ?_
         obtain rfl:=zB hM
         exact yV ⟨_,_ :: _ :: (_ :: (Yx++Yy)),(.cell 2 rfl rfl (by kernel_rfl) ResV.nil),(λw g=>((zGm [_] g).nil_osl 2).nil_osl 1),⟨_,rfl,zAH (X0:=[_]) (X1:=[_]) (e:=zD.mk e0.Kind 0 (zC.mk ([] : List Int) 0) (zK.mk (⟨[]⟩ : Str) ([] : List zC)) ([y3,y4] : List zD)) .nil .nil (.mk' (ae:=[⟨[vI y3.Kind,vI y3.Num,vS p91 y3.Index.Coefs c91,vI y3.Index.Const,vT y3.Read.Array.l,vS p101 y3.Read.Subs c101,vS p111 y3.Kids c111]⟩,⟨[vI y4.Kind,vI y4.Num,vS p15 y4.Index.Coefs c15,vI y4.Index.Const,vT y4.Read.Array.l,vS p16 y4.Read.Subs c16,vS p17 y4.Kids c17]⟩]) ⟨Yx,Yy,rfl,hDx,Yy,[],(ce Yy).symm,hDy,rfl⟩)⟩⟩
      ·intro hc5 hM
       refine zT <| zH <| zM <| zZ <| zM ?_
       obtain⟨o04,ho04,hMc4⟩:=zF hM
       refine zA0 (λaf aj m' => ∃(t85 : Bool),o04 = t85 /\ imm07.le af /\ aj = (hB b5 [vI e0.Kind,vI 0,.slice none 0 0,vI 0,vT ([]),.slice none 0 0,vS (some ⟨b4,0,none⟩) ([y3,y4] : List zD) 2] :: hO zD (vS (some ⟨b4,0,none⟩) ([y3,y4] : List zD) 2) [vI y3.Kind,vI y3.Num,vS p91 y3.Index.Coefs c91,vI y3.Index.Const,vT y3.Read.Array.l,vS p101 y3.Read.Subs c101,vS p111 y3.Kids c111,vI y4.Kind,vI y4.Num,vS p15 y4.Index.Coefs c15,vI y4.Index.Const,vT y4.Read.Array.l,vS p16 y4.Read.Subs c16,vS p17 y4.Kids c17] :: hB b21 [vI y3.Kind,vI y3.Num,vS p91 y3.Index.Coefs c91,vI y3.Index.Const,vT y3.Read.Array.l,vS p101 y3.Read.Subs c101,vS p111 y3.Kids c111] :: hB b3 [vI y4.Kind,vI y4.Num,vS p15 y4.Index.Coefs c15,vI y4.Index.Const,vT y4.Read.Array.l,vS p16 y4.Read.Subs c16,vS p17 y4.Kids c17] :: hB b1 [vI 0,vI 0,.slice none 0 0,vI 0,vT ([]),.slice none 0 0,.slice none 0 0] :: hB b [vI e0.Kind,vI e0.Num,vS p e0.Index.Coefs c,vI e0.Index.Const,vT e0.Read.Array.l,vS p1 e0.Read.Subs c1,vS p2 e0.Kids c2] :: (Yx++Yy)) /\ m' = [(1,vP b 0),(2,vP b1 0),(3,vP b21 0),(4,vP b3 0),(5,vP b5 0),(6,.bool (e0.Kind==6)),(85,.bool t85)]) ?_ ?_
       ·have hle04:=ap
        have ap : imm07.le imm07:=Imm.le.refl _
        refine zE <| xF 3 [] [(88,.bool (!(e0.Kind==6)))] <| wN [88] ho04 ?_ ?_
        ·intro hc9 hM
         refine xF 4 [3] [(89,vA [vI y4.Kind,vI y4.Num,vS p15 y4.Index.Coefs c15,vI y4.Index.Const,vT y4.Read.Array.l,vS p16 y4.Read.Subs c16,vS p17 y4.Kids c17])] ?_
         obtain⟨y7,hy9,hM⟩:=zF hM
         refine uZ (hs1:=[]) (rest:=(hB b5 [vI e0.Kind,vI 0,.slice none 0 0,vI 0,vT ([]),.slice none 0 0,vS (some ⟨b4,0,none⟩) ([y3,y4] : List zD) 2] :: hO zD (vS (some ⟨b4,0,none⟩) ([y3,y4] : List zD) 2) [vI y3.Kind,vI y3.Num,vS p91 y3.Index.Coefs c91,vI y3.Index.Const,vT y3.Read.Array.l,vS p101 y3.Read.Subs c101,vS p111 y3.Kids c111,vI y4.Kind,vI y4.Num,vS p15 y4.Index.Coefs c15,vI y4.Index.Const,vT y4.Read.Array.l,vS p16 y4.Read.Subs c16,vS p17 y4.Kids c17] :: hB b21 [vI y3.Kind,vI y3.Num,vS p91 y3.Index.Coefs c91,vI y3.Index.Const,vT y3.Read.Array.l,vS p101 y3.Read.Subs c101,vS p111 y3.Kids c111] :: hB b3 [vI y4.Kind,vI y4.Num,vS p15 y4.Index.Coefs c15,vI y4.Index.Const,vT y4.Read.Array.l,vS p16 y4.Read.Subs c16,vS p17 y4.Kids c17] :: hB b1 [vI 0,vI 0,.slice none 0 0,vI 0,vT ([]),.slice none 0 0,.slice none 0 0] :: hB b [vI e0.Kind,vI e0.Num,vS p e0.Index.Coefs c,vI e0.Index.Const,vT e0.Read.Array.l,vS p1 e0.Read.Subs c1,vS p2 e0.Kids c2] :: (Yx++Yy))) rfl rfl rfl rfl (by kernel_rfl) rfl rfl (nT y4 0 _ hy9) ?_
         rintro imm017 aK v2 k2 le16 - ⟨v025,rfl,rfl,rfl⟩ -
         replace ap:=ap.trans le16
         refine xF 7 [] [(92,.bool y7)] <| wN [92] hM ?_ ?_
         ·intro hc10 hM
          exact yO [] [(85,.bool true)] <| dZ [(1,vP b 0),(2,vP b1 0),(3,vP b21 0),(4,vP b3 0),(5,vP b5 0),(6,.bool (e0.Kind==6)),(85,.bool true)] <| zY ⟨_,(zB hM).symm,ap,rfl,rfl⟩
         ·intro hc10 hM
          refine xF 9 [] [(94,.bool (e0.Kind==6))] <| wN [94] hM ?_ ?_
          ·intro hc11 hM
           refine xF 10 [3] [(95,vA [vI y4.Kind,vI y4.Num,vS p15 y4.Index.Coefs c15,vI y4.Index.Const,vT y4.Read.Array.l,vS p16 y4.Read.Subs c16,vS p17 y4.Kids c17])] ?_
           obtain⟨y8,hy10,hM⟩:=zF hM
           refine uZ (hs1:=[]) (rest:=(hB b5 [vI e0.Kind,vI 0,.slice none 0 0,vI 0,vT ([]),.slice none 0 0,vS (some ⟨b4,0,none⟩) ([y3,y4] : List zD) 2] :: hO zD (vS (some ⟨b4,0,none⟩) ([y3,y4] : List zD) 2) [vI y3.Kind,vI y3.Num,vS p91 y3.Index.Coefs c91,vI y3.Index.Const,vT y3.Read.Array.l,vS p101 y3.Read.Subs c101,vS p111 y3.Kids c111,vI y4.Kind,vI y4.Num,vS p15 y4.Index.Coefs c15,vI y4.Index.Const,vT y4.Read.Array.l,vS p16 y4.Read.Subs c16,vS p17 y4.Kids c17] :: hB b21 [vI y3.Kind,vI y3.Num,vS p91 y3.Index.Coefs c91,vI y3.Index.Const,vT y3.Read.Array.l,vS p101 y3.Read.Subs c101,vS p111 y3.Kids c111] :: hB b3 [vI y4.Kind,vI y4.Num,vS p15 y4.Index.Coefs c15,vI y4.Index.Const,vT y4.Read.Array.l,vS p16 y4.Read.Subs c16,vS p17 y4.Kids c17] :: hB b1 [vI 0,vI 0,.slice none 0 0,vI 0,vT ([]),.slice none 0 0,.slice none 0 0] :: hB b [vI e0.Kind,vI e0.Num,vS p e0.Index.Coefs c,vI e0.Index.Const,vT e0.Read.Array.l,vS p1 e0.Read.Subs c1,vS p2 e0.Kids c2] :: (Yx++Yy))) rfl rfl rfl rfl (by kernel_rfl) rfl rfl (nT y4 1 _ hy10) ?_
           rintro imm018 aK v2 k2 le17 - ⟨v026,rfl,rfl,rfl⟩ -
           replace ap:=ap.trans le17
           exact yO [] [(85,.bool y8)] <| dZ [(1,vP b 0),(2,vP b1 0),(3,vP b21 0),(4,vP b3 0),(5,vP b5 0),(6,.bool (e0.Kind==6)),(85,.bool y8)] <| zY ⟨_,(zB hM).symm,ap,rfl,rfl⟩
          ·intro hc11 hM
           exact yO [] [(85,.bool false)] <| dZ [(1,vP b 0),(2,vP b1 0),(3,vP b21 0),(4,vP b3 0),(5,vP b5 0),(6,.bool (e0.Kind==6)),(85,.bool false)] <| zY ⟨_,(zB hM).symm,ap,rfl,rfl⟩
        ·intro hc9 hM
         refine xF 9 [] [(92,.bool false),(94,.bool (e0.Kind==6))] <| wN [94] hM ?_ ?_
         ·intro hc12 hM
          refine xF 10 [3] [(95,vA [vI y4.Kind,vI y4.Num,vS p15 y4.Index.Coefs c15,vI y4.Index.Const,vT y4.Read.Array.l,vS p16 y4.Read.Subs c16,vS p17 y4.Kids c17])] ?_
          obtain⟨y9,hy11,hM⟩:=zF hM
          refine uZ (hs1:=[]) (rest:=(hB b5 [vI e0.Kind,vI 0,.slice none 0 0,vI 0,vT ([]),.slice none 0 0,vS (some ⟨b4,0,none⟩) ([y3,y4] : List zD) 2] :: hO zD (vS (some ⟨b4,0,none⟩) ([y3,y4] : List zD) 2) [vI y3.Kind,vI y3.Num,vS p91 y3.Index.Coefs c91,vI y3.Index.Const,vT y3.Read.Array.l,vS p101 y3.Read.Subs c101,vS p111 y3.Kids c111,vI y4.Kind,vI y4.Num,vS p15 y4.Index.Coefs c15,vI y4.Index.Const,vT y4.Read.Array.l,vS p16 y4.Read.Subs c16,vS p17 y4.Kids c17] :: hB b21 [vI y3.Kind,vI y3.Num,vS p91 y3.Index.Coefs c91,vI y3.Index.Const,vT y3.Read.Array.l,vS p101 y3.Read.Subs c101,vS p111 y3.Kids c111] :: hB b3 [vI y4.Kind,vI y4.Num,vS p15 y4.Index.Coefs c15,vI y4.Index.Const,vT y4.Read.Array.l,vS p16 y4.Read.Subs c16,vS p17 y4.Kids c17] :: hB b1 [vI 0,vI 0,.slice none 0 0,vI 0,vT ([]),.slice none 0 0,.slice none 0 0] :: hB b [vI e0.Kind,vI e0.Num,vS p e0.Index.Coefs c,vI e0.Index.Const,vT e0.Read.Array.l,vS p1 e0.Read.Subs c1,vS p2 e0.Kids c2] :: (Yx++Yy))) rfl rfl rfl rfl (by kernel_rfl) rfl rfl (nT y4 1 _ hy11) ?_
          rintro imm019 aK v2 k2 le18 - ⟨v027,rfl,rfl,rfl⟩ -
          replace ap:=ap.trans le18
          exact yO [] [(85,.bool y9)] <| dZ [(1,vP b 0),(2,vP b1 0),(3,vP b21 0),(4,vP b3 0),(5,vP b5 0),(6,.bool (e0.Kind==6)),(85,.bool y9)] <| zY ⟨_,(zB hM).symm,ap,rfl,rfl⟩
         ·intro hc12 hM
          exact yO [] [(85,.bool false)] <| dZ [(1,vP b 0),(2,vP b1 0),(3,vP b21 0),(4,vP b3 0),(5,vP b5 0),(6,.bool (e0.Kind==6)),(85,.bool false)] <| zY ⟨_,(zB hM).symm,ap,rfl,rfl⟩
       ·rintro imm016 aK m2 ⟨t85,heq4,le19,rfl,rfl⟩
        subst o04
        replace ap:=ap.trans le19
        refine zH <| yD hMc4 ?_ ?_
        ·intro hc13 hM
         refine zM <| zE <| xF 1 [2] [(99,vA [vI y3.Kind,vI y3.Num,vS p91 y3.Index.Coefs c91,vI y3.Index.Const,vT y3.Read.Array.l,vS p101 y3.Read.Subs c101,vS p111 y3.Kids c111])] <| uJ 4 [vI y3.Kind,vI y3.Num,vS p91 y3.Index.Coefs c91,vI y3.Index.Const,vT y3.Read.Array.l,vS p101 y3.Read.Subs c101,vS p111 y3.Kids c111] (hB b5 [vI e0.Kind,vI 0,.slice none 0 0,vI 0,vT ([]),.slice none 0 0,vS (some ⟨b4,0,none⟩) ([y3,y4] : List zD) 2] :: hO zD (vS (some ⟨b4,0,none⟩) ([y3,y4] : List zD) 2) [vI y3.Kind,vI y3.Num,vS p91 y3.Index.Coefs c91,vI y3.Index.Const,vT y3.Read.Array.l,vS p101 y3.Read.Subs c101,vS p111 y3.Kids c111,vI y4.Kind,vI y4.Num,vS p15 y4.Index.Coefs c15,vI y4.Index.Const,vT y4.Read.Array.l,vS p16 y4.Read.Subs c16,vS p17 y4.Kids c17] :: hB b21 [vI y3.Kind,vI y3.Num,vS p91 y3.Index.Coefs c91,vI y3.Index.Const,vT y3.Read.Array.l,vS p101 y3.Read.Subs c101,vS p111 y3.Kids c111] :: hB b3 [vI y4.Kind,vI y4.Num,vS p15 y4.Index.Coefs c15,vI y4.Index.Const,vT y4.Read.Array.l,vS p16 y4.Read.Subs c16,vS p17 y4.Kids c17] :: hB b1 [vI y3.Kind,vI y3.Num,vS p91 y3.Index.Coefs c91,vI y3.Index.Const,vT y3.Read.Array.l,vS p101 y3.Read.Subs c101,vS p111 y3.Kids c111] :: hB b [vI e0.Kind,vI e0.Num,vS p e0.Index.Coefs c,vI e0.Index.Const,vT e0.Read.Array.l,vS p1 e0.Read.Subs c1,vS p2 e0.Kids c2] :: (Yx++Yy)) rfl rfl rfl rfl <| zX rfl <| zH <| yF <| zR <| zG ?_
         obtain rfl:=zB hM
         exact yV ⟨_,Yx,(.cell 4 rfl rfl (by kernel_rfl) ResV.nil),(λw g=>zGk (nY [_,_,_,_,_,_] g)),⟨_,rfl,hDx⟩⟩
        ·intro hc13 hM
         refine zM ?_
         obtain⟨o05,ho05,hMc5⟩:=zF hM
         refine zA0 (λaf aj m' => ∃(t100 : Bool),o05 = t100 /\ imm016.le af /\ aj = (hB b5 [vI e0.Kind,vI 0,.slice none 0 0,vI 0,vT ([]),.slice none 0 0,vS (some ⟨b4,0,none⟩) ([y3,y4] : List zD) 2] :: hO zD (vS (some ⟨b4,0,none⟩) ([y3,y4] : List zD) 2) [vI y3.Kind,vI y3.Num,vS p91 y3.Index.Coefs c91,vI y3.Index.Const,vT y3.Read.Array.l,vS p101 y3.Read.Subs c101,vS p111 y3.Kids c111,vI y4.Kind,vI y4.Num,vS p15 y4.Index.Coefs c15,vI y4.Index.Const,vT y4.Read.Array.l,vS p16 y4.Read.Subs c16,vS p17 y4.Kids c17] :: hB b21 [vI y3.Kind,vI y3.Num,vS p91 y3.Index.Coefs c91,vI y3.Index.Const,vT y3.Read.Array.l,vS p101 y3.Read.Subs c101,vS p111 y3.Kids c111] :: hB b3 [vI y4.Kind,vI y4.Num,vS p15 y4.Index.Coefs c15,vI y4.Index.Const,vT y4.Read.Array.l,vS p16 y4.Read.Subs c16,vS p17 y4.Kids c17] :: hB b1 [vI 0,vI 0,.slice none 0 0,vI 0,vT ([]),.slice none 0 0,.slice none 0 0] :: (Yx++Yy)) /\ m' = [(2,vP b1 0),(3,vP b21 0),(4,vP b3 0),(5,vP b5 0),(6,.bool (e0.Kind==6)),(100,.bool t100)]) ?_ ?_
         ·have hle05:=ap
          have ap : imm016.le imm016:=Imm.le.refl _
          refine zE <| xF 4 [5] [(104,.bool (e0.Kind==4))] <| wN [104] ho05 ?_ ?_
          ·intro hc14 hM
           refine xF 5 [2] [(105,vA [vI y3.Kind,vI y3.Num,vS p91 y3.Index.Coefs c91,vI y3.Index.Const,vT y3.Read.Array.l,vS p101 y3.Read.Subs c101,vS p111 y3.Kids c111])] ?_
           obtain⟨y10,hy12,hM⟩:=zF hM
           refine uZ (hs1:=[]) (rest:=(hB b5 [vI e0.Kind,vI 0,.slice none 0 0,vI 0,vT ([]),.slice none 0 0,vS (some ⟨b4,0,none⟩) ([y3,y4] : List zD) 2] :: hO zD (vS (some ⟨b4,0,none⟩) ([y3,y4] : List zD) 2) [vI y3.Kind,vI y3.Num,vS p91 y3.Index.Coefs c91,vI y3.Index.Const,vT y3.Read.Array.l,vS p101 y3.Read.Subs c101,vS p111 y3.Kids c111,vI y4.Kind,vI y4.Num,vS p15 y4.Index.Coefs c15,vI y4.Index.Const,vT y4.Read.Array.l,vS p16 y4.Read.Subs c16,vS p17 y4.Kids c17] :: hB b21 [vI y3.Kind,vI y3.Num,vS p91 y3.Index.Coefs c91,vI y3.Index.Const,vT y3.Read.Array.l,vS p101 y3.Read.Subs c101,vS p111 y3.Kids c111] :: hB b3 [vI y4.Kind,vI y4.Num,vS p15 y4.Index.Coefs c15,vI y4.Index.Const,vT y4.Read.Array.l,vS p16 y4.Read.Subs c16,vS p17 y4.Kids c17] :: hB b1 [vI 0,vI 0,.slice none 0 0,vI 0,vT ([]),.slice none 0 0,.slice none 0 0] :: hB b [vI e0.Kind,vI e0.Num,vS p e0.Index.Coefs c,vI e0.Index.Const,vT e0.Read.Array.l,vS p1 e0.Read.Subs c1,vS p2 e0.Kids c2] :: (Yx++Yy))) rfl rfl rfl rfl (by kernel_rfl) rfl rfl (nT y3 0 _ hy12) ?_
           rintro imm021 aK v2 k2 le20 - ⟨v028,rfl,rfl,rfl⟩ -
           replace ap:=ap.trans le20
           refine xF 8 [] [(108,.bool y10)] <| wN [108] hM ?_ ?_
           ·intro hc15 hM
            exact yO [] [(100,.bool true)] <| wM (mC [_,_,_,_,_,_] (Yx++Yy) [0,1,2,3,4] rfl (by decide)) <| dZ [(2,vP b1 0),(3,vP b21 0),(4,vP b3 0),(5,vP b5 0),(6,.bool (e0.Kind==6)),(100,.bool true)] <| zY ⟨_,(zB hM).symm,ap,rfl,rfl⟩
           ·intro hc15 hM
            refine xF 10 [] [(110,.bool (e0.Kind==6))] <| wN [110] hM ?_ ?_
            ·intro hc16 hM
             refine xF 11 [2] [(111,vA [vI y3.Kind,vI y3.Num,vS p91 y3.Index.Coefs c91,vI y3.Index.Const,vT y3.Read.Array.l,vS p101 y3.Read.Subs c101,vS p111 y3.Kids c111])] ?_
             obtain⟨y11,hy13,hM⟩:=zF hM
             refine uZ (hs1:=[]) (rest:=(hB b5 [vI e0.Kind,vI 0,.slice none 0 0,vI 0,vT ([]),.slice none 0 0,vS (some ⟨b4,0,none⟩) ([y3,y4] : List zD) 2] :: hO zD (vS (some ⟨b4,0,none⟩) ([y3,y4] : List zD) 2) [vI y3.Kind,vI y3.Num,vS p91 y3.Index.Coefs c91,vI y3.Index.Const,vT y3.Read.Array.l,vS p101 y3.Read.Subs c101,vS p111 y3.Kids c111,vI y4.Kind,vI y4.Num,vS p15 y4.Index.Coefs c15,vI y4.Index.Const,vT y4.Read.Array.l,vS p16 y4.Read.Subs c16,vS p17 y4.Kids c17] :: hB b21 [vI y3.Kind,vI y3.Num,vS p91 y3.Index.Coefs c91,vI y3.Index.Const,vT y3.Read.Array.l,vS p101 y3.Read.Subs c101,vS p111 y3.Kids c111] :: hB b3 [vI y4.Kind,vI y4.Num,vS p15 y4.Index.Coefs c15,vI y4.Index.Const,vT y4.Read.Array.l,vS p16 y4.Read.Subs c16,vS p17 y4.Kids c17] :: hB b1 [vI 0,vI 0,.slice none 0 0,vI 0,vT ([]),.slice none 0 0,.slice none 0 0] :: hB b [vI e0.Kind,vI e0.Num,vS p e0.Index.Coefs c,vI e0.Index.Const,vT e0.Read.Array.l,vS p1 e0.Read.Subs c1,vS p2 e0.Kids c2] :: (Yx++Yy))) rfl rfl rfl rfl (by kernel_rfl) rfl rfl (nT y3 1 _ hy13) ?_
             rintro imm022 aK v2 k2 le21 - ⟨v029,rfl,rfl,rfl⟩ -
             replace ap:=ap.trans le21
             exact yO [] [(100,.bool y11)] <| wM (mC [_,_,_,_,_,_] (Yx++Yy) [0,1,2,3,4] rfl (by decide)) <| dZ [(2,vP b1 0),(3,vP b21 0),(4,vP b3 0),(5,vP b5 0),(6,.bool (e0.Kind==6)),(100,.bool y11)] <| zY ⟨_,(zB hM).symm,ap,rfl,rfl⟩
            ·intro hc16 hM
             exact yO [] [(100,.bool false)] <| wM (mC [_,_,_,_,_,_] (Yx++Yy) [0,1,2,3,4] rfl (by decide)) <| dZ [(2,vP b1 0),(3,vP b21 0),(4,vP b3 0),(5,vP b5 0),(6,.bool (e0.Kind==6)),(100,.bool false)] <| zY ⟨_,(zB hM).symm,ap,rfl,rfl⟩
          ·intro hc14 hM
           refine xF 10 [] [(108,.bool false),(110,.bool (e0.Kind==6))] <| wN [110] hM ?_ ?_
           ·intro hc17 hM
            refine xF 11 [2] [(111,vA [vI y3.Kind,vI y3.Num,vS p91 y3.Index.Coefs c91,vI y3.Index.Const,vT y3.Read.Array.l,vS p101 y3.Read.Subs c101,vS p111 y3.Kids c111])] ?_
            obtain⟨y12,hy14,hM⟩:=zF hM
            refine uZ (hs1:=[]) (rest:=(hB b5 [vI e0.Kind,vI 0,.slice none 0 0,vI 0,vT ([]),.slice none 0 0,vS (some ⟨b4,0,none⟩) ([y3,y4] : List zD) 2] :: hO zD (vS (some ⟨b4,0,none⟩) ([y3,y4] : List zD) 2) [vI y3.Kind,vI y3.Num,vS p91 y3.Index.Coefs c91,vI y3.Index.Const,vT y3.Read.Array.l,vS p101 y3.Read.Subs c101,vS p111 y3.Kids c111,vI y4.Kind,vI y4.Num,vS p15 y4.Index.Coefs c15,vI y4.Index.Const,vT y4.Read.Array.l,vS p16 y4.Read.Subs c16,vS p17 y4.Kids c17] :: hB b21 [vI y3.Kind,vI y3.Num,vS p91 y3.Index.Coefs c91,vI y3.Index.Const,vT y3.Read.Array.l,vS p101 y3.Read.Subs c101,vS p111 y3.Kids c111] :: hB b3 [vI y4.Kind,vI y4.Num,vS p15 y4.Index.Coefs c15,vI y4.Index.Const,vT y4.Read.Array.l,vS p16 y4.Read.Subs c16,vS p17 y4.Kids c17] :: hB b1 [vI 0,vI 0,.slice none 0 0,vI 0,vT ([]),.slice none 0 0,.slice none 0 0] :: hB b [vI e0.Kind,vI e0.Num,vS p e0.Index.Coefs c,vI e0.Index.Const,vT e0.Read.Array.l,vS p1 e0.Read.Subs c1,vS p2 e0.Kids c2] :: (Yx++Yy))) rfl rfl rfl rfl (by kernel_rfl) rfl rfl (nT y3 1 _ hy14) ?_
            rintro imm023 aK v2 k2 le22 - ⟨v030,rfl,rfl,rfl⟩ -
            replace ap:=ap.trans le22
            exact yO [] [(100,.bool y12)] <| wM (mC [_,_,_,_,_,_] (Yx++Yy) [0,1,2,3,4] rfl (by decide)) <| dZ [(2,vP b1 0),(3,vP b21 0),(4,vP b3 0),(5,vP b5 0),(6,.bool (e0.Kind==6)),(100,.bool y12)] <| zY ⟨_,(zB hM).symm,ap,rfl,rfl⟩
           ·intro hc17 hM
            exact yO [] [(100,.bool false)] <| wM (mC [_,_,_,_,_,_] (Yx++Yy) [0,1,2,3,4] rfl (by decide)) <| dZ [(2,vP b1 0),(3,vP b21 0),(4,vP b3 0),(5,vP b5 0),(6,.bool (e0.Kind==6)),(100,.bool false)] <| zY ⟨_,(zB hM).symm,ap,rfl,rfl⟩
         ·rintro imm020 aK m2 ⟨t100,heq5,le23,rfl,rfl⟩
          subst o05
          replace ap:=ap.trans le23
          refine zH <| yD hMc5 ?_ ?_
          ·intro hc18 hM
           refine zM <| zE <| xF 1 [3] [(115,vA [vI y4.Kind,vI y4.Num,vS p15 y4.Index.Coefs c15,vI y4.Index.Const,vT y4.Read.Array.l,vS p16 y4.Read.Subs c16,vS p17 y4.Kids c17])] <| uJ 4 [vI y4.Kind,vI y4.Num,vS p15 y4.Index.Coefs c15,vI y4.Index.Const,vT y4.Read.Array.l,vS p16 y4.Read.Subs c16,vS p17 y4.Kids c17] (hB b5 [vI e0.Kind,vI 0,.slice none 0 0,vI 0,vT ([]),.slice none 0 0,vS (some ⟨b4,0,none⟩) ([y3,y4] : List zD) 2] :: hO zD (vS (some ⟨b4,0,none⟩) ([y3,y4] : List zD) 2) [vI y3.Kind,vI y3.Num,vS p91 y3.Index.Coefs c91,vI y3.Index.Const,vT y3.Read.Array.l,vS p101 y3.Read.Subs c101,vS p111 y3.Kids c111,vI y4.Kind,vI y4.Num,vS p15 y4.Index.Coefs c15,vI y4.Index.Const,vT y4.Read.Array.l,vS p16 y4.Read.Subs c16,vS p17 y4.Kids c17] :: hB b21 [vI y3.Kind,vI y3.Num,vS p91 y3.Index.Coefs c91,vI y3.Index.Const,vT y3.Read.Array.l,vS p101 y3.Read.Subs c101,vS p111 y3.Kids c111] :: hB b3 [vI y4.Kind,vI y4.Num,vS p15 y4.Index.Coefs c15,vI y4.Index.Const,vT y4.Read.Array.l,vS p16 y4.Read.Subs c16,vS p17 y4.Kids c17] :: hB b1 [vI y4.Kind,vI y4.Num,vS p15 y4.Index.Coefs c15,vI y4.Index.Const,vT y4.Read.Array.l,vS p16 y4.Read.Subs c16,vS p17 y4.Kids c17] :: (Yx++Yy)) rfl rfl rfl rfl <| zX rfl <| zH <| yF <| zR <| zG ?_
           obtain rfl:=zB hM
           exact yV ⟨_,Yy,(.cell 4 rfl rfl (by kernel_rfl) ResV.nil),(λw g=>nY Yx (nY [_,_,_,_,_] g)),⟨_,rfl,hDy⟩⟩
          ·intro hc18 hM
           refine zM ?_
           obtain⟨o06,ho06,hMc6⟩:=zF hM
           refine zA0 (λaf aj m' => ∃(t116 : Bool),o06 = t116 /\ imm020.le af /\ aj = (hB b5 [vI e0.Kind,vI 0,.slice none 0 0,vI 0,vT ([]),.slice none 0 0,vS (some ⟨b4,0,none⟩) ([y3,y4] : List zD) 2] :: hO zD (vS (some ⟨b4,0,none⟩) ([y3,y4] : List zD) 2) [vI y3.Kind,vI y3.Num,vS p91 y3.Index.Coefs c91,vI y3.Index.Const,vT y3.Read.Array.l,vS p101 y3.Read.Subs c101,vS p111 y3.Kids c111,vI y4.Kind,vI y4.Num,vS p15 y4.Index.Coefs c15,vI y4.Index.Const,vT y4.Read.Array.l,vS p16 y4.Read.Subs c16,vS p17 y4.Kids c17] :: hB b1 [vI 0,vI 0,.slice none 0 0,vI 0,vT ([]),.slice none 0 0,.slice none 0 0] :: (Yx++Yy)) /\ m' = [(2,vP b1 0),(5,vP b5 0),(116,.bool t116)]) ?_ ?_
           ·have hle06:=ap
            have ap : imm020.le imm020:=Imm.le.refl _
            refine zE <| xF 2 [] [(118,.bool (e0.Kind==6))] <| wN [118] ho06 ?_ ?_
            ·intro hc19 hM
             refine xF 3 [2] [(119,vA [vI y3.Kind,vI y3.Num,vS p91 y3.Index.Coefs c91,vI y3.Index.Const,vT y3.Read.Array.l,vS p101 y3.Read.Subs c101,vS p111 y3.Kids c111])] ?_
             obtain⟨y13,hy15,hM⟩:=zF hM
             refine uZ (hs1:=[]) (rest:=(hB b5 [vI e0.Kind,vI 0,.slice none 0 0,vI 0,vT ([]),.slice none 0 0,vS (some ⟨b4,0,none⟩) ([y3,y4] : List zD) 2] :: hO zD (vS (some ⟨b4,0,none⟩) ([y3,y4] : List zD) 2) [vI y3.Kind,vI y3.Num,vS p91 y3.Index.Coefs c91,vI y3.Index.Const,vT y3.Read.Array.l,vS p101 y3.Read.Subs c101,vS p111 y3.Kids c111,vI y4.Kind,vI y4.Num,vS p15 y4.Index.Coefs c15,vI y4.Index.Const,vT y4.Read.Array.l,vS p16 y4.Read.Subs c16,vS p17 y4.Kids c17] :: hB b21 [vI y3.Kind,vI y3.Num,vS p91 y3.Index.Coefs c91,vI y3.Index.Const,vT y3.Read.Array.l,vS p101 y3.Read.Subs c101,vS p111 y3.Kids c111] :: hB b3 [vI y4.Kind,vI y4.Num,vS p15 y4.Index.Coefs c15,vI y4.Index.Const,vT y4.Read.Array.l,vS p16 y4.Read.Subs c16,vS p17 y4.Kids c17] :: hB b1 [vI 0,vI 0,.slice none 0 0,vI 0,vT ([]),.slice none 0 0,.slice none 0 0] :: (Yx++Yy))) rfl rfl rfl rfl (by kernel_rfl) rfl rfl (nT y3 0 _ hy15) ?_
             rintro imm025 aK v2 k2 le24 - ⟨v031,rfl,rfl,rfl⟩ -
             replace ap:=ap.trans le24
             refine xF 5 [] [(121,.bool y13)] <| wN [121] hM ?_ ?_
             ·intro hc20 hM
              exact yO [] [(116,.bool true)] <| wM (mC [_,_,_,_,_] (Yx++Yy) [0,1,4] rfl (by decide)) <| dZ [(2,vP b1 0),(5,vP b5 0),(116,.bool true)] <| zY ⟨_,(zB hM).symm,ap,rfl,rfl⟩
             ·intro hc20 hM
              refine xF 6 [3] [(122,vA [vI y4.Kind,vI y4.Num,vS p15 y4.Index.Coefs c15,vI y4.Index.Const,vT y4.Read.Array.l,vS p16 y4.Read.Subs c16,vS p17 y4.Kids c17])] ?_
              obtain⟨y14,hy16,hM⟩:=zF hM
              refine uZ (hs1:=[]) (rest:=(hB b5 [vI e0.Kind,vI 0,.slice none 0 0,vI 0,vT ([]),.slice none 0 0,vS (some ⟨b4,0,none⟩) ([y3,y4] : List zD) 2] :: hO zD (vS (some ⟨b4,0,none⟩) ([y3,y4] : List zD) 2) [vI y3.Kind,vI y3.Num,vS p91 y3.Index.Coefs c91,vI y3.Index.Const,vT y3.Read.Array.l,vS p101 y3.Read.Subs c101,vS p111 y3.Kids c111,vI y4.Kind,vI y4.Num,vS p15 y4.Index.Coefs c15,vI y4.Index.Const,vT y4.Read.Array.l,vS p16 y4.Read.Subs c16,vS p17 y4.Kids c17] :: hB b21 [vI y3.Kind,vI y3.Num,vS p91 y3.Index.Coefs c91,vI y3.Index.Const,vT y3.Read.Array.l,vS p101 y3.Read.Subs c101,vS p111 y3.Kids c111] :: hB b3 [vI y4.Kind,vI y4.Num,vS p15 y4.Index.Coefs c15,vI y4.Index.Const,vT y4.Read.Array.l,vS p16 y4.Read.Subs c16,vS p17 y4.Kids c17] :: hB b1 [vI 0,vI 0,.slice none 0 0,vI 0,vT ([]),.slice none 0 0,.slice none 0 0] :: (Yx++Yy))) rfl rfl rfl rfl (by kernel_rfl) rfl rfl (nT y4 0 _ hy16) ?_
              rintro imm026 aK v2 k2 le25 - ⟨v032,rfl,rfl,rfl⟩ -
              replace ap:=ap.trans le25
              exact yO [] [(116,.bool y14)] <| wM (mC [_,_,_,_,_] (Yx++Yy) [0,1,4] rfl (by decide)) <| dZ [(2,vP b1 0),(5,vP b5 0),(116,.bool y14)] <| zY ⟨_,(zB hM).symm,ap,rfl,rfl⟩
            ·intro hc19 hM
             exact yO [] [(116,.bool false)] <| wM (mC [_,_,_,_,_] (Yx++Yy) [0,1,4] rfl (by decide)) <| dZ [(2,vP b1 0),(5,vP b5 0),(116,.bool false)] <| zY ⟨_,(zB hM).symm,ap,rfl,rfl⟩
           ·rintro imm024 aK m2 ⟨t116,heq6,le26,rfl,rfl⟩
            subst o06
            replace ap:=ap.trans le26
            refine zH <| yD hMc6 ?_ ?_
            ·intro hc21 hM
             refine zM <| zE ?_
             obtain⟨y15,hy17,hM⟩:=zF hM
             refine uZ (hs1:=[]) (rest:=(hB b5 [vI e0.Kind,vI 0,.slice none 0 0,vI 0,vT ([]),.slice none 0 0,vS (some ⟨b4,0,none⟩) ([y3,y4] : List zD) 2] :: hO zD (vS (some ⟨b4,0,none⟩) ([y3,y4] : List zD) 2) [vI y3.Kind,vI y3.Num,vS p91 y3.Index.Coefs c91,vI y3.Index.Const,vT y3.Read.Array.l,vS p101 y3.Read.Subs c101,vS p111 y3.Kids c111,vI y4.Kind,vI y4.Num,vS p15 y4.Index.Coefs c15,vI y4.Index.Const,vT y4.Read.Array.l,vS p16 y4.Read.Subs c16,vS p17 y4.Kids c17] :: hB b1 [vI 0,vI 0,.slice none 0 0,vI 0,vT ([]),.slice none 0 0,.slice none 0 0] :: (Yx++Yy))) rfl rfl rfl rfl (by kernel_rfl) rfl rfl (zDH 0 _ hy17 ) ?_
             rintro imm027 aK v2 k2 le27 - ⟨rfl,rfl,hN⟩ -
             replace ap:=ap.trans le27
             refine uJ 2 [vI 1,vI 0,.slice none 0 0,vI 0,vT ([]),.slice none 0 0,.slice none 0 0] (hB b5 [vI e0.Kind,vI 0,.slice none 0 0,vI 0,vT ([]),.slice none 0 0,vS (some ⟨b4,0,none⟩) ([y3,y4] : List zD) 2] :: hO zD (vS (some ⟨b4,0,none⟩) ([y3,y4] : List zD) 2) [vI y3.Kind,vI y3.Num,vS p91 y3.Index.Coefs c91,vI y3.Index.Const,vT y3.Read.Array.l,vS p101 y3.Read.Subs c101,vS p111 y3.Kids c111,vI y4.Kind,vI y4.Num,vS p15 y4.Index.Coefs c15,vI y4.Index.Const,vT y4.Read.Array.l,vS p16 y4.Read.Subs c16,vS p17 y4.Kids c17] :: hB b1 [vI 1,vI 0,.slice none 0 0,vI 0,vT ([]),.slice none 0 0,.slice none 0 0] :: (Yx++Yy)) rfl rfl rfl rfl <| zX rfl <| zH <| yF <| zR <| zG ?_
             obtain rfl:=zB hM
             exact yV ⟨_,nilE,(.cell 2 rfl rfl (by kernel_rfl) ResV.nil),zF6,⟨_,rfl,hN⟩⟩
            ·intro hc21 hM
             refine zT <| zQ <| zH <| zM <| zE <| xF 1 [0] [(127,vA [vI e0.Kind,vI 0,.slice none 0 0,vI 0,vT ([]),.slice none 0 0,vS (some ⟨b4,0,none⟩) ([y3,y4] : List zD) 2])] <| uJ 2 [vI e0.Kind,vI 0,.slice none 0 0,vI 0,vT ([]),.slice none 0 0,vS (some ⟨b4,0,none⟩) ([y3,y4] : List zD) 2] (hB b5 [vI e0.Kind,vI 0,.slice none 0 0,vI 0,vT ([]),.slice none 0 0,vS (some ⟨b4,0,none⟩) ([y3,y4] : List zD) 2] :: hO zD (vS (some ⟨b4,0,none⟩) ([y3,y4] : List zD) 2) [vI y3.Kind,vI y3.Num,vS p91 y3.Index.Coefs c91,vI y3.Index.Const,vT y3.Read.Array.l,vS p101 y3.Read.Subs c101,vS p111 y3.Kids c111,vI y4.Kind,vI y4.Num,vS p15 y4.Index.Coefs c15,vI y4.Index.Const,vT y4.Read.Array.l,vS p16 y4.Read.Subs c16,vS p17 y4.Kids c17] :: hB b1 [vI e0.Kind,vI 0,.slice none 0 0,vI 0,vT ([]),.slice none 0 0,vS (some ⟨b4,0,none⟩) ([y3,y4] : List zD) 2] :: (Yx++Yy)) rfl rfl rfl rfl <| zX rfl <| zH <| yF ?_
             obtain rfl:=zB hM
             exact yV ⟨_,_ :: _ :: (_ :: (Yx++Yy)),(.cell 2 rfl rfl (by kernel_rfl) ResV.nil),(λw g=>((zGm [_] g).nil_osl 2).nil_osl 1),⟨_,rfl,zAH (X0:=[_]) (X1:=[_]) (e:=zD.mk e0.Kind 0 (zC.mk ([] : List Int) 0) (zK.mk (⟨[]⟩ : Str) ([] : List zC)) ([y3,y4] : List zD)) .nil .nil (.mk' (ae:=[⟨[vI y3.Kind,vI y3.Num,vS p91 y3.Index.Coefs c91,vI y3.Index.Const,vT y3.Read.Array.l,vS p101 y3.Read.Subs c101,vS p111 y3.Kids c111]⟩,⟨[vI y4.Kind,vI y4.Num,vS p15 y4.Index.Coefs c15,vI y4.Index.Const,vT y4.Read.Array.l,vS p16 y4.Read.Subs c16,vS p17 y4.Kids c17]⟩]) ⟨Yx,Yy,rfl,hDx,Yy,[],(ce Yy).symm,hDy,rfl⟩)⟩⟩
end Go.LN
