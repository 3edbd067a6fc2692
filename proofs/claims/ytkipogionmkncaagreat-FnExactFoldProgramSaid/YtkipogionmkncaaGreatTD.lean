/- Helper of the proof (see the last text). -/
import Derived.Test.YtkipogionmkncaaGreatHM5
import Derived.Test.YtkipogionmkncaaGreatTB
import Derived.Test.YtkipogionmkncaaGreatTC
import Derived.Test.YtkipogionmkncaaGreatLnDP
import Derived.Test.YtkipogionmkncaaGreatLnO
set_option linter.unusedVariables false
set_option linter.unusedSimpArgs false
namespace Go.LN
open Go.Proofs Go.Proofs.Tryz
set_option maxRecDepth 20000
def dP(s : zJ): Option (zJ):=do
 let y <- gD s
 let y1 <- eR y.Value
 pure (zJ.mk y.Write y1)
theorem zGr : ∀(s : zJ) r,dP s = some r -> ∀{imm : Imm} {p : Option Addr} {c : Nat} {p1 : Option Addr} {c1 : Nat} {p2 : Option Addr} {c2 : Nat} {p3 : Option Addr} {c3 : Nat},(SL imm (vS p s.Write.Subs c) s.Write.Subs) -> (SL imm (vS p1 s.Value.Index.Coefs c1) s.Value.Index.Coefs) -> (SL imm (vS p2 s.Value.Read.Subs c2) s.Value.Read.Subs) -> (SL imm (vS p3 s.Value.Kids c3) s.Value.Kids) -> Ret Tryz.prog 21 [vA [vT s.Write.Array.l,vS p s.Write.Subs c,vI s.Value.Kind,vI s.Value.Num,vS p1 s.Value.Index.Coefs c1,vI s.Value.Index.Const,vT s.Value.Read.Array.l,vS p2 s.Value.Read.Subs c2,vS p3 s.Value.Kids c3]] imm [] (DPo r):=by
 intro s r hM imm p c p1 c1 p2 c2 p3 c3 h h1 h2 h3
 unfold dP at hM
 refine xW (fn:=f21) (c:=(bodyOf f21)) func21 rfl rfl ?_
 rintro B - -
 have ap : imm.le imm:=Imm.le.refl _
 refine zM <| zE <| eX (c:=⟨[vT s.Write.Array.l,vS p s.Write.Subs c,vI s.Value.Kind,vI s.Value.Num,vS p1 s.Value.Index.Coefs c1,vI s.Value.Index.Const,vT s.Value.Read.Array.l,vS p2 s.Value.Read.Subs c2,vS p3 s.Value.Kids c3]⟩) rfl rfl rfl rfl rfl ?_
 intro b hb
 refine xT (c:=⟨[vT ([]),.slice none 0 0,vI 0,vI 0,.slice none 0 0,vI 0,vT ([]),.slice none 0 0,.slice none 0 0]⟩) rfl rfl rfl (by kernel_rfl) ?_
 intro b1 hb1
 refine zX rfl <| zH <| zM <| zE <| xF 1 [1] [(4,vA [vT s.Write.Array.l,vS p s.Write.Subs c,vI s.Value.Kind,vI s.Value.Num,vS p1 s.Value.Index.Coefs c1,vI s.Value.Index.Const,vT s.Value.Read.Array.l,vS p2 s.Value.Read.Subs c2,vS p3 s.Value.Kids c3])] ?_
 obtain⟨y,hy,hM⟩:=zF hM
 refine uO rfl (zCU s _ hy h h1 h2 h3) ?_
 rintro imm0 Y v2 k2 le ⟨cs,rfl,hD⟩
 obtain⟨w0,w1,w2,w3,Z0,Z1,Z2,Z3,rfl,rfl,g0,g1,g2,g3⟩:=zFB hD
 obtain⟨p4,c4,rfl⟩:=g0.form
 obtain⟨p5,c5,rfl⟩:=g1.form
 obtain⟨p6,c6,rfl⟩:=g2.form
 obtain⟨p7,c7,rfl⟩:=g3.form
 refine xT (c:=⟨[vT ([]),.slice none 0 0,vI 0,vI 0,.slice none 0 0,vI 0,vT ([]),.slice none 0 0,.slice none 0 0]⟩) rfl rfl rfl (by kernel_rfl) ?_
 intro b2 hb2
 refine uJ 0 [vT y.Write.Array.l,vS p4 y.Write.Subs c4,vI y.Value.Kind,vI y.Value.Num,vS p5 y.Value.Index.Coefs c5,vI y.Value.Index.Const,vT y.Value.Read.Array.l,vS p6 y.Value.Read.Subs c6,vS p7 y.Value.Kids c7] (hB b2 [vT y.Write.Array.l,vS p4 y.Write.Subs c4,vI y.Value.Kind,vI y.Value.Num,vS p5 y.Value.Index.Coefs c5,vI y.Value.Index.Const,vT y.Value.Read.Array.l,vS p6 y.Value.Read.Subs c6,vS p7 y.Value.Kids c7] :: hB b1 [vT ([]),.slice none 0 0,vI 0,vI 0,.slice none 0 0,vI 0,vT ([]),.slice none 0 0,.slice none 0 0] :: hB b [vT s.Write.Array.l,vS p s.Write.Subs c,vI s.Value.Kind,vI s.Value.Num,vS p1 s.Value.Index.Coefs c1,vI s.Value.Index.Const,vT s.Value.Read.Array.l,vS p2 s.Value.Read.Subs c2,vS p3 s.Value.Kids c3] :: (Z0++(Z1++(Z2++Z3)))) rfl rfl rfl rfl <| zX rfl <| zH <| zM <| zE <| xF 2 [0] [(7,vA [vI y.Value.Kind,vI y.Value.Num,vS p5 y.Value.Index.Coefs c5,vI y.Value.Index.Const,vT y.Value.Read.Array.l,vS p6 y.Value.Read.Subs c6,vS p7 y.Value.Kids c7])] ?_
 obtain⟨y1,aw,hM⟩:=zF hM
 refine mV rfl (λZ=>hB b2 [vT y.Write.Array.l,vS p4 y.Write.Subs c4,vI y.Value.Kind,vI y.Value.Num,vS p5 y.Value.Index.Coefs c5,vI y.Value.Index.Const,vT y.Value.Read.Array.l,vS p6 y.Value.Read.Subs c6,vS p7 y.Value.Kids c7] :: hB b1 [vT ([]),.slice none 0 0,vI 0,vI 0,.slice none 0 0,vI 0,vT ([]),.slice none 0 0,.slice none 0 0] :: hB b [vT s.Write.Array.l,vS p s.Write.Subs c,vI s.Value.Kind,vI s.Value.Num,vS p1 s.Value.Index.Coefs c1,vI s.Value.Index.Const,vT s.Value.Read.Array.l,vS p2 s.Value.Read.Subs c2,vS p3 s.Value.Kids c3] :: (Z0++Z)) (λZ=>cf (l₁:=hB b2 [vT y.Write.Array.l,vS p4 y.Write.Subs c4,vI y.Value.Kind,vI y.Value.Num,vS p5 y.Value.Index.Coefs c5,vI y.Value.Index.Const,vT y.Value.Read.Array.l,vS p6 y.Value.Read.Subs c6,vS p7 y.Value.Kids c7] :: hB b1 [vT ([]),.slice none 0 0,vI 0,vI 0,.slice none 0 0,vI 0,vT ([]),.slice none 0 0,.slice none 0 0] :: hB b [vT s.Write.Array.l,vS p s.Write.Subs c,vI s.Value.Kind,vI s.Value.Num,vS p1 s.Value.Index.Coefs c1,vI s.Value.Index.Const,vT s.Value.Read.Array.l,vS p2 s.Value.Read.Subs c2,vS p3 s.Value.Kids c3] :: Z0)) rfl (zHb y.Value _ aw g1 g2 g3) ?_
 rintro imm01 Zv v2 k2 ai ⟨aM,rfl,hW⟩
 have hW2:=eH hW
 obtain⟨u0,u1,u2,_,_,_,rfl,-,n0,n1,n2⟩:=hW2
 obtain⟨p8,c8,rfl⟩:=n0.form
 obtain⟨p9,c9,rfl⟩:=n1.form
 obtain⟨aX,a8,rfl⟩:=n2.form
 refine xF 4 [] [(9,vP b2 2)] <| uJ 0 [vT y.Write.Array.l,vS p4 y.Write.Subs c4,vI y1.Kind,vI y1.Num,vS p8 y1.Index.Coefs c8,vI y1.Index.Const,vT y1.Read.Array.l,vS p9 y1.Read.Subs c9,vS aX y1.Kids a8] (hB b2 [vT y.Write.Array.l,vS p4 y.Write.Subs c4,vI y1.Kind,vI y1.Num,vS p8 y1.Index.Coefs c8,vI y1.Index.Const,vT y1.Read.Array.l,vS p9 y1.Read.Subs c9,vS aX y1.Kids a8] :: hB b1 [vT ([]),.slice none 0 0,vI 0,vI 0,.slice none 0 0,vI 0,vT ([]),.slice none 0 0,.slice none 0 0] :: hB b [vT s.Write.Array.l,vS p s.Write.Subs c,vI s.Value.Kind,vI s.Value.Num,vS p1 s.Value.Index.Coefs c1,vI s.Value.Index.Const,vT s.Value.Read.Array.l,vS p2 s.Value.Read.Subs c2,vS p3 s.Value.Kids c3] :: (Z0++Zv)) rfl rfl rfl rfl <| zX rfl <| zH <| zM <| zE <| xF 1 [0] [(10,vA [vT y.Write.Array.l,vS p4 y.Write.Subs c4,vI y1.Kind,vI y1.Num,vS p8 y1.Index.Coefs c8,vI y1.Index.Const,vT y1.Read.Array.l,vS p9 y1.Read.Subs c9,vS aX y1.Kids a8])] <| uJ 1 [vT y.Write.Array.l,vS p4 y.Write.Subs c4,vI y1.Kind,vI y1.Num,vS p8 y1.Index.Coefs c8,vI y1.Index.Const,vT y1.Read.Array.l,vS p9 y1.Read.Subs c9,vS aX y1.Kids a8] (hB b2 [vT y.Write.Array.l,vS p4 y.Write.Subs c4,vI y1.Kind,vI y1.Num,vS p8 y1.Index.Coefs c8,vI y1.Index.Const,vT y1.Read.Array.l,vS p9 y1.Read.Subs c9,vS aX y1.Kids a8] :: hB b1 [vT y.Write.Array.l,vS p4 y.Write.Subs c4,vI y1.Kind,vI y1.Num,vS p8 y1.Index.Coefs c8,vI y1.Index.Const,vT y1.Read.Array.l,vS p9 y1.Read.Subs c9,vS aX y1.Kids a8] :: hB b [vT s.Write.Array.l,vS p s.Write.Subs c,vI s.Value.Kind,vI s.Value.Num,vS p1 s.Value.Index.Coefs c1,vI s.Value.Index.Const,vT s.Value.Read.Array.l,vS p2 s.Value.Read.Subs c2,vS p3 s.Value.Kids c3] :: (Z0++Zv)) rfl rfl rfl rfl <| zX rfl <| zH <| yF ?_
 obtain rfl:=zB hM
 exact yV ⟨_,Z0++Zv,(.cell 1 rfl rfl (by kernel_rfl) ResV.nil),(λ_ g=>g.tail.tail.tail),⟨_,rfl,⟨[_,_],[_,_,_,_,_,_,_],Z0,Zv,rfl,rfl,⟨_,rfl,g0⟩,hW⟩⟩⟩
def tM(p : zV)(t11 : Int)(Arrays : List zI): Option (List zI):=do
 if(decide (t11<(p.Arrays.length : Int))) then
  let x <- idx p.Arrays t11
  let y <- wU x.Dims
  let l <- app 40 Arrays ([(zI.mk x.Name y)] : List zI)
  tM p (W (t11+1)) l
 else
  pure (id Arrays)
 partial_fixpoint
theorem zCH(p : zV): ∀(t11 : Int) (Arrays : List zI) (o : List zI),tM p t11 Arrays = some o -> ∀{B : Base} {imm0 imm : Imm} {Q : Exit -> Act -> World -> Prop} {p1 : Option Addr} {c : Nat} {p2 : Option Addr} {c1 : Nat} {b : Nat} {b1 : Nat} {b2 : Nat} {p3 : Option Addr} {c2 : Nat} {ae : List (RawN zI)} {X : List HA},imm0.le imm -> (SL imm (vS p1 p.Arrays c) p.Arrays) -> (dpR X ae Arrays) -> (∀gl a w,¬ Q (.goto gl) a w) -> (∀a w,¬ Q .outgrown a w) -> (∀(af : Imm) (al : List zI) (p4 : Option Addr) (c3 : Nat) (raws2 : List (RawN zI)) (X2 : List HA),o = al -> imm0.le af -> (dpR X2 raws2 al) -> T 43 B Q (.exit 0) af (hO zI (vS p4 al c3) (flR raws2) :: hB b2 [vS p4 al c3,.slice none 0 0] :: hB b1 [.slice none 0 0,.slice none 0 0] :: hB b [vS p1 p.Arrays c,vS p2 p.Parts c1] :: X2) [(1,vP b 0),(2,vP b1 0),(3,vP b2 0)]) -> J Tryz.prog 43 B (nav (bodyOf f20) [1,1,0,1,0]) Q imm (hO zI (vS p3 Arrays c2) (flR ae) :: hB b2 [vS p3 Arrays c2,.slice none 0 0] :: hB b1 [.slice none 0 0,.slice none 0 0] :: hB b [vS p1 p.Arrays c,vS p2 p.Parts c1] :: X) [(1,vP b 0),(2,vP b1 0),(3,vP b2 0),(9,vS p1 p.Arrays c),(10,vI (p.Arrays.length : Int)),(11,vI t11)]:=by
 refine tM.partial_correctness p _ ?_
 intro aG ih t11 Arrays o hM B imm0 imm Q p1 c p2 c1 b b1 b2 p3 c2 ae X ap h hd hg ho hx
 refine yK hg ho <| zM <| zE <| yO [] [(12,.bool (decide (t11<(p.Arrays.length : Int))))] <| zH <| zM <| yD hM ?_ ?_
 ·intro hc hM
  refine zT <| zH <| zM <| zZ <| zM <| zE ?_
  obtain⟨x,hy,hM⟩:=zF hM
  refine xL rfl rfl h hy ?_
  intro ad aF av aq
  obtain⟨v0,rfl,h5⟩:=zCP aq
  obtain⟨p5,c4,rfl⟩:=h5.form
  refine yY 0 av [vT x.Name.l,vS p5 x.Dims c4] (vA [vT x.Name.l,vS p5 x.Dims c4]) rfl <| xT (c:=⟨[vT ([]),.slice none 0 0]⟩) rfl rfl rfl (by kernel_rfl) ?_
  intro b3 hb3
  refine uJ 0 [vT x.Name.l,vS p5 x.Dims c4] (hB b3 [vT x.Name.l,vS p5 x.Dims c4] :: hO zI (vS p3 Arrays c2) (flR ae) :: hB b2 [vS p3 Arrays c2,.slice none 0 0] :: hB b1 [.slice none 0 0,.slice none 0 0] :: hB b [vS p1 p.Arrays c,vS p2 p.Parts c1] :: X) rfl rfl rfl rfl <| zX rfl <| zH ?_
  obtain⟨y,aw,hM⟩:=zF hM
  obtain⟨l,aI,hM⟩:=zF hM
  refine uX [.p (vP b2 0) [],.p (vS p3 Arrays c2) [1],.p (vP b3 0) [],.p (vT x.Name.l) [0],.p (vP b3 1) [],.p (vS p5 x.Dims c4) [0],.x (λaf v hx => ∃(p6 : Option Addr) (c5 : Nat) (aV : List Value),v = vS p6 y c5 /\ hx = [hO Int (vS p6 y c5) aV] /\ (RL af aV y)),.x (λaf v hx => ∃(p6 : Option Addr) (c5 : Nat),v = vA [vT x.Name.l,vS p6 y c5] /\ Dp.dp hx [vT x.Name.l,vS p6 y c5] (zI.mk x.Name y)),.x (λaf v hx => ∃(b4 : Nat) (cs : List Value),v = vS (some ⟨b4,0,none⟩) ([⟨cs⟩] : List (RawN zI)) 1 /\ SL af (vS (some ⟨b4,0,none⟩) ([⟨cs⟩] : List (RawN zI)) 1) ([⟨cs⟩] : List (RawN zI)) /\ Dp.dp hx cs (zI.mk x.Name y)),.x (λaf v hx => ∃(p7 : Option Addr) (c6 : Nat) (raws2 : List (RawN zI)) (X2 : List HA),v = vS p7 l c6 /\ hx = hO zI (vS p7 l c6) (flR raws2) :: X2 /\ dpR X2 raws2 l)] [[],[(0,false)],[],[(2,false)],[],[(4,false)],[(5,false)],[(3,false),(6,true)],[(7,true)],[(1,false),(8,true),(12,true)]] [hB b3 [vT x.Name.l,vS p5 x.Dims c4],hB b2 [vS p3 Arrays c2,.slice none 0 0],hB b1 [.slice none 0 0,.slice none 0 0],hB b [vS p1 p.Arrays c,vS p2 p.Parts c1]] [hO zI (vS p3 Arrays c2) (flR ae) :: X] [(9,true)] (zF7 [_] [_,_,_] _ _) ?_ ?_
  ·refine Op <| Op <| Op <| Op <| Op <| Op <| Ox ?_ <| Ox ?_ <| Ox ?_ <| Ox ?_ <| On
   ·intro imm1 hf ai
    refine yI ?_
    rintro _ _ ⟨rfl,rfl⟩
    refine xQ <| tQ (hB b3 [vT x.Name.l,vS p5 x.Dims c4] :: hB b2 [vS p3 Arrays c2,.slice none 0 0] :: hB b1 [.slice none 0 0,.slice none 0 0] :: hB b [vS p1 p.Arrays c,vS p2 p.Parts c1] :: hf) [(20,vS p5 x.Dims c4)] ?_
    refine uZ (hs1:=[]) (rest:=(hB b3 [vT x.Name.l,vS p5 x.Dims c4] :: hB b2 [vS p3 Arrays c2,.slice none 0 0] :: hB b1 [.slice none 0 0,.slice none 0 0] :: hB b [vS p1 p.Arrays c,vS p2 p.Parts c1] :: hf)) rfl rfl rfl rfl (by kernel_rfl) rfl rfl (qD x.Dims _ aw (h5.mono ai)) ?_
    rintro imm2 aK v2 k2 ax - ⟨p6,c5,aV,rfl,rfl,h6⟩ -
    exact rY (hx:=[hO Int (vS p6 y c5) aV]) rfl ax rfl (xX rfl) ⟨_,_,_,rfl,rfl,h6⟩
   ·intro imm1 hf ai
    refine yI ?_
    rintro _ _ ⟨rfl,rfl⟩
    refine yI ?_
    rintro _ _ ⟨p6,c5,aV,rfl,rfl,h6⟩
    refine xQ <| tQ (hO Int (vS p6 y c5) aV :: hB b3 [vT x.Name.l,vS p5 x.Dims c4] :: hB b2 [vS p3 Arrays c2,.slice none 0 0] :: hB b1 [.slice none 0 0,.slice none 0 0] :: hB b [vS p1 p.Arrays c,vS p2 p.Parts c1] :: hf) [(18,vT x.Name.l),(21,vS p6 y c5)] ?_
    exact nP 8 [(22,vA [vT x.Name.l,vS p6 y c5])] <| rY (hx:=[hO Int (vS p6 y c5) aV]) rfl (Imm.le.refl _) rfl (xX rfl) ⟨_,_,rfl,⟨_,rfl,dsI h6⟩⟩
   ·intro imm1 hf ai
    refine yI ?_
    rintro _ Y ⟨p6,c5,rfl,hD⟩
    refine xQ <| tQ (Y++(hB b3 [vT x.Name.l,vS p5 x.Dims c4] :: hB b2 [vS p3 Arrays c2,.slice none 0 0] :: hB b1 [.slice none 0 0,.slice none 0 0] :: hB b [vS p1 p.Arrays c,vS p2 p.Parts c1] :: hf)) [(22,vA [vT x.Name.l,vS p6 y c5])] ?_
    refine nM (cs:=[vT x.Name.l,vS p6 y c5]) (Rp.sz zI) rfl rfl rfl rfl (by kernel_rfl) (by kernel_rfl) ?_
    intro b4 hb4
    have h8 : RL imm1 [vT x.Name.l,vS p6 y c5] ([⟨[vT x.Name.l,vS p6 y c5]⟩] : List (RawN zI)):=⟨_,[],rfl,rfl,⟨rfl,okC.out (by kernel_rfl)⟩,rfl⟩
    refine tP 0 rfl ?_
    intro imm2 ax hl0
    have h9:=SL.of_frozen (α:=RawN zI) hl0 ax h8
    exact rY (hx:=Y) rfl ax rfl (xX rfl) ⟨b4,_,rfl,h9,hD⟩
   ·intro imm1 hf ai
    refine yI ?_
    rintro _ _ ⟨rfl,rfl⟩
    refine yI ?_
    rintro _ Y ⟨b4,aV,rfl,h9,hD⟩
    refine yI ?_
    rintro _ _ rfl
    refine xQ <| tQ (hO zI (vS p3 Arrays c2) (flR ae) :: (X++(Y++(hB b3 [vT x.Name.l,vS p5 x.Dims c4] :: hB b2 [vS p3 Arrays c2,.slice none 0 0] :: hB b1 [.slice none 0 0,.slice none 0 0] :: hB b [vS p1 p.Arrays c,vS p2 p.Parts c1] :: hf)))) [(16,vS p3 Arrays c2),(23,vS (some ⟨b4,0,none⟩) ([⟨aV⟩] : List (RawN zI)) 1)] ?_
    refine zGl 79 2 rfl rfl hd hD h9.src aI ?_
    intro p7 c6 raws2 h10
    exact rY (hx:=hO zI (vS p7 l c6) (flR raws2) :: (X++Y)) rfl (Imm.le.refl _) (app3 _ _ _ _) (xX rfl) ⟨_,_,_,_,rfl,rfl,h10⟩
  ·intro imm3 aR
   refine yI ?_
   rintro _ _ ⟨p7,c6,raws2,X2,rfl,rfl,h10⟩
   refine xQ <| tQ (hO zI (vS p7 l c6) (flR raws2) :: (X2++[hB b3 [vT x.Name.l,vS p5 x.Dims c4],hB b2 [vS p3 Arrays c2,.slice none 0 0],hB b1 [.slice none 0 0,.slice none 0 0],hB b [vS p1 p.Arrays c,vS p2 p.Parts c1]])) [(1,vP b 0),(2,vP b1 0),(3,vP b2 0),(9,vS p1 p.Arrays c),(10,vI (p.Arrays.length : Int)),(11,vI t11),(24,vS p7 l c6)] ?_
   refine zCF (hO zI (vS p7 l c6) (flR raws2) :: hB b3 [vT x.Name.l,vS p5 x.Dims c4] :: hB b2 [vS p3 Arrays c2,.slice none 0 0] :: hB b1 [.slice none 0 0,.slice none 0 0] :: hB b [vS p1 p.Arrays c,vS p2 p.Parts c1] :: X2) (cf.cons _) ?_
   exact xF 11 [] [(25,vP b2 0)] <| uJ 2 [vS p7 l c6,.slice none 0 0] (hO zI (vS p7 l c6) (flR raws2) :: hB b3 [vT x.Name.l,vS p5 x.Dims c4] :: hB b2 [vS p7 l c6,.slice none 0 0] :: hB b1 [.slice none 0 0,.slice none 0 0] :: hB b [vS p1 p.Arrays c,vS p2 p.Parts c1] :: X2) rfl rfl rfl rfl <| zX rfl <| zQ <| zH <| zE <| yO [] [(11,vI (W (t11+1)))] <| yL <| kU (uI 1 rfl) <| rX [(1,vP b 0),(2,vP b1 0),(3,vP b2 0),(9,vS p1 p.Arrays c),(10,vI (p.Arrays.length : Int)),(11,vI (W (t11+1)))] <| ih (W (t11+1)) l _ hM (ap.trans aR) (h.mono aR) h10 hg ho hx
 ·intro hc hM
  exact oO <| yH <| yH <| dZ [(1,vP b 0),(2,vP b1 0),(3,vP b2 0)] <| hx _ _ _ _ _ _ (zB hM).symm ap hd
def tN(p : zV)(t30 : Int)(Parts : List zN): Option (List zN):=do
 if(decide (t30<(p.Parts.length : Int))) then
  let x1 <- idx p.Parts t30
  let y1 <- eQ x1
  let l1 <- app 48 Parts ([y1] : List zN)
  tN p (W (t30+1)) l1
 else
  pure (id Parts)
 partial_fixpoint
theorem zCI(p : zV): ∀(t30 : Int) (Parts : List zN) (o : List zN),tN p t30 Parts = some o -> ∀{B : Base} {imm0 imm : Imm} {Q : Exit -> Act -> World -> Prop} {al : List zI} {p2 : Option Addr} {c1 : Nat} {b1 : Nat} {b2 : Nat} {p4 : Option Addr} {c3 : Nat} {p8 : Option Addr} {c7 : Nat} {ae : List (RawN zN)} {X Z : List HA},imm0.le imm -> (SL imm (vS p2 p.Parts c1) p.Parts) -> (dpR X ae Parts) -> (∀gl a w,¬ Q (.goto gl) a w) -> (∀a w,¬ Q .outgrown a w) -> (∀(af : Imm) (bj : List zN) (p9 : Option Addr) (c8 : Nat) (raws2 : List (RawN zN)) (X2 : List HA),o = bj -> imm0.le af -> (dpR X2 raws2 bj) -> T 43 B Q (.exit 2) af (hO zN (vS p9 bj c8) (flR raws2) :: hB b2 [vS p4 al c3,vS p9 bj c8] :: hB b1 [.slice none 0 0,.slice none 0 0] :: (Z++X2)) [(2,vP b1 0),(3,vP b2 0)]) -> J Tryz.prog 43 B (nav (bodyOf f20) [1,1,1,0,1,0]) Q imm (hO zN (vS p8 Parts c7) (flR ae) :: hB b2 [vS p4 al c3,vS p8 Parts c7] :: hB b1 [.slice none 0 0,.slice none 0 0] :: (Z++X)) [(2,vP b1 0),(3,vP b2 0),(28,vS p2 p.Parts c1),(29,vI (p.Parts.length : Int)),(30,vI t30)]:=by
 refine tN.partial_correctness p _ ?_
 intro aG ih t30 Parts o hM B imm0 imm Q al p2 c1 b1 b2 p4 c3 p8 c7 ae X Z ap h1 hd hg ho hx
 refine yK hg ho <| zM <| zE <| yO [] [(31,.bool (decide (t30<(p.Parts.length : Int))))] <| zH <| zM <| yD hM ?_ ?_
 ·intro hc hM
  refine zT <| zH <| zM <| zZ <| zM <| zE ?_
  obtain⟨x,aw,hM⟩:=zF hM
  refine xL rfl rfl h1 aw ?_
  intro ad aF av aq
  obtain⟨v60,v61,rfl,m0,m1⟩:=zCe aq
  obtain⟨p60,c60,rfl⟩:=m0.form
  obtain⟨p61,c61,rfl⟩:=m1.form
  refine yY 0 av [vS p60 x.Nest c60,vS p61 x.Body c61] (vA [vS p60 x.Nest c60,vS p61 x.Body c61]) rfl <| xT (c:=⟨[.slice none 0 0,.slice none 0 0]⟩) rfl rfl rfl (by kernel_rfl) ?_
  intro b3 hb3
  refine uJ 0 [vS p60 x.Nest c60,vS p61 x.Body c61] (hB b3 [vS p60 x.Nest c60,vS p61 x.Body c61] :: hO zN (vS p8 Parts c7) (flR ae) :: hB b2 [vS p4 al c3,vS p8 Parts c7] :: hB b1 [.slice none 0 0,.slice none 0 0] :: (Z++X)) rfl rfl rfl rfl <| zX rfl <| zH ?_
  obtain⟨y,aI,hM⟩:=zF hM
  obtain⟨l,aW,hM⟩:=zF hM
  refine uX [.p (vP b2 1) [],.p (vS p8 Parts c7) [1],.p (vA [vS p60 x.Nest c60,vS p61 x.Body c61]) [0],.x (λaf v hx => ∃(q0 : Option Addr) (d0 : Nat) (q1 : Option Addr) (d1 : Nat),v = vA [vS q0 y.Nest d0,vS q1 y.Body d1] /\ Dp.dp hx [vS q0 y.Nest d0,vS q1 y.Body d1] y),.x (λaf v hx => ∃(b4 : Nat) (cs : List Value),v = vS (some ⟨b4,0,none⟩) ([⟨cs⟩] : List (RawN zN)) 1 /\ SL af (vS (some ⟨b4,0,none⟩) ([⟨cs⟩] : List (RawN zN)) 1) ([⟨cs⟩] : List (RawN zN)) /\ Dp.dp hx cs y),.x (λaf v hx => ∃(p5 : Option Addr) (c5 : Nat) (raws2 : List (RawN zN)) (X2 : List HA),v = vS p5 l c5 /\ hx = hO zN (vS p5 l c5) (flR raws2) :: X2 /\ dpR X2 raws2 l)] [[],[(0,false)],[],[(2,false)],[(3,true)],[(1,false),(4,true),(8,true)]] (hB b3 [vS p60 x.Nest c60,vS p61 x.Body c61] :: hB b2 [vS p4 al c3,vS p8 Parts c7] :: hB b1 [.slice none 0 0,.slice none 0 0] :: Z) [hO zN (vS p8 Parts c7) (flR ae) :: X] [(5,true)] (zF7 [_] (_ :: _ :: Z) _ _) ?_ ?_
  ·refine Op <| Op <| Op <| Ox ?_ <| Ox ?_ <| Ox ?_ <| On
   ·intro imm1 hf ai
    refine yI ?_
    rintro _ _ ⟨rfl,rfl⟩
    refine xQ <| tQ (hB b3 [vS p60 x.Nest c60,vS p61 x.Body c61] :: hB b2 [vS p4 al c3,vS p8 Parts c7] :: hB b1 [.slice none 0 0,.slice none 0 0] :: (Z++hf)) [(36,vA [vS p60 x.Nest c60,vS p61 x.Body c61])] ?_
    refine uZ (hs1:=[]) (rest:=(hB b3 [vS p60 x.Nest c60,vS p61 x.Body c61] :: hB b2 [vS p4 al c3,vS p8 Parts c7] :: hB b1 [.slice none 0 0,.slice none 0 0] :: (Z++hf))) rfl rfl rfl rfl (by kernel_rfl) rfl rfl (zGH x _ aI (m0.mono ai) (m1.mono ai)) ?_
    rintro imm2 Y v2 k2 ax - ⟨aV,rfl,hD⟩ -
    have g70:=hD
    obtain⟨w70,w71,_,_,rfl,-,k70,k71⟩:=g70
    obtain⟨p70,c70,rfl⟩:=k70.form
    obtain⟨p71,c71,rfl⟩:=k71.form
    exact rY (hx:=Y) rfl ax rfl (xX rfl) ⟨_,_,_,_,rfl,hD⟩
   ·intro imm1 hf ai
    refine yI ?_
    rintro _ Y ⟨q0,d0,q1,d1,rfl,hD⟩
    refine xQ <| tQ (Y++(hB b3 [vS p60 x.Nest c60,vS p61 x.Body c61] :: hB b2 [vS p4 al c3,vS p8 Parts c7] :: hB b1 [.slice none 0 0,.slice none 0 0] :: (Z++hf))) [(37,vA [vS q0 y.Nest d0,vS q1 y.Body d1])] ?_
    refine nM (cs:=[vS q0 y.Nest d0,vS q1 y.Body d1]) (Rp.sz zN) rfl rfl rfl rfl (by kernel_rfl) (by kernel_rfl) ?_
    intro b4 hb4
    have h7 : RL imm1 [vS q0 y.Nest d0,vS q1 y.Body d1] ([⟨[vS q0 y.Nest d0,vS q1 y.Body d1]⟩] : List (RawN zN)):=⟨_,[],rfl,rfl,⟨rfl,okC.out (by kernel_rfl)⟩,rfl⟩
    refine tP 0 rfl ?_
    intro imm2 ax hl0
    have h8:=SL.of_frozen (α:=RawN zN) hl0 ax h7
    exact rY (hx:=Y) rfl ax rfl (xX rfl) ⟨b4,_,rfl,h8,hD⟩
   ·intro imm1 hf ai
    refine yI ?_
    rintro _ _ ⟨rfl,rfl⟩
    refine yI ?_
    rintro _ Y ⟨b4,aV,rfl,h8,hD⟩
    refine yI ?_
    rintro _ _ rfl
    refine xQ <| tQ (hO zN (vS p8 Parts c7) (flR ae) :: (X++(Y++(hB b3 [vS p60 x.Nest c60,vS p61 x.Body c61] :: hB b2 [vS p4 al c3,vS p8 Parts c7] :: hB b1 [.slice none 0 0,.slice none 0 0] :: (Z++hf))))) [(35,vS p8 Parts c7),(38,vS (some ⟨b4,0,none⟩) ([⟨aV⟩] : List (RawN zN)) 1)] ?_
    refine zGl 44 2 rfl rfl hd hD h8.src aW ?_
    intro p5 c5 raws2 h9
    exact rY (hx:=hO zN (vS p5 l c5) (flR raws2) :: (X++Y)) rfl (Imm.le.refl _) (app3 _ _ _ _) (xX rfl) ⟨_,_,_,_,rfl,rfl,h9⟩
  ·intro imm2 ax
   refine yI ?_
   rintro _ _ ⟨p5,c5,raws2,X2,rfl,rfl,h9⟩
   refine xQ <| tQ (hO zN (vS p5 l c5) (flR raws2) :: (X2++(hB b3 [vS p60 x.Nest c60,vS p61 x.Body c61] :: hB b2 [vS p4 al c3,vS p8 Parts c7] :: hB b1 [.slice none 0 0,.slice none 0 0] :: Z))) [(2,vP b1 0),(3,vP b2 0),(28,vS p2 p.Parts c1),(29,vI (p.Parts.length : Int)),(30,vI t30),(39,vS p5 l c5)] ?_
   refine zCF (hO zN (vS p5 l c5) (flR raws2) :: hB b3 [vS p60 x.Nest c60,vS p61 x.Body c61] :: hB b2 [vS p4 al c3,vS p8 Parts c7] :: hB b1 [.slice none 0 0,.slice none 0 0] :: (Z++X2)) (cf.cons _) ?_
   exact xF 7 [] [(40,vP b2 1)] <| uJ 2 [vS p4 al c3,vS p5 l c5] (hO zN (vS p5 l c5) (flR raws2) :: hB b3 [vS p60 x.Nest c60,vS p61 x.Body c61] :: hB b2 [vS p4 al c3,vS p5 l c5] :: hB b1 [.slice none 0 0,.slice none 0 0] :: (Z++X2)) rfl rfl rfl rfl <| zX rfl <| zQ <| zH <| zE <| yO [] [(30,vI (W (t30+1)))] <| yL <| kU (uI 1 rfl) <| rX [(2,vP b1 0),(3,vP b2 0),(28,vS p2 p.Parts c1),(29,vI (p.Parts.length : Int)),(30,vI (W (t30+1)))] <| ih (W (t30+1)) l _ hM (ap.trans ax) (h1.mono ax) h9 hg ho hx
 ·intro hc hM
  exact oO <| yH <| yH <| dZ [(2,vP b1 0),(3,vP b2 0)] <| hx _ _ _ _ _ _ (zB hM).symm ap hd
def mQ(p : zV): Option (zV):=do
 let al <- tM p 0 ([] : List zI)
 let bj <- tN p 0 ([] : List zN)
 pure (zV.mk al bj)
theorem zD6 : ∀(p : zV) r,mQ p = some r -> ∀{imm : Imm} {p1 : Option Addr} {c : Nat} {p2 : Option Addr} {c1 : Nat},(SL imm (vS p1 p.Arrays c) p.Arrays) -> (SL imm (vS p2 p.Parts c1) p.Parts) -> Ret Tryz.prog 20 [vA [vS p1 p.Arrays c,vS p2 p.Parts c1]] imm [] (DPo r):=by
 intro p r hM imm p1 c p2 c1 h h1
 unfold mQ at hM
 refine xW (fn:=f20) (c:=(bodyOf f20)) func20 rfl rfl ?_
 rintro B - -
 have ap : imm.le imm:=Imm.le.refl _
 refine zM <| zE <| eX (c:=⟨[vS p1 p.Arrays c,vS p2 p.Parts c1]⟩) rfl rfl rfl rfl rfl ?_
 intro b hb
 refine xT (c:=⟨[.slice none 0 0,.slice none 0 0]⟩) rfl rfl rfl (by kernel_rfl) ?_
 intro b1 hb1
 refine zX rfl <| zH <| zM <| zE <| xT (c:=⟨[.slice none 0 0,.slice none 0 0]⟩) rfl rfl rfl (by kernel_rfl) ?_
 intro b2 hb2
 refine zX rfl <| zH <| zM <| zM <| zE <| yO [2] [(9,vS p1 p.Arrays c),(10,vI (p.Arrays.length : Int)),(11,vI 0)] <| zH <| zZ <| rX [(1,vP b 0),(2,vP b1 0),(3,vP b2 0),(9,vS p1 p.Arrays c),(10,vI (p.Arrays.length : Int)),(11,vI 0)] <| kU (zAZ (Rp.sz zI)) ?_
 obtain⟨o0,ay,aB⟩:=zF hM
 refine zCH p 0 ([] : List zI) o0 ay (ae:=[]) (X:=[]) (p3:=none) (c2:=0) (Imm.le.refl _) h .nil (λ_ _ _ h=>h) (λ_ _ h=>h) ?_
 intro imm04 al p4 c3 raws1 X1 heq bg h4
 subst o0
 refine zU <| zH <| zM <| zM <| zE <| yO [3] [(28,vS p2 p.Parts c1),(29,vI (p.Parts.length : Int)),(30,vI 0)] <| zH <| zZ <| kU (aj:=hO zN (vS none ([] : List zN) 0) (flR ([] : List (RawN zN))) :: hB b2 [vS p4 al c3,vS none ([] : List zN) 0] :: hB b1 [.slice none 0 0,.slice none 0 0] :: ((hO zI (vS p4 al c3) (flR raws1) :: X1)++[])) (λw g=>by
  rw[ce]
  exact((uI 3 rfl w g).perm (pm1 [_,_] [_] X1)).nil_osl _) <| rX [(2,vP b1 0),(3,vP b2 0),(28,vS p2 p.Parts c1),(29,vI (p.Parts.length : Int)),(30,vI 0)] ?_
 obtain⟨aO,aJ,hMl1⟩:=zF aB
 refine zCI p 0 ([] : List zN) aO aJ (Imm.le.refl _) (h1.mono bg) .nil (λ_ _ _ h=>h) (λ_ _ h=>h) ?_
 intro imm08 bj p9 c8 raws2 X2 heq1 le8 h13
 subst aO
 refine zU <| zH <| zM <| zE <| xF 1 [1] [(42,vA [vS p4 al c3,vS p9 bj c8])] <| uJ 2 [vS p4 al c3,vS p9 bj c8] (hO zN (vS p9 bj c8) (flR raws2) :: hB b2 [vS p4 al c3,vS p9 bj c8] :: hB b1 [vS p4 al c3,vS p9 bj c8] :: ((hO zI (vS p4 al c3) (flR raws1) :: X1)++X2)) rfl rfl rfl rfl <| zX rfl <| zH <| yF ?_
 obtain rfl:=zB hMl1
 exact yV ⟨_,(hO zI (vS p4 al c3) (flR raws1) :: X1)++(hO zN (vS p9 bj c8) (flR raws2) :: X2),(.cell 2 rfl rfl (by kernel_rfl) ResV.nil),(λw g=>(uI 1 rfl w (uI 1 rfl w g)).perm (pm1 (_ :: X1) [_] X2)),⟨_,rfl,⟨_,_,hO zI (vS p4 al c3) (flR raws1) :: X1,_,rfl,rfl,.mk' h4,.mk' h13⟩⟩⟩
def uC(n : Int)(body : List zJ)(k : Int): Option (List zJ):=do
 if(decide (k<n)) then
  let s <- idx body k
  let y <- dP s
  uC n (body.set k.toNat y) (W (k+1))
 else
  pure (id body)
 partial_fixpoint
theorem zCJ(d : List zJ): ∀(body : List zJ) (k : Int) (o : List zJ),uC (d.length : Int) body k = some o -> ∀{B : Base} {imm0 imm : Imm} {Q : Exit -> Act -> World -> Prop} {pl : List zN} {pp : Option Addr} {cp : Nat} {i : Int} {vN : Value} {pw : Option Addr} {cw : Nat} {ae : List (RawN zJ)} {X R : List HA} {b2 b4 b6 : Nat},imm0.le imm -> dpR X ae body -> (∀gl a w,¬ Q (.goto gl) a w) -> (∀a w,¬ Q .outgrown a w) -> (∀(af : Imm) (raws2 : List (RawN zJ)) (X2 : List HA),o.length = body.length -> imm0.le af -> dpR X2 raws2 o -> T 39 B Q (.exit 2) af (hO zJ (vS pw d cw) (flR raws2) :: hB b6 [vN,vS pw d cw] :: (R++X2)) [(2,vP b2 0),(4,vP b4 0),(16,vS pp pl cp),(17,vI (pl.length : Int)),(18,vI i)]) -> J Tryz.prog 39 B (nav (bodyOf f7) [1,1,1,0,1,0,0,1,1,0,0,1,1,0]) Q imm (hO zJ (vS pw d cw) (flR ae) :: hB b6 [vN,vS pw d cw] :: (R++X)) [(2,vP b2 0),(4,vP b4 0),(6,vP b6 0),(16,vS pp pl cp),(17,vI (pl.length : Int)),(18,vI i),(23,vS pw d cw),(24,vI (d.length : Int)),(25,vI k)]:=by
 refine uC.partial_correctness _ _ ?_
 intro aG ih body k o hM B imm0 imm Q pl pp cp i vN pw cw ae X R b2 b4 b6 ap hd hg ho hx
 refine yK hg ho <| zM <| zE <| yO [] [(26,.bool (decide (k<(d.length : Int))))] <| zH <| zM <| yD hM ?_ ?_
 ·intro hc hM
  obtain⟨s,hy,hM⟩:=zF hM
  obtain⟨y,aw,hM⟩:=zF hM
  refine zT <| zH <| zM <| zZ <| zM <| zE <| xF 1 [] [(27,vI k)] ?_
  obtain⟨⟨c0⟩,X1,Ys,X2,hr,rfl,hDs,bJ⟩:=hd.at hy
  have hok:=hd.ok
  change Dp.dp Ys c0 s at hDs
  have hpl:=Dp.plain hDs
  obtain⟨w0,w1,w2,w3,Z0,Z1,Z2,Z3,rfl,rfl,g0,g1,g2,g3⟩:=zFB hDs
  obtain⟨p0,c0,rfl⟩:=g0.form
  obtain⟨p1,c1,rfl⟩:=g1.form
  obtain⟨p2,c2,rfl⟩:=g2.form
  obtain⟨p3,c3,rfl⟩:=g3.form
  refine zDb rfl rfl hr hok λad av=>zKD 0 [vT s.Write.Array.l,vS p0 s.Write.Subs c0,vI s.Value.Kind,vI s.Value.Num,vS p1 s.Value.Index.Coefs c1,vI s.Value.Index.Const,vT s.Value.Read.Array.l,vS p2 s.Value.Read.Subs c2,vS p3 s.Value.Kids c3] (vA [vT s.Write.Array.l,vS p0 s.Write.Subs c0,vI s.Value.Kind,vI s.Value.Num,vS p1 s.Value.Index.Coefs c1,vI s.Value.Index.Const,vT s.Value.Read.Array.l,vS p2 s.Value.Read.Subs c2,vS p3 s.Value.Kids c3]) rfl av hr hok <| xT (c:=⟨[vT ([]),.slice none 0 0,vI 0,vI 0,.slice none 0 0,vI 0,vT ([]),.slice none 0 0,.slice none 0 0]⟩) rfl rfl rfl (by kernel_rfl) ?_
  intro b8 hb8
  refine xF 5 [] [(7,vI k)] <| uJ 0 [vT s.Write.Array.l,vS p0 s.Write.Subs c0,vI s.Value.Kind,vI s.Value.Num,vS p1 s.Value.Index.Coefs c1,vI s.Value.Index.Const,vT s.Value.Read.Array.l,vS p2 s.Value.Read.Subs c2,vS p3 s.Value.Kids c3] (hB b8 [vT s.Write.Array.l,vS p0 s.Write.Subs c0,vI s.Value.Kind,vI s.Value.Num,vS p1 s.Value.Index.Coefs c1,vI s.Value.Index.Const,vT s.Value.Read.Array.l,vS p2 s.Value.Read.Subs c2,vS p3 s.Value.Kids c3] :: hO zJ (vS pw d cw) (flR ae) :: hB b6 [vN,vS pw d cw] :: (R++(X1++((Z0++(Z1++(Z2++Z3)))++X2)))) rfl rfl rfl rfl <| zX rfl <| zH ?_
  refine zEO _ (pm3 [_,_,_] R X1 _ X2) <| zKl _ hpl λimm1 ai hL => ?_
  have s0:=g0.sl (eZ hL)
  have s1:=g1.sl (eZ (gB hL))
  have s2:=g2.sl (eZ (gB (gB hL)))
  have s3:=g3.sl (gB (gB (gB hL)))
  refine uX [.p (vP b6 1) [],.p (vS pw d cw) [2],.p (vI k) [],.p (vA [vT s.Write.Array.l,vS p0 s.Write.Subs c0,vI s.Value.Kind,vI s.Value.Num,vS p1 s.Value.Index.Coefs c1,vI s.Value.Index.Const,vT s.Value.Read.Array.l,vS p2 s.Value.Read.Subs c2,vS p3 s.Value.Kids c3]) [0],.x (λaf v hx => ∃(aV : List Value),v = .agg ⟨aV⟩ /\ Dp.dp hx aV y)] [[],[(0,false)],[],[],[(3,false)]] (hB b8 [vT s.Write.Array.l,vS p0 s.Write.Subs c0,vI s.Value.Kind,vI s.Value.Num,vS p1 s.Value.Index.Coefs c1,vI s.Value.Index.Const,vT s.Value.Read.Array.l,vS p2 s.Value.Read.Subs c2,vS p3 s.Value.Kids c3] :: hO zJ (vS pw d cw) (flR ae) :: hB b6 [vN,vS pw d cw] :: (R++(X1++X2))) [] [(1,false),(2,false),(4,true)] (λw g=>g.perm (.of_eq (ce _))) ?_ ?_
  ·refine Op <| Op <| Op <| Op <| Ox ?_ <| On
   ·intro imm2 hf ax
    refine yI ?_
    rintro _ _ ⟨rfl,rfl⟩
    refine xQ <| tQ ((hB b8 [vT s.Write.Array.l,vS p0 s.Write.Subs c0,vI s.Value.Kind,vI s.Value.Num,vS p1 s.Value.Index.Coefs c1,vI s.Value.Index.Const,vT s.Value.Read.Array.l,vS p2 s.Value.Read.Subs c2,vS p3 s.Value.Kids c3] :: hO zJ (vS pw d cw) (flR ae) :: hB b6 [vN,vS pw d cw] :: (R++(X1++X2)))++hf) [(33,vA [vT s.Write.Array.l,vS p0 s.Write.Subs c0,vI s.Value.Kind,vI s.Value.Num,vS p1 s.Value.Index.Coefs c1,vI s.Value.Index.Const,vT s.Value.Read.Array.l,vS p2 s.Value.Read.Subs c2,vS p3 s.Value.Kids c3])] ?_
    refine uZ (hs1:=[]) (rest:=((hB b8 [vT s.Write.Array.l,vS p0 s.Write.Subs c0,vI s.Value.Kind,vI s.Value.Num,vS p1 s.Value.Index.Coefs c1,vI s.Value.Index.Const,vT s.Value.Read.Array.l,vS p2 s.Value.Read.Subs c2,vS p3 s.Value.Kids c3] :: hO zJ (vS pw d cw) (flR ae) :: hB b6 [vN,vS pw d cw] :: (R++(X1++X2)))++hf)) rfl rfl rfl rfl (by kernel_rfl) rfl rfl (zGr s _ aw (s0.mono ax) (s1.mono ax) (s2.mono ax) (s3.mono ax)) ?_
    rintro imm3 Y v2 k2 aR - ⟨aV,rfl,hD⟩ -
    exact rY (hx:=Y) rfl aR rfl (xX rfl) ⟨aV,rfl,hD⟩
  ·intro imm2 ax
   refine yI ?_
   rintro _ _ ⟨rfl,rfl⟩
   refine yI ?_
   rintro _ _ ⟨rfl,rfl⟩
   refine yI ?_
   rintro _ Y ⟨aV,rfl,hD⟩
   refine xQ <| tQ (Y++(hB b8 [vT s.Write.Array.l,vS p0 s.Write.Subs c0,vI s.Value.Kind,vI s.Value.Num,vS p1 s.Value.Index.Coefs c1,vI s.Value.Index.Const,vT s.Value.Read.Array.l,vS p2 s.Value.Read.Subs c2,vS p3 s.Value.Kids c3] :: hO zJ (vS pw d cw) (flR ae) :: hB b6 [vN,vS pw d cw] :: (R++(X1++X2)))) [(2,vP b2 0),(4,vP b4 0),(6,vP b6 0),(16,vS pp pl cp),(17,vI (pl.length : Int)),(18,vI i),(23,vS pw d cw),(24,vI (d.length : Int)),(25,vI k),(31,vS pw d cw),(32,vI k),(34,.agg ⟨aV⟩)] ?_
   refine zCF (hO zJ (vS pw d cw) (flR ae) :: hB b8 [vT s.Write.Array.l,vS p0 s.Write.Subs c0,vI s.Value.Kind,vI s.Value.Num,vS p1 s.Value.Index.Coefs c1,vI s.Value.Index.Const,vT s.Value.Read.Array.l,vS p2 s.Value.Read.Subs c2,vS p3 s.Value.Kids c3] :: hB b6 [vN,vS pw d cw] :: ((R++(X1++X2))++Y)) (cf.trans (List.Perm.swap ..)) ?_
   refine zDb rfl rfl hr hok λad2 aS=>zLM rfl aS hr hok hD rfl ?_
   refine zX rfl <| zQ <| zH <| zE <| yO [] [(25,vI (W (k+1)))] <| yL <| kU (aj:=hO zJ (vS pw d cw) (flR (ae.set k.toNat ⟨aV⟩)) :: hB b6 [vN,vS pw d cw] :: (R++(X1++(Y++X2)))) (λw g=>(uI 1 rfl w g).perm (((pmG R X1 Y X2).cons _).cons _)) <| rX [(2,vP b2 0),(4,vP b4 0),(6,vP b6 0),(16,vS pp pl cp),(17,vI (pl.length : Int)),(18,vI i),(23,vS pw d cw),(24,vI (d.length : Int)),(25,vI (W (k+1)))] ?_
   exact ih _ (W (k+1)) _ hM (ap.trans (ai.trans ax)) (bJ Y aV y hD) hg ho (λaf raws2 X2 h1=>hx af raws2 X2 (h1.trans (cF ..)))
 ·intro hc hM
  have:=zB hM
  simp only[id] at this
  subst this
  exact oO <| yH <| yH <| dZ [(2,vP b2 0),(4,vP b4 0),(16,vS pp pl cp),(17,vI (pl.length : Int)),(18,vI i)] <| hx _ _ _ rfl ap hd
def tO(n : Int)(parts : List zN)(i : Int): Option (List zN):=do
 if(decide (i<n)) then
  let x <- idx parts i
  let b <- uC (x.Body.length : Int) x.Body 0
  tO n (parts.set i.toNat ⟨x.Nest,b⟩) (W (i+1))
 else
  pure (id parts)
 partial_fixpoint
theorem zCK(pl : List zN): ∀(parts : List zN) (i : Int) (o : List zN),tO (pl.length : Int) parts i = some o -> ∀{B : Base} {imm0 imm : Imm} {Q : Exit -> Act -> World -> Prop} {pp : Option Addr} {cp : Nat} {ae : List (RawN zN)} {X R : List HA} {b2 b4 : Nat},imm0.le imm -> dpR X ae parts -> (∀gl a w,¬ Q (.goto gl) a w) -> (∀a w,¬ Q .outgrown a w) -> (∀(af : Imm) (X2 : List HA),o.length = parts.length -> imm0.le af -> dpR X2 ae o -> T 39 B Q (.exit 0) af (hO zN (vS pp pl cp) (flR ae) :: (R++X2)) [(2,vP b2 0),(4,vP b4 0)]) -> J Tryz.prog 39 B (nav (bodyOf f7) [1,1,1,0,1,0]) Q imm (hO zN (vS pp pl cp) (flR ae) :: (R++X)) [(2,vP b2 0),(4,vP b4 0),(16,vS pp pl cp),(17,vI (pl.length : Int)),(18,vI i)]:=by
 refine tO.partial_correctness _ _ ?_
 intro aG ih parts i o hM B imm0 imm Q pp cp ae X R b2 b4 ap hd hg ho hx
 refine yK hg ho <| zM <| zE <| yO [] [(19,.bool (decide (i<(pl.length : Int))))] <| zH <| zM <| yD hM ?_ ?_
 ·intro hc hM
  obtain⟨x,hy,hM⟩:=zF hM
  obtain⟨bd,aw,hM⟩:=zF hM
  obtain⟨⟨c0⟩,X1,Ys,X2,hr,rfl,hDx,bJ⟩:=hd.at hy
  have hok:=hd.ok
  obtain⟨vN,vB,YN,YB,hc0,rfl,hN,hB⟩:=hDx
  change c0 = _ at hc0
  subst hc0
  obtain⟨pN,cN,rfl⟩:=hN.form
  obtain⟨pw,cw,rawsB,Yb,rfl,rfl,hdB⟩:=hB
  refine zT <| zH <| zM <| zZ <| zM <| zE <| zDb rfl rfl hr hok λad av=>zKD 0 [vS pN x.Nest cN,vS pw x.Body cw] (vA [vS pN x.Nest cN,vS pw x.Body cw]) rfl av hr hok <| xT (c:=⟨[.slice none 0 0,.slice none 0 0]⟩) rfl rfl rfl (by kernel_rfl) ?_
  intro b6 hb6
  refine uJ 0 [vS pN x.Nest cN,vS pw x.Body cw] (hB b6 [vS pN x.Nest cN,vS pw x.Body cw] :: hO zN (vS pp pl cp) (flR ae) :: (R++(X1++((YN++(hO zJ (vS pw x.Body cw) (flR rawsB) :: Yb))++X2)))) rfl rfl rfl rfl <| zX rfl <| zH <| zM <| zE <| yO [0] [(23,vS pw x.Body cw),(24,vI (x.Body.length : Int)),(25,vI 0)] <| zH <| zZ <| zEO (hO zJ (vS pw x.Body cw) (flR rawsB) :: hB b6 [vS pN x.Nest cN,vS pw x.Body cw] :: ((hO zN (vS pp pl cp) (flR ae) :: (R++(X1++(YN++X2))))++Yb)) (((pmH _ _ R X1 YN Yb X2).cons _).trans (List.Perm.swap ..)) <| rX [(2,vP b2 0),(4,vP b4 0),(6,vP b6 0),(16,vS pp pl cp),(17,vI (pl.length : Int)),(18,vI i),(23,vS pw x.Body cw),(24,vI (x.Body.length : Int)),(25,vI 0)] ?_
  refine zCJ x.Body x.Body 0 bd aw (R:=hO zN (vS pp pl cp) (flR ae) :: (R++(X1++(YN++X2)))) (Imm.le.refl _) hdB (λgl a w h=>hg gl a w h) (λa w h=>ho a w h) ?_
  intro imm3 raws3 Y3 hl3 aR hd3
  have hD : Dp.dp (YN++(hO zJ (vS pw x.Body cw) (flR raws3) :: Y3)) [vS pN x.Nest cN,vS pw x.Body cw] (zN.mk x.Nest bd):=⟨_,_,YN,_,rfl,rfl,hN,pw,cw,raws3,Y3,(by simp[vS,hl3]),rfl,hd3⟩
  have hd' := bJ _ _ _ hD
  rw[zBP hr] at hd'
  refine zU <| wM (aj:=hO zN (vS pp pl cp) (flR ae) :: (R++(X1++((YN++(hO zJ (vS pw x.Body cw) (flR raws3) :: Y3))++X2)))) (λw g=>(uI 1 rfl w g).perm (pmH _ _ R X1 YN Y3 X2)) ?_
  refine zQ <| zH <| zE <| yO [] [(18,vI (W (i+1)))] <| yL <| rX [(2,vP b2 0),(4,vP b4 0),(16,vS pp pl cp),(17,vI (pl.length : Int)),(18,vI (W (i+1)))] ?_
  exact ih _ (W (i+1)) _ hM (ap.trans aR) hd' hg ho (λaf X2 h1=>hx af X2 (h1.trans (cF ..)))
 ·intro hc hM
  have:=zB hM
  simp only[id] at this
  subst this
  exact oO <| yH <| yH <| dZ [(2,vP b2 0),(4,vP b4 0)] <| hx _ _ rfl ap hd
def oG(p : zV): Option (zV × Bool):=do
 let y <- nJ p
 if(!y) then
  pure ((zV.mk ([] : List zI) ([] : List zN)),false)
 else
  let y1 <- mQ p
  let o0 <- tO (y1.Parts.length : Int) y1.Parts 0
  pure ((zV.mk y1.Arrays o0),true)
theorem zAg : ∀(p : zV) r,oG p = some r -> ∀{imm : Imm} {p1 : Option Addr} {c : Nat} {p2 : Option Addr} {c1 : Nat},(SL imm (vS p1 p.Arrays c) p.Arrays) -> (SL imm (vS p2 p.Parts c1) p.Parts) -> Ret Tryz.prog 7 [vA [vS p1 p.Arrays c,vS p2 p.Parts c1]] imm [] (λ_ _ aj v => ∃cs,v = tupV [.agg ⟨cs⟩,.bool r.2] /\ Dp.dp aj cs r.1):=by
 intro p r hM imm p1 c p2 c1 h h1
 unfold oG at hM
 refine xW (fn:=f7) (c:=(bodyOf f7)) func7 rfl rfl ?_
 rintro B - -
 have ap : imm.le imm:=Imm.le.refl _
 refine zM <| zE <| eX (c:=⟨[vS p1 p.Arrays c,vS p2 p.Parts c1]⟩) rfl rfl rfl rfl rfl ?_
 intro b hb
 refine xT (c:=⟨[.slice none 0 0,.slice none 0 0]⟩) rfl rfl rfl (by kernel_rfl) ?_
 intro b1 hb1
 refine yO [] [] <| zH <| zM <| zM <| zE <| xF 1 [1] [(9,vA [vS p1 p.Arrays c,vS p2 p.Parts c1])] ?_
 obtain⟨y,hy,hM⟩:=zF hM
 refine uZ (hs1:=[]) (rest:=[hB b1 [.slice none 0 0,.slice none 0 0],hB b [vS p1 p.Arrays c,vS p2 p.Parts c1]]) rfl rfl rfl rfl (by kernel_rfl) rfl rfl (zCr p _ hy h h1) ?_
 rintro imm0 aK v2 k2 le - ⟨v0,rfl,rfl,rfl⟩ -
 replace h:=h.mono le
 replace h1:=h1.mono le
 replace ap:=ap.trans le
 refine yO [] [(11,.bool (!y))] <| zH <| yD hM ?_ ?_
 ·intro hc hM
  refine zM <| zE <| xF 1 [] [(12,vA [.slice none 0 0,.slice none 0 0])] <| uJ 0 [.slice none 0 0,.slice none 0 0] [hB b1 [.slice none 0 0,.slice none 0 0],hB b [vS p1 p.Arrays c,vS p2 p.Parts c1]] rfl rfl rfl rfl <| yO [] [(3,.bool false)] <| zH <| yF <| zG ?_
  obtain rfl:=zB hM
  exact yV ⟨_,[_,_],(.cell 0 rfl rfl (by kernel_rfl) (.tmp rfl ResV.nil)),(λw g=>(g.tail.tail.nil_osl 2).nil_osl 2),⟨_,rfl,⟨_,_,[_],[_],rfl,rfl,.nil,.nil⟩⟩⟩
 ·intro hc hM
  refine zT <| zH <| zM ?_
  obtain⟨y1,aw,hM⟩:=zF hM
  refine zE <| xF 1 [1] [(13,vA [vS p1 p.Arrays c,vS p2 p.Parts c1])] <| uO rfl (zD6 p _ aw h h1) ?_
  rintro imm01 Y v2 k2 ai ⟨cs,rfl,hD⟩
  obtain⟨va,vp,ZA,ZP,rfl,rfl,hA,hP⟩:=hD
  obtain⟨pa,ca,rfl⟩:=hA.form
  obtain⟨pp,cp,rawsP,Yp,rfl,rfl,hdP⟩:=hP
  refine xT (c:=⟨[.slice none 0 0,.slice none 0 0]⟩) rfl rfl rfl (by kernel_rfl) ?_
  intro b2 hb2
  refine uJ 0 [vS pa y1.Arrays ca,vS pp y1.Parts cp] (hB b2 [vS pa y1.Arrays ca,vS pp y1.Parts cp] :: hB b1 [.slice none 0 0,.slice none 0 0] :: hB b [vS p1 p.Arrays c,vS p2 p.Parts c1] :: (ZA++(hO zN (vS pp y1.Parts cp) (flR rawsP) :: Yp))) rfl rfl rfl rfl <| zX rfl <| zH <| zM <| zM <| zE <| yO [0] [(16,vS pp y1.Parts cp),(17,vI (y1.Parts.length : Int)),(18,vI 0)] <| zH <| zZ <| zEO (hO zN (vS pp y1.Parts cp) (flR rawsP) :: ((hB b2 [vS pa y1.Arrays ca,vS pp y1.Parts cp] :: hB b1 [.slice none 0 0,.slice none 0 0] :: hB b [vS p1 p.Arrays c,vS p2 p.Parts c1] :: ZA)++Yp)) (List.perm_middle (l₁:=(hB b2 [vS pa y1.Arrays ca,vS pp y1.Parts cp] :: hB b1 [.slice none 0 0,.slice none 0 0] :: hB b [vS p1 p.Arrays c,vS p2 p.Parts c1] :: ZA))) <| rX [(2,vP b1 0),(4,vP b2 0),(16,vS pp y1.Parts cp),(17,vI (y1.Parts.length : Int)),(18,vI 0)] ?_
  obtain⟨o0,ay,aB⟩:=zF hM
  refine zCK y1.Parts y1.Parts 0 o0 ay (R:=(hB b2 [vS pa y1.Arrays ca,vS pp y1.Parts cp] :: hB b1 [.slice none 0 0,.slice none 0 0] :: hB b [vS p1 p.Arrays c,vS p2 p.Parts c1] :: ZA)) (Imm.le.refl _) hdP (λ_ _ _ h=>h) (λ_ _ h=>h) ?_
  intro imm02 X2 hl2 ax hd2
  have eP : vS pp y1.Parts cp = vS pp o0 cp:=by simp only[vS,hl2]
  rw[eP]
  refine zU <| zH <| zM <| zE <| xF 1 [1] [(38,vA [vS pa y1.Arrays ca,vS pp o0 cp])] <| uJ 2 [vS pa y1.Arrays ca,vS pp o0 cp] (hO zN (vS pp o0 cp) (flR rawsP) :: hB b2 [vS pa y1.Arrays ca,vS pp o0 cp] :: hB b1 [vS pa y1.Arrays ca,vS pp o0 cp] :: hB b [vS p1 p.Arrays c,vS p2 p.Parts c1] :: (ZA++X2)) rfl rfl rfl rfl <| yO [] [(3,.bool true)] <| zH <| yF ?_
  obtain rfl:=zB aB
  exact yV ⟨_,ZA++(hO zN (vS pp o0 cp) (flR rawsP) :: X2),(.cell 2 rfl rfl (by kernel_rfl) (.tmp rfl ResV.nil)),(λw g=>(uI 1 rfl w (uI 1 rfl w (uI 1 rfl w g))).perm (pm1 ZA [_] X2)),⟨_,rfl,⟨_,_,ZA,_,rfl,rfl,hA,.mk' hd2⟩⟩⟩
def oH(a : zV)(k0 : Int): Option (Int × zV):=do
 let r1 <- zAJ a.Arrays k0
 let r2 <- zAS a.Parts r1.1
 pure (r2.1,zV.mk r1.2 r2.2)
theorem zAh(a : zV)(k0 : Int)(r)(hM : oH a k0 = some r){imm : Imm}{p : Option Addr}{c : Nat}{p1 : Option Addr}{c1 : Nat}{X0 X1 : List HA}(h0 : DS X0 (vS p a.Arrays c) a.Arrays)(h1 : DS X1 (vS p1 a.Parts c1) a.Parts): Ret Tryz.prog 9 [vA [vS p a.Arrays c,vS p1 a.Parts c1],vI k0] imm (X0++X1) (λ_ _ aj u=>u = tupV [vI r.1] /\ ∃Z0 Z1,aj = Z0++Z1 /\ DS Z0 (vS p a.Arrays c) r.2.Arrays /\ DS Z1 (vS p1 a.Parts c1) r.2.Parts):=by
 unfold oH at hM
 refine xW (fn:=f9) (c:=(bodyOf f9)) func9 rfl rfl ?_
 rintro B - -
 refine zM <| zE <| eX (c:=⟨[vS p a.Arrays c,vS p1 a.Parts c1]⟩) rfl rfl rfl rfl rfl ?_
 intro b hb
 refine yO [] [] <| zH <| zM <| zE <| xF 3 [0] [(6,vS p a.Arrays c),(7,vI k0)] ?_
 obtain⟨r1,hr1,hM⟩:=zF hM
 refine mV rfl (λZ=>hB b [vS p a.Arrays c,vS p1 a.Parts c1] :: (Z++X1)) (λZ=>pm1 [_] Z X1) rfl (zES a.Arrays k0 _ hr1 h0) ?_
 rintro imm1 Z0 _ _ ai ⟨rfl,hZ0⟩
 refine yO [] [(1,vI r1.1)] <| zH <| zM <| zE <| xF 3 [0] [(10,vS p1 a.Parts c1),(11,vI r1.1)] ?_
 obtain⟨r2,hr2,hM⟩:=zF hM
 refine mV rfl (λZ=>hB b [vS p a.Arrays c,vS p1 a.Parts c1] :: (Z0++Z)) (λZ=>cf (l₁:=hB b [vS p a.Arrays c,vS p1 a.Parts c1] :: Z0)) rfl (zFH a.Parts r1.1 _ hr2 h1) ?_
 rintro imm2 Z1 _ _ ax ⟨rfl,hZ1⟩
 refine yO [] [(1,vI r2.1)] <| zH <| zM <| zE <| yO [] [(4,vI r2.1)] <| zH <| yF ?_
 obtain rfl:=zB hM
 exact yV ⟨_,Z0++Z1,(.tmp rfl ResV.nil),(λ_ g=>g.tail),⟨rfl,Z0,Z1,rfl,hZ0,hZ1⟩⟩
theorem DS.len{α : Type}[Rp α][Dp α]{X : List HA}{p : Option Addr}{c : Nat}{l l' : List α}(h : DS X (vS p l c) l'): l.length = l'.length:=by
 obtain⟨_,_,_,_,e,_⟩:=h
 injection e
theorem pmZ(L M Z : List HA): (L++(M++Z)).Perm (Z++(L++M)):=by
 rw[<- bZ]
 exact cf
open Go.Proofs
set_option maxRecDepth 20000
def pO(aP : wT): Option (Bool):=do
 let y <- gA aP 1048576
 if(decide (y<0)) then
  pure true
 else
  let y1 <- qG aP
  let (y3,y4) <- mN y1
  let y5 <- qG aP
  let (y7,y8) <- oG y5
  let t40 <- (do
   let y9 <- qE y7 y3
   if(!y9) then
    pure true
   else
    pure (!(y8==y4))
     : Option Bool)
  if t40 then
   pure false
  else
   let y10 <- qG aP
   let y11 <- qE y5 y10
   if(!y11) then
    pure false
   else
    let z <- oH y5 1
    let t61 <- (do
     if(decide (z.1<0)) then
      pure true
     else
      let y13 <- qE y7 y3
      if(!y13) then
       pure true
      else
       pure (!(y8==y4))
       : Option Bool)
    if t61 then
     pure false
    else
     let g <- oH y7 1
     let y15 <- oC g.2 1
     if(decide (y15<0)) then
      pure false
     else
      if(y15 != g.1) then
       pure false
      else
       let y16 <- qG aP
       let (y18,y19) <- oG y16
       let t87 <- (do
        let y20 <- qE y18 y3
        if(!y20) then
         pure true
        else
         pure (!(y19==y4))
          : Option Bool)
       if t87 then
        pure false
       else
        let y21 <- oC g.2 1
        if(decide (y21<0)) then
         pure false
        else
         if(y21 != g.1) then
          pure false
         else
          pure true
def zAa(r : Bool): Nat -> Imm -> List HA -> Value -> Prop:=λkk af aj v=>
 ∃(v0 : Value),aj = [] /\ v = tupV [v0] /\ v0 = .bool r
theorem pmQ(L M Z R : List HA): ((L++(M++Z))++R).Perm (M++(L++(Z++R))):=by
 rw[bZ,bZ]
 exact pm1 L M (Z++R)
theorem zGs : ∀(aP : wT) r,pO aP = some r -> ∀{imm : Imm} {p : Option Addr} {c : Nat} {p1 : Option Addr} {c1 : Nat},(SL imm (vS p aP.Arrays c) aP.Arrays) -> (SL imm (vS p1 aP.Parts c1) aP.Parts) -> Ret Tryz.prog 3 [vA [vS p aP.Arrays c,vS p1 aP.Parts c1]] imm [] (zAa  r):=by
 intro aP r hM imm p c p1 c1 h h1
 unfold pO at hM
 refine xW (fn:=Tryz.f3) (c:=(bodyOf Tryz.f3)) Tryz.func3 rfl rfl ?_
 rintro B - -
 refine zM <| zE <| eX (c:=⟨[vS p aP.Arrays c,vS p1 aP.Parts c1]⟩) rfl rfl rfl rfl rfl ?_
 intro b hb
 refine yO [] [] <| zH <| zM <| zE <| yO [] [(3,vI 1048576)] <| zH <| zM <| zE <| xF 2 [0] [(14,vA [vS p aP.Arrays c,vS p1 aP.Parts c1]),(15,vI 1048576)] ?_
 obtain⟨y,hy,hM⟩:=zF hM
 refine uZ (hs1:=[]) (rest:=[hB b [vS p aP.Arrays c,vS p1 aP.Parts c1]]) rfl rfl rfl rfl (by kernel_rfl) rfl rfl (zEy aP 1048576 _ hy h h1) ?_
 rintro imm0 aK v2 k2 le - ⟨v0,rfl,rfl,rfl⟩ -
 replace h:=h.mono le
 replace h1:=h1.mono le
 refine yO [] [(3,vI y)] <| zH <| zM <| zM <| zE <| yO [] [(18,.bool (decide (y<0)))] <| zH <| yD hM ?_ ?_
 ·intro hc hM
  refine zM <| zE <| yO [] [(2,.bool true)] <| zH <| yF <| zG ?_
  obtain rfl:=zB hM
  exact yV ⟨_,[],(.tmp rfl ResV.nil),zO,⟨_,rfl,rfl,rfl⟩⟩
 ·intro hc hM
  refine zT <| zH <| zM <| zE <| xF 1 [0] [(20,vA [vS p aP.Arrays c,vS p1 aP.Parts c1])] ?_
  obtain⟨y1,aw,hM⟩:=zF hM
  refine uO rfl (fQ aP _ aw h h1) ?_
  rintro imm01 T0 v2 k2 ai ⟨cs,rfl,hD⟩
  refine zCF (T0++[hB b [vS p aP.Arrays c,vS p1 aP.Parts c1]]) cf <| zIO T0 (Dp.plain hD) λimm02 ax hL => ?_
  have h3:=Dp.fz hD hL
  clear hD hL
  replace h:=h.mono (ai.trans ax)
  replace h1:=h1.mono (ai.trans ax)
  obtain⟨v02,v03,rfl,h4,h5⟩:=oW h3
  obtain⟨p2,c2,rfl⟩:=h4.form
  obtain⟨p3,c3,rfl⟩:=h5.form
  obtain⟨⟨y3,y4⟩,aI,hM⟩:=zF hM
  refine uZ (hs1:=[]) (rest:=[hB b [vS p aP.Arrays c,vS p1 aP.Parts c1]]) rfl rfl rfl rfl (by kernel_rfl) rfl rfl (zDW y1 _ aI h4 h5) ?_
  rintro imm03 aK v2 k2 aR - ⟨v04,v05,rfl,rfl,⟨aM,rfl,h6⟩,rfl⟩ -
  replace h:=h.mono aR
  replace h1:=h1.mono aR
  obtain⟨v06,v07,rfl,h8,h9⟩:=oW h6
  obtain⟨p4,c4,rfl⟩:=h8.form
  obtain⟨p5,c5,rfl⟩:=h9.form
  refine xF 6 [] [(23,vA [vS p4 y3.Arrays c4,vS p5 y3.Parts c5]),(24,.bool y4)] <| xT (c:=⟨[.slice none 0 0,.slice none 0 0]⟩) rfl rfl rfl (by kernel_rfl) ?_
  intro b1 hb1
  refine uJ 0 [vS p4 y3.Arrays c4,vS p5 y3.Parts c5] [hB b1 [vS p4 y3.Arrays c4,vS p5 y3.Parts c5],hB b [vS p aP.Arrays c,vS p1 aP.Parts c1]] rfl rfl rfl rfl <| yO [] [(5,.bool y4)] <| zH <| zM <| zE <| xF 1 [1] [(25,vA [vS p aP.Arrays c,vS p1 aP.Parts c1])] ?_
  obtain⟨y5,aW,hM⟩:=zF hM
  refine uO rfl (fQ aP _ aW h h1) ?_
  rintro imm04 XB v2 k2 bg ⟨aV,rfl,hD⟩
  replace h8:=h8.mono bg
  replace h9:=h9.mono bg
  replace h:=h.mono bg
  replace h1:=h1.mono bg
  obtain⟨v09,v010,XA,XP,rfl,rfl,xA,xP⟩:=hD
  obtain⟨p6,c6,rfl⟩:=xA.form
  obtain⟨p7,c7,rfl⟩:=xP.form
  refine xT (c:=⟨[.slice none 0 0,.slice none 0 0]⟩) rfl rfl rfl (by kernel_rfl) ?_
  intro b2 hb2
  refine uJ 0 [vS p6 y5.Arrays c6,vS p7 y5.Parts c7] (hB b2 [vS p6 y5.Arrays c6,vS p7 y5.Parts c7] :: hB b1 [vS p4 y3.Arrays c4,vS p5 y3.Parts c5] :: hB b [vS p aP.Arrays c,vS p1 aP.Parts c1] :: (XA++XP)) rfl rfl rfl rfl <| zX rfl <| zH <| zM <| zE <| xF 1 [0] [(28,vA [vS p6 y5.Arrays c6,vS p7 y5.Parts c7])] ?_
  have plX : (XA++XP).all HA.plain = true:=fK xA.plain xP.plain
  obtain⟨⟨y7,y8⟩,bk,hM⟩:=zF hM
  refine zKb (L:=(XA++XP)) rfl (cf (l₁:=[hB b2 [vS p6 y5.Arrays c6,vS p7 y5.Parts c7],hB b1 [vS p4 y3.Arrays c4,vS p5 y3.Parts c5],hB b [vS p aP.Arrays c,vS p1 aP.Parts c1]])) plX (λimm1 _ hl=>zAg y5 _ bk (xA.sl (eZ hl)) (xP.sl (gB hl))) ?_
  rintro imm05 imm06 YB v2 k2 bo bB ⟨bb,rfl,hD⟩
  replace h8:=h8.mono bo
  replace h9:=h9.mono bo
  replace h:=h.mono bo
  replace h1:=h1.mono bo
  obtain⟨v013,v014,YA,YP,rfl,rfl,yA,yP⟩:=hD
  obtain⟨p8,c8,rfl⟩:=yA.form
  obtain⟨p9,c9,rfl⟩:=yP.form
  have plY : (YA++YP).all HA.plain = true:=fK yA.plain yP.plain
  refine xF 5 [] [(30,vA [vS p8 y7.Arrays c8,vS p9 y7.Parts c9]),(31,.bool y8)] <| xT (c:=⟨[.slice none 0 0,.slice none 0 0]⟩) rfl rfl rfl (by kernel_rfl) ?_
  intro b3 hb3
  refine uJ 0 [vS p8 y7.Arrays c8,vS p9 y7.Parts c9] (hB b3 [vS p8 y7.Arrays c8,vS p9 y7.Parts c9] :: hB b2 [vS p6 y5.Arrays c6,vS p7 y5.Parts c7] :: hB b1 [vS p4 y3.Arrays c4,vS p5 y3.Parts c5] :: hB b [vS p aP.Arrays c,vS p1 aP.Parts c1] :: ((XA++XP)++(YA++YP))) rfl rfl rfl rfl <| yO [] [(8,.bool y8)] <| zH <| zM <| zM ?_
  obtain⟨o0,ay,aT⟩:=zF hM
  refine zA0 (λaf aj m' => ∃(t40 : Bool),o0 = t40 /\ imm06.le af /\ aj = hB b3 [vS p8 y7.Arrays c8,vS p9 y7.Parts c9] :: hB b2 [vS p6 y5.Arrays c6,vS p7 y5.Parts c7] :: hB b1 [vS p4 y3.Arrays c4,vS p5 y3.Parts c5] :: hB b [vS p aP.Arrays c,vS p1 aP.Parts c1] :: ((XA++XP)++(YA++YP)) /\ m' = [(1,vP b 0),(4,vP b1 0),(5,.bool y4),(6,vP b2 0),(7,vP b3 0),(8,.bool y8),(40,.bool t40)]) ?_ ?_
  ·refine zE <| xF 2 [0,2] [(32,vA [vS p8 y7.Arrays c8,vS p9 y7.Parts c9]),(33,vA [vS p4 y3.Arrays c4,vS p5 y3.Parts c5])] ?_
   obtain⟨y9,bC,hM⟩:=zF ay
   refine zBk (L:=(YA++YP)) rfl (pmZ [hB b3 [vS p8 y7.Arrays c8,vS p9 y7.Parts c9],hB b2 [vS p6 y5.Arrays c6,vS p7 y5.Parts c7],hB b1 [vS p4 y3.Arrays c4,vS p5 y3.Parts c5],hB b [vS p aP.Arrays c,vS p1 aP.Parts c1]] (XA++XP) (YA++YP)) plY (λimm1 le hl=>fP y7 y3 _ bC (yA.sl (eZ hl)) (yP.sl (gB hl)) (h8.mono le) (h9.mono le)) ?_
   rintro imm07 imm08 v2 k2 le7 - ⟨_,v015,-,rfl,rfl⟩
   refine xF 5 [] [(36,.bool (!y9))] <| wN [36] hM ?_ ?_
   ·intro aE hM
    exact yO [] [(40,.bool true)] <| dZ [(1,vP b 0),(4,vP b1 0),(5,.bool y4),(6,vP b2 0),(7,vP b3 0),(8,.bool y8),(40,.bool true)] <| zY ⟨_,(zB hM).symm,le7,rfl,rfl⟩
   ·intro aE hM
    exact yO [] [(40,.bool (!(y8==y4)))] <| dZ [(1,vP b 0),(4,vP b1 0),(5,.bool y4),(6,vP b2 0),(7,vP b3 0),(8,.bool y8),(40,.bool (!(y8==y4)))] <| zY ⟨_,(zB hM).symm,le7,rfl,rfl⟩
  ·rintro imm07 aK m2 ⟨t40,heq,le7,rfl,rfl⟩
   subst o0
   replace h8:=h8.mono le7
   replace h9:=h9.mono le7
   replace h:=h.mono le7
   replace h1:=h1.mono le7
   refine zH <| yD aT ?_ ?_
   ·intro aQ hM
    refine zM <| zE <| yO [] [(2,.bool false)] <| zH <| yF <| zG ?_
    obtain rfl:=zB hM
    exact yV ⟨_,[],(.tmp rfl ResV.nil),zO,⟨_,rfl,rfl,rfl⟩⟩
   ·intro aQ hM
    refine zT <| zH <| zM <| zM ?_
    obtain⟨y10,hy6,hM⟩:=zF hM
    obtain⟨y11,hy7,hM⟩:=zF hM
    refine uX [.p (vA [vS p6 y5.Arrays c6,vS p7 y5.Parts c7]) [1],.p (vA [vS p aP.Arrays c,vS p1 aP.Parts c1]) [3],.x (λaf v hx => ∃(aX : Option Addr) (a8 : Nat) (a7 : Option Addr) (a6 : Nat),v = vA [vS aX y10.Arrays a8,vS a7 y10.Parts a6] /\ hx = [] /\ (SL af (vS aX y10.Arrays a8) y10.Arrays) /\ (SL af (vS a7 y10.Parts a6) y10.Parts)),.q (.bool y11),.p (.bool (!y11)) []] [[],[],[(1,false)],[(0,false),(2,false)],[(3,false)]] (hB b3 [vS p8 y7.Arrays c8,vS p9 y7.Parts c9] :: hB b2 [vS p6 y5.Arrays c6,vS p7 y5.Parts c7] :: hB b1 [vS p4 y3.Arrays c4,vS p5 y3.Parts c5] :: hB b [vS p aP.Arrays c,vS p1 aP.Parts c1] :: ((XA++XP)++(YA++YP))) [] [(4,false)] (λw g=>g.perm (.of_eq (ce _))) ?_ ?_
    ·refine Op <| Op <| Ox ?_ <| Oq ?_ <| Op <| On
     ·intro imm1 hf ai
      refine yI ?_
      rintro _ _ ⟨rfl,rfl⟩
      refine xQ <| tQ ((hB b3 [vS p8 y7.Arrays c8,vS p9 y7.Parts c9] :: hB b2 [vS p6 y5.Arrays c6,vS p7 y5.Parts c7] :: hB b1 [vS p4 y3.Arrays c4,vS p5 y3.Parts c5] :: hB b [vS p aP.Arrays c,vS p1 aP.Parts c1] :: ((XA++XP)++(YA++YP)))++hf) [(42,vA [vS p aP.Arrays c,vS p1 aP.Parts c1])] ?_
      refine uO rfl (fQ aP _ hy6 (h.mono ai) (h1.mono ai)) ?_
      rintro imm08 T1 v2 k2 le8 ⟨br,rfl,hD⟩
      refine zCF (T1++((hB b3 [vS p8 y7.Arrays c8,vS p9 y7.Parts c9] :: hB b2 [vS p6 y5.Arrays c6,vS p7 y5.Parts c7] :: hB b1 [vS p4 y3.Arrays c4,vS p5 y3.Parts c5] :: hB b [vS p aP.Arrays c,vS p1 aP.Parts c1] :: ((XA++XP)++(YA++YP)))++hf)) cf <| zIO T1 (Dp.plain hD) λimm09 le9 hL => ?_
      have h18:=Dp.fz hD hL
      obtain⟨v017,v018,rfl,h19,h20⟩:=oW h18
      obtain⟨aX,a8,rfl⟩:=h19.form
      obtain⟨a7,a6,rfl⟩:=h20.form
      exact rY (hx:=[]) rfl (le8.trans le9) rfl (xX rfl) ⟨_,_,_,_,rfl,rfl,h19,h20⟩
     ·intro imm1 hf ai
      refine yI ?_
      rintro _ _ ⟨rfl,rfl⟩
      refine yI ?_
      rintro _ _ ⟨aX,a8,a7,a6,rfl,rfl,h19,h20⟩
      refine xQ <| tQ ((hB b3 [vS p8 y7.Arrays c8,vS p9 y7.Parts c9] :: hB b2 [vS p6 y5.Arrays c6,vS p7 y5.Parts c7] :: hB b1 [vS p4 y3.Arrays c4,vS p5 y3.Parts c5] :: hB b [vS p aP.Arrays c,vS p1 aP.Parts c1] :: ((XA++XP)++(YA++YP)))++hf) [(41,vA [vS p6 y5.Arrays c6,vS p7 y5.Parts c7]),(43,vA [vS aX y10.Arrays a8,vS a7 y10.Parts a6])] ?_
      refine zBk (L:=(XA++XP)) rfl (pmQ [hB b3 [vS p8 y7.Arrays c8,vS p9 y7.Parts c9],hB b2 [vS p6 y5.Arrays c6,vS p7 y5.Parts c7],hB b1 [vS p4 y3.Arrays c4,vS p5 y3.Parts c5],hB b [vS p aP.Arrays c,vS p1 aP.Parts c1]] (XA++XP) (YA++YP) hf) plX (λimm1 le hl=>fP y5 y10 _ hy7 (xA.sl (eZ hl)) (xP.sl (gB hl)) (h19.mono le) (h20.mono le)) ?_
      rintro imm08 imm09 v2 k2 le8 - ⟨_,v015,-,rfl,rfl⟩
      exact rY (hx:=[]) rfl le8 rfl (xX rfl) ⟨rfl,rfl⟩
    ·intro imm09 le9
     refine yI ?_
     rintro _ _ ⟨rfl,rfl⟩
     refine xQ <| tQ (hB b3 [vS p8 y7.Arrays c8,vS p9 y7.Parts c9] :: hB b2 [vS p6 y5.Arrays c6,vS p7 y5.Parts c7] :: hB b1 [vS p4 y3.Arrays c4,vS p5 y3.Parts c5] :: hB b [vS p aP.Arrays c,vS p1 aP.Parts c1] :: ((XA++XP)++(YA++YP))) [(1,vP b 0),(4,vP b1 0),(5,.bool y4),(6,vP b2 0),(7,vP b3 0),(8,.bool y8),(45,.bool (!y11))] ?_
     replace h8:=h8.mono le9
     replace h9:=h9.mono le9
     replace h:=h.mono le9
     replace h1:=h1.mono le9
     refine zX rfl <| zH <| yD hM ?_ ?_
     ·intro bp hM
      refine zM <| zE <| yO [] [(2,.bool false)] <| zH <| yF <| zG ?_
      obtain rfl:=zB hM
      exact yV ⟨_,[],(.tmp rfl ResV.nil),zO,⟨_,rfl,rfl,rfl⟩⟩
     ·intro bp hM
      refine zT <| zH <| zM <| zE <| yO [] [(9,vI 1)] <| zH <| zM <| zE <| xF 2 [1] [(46,vA [vS p6 y5.Arrays c6,vS p7 y5.Parts c7]),(47,vI 1)] ?_
      obtain⟨z,hy8,hM⟩:=zF hM
      refine mV rfl (λZ=>hB b3 [vS p8 y7.Arrays c8,vS p9 y7.Parts c9] :: hB b2 [vS p6 y5.Arrays c6,vS p7 y5.Parts c7] :: hB b1 [vS p4 y3.Arrays c4,vS p5 y3.Parts c5] :: hB b [vS p aP.Arrays c,vS p1 aP.Parts c1] :: (Z++(YA++YP))) (λZ=>pm1 [_,_,_,_] Z (YA++YP)) rfl (zAh y5 1 _ hy8 xA xP) ?_
      rintro imm010 _ _ k2 le10 ⟨rfl,ZA,ZP,rfl,zA,zP⟩
      replace h8:=h8.mono le10
      replace h9:=h9.mono le10
      replace h:=h.mono le10
      replace h1:=h1.mono le10
      refine yO [] [(9,vI z.1)] <| zH <| zM <| zM ?_
      obtain⟨aO,aJ,hMc1⟩:=zF hM
      refine zA0 (λaf aj m' => ∃(t61 : Bool),aO = t61 /\ imm010.le af /\ aj = hB b3 [vS p8 y7.Arrays c8,vS p9 y7.Parts c9] :: hB b2 [vS p6 y5.Arrays c6,vS p7 y5.Parts c7] :: hB b1 [vS p4 y3.Arrays c4,vS p5 y3.Parts c5] :: hB b [vS p aP.Arrays c,vS p1 aP.Parts c1] :: ((ZA++ZP)++(YA++YP)) /\ m' = [(1,vP b 0),(4,vP b1 0),(5,.bool y4),(7,vP b3 0),(61,.bool t61)]) ?_ ?_
      ·refine zE <| xF 3 [] [(51,.bool (decide (z.1<0)))] <| wN [51] aJ ?_ ?_
       ·intro bD hM
        exact yO [] [(61,.bool true)] <| dZ [(1,vP b 0),(4,vP b1 0),(5,.bool y4),(7,vP b3 0),(61,.bool true)] <| zY ⟨_,(zB hM).symm,Imm.le.refl _,rfl,rfl⟩
       ·intro bD hM
        refine xF 5 [0,2] [(52,vA [vS p8 y7.Arrays c8,vS p9 y7.Parts c9]),(53,vA [vS p4 y3.Arrays c4,vS p5 y3.Parts c5])] ?_
        obtain⟨y13,hy9,hM⟩:=zF hM
        refine zBk (L:=(YA++YP)) rfl (pmZ [hB b3 [vS p8 y7.Arrays c8,vS p9 y7.Parts c9],hB b2 [vS p6 y5.Arrays c6,vS p7 y5.Parts c7],hB b1 [vS p4 y3.Arrays c4,vS p5 y3.Parts c5],hB b [vS p aP.Arrays c,vS p1 aP.Parts c1]] (ZA++ZP) (YA++YP)) plY (λimm1 le hl=>fP y7 y3 _ hy9 (yA.sl (eZ hl)) (yP.sl (gB hl)) (h8.mono le) (h9.mono le)) ?_
        rintro imm011 imm012 v2 k2 le11 - ⟨_,v015,-,rfl,rfl⟩
        refine xF 9 [] [(57,.bool (!y13))] <| wN [57] hM ?_ ?_
        ·intro hc5 hM
         exact yO [] [(61,.bool true)] <| dZ [(1,vP b 0),(4,vP b1 0),(5,.bool y4),(7,vP b3 0),(61,.bool true)] <| zY ⟨_,(zB hM).symm,le11,rfl,rfl⟩
        ·intro hc5 hM
         exact yO [] [(61,.bool (!(y8==y4)))] <| dZ [(1,vP b 0),(4,vP b1 0),(5,.bool y4),(7,vP b3 0),(61,.bool (!(y8==y4)))] <| zY ⟨_,(zB hM).symm,le11,rfl,rfl⟩
      ·rintro imm011 aK m2 ⟨t61,heq1,le12,rfl,rfl⟩
       subst aO
       replace h8:=h8.mono le12
       replace h9:=h9.mono le12
       replace h:=h.mono le12
       replace h1:=h1.mono le12
       refine zH <| yD hMc1 ?_ ?_
       ·intro hc6 hM
        refine zM <| zE <| yO [] [(2,.bool false)] <| zH <| yF <| zG ?_
        obtain rfl:=zB hM
        exact yV ⟨_,[],(.tmp rfl ResV.nil),zO,⟨_,rfl,rfl,rfl⟩⟩
       ·intro hc6 hM
        refine zT <| zH <| zM <| zE <| yO [] [(10,vI 1)] <| zH <| zM <| zE <| xF 2 [0] [(62,vA [vS p8 y7.Arrays c8,vS p9 y7.Parts c9]),(63,vI 1)] ?_
        obtain⟨g,hy10,hM⟩:=zF hM
        refine mV rfl (λZ=>hB b3 [vS p8 y7.Arrays c8,vS p9 y7.Parts c9] :: hB b2 [vS p6 y5.Arrays c6,vS p7 y5.Parts c7] :: hB b1 [vS p4 y3.Arrays c4,vS p5 y3.Parts c5] :: hB b [vS p aP.Arrays c,vS p1 aP.Parts c1] :: ((ZA++ZP)++Z)) (λZ=>pmZ [_,_,_,_] (ZA++ZP) Z) rfl (zAh y7 1 _ hy10 yA yP) ?_
        rintro imm013 _ _ k2 le13 ⟨rfl,KA,KP,rfl,kA,kP⟩
        replace h8:=h8.mono le13
        replace h9:=h9.mono le13
        replace h:=h.mono le13
        replace h1:=h1.mono le13
        have eA : vS p8 y7.Arrays c8 = vS p8 g.2.Arrays c8:=by simp only[vS,kA.len]
        have eP : vS p9 y7.Parts c9 = vS p9 g.2.Parts c9:=by simp only[vS,kP.len]
        rw[eA] at kA
        rw[eP] at kP
        simp only[eA,eP]
        have plK : (KA++KP).all HA.plain = true:=fK kA.plain kP.plain
        refine yO [] [(10,vI g.1)] <| zH <| zM <| zE <| yO [] [(11,vI 1)] <| zH <| zM <| zE <| xF 2 [0] [(65,vA [vS p8 g.2.Arrays c8,vS p9 g.2.Parts c9]),(66,vI 1)] ?_
        obtain⟨y15,hy11,hM⟩:=zF hM
        refine zBk (L:=KA++KP) rfl (pmZ [hB b3 [vS p8 g.2.Arrays c8,vS p9 g.2.Parts c9],hB b2 [vS p6 y5.Arrays c6,vS p7 y5.Parts c7],hB b1 [vS p4 y3.Arrays c4,vS p5 y3.Parts c5],hB b [vS p aP.Arrays c,vS p1 aP.Parts c1]] (ZA++ZP) (KA++KP)) plK (λimm1 _ hl=>zAf g.2 1 _ hy11 (kA.sl (eZ hl)) (kP.sl (gB hl))) ?_
        rintro imm015 imm014 v2 k2 le14 - ⟨_,v015,-,rfl,rfl⟩
        replace h8:=h8.mono le14
        replace h9:=h9.mono le14
        replace h:=h.mono le14
        replace h1:=h1.mono le14
        refine yO [] [(11,vI y15)] <| zH <| zM <| zM <| zE <| yO [] [(69,.bool (decide (y15<0)))] <| zH <| yD hM ?_ ?_
        ·intro hc7 hM
         refine zM <| zE <| yO [] [(2,.bool false)] <| zH <| yF <| zG ?_
         obtain rfl:=zB hM
         exact yV ⟨_,[],(.tmp rfl ResV.nil),zO,⟨_,rfl,rfl,rfl⟩⟩
        ·intro hc7 hM
         refine zT <| zH <| zM <| zM <| zE <| yO [] [(72,.bool (y15 != g.1))] <| zH <| yD hM ?_ ?_
         ·intro hc8 hM
          refine zM <| zE <| yO [] [(2,.bool false)] <| zH <| yF <| zG ?_
          obtain rfl:=zB hM
          exact yV ⟨_,[],(.tmp rfl ResV.nil),zO,⟨_,rfl,rfl,rfl⟩⟩
         ·intro hc8 hM
          refine zT <| zH <| zM <| zE <| xF 1 [3] [(74,vA [vS p aP.Arrays c,vS p1 aP.Parts c1])] ?_
          obtain⟨y16,hy12,hM⟩:=zF hM
          refine uO rfl (fQ aP _ hy12 h h1) ?_
          rintro imm016 T2 v2 k2 le15 ⟨bw,rfl,hD⟩
          refine zCF (T2++(hB b3 [vS p8 g.2.Arrays c8,vS p9 g.2.Parts c9] :: hB b2 [vS p6 y5.Arrays c6,vS p7 y5.Parts c7] :: hB b1 [vS p4 y3.Arrays c4,vS p5 y3.Parts c5] :: hB b [vS p aP.Arrays c,vS p1 aP.Parts c1] :: ((ZA++ZP)++(KA++KP)))) cf <| zIO T2 (Dp.plain hD) λimm017 le16 hL => ?_
          have h26:=Dp.fz hD hL
          clear hD hL
          replace h8:=h8.mono (le15.trans le16)
          replace h9:=h9.mono (le15.trans le16)
          obtain⟨v025,v026,rfl,h27,h28⟩:=oW h26
          obtain⟨bu,bc,rfl⟩:=h27.form
          obtain⟨aZ,bm,rfl⟩:=h28.form
          obtain⟨⟨y18,y19⟩,hy13,hM⟩:=zF hM
          refine uO rfl (zAg y16 _ hy13 h27 h28) ?_
          rintro imm018 T3 v2 k2 le17 ⟨cs6,rfl,hD⟩
          refine zCF (T3++(hB b3 [vS p8 g.2.Arrays c8,vS p9 g.2.Parts c9] :: hB b2 [vS p6 y5.Arrays c6,vS p7 y5.Parts c7] :: hB b1 [vS p4 y3.Arrays c4,vS p5 y3.Parts c5] :: hB b [vS p aP.Arrays c,vS p1 aP.Parts c1] :: ((ZA++ZP)++(KA++KP)))) cf <| zIO T3 (Dp.plain hD) λimm019 le18 hL => ?_
          have h29:=Dp.fz hD hL
          clear hD hL
          replace h8:=h8.mono (le17.trans le18)
          replace h9:=h9.mono (le17.trans le18)
          obtain⟨v029,v030,rfl,h31,h32⟩:=oW h29
          obtain⟨p14,c14,rfl⟩:=h31.form
          obtain⟨p15,c15,rfl⟩:=h32.form
          refine xF 6 [] [(77,vA [vS p14 y18.Arrays c14,vS p15 y18.Parts c15]),(78,.bool y19)] <| xT (c:=⟨[.slice none 0 0,.slice none 0 0]⟩) rfl rfl rfl (by kernel_rfl) ?_
          intro b4 hb4
          refine uJ 0 [vS p14 y18.Arrays c14,vS p15 y18.Parts c15] (hB b4 [vS p14 y18.Arrays c14,vS p15 y18.Parts c15] :: hB b3 [vS p8 g.2.Arrays c8,vS p9 g.2.Parts c9] :: hB b2 [vS p6 y5.Arrays c6,vS p7 y5.Parts c7] :: hB b1 [vS p4 y3.Arrays c4,vS p5 y3.Parts c5] :: hB b [vS p aP.Arrays c,vS p1 aP.Parts c1] :: ((ZA++ZP)++(KA++KP))) rfl rfl rfl rfl <| yO [] [(13,.bool y19)] <| zH <| zM <| zM ?_
          obtain⟨o02,ho02,hMc2⟩:=zF hM
          refine zA0 (λaf aj m' => ∃(t87 : Bool),o02 = t87 /\ aj = hB b4 [vS p14 y18.Arrays c14,vS p15 y18.Parts c15] :: hB b3 [vS p8 g.2.Arrays c8,vS p9 g.2.Parts c9] :: hB b2 [vS p6 y5.Arrays c6,vS p7 y5.Parts c7] :: hB b1 [vS p4 y3.Arrays c4,vS p5 y3.Parts c5] :: hB b [vS p aP.Arrays c,vS p1 aP.Parts c1] :: ((ZA++ZP)++(KA++KP)) /\ m' = [(7,vP b3 0),(10,vI g.1),(87,.bool t87)]) ?_ ?_
          ·refine zE <| xF 2 [0,3] [(79,vA [vS p14 y18.Arrays c14,vS p15 y18.Parts c15]),(80,vA [vS p4 y3.Arrays c4,vS p5 y3.Parts c5])] ?_
           obtain⟨y20,hy14,hM⟩:=zF ho02
           refine zFA rfl (fP y18 y3 _ hy14 h31 h32 h8 h9) ?_
           rintro imm020 v2 k2 le19 ⟨_,v031,-,rfl,rfl⟩
           refine xF 5 [] [(83,.bool (!y20))] <| wN [83] hM ?_ ?_
           ·intro hc9 hM
            exact yO [] [(87,.bool true)] <| dZ [(7,vP b3 0),(10,vI g.1),(87,.bool true)] <| zY ⟨_,(zB hM).symm,rfl,rfl⟩
           ·intro hc9 hM
            exact yO [] [(87,.bool (!(y19==y4)))] <| dZ [(7,vP b3 0),(10,vI g.1),(87,.bool (!(y19==y4)))] <| zY ⟨_,(zB hM).symm,rfl,rfl⟩
          ·rintro imm020 aK m2 ⟨t87,heq2,rfl,rfl⟩
           subst o02
           refine zH <| yD hMc2 ?_ ?_
           ·intro hc10 hM
            refine zM <| zE <| yO [] [(2,.bool false)] <| zH <| yF <| zG ?_
            obtain rfl:=zB hM
            exact yV ⟨_,[],(.tmp rfl ResV.nil),zO,⟨_,rfl,rfl,rfl⟩⟩
           ·intro hc10 hM
            refine zT <| zH <| zM <| zE <| yO [] [(11,vI 1)] <| zH <| zM <| zE <| xF 2 [1] [(88,vA [vS p8 g.2.Arrays c8,vS p9 g.2.Parts c9]),(89,vI 1)] ?_
            obtain⟨y21,hy15,hM⟩:=zF hM
            refine zBk (L:=KA++KP) rfl (pmZ [hB b4 [vS p14 y18.Arrays c14,vS p15 y18.Parts c15],hB b3 [vS p8 g.2.Arrays c8,vS p9 g.2.Parts c9],hB b2 [vS p6 y5.Arrays c6,vS p7 y5.Parts c7],hB b1 [vS p4 y3.Arrays c4,vS p5 y3.Parts c5],hB b [vS p aP.Arrays c,vS p1 aP.Parts c1]] (ZA++ZP) (KA++KP)) plK (λimm1 _ hl=>zAf g.2 1 _ hy15 (kA.sl (eZ hl)) (kP.sl (gB hl))) ?_
            rintro imm021 imm022 v2 k2 le20 - ⟨_,v015,-,rfl,rfl⟩
            refine yO [] [(11,vI y21)] <| zH <| zM <| zM <| zE <| yO [] [(92,.bool (decide (y21<0)))] <| zH <| yD hM ?_ ?_
            ·intro hc11 hM
             refine zM <| zE <| yO [] [(2,.bool false)] <| zH <| yF <| zG ?_
             obtain rfl:=zB hM
             exact yV ⟨_,[],(.tmp rfl ResV.nil),zO,⟨_,rfl,rfl,rfl⟩⟩
            ·intro hc11 hM
             refine zT <| zH <| zM <| zM <| zE <| yO [] [(95,.bool (y21 != g.1))] <| zH <| yD hM ?_ ?_
             ·intro hc12 hM
              refine zM <| zE <| yO [] [(2,.bool false)] <| zH <| yF <| zG ?_
              obtain rfl:=zB hM
              exact yV ⟨_,[],(.tmp rfl ResV.nil),zO,⟨_,rfl,rfl,rfl⟩⟩
             ·intro hc12 hM
              refine zT <| zH <| zM <| zE <| yO [] [(2,.bool true)] <| zH <| yF ?_
              obtain rfl:=zB hM
              exact yV ⟨_,[],(.tmp rfl ResV.nil),zO,⟨_,rfl,rfl,rfl⟩⟩
def Ok{α : Type}(x : Option α)(φ : α -> Prop): Prop := ∃r,x = some r /\ φ r
class Tot {α : Type} (x : Option α) (pre : outParam Prop) (k : outParam ((α -> Prop) -> Prop)) : Prop where
 ok : pre -> ∀φ : α -> Prop,k φ -> Ok x φ
class Sd (P : Prop) : Prop where
 h : P
class Su (P : Prop) (Q : outParam Prop) : Prop where
 h : Q -> P
class Sw (P : Prop) (Q : outParam Prop) : Prop where
 h : Q -> P
theorem zKc{α : Type}{P : α -> Prop}{l : List α}{y : α}(h : ∀s∈l,P s)(hy : P y): ∀s∈l++[y],P s:=by
 intro s hs
 rcases dj.1 hs with hs|hs
 ·exact h s hs
 ·rw[dc.1 hs];exact hy
def AF{α : Type}(l : List α)(i : Int)(P : α -> Prop): Prop := ∀j : Nat,i<=j -> ∀x,l[j]? = some x -> P x
theorem AF.fin{α : Type}{l : List α}{i : Int}{P : α -> Prop}(h : ¬ i<l.length): AF l i P:=by
 intro j hj x hx
 have:=(ck.1 hx).1
 omega
theorem AF.step{α : Type}{l : List α}{i : Int}{P : α -> Prop}{x : α}(hx : l[i.toNat]? = some x)(h : AF l (i+1) P)(hi : 0<=i)(hp : P x): AF l i P:=by
 intro j hj y hy
 by_cases hji : i = j
 ·subst hji
  rw[Int.toNat_natCast] at hx
  rw[hx] at hy
  cases hy
  exact hp
 ·exact h j (by omega) y hy
theorem AF.all{α : Type}{l : List α}{P : α -> Prop}(h : AF l 0 P): ∀x∈l,P x:=by
 intro x hx
 obtain⟨j,hj⟩:=List.mem_iff_getElem?.1 hx
 exact h j (by omega) x hj
theorem S{P : Prop}(h : P:=by
 repeat' first
  | assumption
  | omega
  | with_reducible apply And.intro
  | exact True.intro
  | with_reducible rfl
  | (simp only[cO,cx,cm,cF];omega)
  | exact Sd.h
  | simp(disch:=omega) only [mG]
  | solve_by_elim
  | ((with_reducible refine Sw.h ?_);first|assumption|solve_by_elim)
  | (intro _ hz;exact absurd hz List.not_mem_nil)
  | exact λh=>absurd h Bool.false_ne_true
  | exact λh=>absurd h.symm Bool.false_ne_true
  | (intro h;replace h:=of_decide_eq_false h)
  | decide
  | exact AF.fin (by omega)
  | exact AF.all (by first|assumption|solve_by_elim)
  | with_reducible refine zKc ?_ ?_
  | (simp only[cO,cx,cm,cF] at *;omega)
  | (intro h;replace h:=of_decide_eq_true h)
  | (intro h;replace h:=eq_of_beq h)
  | intro _
  | with_reducible refine AF.step (by assumption) (by first|assumption|solve_by_elim) (by omega) ?_
  | dsimp only
  | with_reducible refine Su.h ?_
  | (exfalso;omega)
 done) : P:=h
theorem Ok.mono{α : Type}{x : Option α}{φ ψ : α -> Prop}(h : Ok x φ)(hp : ∀r,φ r -> ψ r): Ok x ψ:=by
 obtain⟨r,h1,h2⟩:=h;exact⟨r,h1,hp r h2⟩
theorem Ok.pure{α : Type}{a : α}{φ : α -> Prop}(h : φ a): Ok (Pure.pure a) φ:=⟨a,rfl,h⟩
theorem Ok.some{α : Type}{a : α}{φ : α -> Prop}(h : φ a): Ok (Option.some a) φ:=⟨a,rfl,h⟩
theorem Ok.bind{α β : Type}{x : Option α}{f : α -> Option β}{φ : α -> Prop}{ψ : β -> Prop}(h : Ok x φ)(hf : ∀r,φ r -> Ok (f r) ψ): Ok (x >>= f) ψ:=by
 obtain⟨r,rfl,h2⟩:=h
 exact hf r h2
theorem Ok.call{α β : Type}{x : Option α}{pre : Prop}{k : (α -> Prop) -> Prop}{f : α -> Option β}{ψ : β -> Prop}(T : Tot x pre k)(hp : pre)(h : k (λr=>Ok (f r) ψ)): Ok (x >>= f) ψ:=
 Ok.bind (T.ok hp _ h) λ_ h=>h
theorem Ok.bind_some{α β : Type}{a : α}{f : α -> Option β}{ψ : β -> Prop}(h : Ok (f a) ψ): Ok (Option.some a >>= f) ψ:=h
theorem Ok.idx{α β : Type}{l : List α}{i : Int}{f : α -> Option β}{φ : β -> Prop}(h0 : 0<=i)(h1 : i<l.length)(h : ∀x,x∈l -> l[i.toNat]? = Option.some x -> Ok (f x) φ): Ok (idx l i >>= f) φ:=by
 unfold LN.idx
 rw[if_pos h0]
 have hl : i.toNat<l.length:=by omega
 rw[b9 hl]
 exact h _ (List.getElem_mem hl) (b9 hl)
theorem Ok.app{α β : Type}{e : Nat}{l m : List α}{f : List α -> Option β}{φ : β -> Prop}(h0 : (l.length+m.length)*e<=140737488355328)(h : Ok (f (l++m)) φ): Ok (app e l m >>= f) φ:=by
 unfold LN.app
 rw[if_pos h0]
 exact h
theorem Ok.cat{β : Type}{a b : Str}{f : Str -> Option β}{φ : β -> Prop}(h0 : a.l.length+b.l.length<=9223372036854775807)(h : ∀s : Str,s.l = a.l++b.l -> s.l.length = a.l.length+b.l.length -> Ok (f s) φ): Ok (cat a b >>= f) φ:=by
 unfold LN.cat
 rw[if_pos h0]
 exact h _ rfl (by simp)
theorem Ok.rem{β : Type}{a b : Int}{f : Int -> Option β}{φ : β -> Prop}(h0 : b ≠ 0)(h : Ok (f (a.tmod b)) φ): Ok (rem a b >>= f) φ:=by
 unfold LN.rem;rw[if_neg h0];exact h
theorem Ok.quo{β : Type}{a b : Int}{f : Int -> Option β}{φ : β -> Prop}(h0 : b ≠ 0)(h : Ok (f (W (a.tdiv b))) φ): Ok (quo a b >>= f) φ:=by
 unfold LN.quo;rw[if_neg h0];exact h
theorem Ok.congr{α : Type}{x x' : Option α}{φ : α -> Prop}(e : x = x')(h : Ok x' φ): Ok x φ:=e ▸ h
section test
end test
theorem oS{α β:Type}(x:α)(f:α->Option β):(some x).bind f=f x:=rfl
theorem oB{α β:Type}(x:Option α)(f:α->Option β):(x>>=f)=x.bind f:=rfl
theorem oP{α:Type}(x:α):(pure x:Option α)=some x:=rfl
theorem bF:(false=true)=False:=by simp
theorem iN(n:Nat):((n:Int)).toNat=n:=Int.toNat_natCast n
theorem gC{α:Type}{l:List α}{i:Nat}(h:i<l.length):l.drop i=l[i]::l.drop (i+1):=cU h
theorem dT(h:Decidable True):decide True=true:=by simp
theorem dF(h:Decidable False):decide False=false:=by simp
theorem gM{α:Type}{l:List α}{i:Nat}(h:i<l.length):l[i]∈l:=List.getElem_mem h
theorem nZ:((0:Nat):Int)=0:=rfl
theorem dN{α:Type}{l:List α}{i:Nat}:l.drop i=[]↔l.length<=i:=cX
theorem bA(a b:Bool):((a&&b)=true)=(a=true/\b=true):=cy a b
theorem bT:(!true)=false:=rfl
theorem bQ{α:Type}[BEq α][ReflBEq α](a:α):(a==a)=true:=beq_self_eq_true a
theorem lA{α:Type}{a b:List α}:(a++b).length=a.length+b.length:=cO
theorem lM{α β:Type}{l:List α}(f:α->β):(l.map f).length=l.length:=cM f
theorem nE{α:Type}{b:Nat}{l k:List α}(h:(l.length+k.length)*b<=140737488355328):app b l k=some (l++k):=by
 unfold app;rw[if_pos h]
theorem zKG{f:Int->Option Bool}{p:Int->Bool}(s:List Int)(hf:∀x∈s,f x=some (p x))(hs:s.length<=9223372036854775806):∀j k,k+j=s.length ->
 wK s f (k:Int)=some (match (s.drop k).findIdx? p with|some i=>.ret (((k+i:Nat)):Int)|none=>.done ()):=by
 intro j
 induction j with
 | zero=>
  intro k hk
  rw[wK]
  have:¬((k:Int)<(s.length:Int)):=by omega
  simp[this,dN.2 (show s.length<=k by omega)]
 | succ j ih=>
  intro k hk
  rw[wK]
  have aH:k<s.length:=by omega
  have:((k:Int)<(s.length:Int)):=by omega
  simp only[this,dT,if_true,zDP,b9 aH,oB,oS,hf _ (gM aH)]
  rw[gC aH,ev]
  cases hp:p s[k] with
  | true=>simp
  | false=>
   simp only[bF,if_false]
   rw[zG1 (by omega),ih (k+1) (by omega)]
   cases hx:List.findIdx? p (List.drop (k+1) s) with
   | none=>simp
   | some i=>simp;omega
theorem zDI{f:Int->Option Bool}{p:Int->Bool}(s:List Int)(hf:∀x∈s,f x=some (p x))(hs:s.length<=9223372036854775806):xG s f=some (s.any p):=by
 unfold xG qS;have:=zKG s hf hs s.length 0 (by omega);rw[co] at this;simp only[nZ,oB] at this ⊢;rw[this];cases h:List.findIdx? p s with
 | none=>
  have:s.any p=false:=by simpa using dz.1 h
  simp[this]
 | some i=>
  have:s.any p=true:=by
   obtain⟨h1,h2⟩:=di.1 h;exact List.any_eq_true.2 ⟨s[i],gM h1,h2.1⟩
  simp[this]
def coefB(c:Int):Bool:=decide (-9<=c)&&decide (c<=9)
def constB(c:Int):Bool:=decide (-99<=c)&&decide (c<=99)
def validB(a:zC):Bool:=decide (a.Coefs.length=4)&&constB a.Const&&a.Coefs.all coefB
theorem oI(n lo hi:Int):wH n lo hi=some (decide (lo<=n)&&decide (n<=hi)):=by
 unfold wH;by_cases h:lo<=n <;> simp[h]
theorem implValid(a:zC)(h:a.Coefs.length<=1048576):rP a=some (validB a):=by
 unfold rP validB zAE;have e:((a.Coefs.length:Int)==4)=decide (a.Coefs.length=4):=by
  by_cases h4:a.Coefs.length=4
  ·simp[h4]
  ·have:¬(a.Coefs.length:Int)=4:=by omega
   simp[h4,this]
 rw[oI,e];by_cases h4:a.Coefs.length=4
 ·have hc:xG a.Coefs tU=some (a.Coefs.any λc=>!coefB c):=by
   refine zDI _ (λx _=>?_) (by omega);unfold tU;rw[oI];rfl
  simp only[h4,dT,if_true,oB,oS,oP,id,hc,cq];rw[show (decide (-99<=a.Const)&&decide (a.Const<=99))=constB a.Const from rfl];cases hk:constB a.Const with
  | false=>simp
  | true=>
   simp only[if_true,oB,oS,cq];rw[dn];simp
 ·simp[h4]
theorem specWithin(n:Int)(k:Nat)(hk:k<=1048576):tB n (k:Int)=some (decide (-(k:Int)<=n)&&decide (n<=k)):=by
 unfold tB;rw[mG (by omega) (by omega)];by_cases h:(-(k:Int))<=n
 ·have:n>=0 - (k:Int):=by omega
  simp[h,this]
 ·have:¬n>=0 - (k:Int):=by omega
  simp[h,this]
theorem zHc(a:zC)(h:a.Coefs.length<=1048576):∀j k,k+j=a.Coefs.length->tH a (k:Int)=some (if(a.Coefs.drop k).all coefB then .done () else .ret false):=by
 intro j
 induction j with
 | zero=>
  intro k hk;rw[tH];have:¬((k:Int)<(a.Coefs.length:Int)):=by omega
  simp[this,dN.2 (show a.Coefs.length<=k by omega)]
 | succ j ih=>
  intro k hk;rw[tH];have aH:k<a.Coefs.length:=by omega
  have h1:((k:Int)<(a.Coefs.length:Int)):=by omega
  have hw:tB a.Coefs[k] 9=some (coefB a.Coefs[k]):=specWithin _ 9 (by omega);simp only[h1,dT,if_true,zDP,b9 aH,oB,oS,hw];rw[gC aH,cV];cases hp:coefB a.Coefs[k] with
  | false=>simp
  | true=>
   simp only[bT,bF,if_false,cq];rw[zG1 (by omega),ih (k+1) (by omega)]
theorem specValid(a:zC)(h:a.Coefs.length<=1048576):rL a=some (validB a):=by
 unfold rL validB;have e:((a.Coefs.length:Int)==4)=decide (a.Coefs.length=4):=by
  by_cases h4:a.Coefs.length=4
  ·simp[h4]
  ·have:¬(a.Coefs.length:Int)=4:=by omega
   simp[h4,this]
 have hl:=zHc a h _ 0 (cu _);have hw:tB a.Const 99=some (constB a.Const):=specWithin _ 99 (by omega);rw[co,nZ] at hl;rw[hl,e,hw];by_cases hall:a.Coefs.all coefB=true
 ·simp only[hall,if_true,oB,oS];by_cases h4:a.Coefs.length=4 <;> simp[h4]
 ·simp only[hall,if_false,oB,oS];simp
theorem zHd{f:zC->Option Bool}{p:zC->Bool}(s:List zC)(hf:∀x∈s,f x=some (p x))(hs:s.length<=9223372036854775806):∀j k,k+j=s.length ->
 yT s f (k:Int)=some (match (s.drop k).findIdx? p with|some i=>.ret (((k+i:Nat)):Int)|none=>.done ()):=by
 intro j
 induction j with
 | zero=>
  intro k hk
  rw[yT]
  have:¬((k:Int)<(s.length:Int)):=by omega
  simp[this,dN.2 (show s.length<=k by omega)]
 | succ j ih=>
  intro k hk
  rw[yT]
  have aH:k<s.length:=by omega
  have:((k:Int)<(s.length:Int)):=by omega
  simp only[this,dT,if_true,zDP,b9 aH,oB,oS,hf _ (gM aH)]
  rw[gC aH,ev]
  cases hp:p s[k] with
  | true=>simp
  | false=>
   simp only[bF,if_false]
   rw[zG1 (by omega),ih (k+1) (by omega)]
   cases hx:List.findIdx? p (List.drop (k+1) s) with
   | none=>simp
   | some i=>simp;omega
theorem zFI{f:zC->Option Bool}{p:zC->Bool}(s:List zC)(hf:∀x∈s,f x=some (p x))(hs:s.length<=9223372036854775806):xE s f=some (s.any p):=by
 unfold xE wV;have:=zHd s hf hs s.length 0 (by omega);rw[co] at this;simp only[nZ,oB] at this ⊢;rw[this];cases h:List.findIdx? p s with
 | none=>
  have:s.any p=false:=by simpa using dz.1 h
  simp[this]
 | some i=>
  have:s.any p=true:=by
   obtain⟨h1,h2⟩:=di.1 h;exact List.any_eq_true.2 ⟨s[i],gM h1,h2.1⟩
  simp[this]
theorem zHe{f:zJ->Option Bool}{p:zJ->Bool}(s:List zJ)(hf:∀x∈s,f x=some (p x))(hs:s.length<=9223372036854775806):∀j k,k+j=s.length ->
 xB s f (k:Int)=some (match (s.drop k).findIdx? p with|some i=>.ret (((k+i:Nat)):Int)|none=>.done ()):=by
 intro j
 induction j with
 | zero=>
  intro k hk
  rw[xB]
  have:¬((k:Int)<(s.length:Int)):=by omega
  simp[this,dN.2 (show s.length<=k by omega)]
 | succ j ih=>
  intro k hk
  rw[xB]
  have aH:k<s.length:=by omega
  have:((k:Int)<(s.length:Int)):=by omega
  simp only[this,dT,if_true,zDP,b9 aH,oB,oS,hf _ (gM aH)]
  rw[gC aH,ev]
  cases hp:p s[k] with
  | true=>simp
  | false=>
   simp only[bF,if_false]
   rw[zG1 (by omega),ih (k+1) (by omega)]
   cases hx:List.findIdx? p (List.drop (k+1) s) with
   | none=>simp
   | some i=>simp;omega
theorem zHf{f:zJ->Option Bool}{p:zJ->Bool}(s:List zJ)(hf:∀x∈s,f x=some (p x))(hs:s.length<=9223372036854775806):wA s f=some (s.any p):=by
 unfold wA vR;have:=zHe s hf hs s.length 0 (by omega);rw[co] at this;simp only[nZ,oB] at this ⊢;rw[this];cases h:List.findIdx? p s with
 | none=>
  have:s.any p=false:=by simpa using dz.1 h
  simp[this]
 | some i=>
  have:s.any p=true:=by
   obtain⟨h1,h2⟩:=di.1 h;exact List.any_eq_true.2 ⟨s[i],gM h1,h2.1⟩
  simp[this]
theorem zHg{f:zK->Option Bool}{p:zK->Bool}(s:List zK)(hf:∀x∈s,f x=some (p x))(hs:s.length<=9223372036854775806):∀j k,k+j=s.length ->
 yU s f (k:Int)=some (match (s.drop k).findIdx? p with|some i=>.ret (((k+i:Nat)):Int)|none=>.done ()):=by
 intro j
 induction j with
 | zero=>
  intro k hk
  rw[yU]
  have:¬((k:Int)<(s.length:Int)):=by omega
  simp[this,dN.2 (show s.length<=k by omega)]
 | succ j ih=>
  intro k hk
  rw[yU]
  have aH:k<s.length:=by omega
  have:((k:Int)<(s.length:Int)):=by omega
  simp only[this,dT,if_true,zDP,b9 aH,oB,oS,hf _ (gM aH)]
  rw[gC aH,ev]
  cases hp:p s[k] with
  | true=>simp
  | false=>
   simp only[bF,if_false]
   rw[zG1 (by omega),ih (k+1) (by omega)]
   cases hx:List.findIdx? p (List.drop (k+1) s) with
   | none=>simp
   | some i=>simp;omega
theorem zHh{f:zK->Option Bool}{p:zK->Bool}(s:List zK)(hf:∀x∈s,f x=some (p x))(hs:s.length<=9223372036854775806):xS s f=some (s.any p):=by
 unfold xS wW;have:=zHg s hf hs s.length 0 (by omega);rw[co] at this;simp only[nZ,oB] at this ⊢;rw[this];cases h:List.findIdx? p s with
 | none=>
  have:s.any p=false:=by simpa using dz.1 h
  simp[this]
 | some i=>
  have:s.any p=true:=by
   obtain⟨h1,h2⟩:=di.1 h;exact List.any_eq_true.2 ⟨s[i],gM h1,h2.1⟩
  simp[this]
theorem zAL{n:Nat}{f:Int->Option (Out Unit Bool)}{P:Nat->Bool}(step:∀i,i<n->f (i:Int)=if P i then f ((i+1:Nat):Int) else some (.ret false))(fin:f (n:Int)=some (.done ())):f 0=some (if(List.range n).all P then .done () else .ret false):=by
 have key:∀j i,i+j=n->f (i:Int)=some (if(List.range' i j).all P then .done () else .ret false):=by
  intro j
  induction j with
  | zero=>intro i hi;rw[show i=n by omega,fin];rfl
  | succ j ih=>
   intro i hi;rw[step i (by omega),ei,cV];cases hP:P i with
   | false=>simp
   | true=>simp only[if_true,cq];exact ih (i+1) (by omega)
 have:=key n 0 (by omega);rw[List.range_eq_range'];exact this
theorem zAU{α:Type}(l:List α)(P:α->Bool)(d:α):(List.range l.length).all (λi=>P (l.getD i d))=l.all P:=by
 rw[Bool.eq_iff_iff,cb,cb];constructor
 ·intro h x hx;obtain⟨i,hi,rfl⟩:=dv.1 hx;have:=h i (cD.2 hi);simpa [hi] using this
 ·intro h i hi;have hi:=cD.1 hi;simp only[dw,b9 hi,Option.getD_some];exact h _ (gM hi)
theorem xJ{α:Type}{l:List α}{i:Nat}(h:i<l.length):idx l (i:Int)=some l[i]:=by rw[zDP,b9 h]
theorem rC{i:Nat}(h:i<9223372036854775807):W ((i:Int)+1)=((i+1:Nat):Int):=by rw[mG (by omega) (by omega)];omega
def depL:List Int->Nat->Nat->Nat
 | [],_,n=>n
 | c::C,i,n=>depL C (i+1) (if c=0 then n else i+1)
def depF(a:zC):Nat:=depL a.Coefs 0 0
theorem zHi(a:zC)(h:a.Coefs.length<=1048576):∀(j i n:Nat),i+j=a.Coefs.length->qL a (n:Int) (i:Int)=some ((depL (a.Coefs.drop i) i n:Nat):Int):=by
 intro j
 induction j with
 | zero=>
  intro i n hi;rw[qL];have:¬((i:Int)<(a.Coefs.length:Int)):=by omega
  simp only[this,dF,bF,if_false];rw[dN.2 (by omega)];rfl
 | succ j ih=>
  intro i n hi;rw[qL];have aH:i<a.Coefs.length:=by omega
  have h1:((i:Int)<(a.Coefs.length:Int)):=by omega
  simp only[h1,dT,if_true,xJ aH,oB,oS];rw[gC aH,depL,rC (by omega)];by_cases h0:a.Coefs[i]=0
  ·simp only[h0,bne_self_eq_false,bF,if_false,if_true,oP,oS,id];exact ih (i+1) n (by omega)
  ·have hb:(a.Coefs[i] != 0)=true:=by simpa using h0
   simp only[hb,if_true,h0,if_false,oP,oS];exact ih (i+1) (i+1) (by omega)
theorem specDepth(a:zC)(h:a.Coefs.length<=1048576):oT a=some ((depF a:Nat):Int):=by
 unfold oT depF;have:=zHi a h _ 0 0 (cu _);rw[nZ,co] at this;rw[this];rfl
theorem zIQ:∀(C D:List Int) (i n:Nat),depL (C++D) i n=depL D (i+C.length) (depL C i n)
 | [],D,i,n=>rfl
 | c::C,D,i,n=>by rw[em,depL,depL,zIQ C D,cx,show i+1+C.length=i+(C.length+1) by omega]
theorem zHj(a:zC)(h:a.Coefs.length<=1048576):∀n,n<=a.Coefs.length->depL (a.Coefs.drop n) n n=n->∀m:Nat,(∀k,depL (a.Coefs.drop n) n k=k)->uT a (n:Int)=some ((depL (a.Coefs.take n) 0 0:Nat):Int):=by
 intro n
 induction n with
 | zero=>
  intro _ _ _ _;rw[uT];rfl
 | succ n ih=>
  intro hn h1 m hk;rw[uT];have h0:(((n+1:Nat):Int)>0):=by omega
  have aH:n<a.Coefs.length:=by omega
  have hW:W (((n+1:Nat):Int) - 1)=(n:Int):=by rw[mG (by omega) (by omega)];omega
  simp only[h0,dT,if_true,hW,xJ aH,oB,oS,oP];rw[List.take_add_one,b9 aH,Option.toList_some,zIQ];by_cases hc:a.Coefs[n]=0
  ·simp only[hc,BEq.rfl,if_true,depL];have hk':∀k,depL (a.Coefs.drop n) n k=k:=λk=>by rw[gC aH,depL,hc,if_pos rfl];exact hk k
   exact ih (by omega) (hk' n) 0 hk'
  ·have hb:(a.Coefs[n]==0)=false:=by simpa using hc
   simp only[hb,bF,if_false,depL,hc,id,cv];rw[show 0+min n a.Coefs.length+1=n+1 by omega]
theorem implDepth(a:zC)(h:a.Coefs.length<=1048576):tE a=some ((depF a:Nat):Int):=by
 unfold tE depF;have hd:∀k,depL (a.Coefs.drop a.Coefs.length) a.Coefs.length k=k:=λk=>by rw[List.drop_length];rfl
 have:=zHj a h a.Coefs.length (cH _) (hd _) 0 hd;rw[List.take_length] at this;rw[this];rfl
def BA(a:zC):Prop:=a.Coefs.length<=1048576
def BL(l:List zC):Prop:=l.length<=1048576/\∀a∈l,BA a
def okA(am:Int)(a:zC):Bool:=validB a&&decide ((depF a:Int)<=am)
def sideB(l:List zC)(am:Int):Bool:=(decide (1<=l.length)&&decide (l.length<=2))&&l.all (okA am)
theorem implBound(a:zC)(h:BA a)(d:Int):sZ a d=some (!(okA d a)):=by
 unfold sZ okA;have h':a.Coefs.length<=1048576:=by unfold BA at h;omega
 rw[implValid a h',implDepth a h'];cases validB a with
 | false=>rfl
 | true=>
  by_cases hd:(depF a:Int)<=d
  ·have:¬((depF a:Int)>d):=by omega
   simp[hd,this]
  ·have:((depF a:Int)>d):=by omega
   simp[hd,this]
theorem implSide(l:List zC)(h:BL l)(d:Int):kD l d=some (sideB l d):=by
 unfold kD sideB;rw[oI];have e1:decide ((1:Int)<=(l.length:Int))=decide (1<=l.length):=by simp;omega
 have e2:decide ((l.length:Int)<=2)=decide (l.length<=2):=by simp;omega
 rw[e1,e2];have hc:=zFI (f:=λx0=>sZ x0 d) (p:=λx=>!(okA d x)) l (λx hx=>implBound x (h.2 x hx) d) (by have:=h.1;omega);cases hb:(decide (1<=l.length)&&decide (l.length<=2)) with
 | false=>rfl
 | true=>
  simp only[oB,oS,if_true,hc,oP,id,cq];rw[dn];simp
theorem specSide(l:List zC)(h:BL l)(d:Int):gZ l d=some (sideB l d):=by
 unfold gZ sideB;have aU:=h.1;have hl:=zAL (n:=l.length) (f:=pU l d) (P:=λi=>okA d (l.getD i ⟨[],0⟩)) (λi hi=>by
  rw[pU];have h1:((i:Int)<(l.length:Int)):=by omega
  have ha:l[i].Coefs.length<=1048576:=by have:=h.2 _ (gM hi);unfold BA at this;omega
  have hg:l.getD i ⟨[],0⟩=l[i]:=by simp[hi]
  simp only[h1,dT,if_true,xJ hi,oB,oS,specValid _ ha,specDepth _ ha,hg,okA];rw[rC (by omega)];cases validB l[i] with
  | false=>rfl
  | true=>
   by_cases hd:(depF l[i]:Int)<=d
   ·have:¬((depF l[i]:Int)>d):=by omega
    simp[hd,this]
   ·have:((depF l[i]:Int)>d):=by omega
    simp[hd,this]) (by
  rw[pU];simp)
 rw[hl,zAU l (okA d)];cases hb:l.all (okA d) with
 | false=>simp
 | true=>
  simp only[if_true,oB,oS,Bool.and_true];by_cases e1:1<=l.length
  ·have:((l.length:Int)>=1):=by omega
   have e2:decide ((l.length:Int)<=2)=decide (l.length<=2):=by simp;omega
   simp[this,e1,e2]
  ·have:¬((l.length:Int)>=1):=by omega
   simp[this,e1]
def BN(nest:List zL):Prop:=nest.length<=1048576/\∀x∈nest,BL x.Lo/\BL x.Hi
def nestB(nest:List zL):Bool:=decide (nest.length<=4)&&(List.range nest.length).all λi=>sideB (nest.getD i ⟨[],[]⟩).Lo i&&sideB (nest.getD i ⟨[],[]⟩).Hi i
theorem implNest(nest:List zL)(h:BN nest):jP nest=some (nestB nest):=by
 unfold jP nestB;have aU:=h.1;have hl:=zAL (n:=nest.length) (f:=sL nest) (P:=λi=>sideB (nest.getD i ⟨[],[]⟩).Lo i&&sideB (nest.getD i ⟨[],[]⟩).Hi i) (λi hi=>by
  rw[sL];have h1:((i:Int)<(nest.length:Int)):=by omega
  have ha:=h.2 _ (gM hi);have hg:nest.getD i ⟨[],[]⟩=nest[i]:=by simp[hi]
  simp only[h1,dT,if_true,xJ hi,oB,oS,implSide _ ha.1,implSide _ ha.2,hg];rw[rC (by omega)];cases sideB nest[i].Lo i with
  | false=>rfl
  | true=>cases sideB nest[i].Hi i <;> rfl) (by
  rw[sL];simp)
 rw[hl];have e2:decide ((nest.length:Int)<=4)=decide (nest.length<=4):=by simp;omega
 cases hb:(List.range nest.length).all λi=>sideB (nest.getD i ⟨[],[]⟩).Lo i&&sideB (nest.getD i ⟨[],[]⟩).Hi i with
 | false=>simp
 | true=>simp[e2]
theorem specNest(nest:List zL)(h:BN nest):jM nest=some (nestB nest):=by
 unfold jM nestB;have aU:=h.1;have e2:decide ((nest.length:Int)<=4)=decide (nest.length<=4):=by simp;omega
 by_cases h4:nest.length<=4
 ·have hl:=zAL (n:=nest.length) (f:=tD nest) (P:=λi=>sideB (nest.getD i ⟨[],[]⟩).Lo i&&sideB (nest.getD i ⟨[],[]⟩).Hi i) (λi hi=>by
   rw[tD];have h1:((i:Int)<(nest.length:Int)):=by omega
   have ha:=h.2 _ (gM hi);have hg:nest.getD i ⟨[],[]⟩=nest[i]:=by simp[hi]
   simp only[h1,e2,h4,dT,if_true,xJ hi,oP,oB,oS,specSide _ ha.1,specSide _ ha.2,hg];rw[rC (by omega)];cases sideB nest[i].Lo i with
   | false=>rfl
   | true=>cases sideB nest[i].Hi i <;> rfl) (by
   rw[tD];simp)
  rw[hl,e2];cases hb:(List.range nest.length).all λi=>sideB (nest.getD i ⟨[],[]⟩).Lo i&&sideB (nest.getD i ⟨[],[]⟩).Hi i with
  | false=>simp
  | true=>simp
 ·rw[tD];by_cases h0:(0:Int)<(nest.length:Int) <;> simp[h0,e2,h4]
def J64(x:Int):Prop:=-9223372036854775808<=x/\x<=9223372036854775807
theorem zLN(x:Int):J64 (W x):=by
 show -9223372036854775808<=IntKind.i64.wrap x/\IntKind.i64.wrap x<=9223372036854775807;rw[IntKind.wrap_i64];omega
def evC:List Int->List Int->Int->Int
 | c::C,x::p,n=>evC C p (W (n+W (c*x)))
 | _,_,n=>n
def evA(a:zC)(p:List Int):Int:=evC a.Coefs p a.Const
theorem zJI(C:List Int)(n:Int):evC C [] n=n:=by cases C <;> rfl
theorem zKH(p:List Int)(n:Int):evC [] p n=n:=by cases p <;> rfl
theorem zFJ:∀(C p:List Int) (n:Int),J64 n->J64 (evC C p n)
 | [],p,n,h=>by rw[zKH];exact h
 | c::C,[],n,h=>h
 | c::C,x::p,n,h=>zFJ C p _ (zLN _)
theorem zIR(a:zC)(p:List Int)(h:p.length<=a.Coefs.length)(hp:p.length<=1048576):∀j i n,i+j=p.length->tJ a p n (i:Int)=some (evC (a.Coefs.drop i) (p.drop i) n):=by
 intro j
 induction j with
 | zero=>
  intro i n hi;rw[tJ];have:¬((i:Int)<(p.length:Int)):=by omega
  simp only[this,dF,bF,if_false];rw[show p.drop i=[] from dN.2 (by omega),zJI];rfl
 | succ j ih=>
  intro i n hi;rw[tJ];have aH:i<p.length:=by omega
  have hlt2:i<a.Coefs.length:=by omega
  have h1:((i:Int)<(p.length:Int)):=by omega
  simp only[h1,dT,if_true,xJ aH,xJ hlt2,oB,oS];rw[rC (by omega),ih (i+1) _ (by omega),gC aH,gC hlt2,evC]
theorem implEval(a:zC)(p:List Int)(h:p.length<=a.Coefs.length)(hp:p.length<=1048576):uU a p=some (evA a p):=by
 unfold uU evA;have:=zIR a p h hp _ 0 a.Const (cu _);rw[nZ,co,co] at this;rw[this];rfl
theorem zIS(a:zC)(p:List Int)(h:p.length<=a.Coefs.length)(hp:p.length<=1048576):∀j i n,i+j=p.length->pV a p n (i:Int)=some (evC (a.Coefs.drop i) (p.drop i) n):=by
 intro j
 induction j with
 | zero=>
  intro i n hi;rw[pV];have:¬((i:Int)<(p.length:Int)):=by omega
  simp only[this,dF,bF,if_false,oP,oB,oS];rw[show p.drop i=[] from dN.2 (by omega),zJI];rfl
 | succ j ih=>
  intro i n hi;rw[pV];have aH:i<p.length:=by omega
  have hlt2:i<a.Coefs.length:=by omega
  have h1:((i:Int)<(p.length:Int)):=by omega
  have h2:((i:Int)<(a.Coefs.length:Int)):=by omega
  simp only[h1,h2,dT,if_true,xJ aH,xJ hlt2,oP,oB,oS];rw[rC (by omega),ih (i+1) _ (by omega),gC aH,gC hlt2,evC]
theorem specEval(a:zC)(p:List Int)(h:p.length<=a.Coefs.length)(hp:p.length<=1048576):oL a p=some (evA a p):=by
 unfold oL evA;have:=zIS a p h hp _ 0 a.Const (cu _);rw[nZ,co,co] at this;rw[this];rfl
def mxF(p:List Int):List zC->Int->Int
 | [],n=>n
 | a::l,n=>mxF p l (if evA a p>n then evA a p else n)
def mnF(p:List Int):List zC->Int->Int
 | [],n=>n
 | a::l,n=>mnF p l (if evA a p<n then evA a p else n)
def loF(l:zL)(p:List Int):Int:=match l.Lo with|[]=>0|a::r=>mxF p r (evA a p)
def hiF(l:zL)(p:List Int):Int:=match l.Hi with|[]=>0|a::r=>mnF p r (evA a p)
def OV(l:List zC):Prop:=l ≠ []/\l.length<=1048576/\∀a∈l,a.Coefs.length=4/\J64 a.Const
theorem zJJ(p:List Int):∀(l:List zC) (n:Int),J64 n->(∀a∈l,J64 a.Const)->J64 (mxF p l n)
 | [],n,h,_=>h
 | a::l,n,h,hl=>by
  refine zJJ p l _ ?_ (λx hx=>hl x (cd _ hx))
  split
  ·exact zFJ _ _ _ (hl a (ci ..))
  ·exact h
theorem zJK(p:List Int):∀(l:List zC) (n:Int),J64 n->(∀a∈l,J64 a.Const)->J64 (mnF p l n)
 | [],n,h,_=>h
 | a::l,n,h,hl=>by
  refine zJK p l _ ?_ (λx hx=>hl x (cd _ hx))
  split
  ·exact zFJ _ _ _ (hl a (ci ..))
  ·exact h
theorem zHk{l:zL}(p:List Int)(h:OV l.Lo):J64 (loF l p):=by
 unfold loF;obtain⟨h1,_,h2⟩:=h;cases hl:l.Lo with
 | nil=>exact absurd hl h1
 | cons a r=>
  rw[hl] at h2;exact zJJ _ _ _ (zFJ _ _ _ (h2 a (ci ..)).2) λx hx=>(h2 x (cd _ hx)).2
theorem zHl{l:zL}(p:List Int)(h:OV l.Hi):J64 (hiF l p):=by
 unfold hiF;obtain⟨h1,_,h2⟩:=h;cases hl:l.Hi with
 | nil=>exact absurd hl h1
 | cons a r=>
  rw[hl] at h2;exact zJK _ _ _ (zFJ _ _ _ (h2 a (ci ..)).2) λx hx=>(h2 x (cd _ hx)).2
theorem zIT(l:zL)(p:List Int)(hp:p.length<=4)(h:OV l.Lo):∀j i n,i+j=l.Lo.length->sM l p n (i:Int)=some (mxF p (l.Lo.drop i) n):=by
 obtain⟨_,hl,h2⟩:=h;intro j
 induction j with
 | zero=>
  intro i n hi;rw[sM];have:¬((i:Int)<(l.Lo.length:Int)):=by omega
  simp only[this,dF,bF,if_false];rw[dN.2 (by omega)];rfl
 | succ j ih=>
  intro i n hi;rw[sM];have aH:i<l.Lo.length:=by omega
  have h1:((i:Int)<(l.Lo.length:Int)):=by omega
  have ha:=(h2 _ (gM aH)).1;simp only[h1,dT,if_true,xJ aH,oB,oS,implEval _ _ (show p.length<=l.Lo[i].Coefs.length by omega) (by omega)];rw[rC (by omega),ih (i+1) _ (by omega),gC aH,mxF]
theorem zIU(l:zL)(p:List Int)(hp:p.length<=4)(h:OV l.Hi):∀j i n,i+j=l.Hi.length->sN l p n (i:Int)=some (mnF p (l.Hi.drop i) n):=by
 obtain⟨_,hl,h2⟩:=h;intro j
 induction j with
 | zero=>
  intro i n hi;rw[sN];have:¬((i:Int)<(l.Hi.length:Int)):=by omega
  simp only[this,dF,bF,if_false];rw[dN.2 (by omega)];rfl
 | succ j ih=>
  intro i n hi;rw[sN];have aH:i<l.Hi.length:=by omega
  have h1:((i:Int)<(l.Hi.length:Int)):=by omega
  have ha:=(h2 _ (gM aH)).1;simp only[h1,dT,if_true,xJ aH,oB,oS,implEval _ _ (show p.length<=l.Hi[i].Coefs.length by omega) (by omega)];rw[rC (by omega),ih (i+1) _ (by omega),gC aH,mnF]
theorem zIV(l:zL)(p:List Int)(hp:p.length<=4)(h:OV l.Lo):∀j i n,i+j=l.Lo.length->qN l p n (i:Int)=some (mxF p (l.Lo.drop i) n):=by
 obtain⟨_,hl,h2⟩:=h;intro j
 induction j with
 | zero=>
  intro i n hi;rw[qN];have:¬((i:Int)<(l.Lo.length:Int)):=by omega
  simp only[this,dF,bF,if_false];rw[dN.2 (by omega)];rfl
 | succ j ih=>
  intro i n hi;rw[qN];have aH:i<l.Lo.length:=by omega
  have h1:((i:Int)<(l.Lo.length:Int)):=by omega
  have ha:=(h2 _ (gM aH)).1;simp only[h1,dT,if_true,xJ aH,oB,oS,specEval _ _ (show p.length<=l.Lo[i].Coefs.length by omega) (by omega)];rw[rC (by omega),gC aH,mxF];by_cases hc:evA l.Lo[i] p>n
  ·simp only[hc,dT,if_true,oP,oS,id];exact ih (i+1) _ (by omega)
  ·simp only[hc,dF,bF,if_false,oP,oS,id];exact ih (i+1) _ (by omega)
theorem zIW(l:zL)(p:List Int)(hp:p.length<=4)(h:OV l.Hi):∀j i n,i+j=l.Hi.length->qO l p n (i:Int)=some (mnF p (l.Hi.drop i) n):=by
 obtain⟨_,hl,h2⟩:=h;intro j
 induction j with
 | zero=>
  intro i n hi;rw[qO];have:¬((i:Int)<(l.Hi.length:Int)):=by omega
  simp only[this,dF,bF,if_false];rw[dN.2 (by omega)];rfl
 | succ j ih=>
  intro i n hi;rw[qO];have aH:i<l.Hi.length:=by omega
  have h1:((i:Int)<(l.Hi.length:Int)):=by omega
  have ha:=(h2 _ (gM aH)).1;simp only[h1,dT,if_true,xJ aH,oB,oS,specEval _ _ (show p.length<=l.Hi[i].Coefs.length by omega) (by omega)];rw[rC (by omega),gC aH,mnF];by_cases hc:evA l.Hi[i] p<n
  ·simp only[hc,dT,if_true,oP,oS,id];exact ih (i+1) _ (by omega)
  ·simp only[hc,dF,bF,if_false,oP,oS,id];exact ih (i+1) _ (by omega)
theorem implSpan(l:zL)(p:List Int)(hp:p.length<=4)(hlo:OV l.Lo)(hhi:OV l.Hi):jQ l p=some (loF l p,hiF l p):=by
 unfold jQ loF hiF;have h1:=zIT l p hp hlo;have h2:=zIU l p hp hhi;obtain⟨n1,_,q1⟩:=hlo;obtain⟨n2,_,q2⟩:=hhi;cases hl:l.Lo with
 | nil=>exact absurd hl n1
 | cons a r=>
  cases hh:l.Hi with
  | nil=>exact absurd hh n2
  | cons b s=>
   rw[hl] at q1;rw[hh] at q2;have ha:=(q1 a (ci ..)).1;have hb:=(q2 b (ci ..)).1;have i1:idx (a::r) 0=some a:=rfl;have i2:idx (b::s) 0=some b:=rfl;have k1:=h1 _ 0 (evA a p) (cu _);have k2:=h2 _ 0 (evA b p) (cu _);rw[nZ,co,hl,mxF] at k1;rw[nZ,co,hh,mnF] at k2;simp only[i1,i2,oB,oS,implEval _ _ (show p.length<=a.Coefs.length by omega) (by omega),implEval _ _ (show p.length<=b.Coefs.length by omega) (by omega),k1,k2,oP];simp
theorem specSpan(l:zL)(p:List Int)(hp:p.length<=4)(hlo:OV l.Lo)(hhi:OV l.Hi):jN l p=some (loF l p,hiF l p):=by
 unfold jN loF hiF;have h1:=zIV l p hp hlo;have h2:=zIW l p hp hhi;obtain⟨n1,_,q1⟩:=hlo;obtain⟨n2,_,q2⟩:=hhi;cases hl:l.Lo with
 | nil=>exact absurd hl n1
 | cons a r=>
  cases hh:l.Hi with
  | nil=>exact absurd hh n2
  | cons b s=>
   rw[hl] at q1;rw[hh] at q2;have ha:=(q1 a (ci ..)).1;have hb:=(q2 b (ci ..)).1;have i1:idx (a::r) 0=some a:=rfl;have i2:idx (b::s) 0=some b:=rfl;have k1:=h1 r.length 1 (evA a p) (by rw[hl,cx];omega);have k2:=h2 s.length 1 (evA b p) (by rw[hh,cx];omega);rw[hl,List.drop_one,List.tail_cons] at k1;rw[hh,List.drop_one,List.tail_cons] at k2;simp only[i1,i2,oB,oS,specEval _ _ (show p.length<=a.Coefs.length by omega) (by omega),specEval _ _ (show p.length<=b.Coefs.length by omega) (by omega),oP]
   erw [k1]
   simp only[oS]
   erw [k2]
   rfl
end Go.LN
