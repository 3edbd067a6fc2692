/- Helper of the proof (see the last text). -/
import Derived.Test.YtoifmcbchallnaaGreatLnA
import Derived.Test.YtoifmcbchallnaaGreatLnI
import Derived.Test.YtoifmcbchallnaaGreatLnO
import Derived.Test.YtoifmcbchallnaaGreatTryzShelf
import Derived.Test.YtoifmcbchallnaaGreatHM1
import Derived.Test.YtoifmcbchallnaaGreatHM2
import Derived.Test.YtoifmcbchallnaaGreatHM3
import Derived.Test.YtoifmcbchallnaaGreatHM4
import Derived.Test.YtoifmcbchallnaaGreatHM5
import Derived.Test.YtoifmcbchallnaaGreatHM6
import Derived.Test.YtoifmcbchallnaaGreatHM7
import Derived.Test.YtoifmcbchallnaaGreatHM8
import Derived.Test.YtoifmcbchallnaaGreatQT
import Derived.Test.YtoifmcbchallnaaGreatQZ
import Derived.Test.YtoifmcbchallnaaGreatVB1
import Derived.Test.YtoifmcbchallnaaGreatVB8
import Derived.Test.YtoifmcbchallnaaGreatLnR
set_option linter.unusedVariables false
set_option linter.unusedSimpArgs false
namespace Go.LN
section
variable {P:Program}{n:Nat}{B:Base}{Q:Exit→Act→World→Prop}{imm:Imm}{hs:List HA}{m:FM}{ops:List Oper}
theorem Oy {φ:List Fact}{hsC:List HA}{i:Nat}{f:Fact}{r:List It}{l:List (Nat×Bool)}{ins:List (List (Nat×Bool))}
    (ho:∀ imm1 hf,imm.le imm1→Bor ops φ imm1 l hf→Ins ops φ imm1 l m (hsC ++ hf) fun m' hs'=>R P n B (ops.take (i + 1)) (OutQ n B (φ.getD i nofact) (dstAt ops i) imm1 (hsC ++ hf)) i imm1 hs' m')
    (h:ObX P n B ops φ imm hsC m (i + 1) r ins) (hm:∀ v hx,MonoI (fun i=>f i v hx):=by
      intro v hx
      repeat' (first | exact zFh | exact zHl | exact zHi | exact zHj | exact zHk | exact zHF | refine @zHh _ _ (fun _=>?_) | refine @zHE _ _ ?_ ?_)):ObX P n B ops φ imm hsC m i (.x f::r) (l::ins):=⟨hm,ho,h⟩
end
end Go.LN
namespace Go.LN
open Go.Proofs
set_option maxRecDepth 20000
def M.laws_lnInts_l1 (a0:(List Int)) (b:(List Int)) (i:Int):Option (Out Unit (Bool)):=do
 if (decide (i < (a0.length:Int))) then
  let x←idx a0 i
  let x1←idx b i
  if (x != x1) then
   pure (.ret false)
  else
   M.laws_lnInts_l1 a0 b (W (i + 1))
 else
  pure (.done ())
 partial_fixpoint
theorem laws_lnInts_l1_ok (a0:(List Int)) (b:(List Int)):∀ (i:Int) (o:Out Unit (Bool)),M.laws_lnInts_l1 a0 b i=some o→∀ {B}{I0 I:Imm}{Q p c p1 c1},I0.le I→(S4 I p a0 c)→(S4 I p1 b c1)→NG Q→NO Q→(∀ (I':Imm) ,o=(.done ())→I0.le I'→T 26 B Q (.exit 0) I' [] [])→(∀ r I' hs' m',o=(.ret r)→I0.le I'→RS Tryz.prog Tryz.f13 B (zZ  r) I' hs' m'→T 26 B Q .ret I' hs' m')→J Tryz.prog 26 B (nav (bodyOf Tryz.f13) [1,1,0,1,0]) Q I [] [(0,vS p a0 c),(1,vS p1 b c1),(5,vI i)]:=by
 refine M.laws_lnInts_l1.partial_correctness a0 b _ ?_;intro self ih i o N B I0 I Q p c p1 c1 H h h1 hg ho hx hr;refine xE hg ho<|yJ<|yG [(14,.bool (decide (i < (a0.length:Int))))]<|zD<|yO N ?_ ?_
 · intro hc1 N;refine zY<|yI<|zV<|yJ<|jD (by kernel_rfl) (by kernel_rfl)<|gY 2 [] [(17,vS p a0 c),(18,vI i)] ?_;obtain ⟨x,hy,N⟩:=zB N;refine zB5 rfl rfl h hy ?_;intro ad ccs hat hrep;obtain rfl:=hrep;refine zAG 0 hat [vI x] (vI x) rfl<|gY 6 [] [(21,vS p1 b c1),(22,vI i)] ?_;obtain ⟨x1,hy1,N⟩:=zB N;refine zB5 rfl rfl h1 hy1 ?_;intro ad1 ccs1 hat1 hrep1;obtain rfl:=hrep1;refine zAG 0 hat1 [vI x1] (vI x1) rfl<|zCT [] [(25,.bool (x != x1))]<|zD<|yO N ?_ ?_
   · intro hc2 N;exact yG [(4,vF)]<|zD<|yC<|yA<|zN<|zN<|hr _ _ _ _ (zC N).symm H ⟨_,_,(.tmp rfl ResV.nil),yE,⟨_,rfl,rfl,rfl⟩⟩
   intro hc2 N;exact zY<|zU<|zD<|zR<|yF [] [(5,vI (W (i + 1)))]<|xF<|vE [(0,vS p a0 c),(1,vS p1 b c1),(5,vI (W (i + 1)))]<|ih (W (i + 1)) _ N H h h1 hg ho hx hr
 intro hc1 N;exact xA<|zO<|zO<|yU []<|hx _  (zC N).symm H
def M.laws_lnInts (a0:(List Int)) (b:(List Int)):Option (Bool):=do
 if ((a0.length:Int) != (b.length:Int)) then
  pure false
 else
  match←M.laws_lnInts_l1 a0 b 0 with
  | .ret r0=>pure r0
  | .done _ =>
   pure true
theorem laws_lnInts_ok:∀ (a0:(List Int)) (b:(List Int)) r,M.laws_lnInts a0 b=some r→∀ {I:Imm}{p c p1 c1},(S4 I p a0 c)→(S4 I p1 b c1)→Ret Tryz.prog 13 [vS p a0 c,vS p1 b c1] I [] (zZ  r):=by
 intro a0 b r N I p c p1 c1 h h1;unfold M.laws_lnInts at N;refine yB (fn:=Tryz.f13) (c:=(bodyOf Tryz.f13)) Tryz.func13 rfl rfl ?_;rintro B - -;refine yG []<|yI<|yG [(10,.bool ((a0.length:Int) != (b.length:Int)))]<|zD<|yO N ?_ ?_
 · intro hc N;refine yG [(4,vF)]<|zD<|yC<|zN ?_;obtain rfl:=zC N;exact uM
 intro hc N;refine zY<|yI<|yG [(5,vI 0)]<|zD<|zV<|vE [(0,vS p a0 c),(1,vS p1 b c1),(5,vI 0)] ?_;obtain ⟨o0,ho0,hMl⟩:=zB N;refine laws_lnInts_l1_ok a0 b 0 o0 ho0 iR h h1 (fun _ _ _ h=>h) (fun _ _ h=>h) ?_ ?_
 · intro I0  heq le;subst o0;refine zW<|wX [(4,vY)]<|zD<|yC ?_;obtain rfl:=zC hMl;exact uM
 intro r0 I9 hs9 m9 heq9 le9 hrs9;subst heq9;refine yA<|zN ?_;obtain rfl:=zC hMl;exact xM hrs9
end Go.LN
namespace Go.LN
open Go.Proofs
set_option maxRecDepth 20000
theorem spec_Dependences_ok:∀ (p:zK) r,gX p=some r→∀ {I:Imm}{p1 c p2 c1},(S4 I p1 p.Arrays c)→(S4 I p2 p.Parts c1)→Ret Tryz.prog 46 [vA (cProg p p1 c p2 c1)] I [] (mK  r):=by
 intro p r N I p1 c p2 c1 h h1;unfold gX at N;refine yB (fn:=Tryz.f46) (c:=(bodyOf Tryz.f46)) Tryz.func46 rfl rfl ?_;rintro B - -;refine yP<|tM (cProg p p1 c p2 c1) ?_;intro b hb;refine yF [] []<|yI<|yP<|yH 1 [0] [(3,vA (cProg p p1 c p2 c1))] ?_;obtain ⟨y,hy,N⟩:=zB N;refine yQ (zAO p _ hy h h1) ?_;rintro I0 hs2 v2 k2 le - ⟨v0,rfl,rfl,rfl⟩ -;have h:=h.mono le;have h1:=h1.mono le;refine yF [] [(5,.bool (!y))]<|zD<|yO N ?_ ?_
 · intro hc N;refine yP<|xW [] yL ?_;intro b1 hb1;have h3:RL I0 [] ([]:List yL):=rfl;refine yF [] [(2,vS (some ⟨b1,0,none⟩) ([]:List yL) 0)]<|zD<|yC<|zN<|xL 0 rfl ?_;intro I01 le1 hl0;have h4:=SL.of_frozen hl0 le1 h3;obtain rfl:=zC N;exact xM ⟨_,_,(.tmp rfl ResV.nil),yE,⟨_,rfl,rfl,h4⟩⟩
 intro hc N;refine zY<|xQ<|yH 1 [0] [(7,vA (cProg p p1 c p2 c1))] ?_;obtain ⟨y1,hy1,N⟩:=zB N;refine yQ (zHu p _ hy1 h h1) ?_;rintro I02 hs2 v2 k2 le2 - ⟨v01,rfl,rfl,h5⟩ -;obtain ⟨p3,c2,rfl⟩:=h5.form;refine yF [] [(2,vS p3 y1 c2)]<|zD<|yC ?_;obtain rfl:=zC N;exact xM ⟨_,_,(.tmp rfl ResV.nil),yE,⟨_,rfl,rfl,h5⟩⟩
def M.spec_DrawConnectedParts (code:(List UInt8)):Option (zK):=do
 let y←pA code
 pure (id y)
theorem spec_DrawConnectedParts_ok:∀ (code:(List UInt8)) r,M.spec_DrawConnectedParts code=some r→∀ {I:Imm}{p c},(S4 I p code c)→Ret Tryz.prog 24 [vS p code c] I [] (gT  r):=by
 intro code r N I p c h;unfold M.spec_DrawConnectedParts at N;refine yB (fn:=Tryz.f24) (c:=(bodyOf Tryz.f24)) Tryz.func24 rfl rfl ?_;rintro B - -;refine yP<|uO zTwo ?_;intro b hb;refine yN rfl<|xQ<|yH 1 [] [(3,vS p code c)] ?_;obtain ⟨y,hy,N⟩:=zB N;refine yQ (zEU code _ hy h) ?_;rintro I0 hs2 v2 k2 le - ⟨v0,rfl,rfl,⟨cs,rfl,h1⟩⟩ -;obtain ⟨v01,v02,rfl,h2,h3⟩:=fH h1;obtain ⟨p1,c1,rfl⟩:=h2.form;obtain ⟨p2,c2,rfl⟩:=h3.form;refine xP 0 (cProg y p1 c1 p2 c2) [hB b (cProg y p1 c1 p2 c2)] rfl rfl rfl rfl<|yN rfl<|zD<|yC ?_;obtain rfl:=zC N;exact xM ⟨_,_,(.cell 0 rfl rfl (by kernel_rfl) ResV.nil),yE,⟨_,rfl,rfl,⟨_,rfl,(oM ⟨_,_,rfl,h2,h3⟩)⟩⟩⟩
def M.impl_ConnectedParts_l1 (y:(List zQ)) (out:List Int) (t13:Int):Option (List Int):=do
 if (decide (t13 < (y.length:Int))) then
  let out2←app 8 out ([t13]:List Int)
  M.impl_ConnectedParts_l1 y out2 (W (t13 + 1))
 else
  pure (id out)
 partial_fixpoint
theorem impl_ConnectedParts_l1_ok (y:(List zQ)):∀ (out:List Int) (t13:Int) (o:List Int),M.impl_ConnectedParts_l1 y out t13=some o→∀ {B}{I0 I:Imm}{Q}{p:zK}{p1 c p2 c1}{b:Nat}{p4 c3 cs},I0.le I→(S4 I p1 p.Arrays c)→(S4 I p2 p.Parts c1)→(RL I cs out)→NG Q→NO Q→(∀ (I':Imm) (out1:List Int) (p5:Option Addr) (c4:Nat) (cs1:List Value),o=out1→I0.le I'→(RL I' cs1 out1)→T 69 B Q (.exit 0) I' [hO Int (vS p5 out1 c4) cs1,hB b (cProg p p1 c p2 c1)] [(1,vP b 0),(3,vS p5 out1 c4)])→J Tryz.prog 69 B (nav (bodyOf Tryz.f25) [1,1,0,1,0]) Q I [hO Int (vS p4 out c3) cs,hB b (cProg p p1 c p2 c1)] [(1,vP b 0),(3,vS p4 out c3),(12,vI (y.length:Int)),(13,vI t13)]:=by
 refine M.impl_ConnectedParts_l1.partial_correctness y _ ?_;intro self ih out t13 o N B I0 I Q p p1 c p2 c1 b p4 c3 cs H h h1 h4 hg ho hx;refine xE hg ho<|yG [(14,.bool (decide (t13 < (y.length:Int))))]<|yI<|yO N ?_ ?_
 · intro hc N;refine zY<|yI<|zV<|yG [(4,vI t13)]<|zD<|zR<|yH 2 [] [(16,vS p4 out c3),(17,vI t13)]<|xW [vI t13] Int ?_;intro b1 hb1;have h6:RL I [vI t13] ([t13]:List Int):=⟨[vI t13],_,rfl,rfl,rfl,rfl⟩;obtain ⟨out2,hy1,N⟩:=zB N;refine qU 3 1 1 rfl rfl rfl h4 (.inr ⟨0,rfl⟩) h6 hy1 ?_;intro p6 c5 cs2 h7;exact rV (zH [1,2] (hs':=[hO Int (vS p6 out2 c5) cs2,hB b (cProg p p1 c p2 c1)]) rfl (by decide))<|yF [] [(3,vS p6 out2 c5)]<|zU<|zD<|zR<|yF [] [(13,vI (W (t13 + 1)))]<|xF<|vE [(1,vP b 0),(3,vS p6 out2 c5),(12,vI (y.length:Int)),(13,vI (W (t13 + 1)))]<|ih out2 (W (t13 + 1)) _ N H h h1 h7 hg ho hx
 intro hc N;exact xA<|zO<|zO<|yU [(1,vP b 0),(3,vS p4 out c3)]<|hx _ _ _ _ _ (zC N).symm H h4
def M.impl_ConnectedParts_l3 (y1:(List yL)) (out5:List Int) (changed1:Bool) (t26:Int):Option ((List Int×Bool)):=do
 if (decide (t26 < (y1.length:Int))) then
  let x←idx y1 t26
  let x1←idx out5 x.From
  let x2←idx out5 x.To
  let t56←(do
    let x3←idx out5 x.From
    if (x3 != (if x2 < x1 then x2 else x1)) then
     pure true
    else
     let x4←idx out5 x.To
     pure (x4 != (if x2 < x1 then x2 else x1))
      : Option Bool)
  let (out7,changed3)←(do
    if t56 then
     let x5←idx out5 x.From
     let l←pure (out5.set x.From.toNat (if x2 < x1 then x2 else x1))
     let x6←idx l x.To
     let l1←pure (l.set x.To.toNat (if x2 < x1 then x2 else x1))
     pure (l1,true)
    else
     pure (out5,changed1)
      : Option (List Int×Bool))
  M.impl_ConnectedParts_l3 y1 out7 changed3 (W (t26 + 1))
 else
  pure (out5,changed1)
 partial_fixpoint
theorem impl_ConnectedParts_l3_ok (y1:(List yL)):∀ (out5:List Int) (changed1:Bool) (t26:Int) (o:(List Int×Bool)),M.impl_ConnectedParts_l3 y1 out5 changed1 t26=some o→∀ {B}{I0 I:Imm}{Q p7 c6 p10 c9 cs5},I0.le I→(S4 I p7 y1 c6)→(RL I cs5 out5)→NG Q→NO Q→(∀ (I':Imm) (out6:List Int) (changed2:Bool) (p11:Option Addr) (c10:Nat) (cs6:List Value),o=(out6,changed2)→I0.le I'→(RL I' cs6 out6)→T 69 B Q (.exit 4) I' [hO Int (vS p11 out6 c10) cs6] [(3,vS p11 out6 c10),(5,vS p7 y1 c6),(6,.bool changed2)])→J Tryz.prog 69 B (nav (bodyOf Tryz.f25) [1,1,1,1,0,1,0,0,1,0,1,1,0]) Q I [hO Int (vS p10 out5 c9) cs5] [(3,vS p10 out5 c9),(5,vS p7 y1 c6),(6,.bool changed1),(24,vS p7 y1 c6),(25,vI (y1.length:Int)),(26,vI t26)]:=by
 refine M.impl_ConnectedParts_l3.partial_correctness y1 _ ?_;intro self ih out5 changed1 t26 o N B I0 I Q p7 c6 p10 c9 cs5 H h8 h11 hg ho hx;refine xE hg ho<|yG [(27,.bool (decide (t26 < (y1.length:Int))))]<|yI<|yO N ?_ ?_
 · intro hc2 N;refine zY<|yI<|zV<|yJ<|zR ?_;obtain ⟨x,hy3,N⟩:=zB N;refine xX rfl rfl h8 hy3 ?_;intro ad ccs hat hrep;obtain rfl:=zIS hrep;refine xT 0 hat [vI x.From,vI x.To,vI x.Kinds] (vA [vI x.From,vI x.To,vI x.Kinds]) rfl<|uO [vI 0,vI 0,vI 0] ?_;intro b2 hb2;refine xP 0 [vI x.From,vI x.To,vI x.Kinds] [hB b2 [vI x.From,vI x.To,vI x.Kinds],hO Int (vS p10 out5 c9) cs5] rfl rfl rfl rfl<|yN rfl<|yI<|jD (by kernel_rfl) (by kernel_rfl)<|gY 3 [0] [(30,vS p10 out5 c9),(32,vI x.From)] ?_;obtain ⟨x1,hy4,N⟩:=zB N;refine zJu 1 rfl rfl rfl h11 hy4 ?_;intro ad1 ccs1 hat1 hcc hrep1;obtain rfl:=hrep1;refine zJv 1 0 hat1 hcc [vI x1] (vI x1) rfl rfl<|gY 8 [0] [(35,vS p10 out5 c9),(37,vI x.To)] ?_;obtain ⟨x2,hy5,N⟩:=zB N;refine zJu 1 rfl rfl rfl h11 hy5 ?_;intro ad2 ccs2 hat2 hcc1 hrep2;obtain rfl:=hrep2;refine zJv 1 0 hat2 hcc1 [vI x2] (vI x2) rfl rfl<|zCT [] [(9,vI (if x2 < x1 then x2 else x1))]<|zD<|yJ ?_;obtain ⟨o01,ho01,hMc⟩:=zB N;refine yV (fun I' hs' m'=>∃ (t56:Bool),o01=t56∧I.le I'∧hs'=[hB b2 [vI x.From,vI x.To,vI x.Kinds],hO Int (vS p10 out5 c9) cs5]∧m'=[(3,vS p10 out5 c9),(5,vS p7 y1 c6),(6,.bool changed1),(8,vP b2 0),(9,vI (if x2 < x1 then x2 else x1)),(24,vS p7 y1 c6),(25,vI (y1.length:Int)),(26,vI t26),(56,.bool t56)]) ?_ ?_
   · have H:=iS I;refine zR<|yH 3 [0] [(41,vS p10 out5 c9),(43,vI x.From)] ?_;obtain ⟨x3,hy6,N⟩:=zB ho01;refine mP 1 rfl rfl rfl h11 hy6 ?_;intro ad3 ccs3 hat3 hcc2 hrep3;obtain rfl:=hrep3;refine zCv 1 0 hat3 hcc2 [vI x3] (vI x3) rfl rfl<|yH 8 [] [(48,.bool (x3 != (if x2 < x1 then x2 else x1)))] ?_;cases hc3:(x3 != (if x2 < x1 then x2 else x1)) with
     | true =>
      have hM0:=zT hc3 N
      try rw [hc3]
      exact yF [] [(56,vY)]<|yU [(3,vS p10 out5 c9),(5,vS p7 y1 c6),(6,.bool changed1),(8,vP b2 0),(9,vI (if x2 < x1 then x2 else x1)),(24,vS p7 y1 c6),(25,vI (y1.length:Int)),(26,vI t26),(56,vY)]<|zX ⟨_,(zC hM0).symm,H,rfl,rfl⟩
     | false =>
      have hM01:=zS hc3 N
      try rw [hc3]
      refine yH 11 [0] [(49,vS p10 out5 c9),(51,vI x.To)] ?_;obtain ⟨x4,hy7,N⟩:=zB hM01;refine mP 1 rfl rfl rfl h11 hy7 ?_;intro ad4 ccs4 hat4 hcc3 hrep4;obtain rfl:=hrep4;exact zCv 1 0 hat4 hcc3 [vI x4] (vI x4) rfl rfl<|yF [] [(56,.bool (x4 != (if x2 < x1 then x2 else x1)))]<|yU [(3,vS p10 out5 c9),(5,vS p7 y1 c6),(6,.bool changed1),(8,vP b2 0),(9,vI (if x2 < x1 then x2 else x1)),(24,vS p7 y1 c6),(25,vI (y1.length:Int)),(26,vI t26),(56,.bool (x4 != (if x2 < x1 then x2 else x1)))]<|zX ⟨_,(zC N).symm,H,rfl,rfl⟩
   rintro I03 hs2 m2 ⟨t56,heq1,le3,rfl,rfl⟩;subst o01;have h11:=iM le3 h11;have h8:=h8.mono le3;have H:=H.trans le3;refine zD ?_;obtain ⟨o02,ho02,hMc1⟩:=zB hMc;refine yV (fun I' hs' m'=>∃ (out7:List Int) (changed3:Bool) (p12:Option Addr) (c11:Nat) (cs7:List Value),o02=(out7,changed3)∧I03.le I'∧(RL I' cs7 out7)∧hs'=[hO Int (vS p12 out7 c11) cs7]∧m'=[(3,vS p12 out7 c11),(5,vS p7 y1 c6),(6,.bool changed3),(24,vS p7 y1 c6),(25,vI (y1.length:Int)),(26,vI t26)]) ?_ ?_
   · have H:=iS I03;refine yO ho02 ?_ ?_
     · intro hc4 N;obtain ⟨x5,hy8,N⟩:=zB N;obtain ⟨l,hy9,N⟩:=zB N;refine vR [.p (vS p10 out5 c9) [],.p (vP b2 0) [],.p (vI x.From) [0],.p (vS p10 out5 c9) [],.p (vP b2 1) [],.p (vI x.To) [0],.p (vI (if x2 < x1 then x2 else x1)) [],.p (vI (if x2 < x1 then x2 else x1)) [],.x (fun I' v hx=>∃ ad5,v=.pointer (some ad5)∧hx=[]∧(AtO (vS p10 out5 c9) (Rp.sz Int) x.From.toNat ad5)∧((cs5.drop (x.From.toNat * Rp.sz Int)).take (Rp.sz Int)=[vI x5])),.x (fun I' v hx=>∃ cs8,hx=[hO Int (vS p10 l c9) cs8]∧(RL I' cs8 l))] [[],[],[(1,false)],[],[],[(4,false)],[],[],[(0,false),(2,false),(13,false)],[(6,false),(8,false),(13,true)]] [hB b2 [vI x.From,vI x.To,vI x.Kinds]] [[hO Int (vS p10 out5 c9) cs5]] [(3,false),(5,false),(7,false),(9,true)] (zH [0,1] rfl (by decide)) ?_ ?_
       · refine Op<|Op<|Op<|Op<|Op<|Op<|Op<|Op<|Oy ?_<|Ox ?_<|On
         · intro I1 hf le1 hbo;obtain ⟨hf2,hbp⟩:=hbo.at (j:=13) (g:=[hO Int (vS p10 out5 c9) cs5]) (by decide) (by kernel_rfl) rfl;refine zI ?_;rintro _ _ ⟨rfl,rfl⟩;refine zI ?_;rintro _ _ ⟨rfl,rfl⟩;refine zI ?_;rintro _ _ rfl;refine nE<|zJA hbp<|zA6 [(57,vS p10 out5 c9),(59,vI x.From)] ?_;have h11:=iM le1 h11;refine mP 1 rfl rfl rfl h11 hy8 ?_;intro ad5 ccs5 hat5 hcc4 hrep5;obtain rfl:=hrep5;exact yS [] iR ⟨_,rfl,rfl,hat5,hcc4⟩
         intro I1 hf le1;refine zI ?_;rintro _ _ ⟨rfl,rfl⟩;refine zI ?_;rintro _ _ ⟨ad5,rfl,rfl,hat5,hcc4⟩;refine zI ?_;rintro _ _ rfl;refine yT [(63,vI (if x2 < x1 then x2 else x1)),(65,.pointer (some ad5))] ?_;have H:=iS I1;have h11:=iM le1 h11;refine pY (c:=[vI (if x2 < x1 then x2 else x1)]) (x':=(if x2 < x1 then x2 else x1)) 0 0 rfl rfl rfl hat5 rfl rfl hcc4 (by kernel_rfl) (by kernel_rfl) (by kernel_rfl) h11 hy8 (by kernel_rfl) rfl ?_;rw [show out5.set x.From.toNat (if x2 < x1 then x2 else x1)=l from zC hy9];intro cs8 h14 hl0;exact kS (m':=[(63,vI (if x2 < x1 then x2 else x1))]) ⟨rfl,trivial⟩<|zCQ (hs':=(hO Int (vS p10 l c9) cs8::hB b2 [vI x.From,vI x.To,vI x.Kinds]::hf)) (m':=[(63,vI (if x2 < x1 then x2 else x1))]) (by first | rfl | simp only [vS,hl0,List.nil_append,List.cons_append,List.set_cons_zero,List.set_cons_succ,List.eraseIdx_cons_zero,List.eraseIdx_cons_succ]) (by first | rfl | simp only [vS,hl0])<|zD9 (hx:=[hO Int (vS p10 l c9) cs8]) rfl H rfl (zFg (v:=undef)) ⟨_,rfl,h14⟩
       intro I05 le4;refine zI ?_;rintro _ _ ⟨rfl,rfl⟩;refine zI ?_;rintro _ _ ⟨rfl,rfl⟩;refine zI ?_;rintro _ _ ⟨rfl,rfl⟩;refine zI ?_;rintro _ _ ⟨cs8,rfl,h14⟩;refine yT [(3,vS p10 out5 c9),(5,vS p7 y1 c6),(24,vS p7 y1 c6),(25,vI (y1.length:Int)),(26,vI t26),(60,vS p10 out5 c9),(62,vI x.To),(64,vI (if x2 < x1 then x2 else x1))] ?_;have hl01:(l).length=(out5).length:=by rw [← zC hy9]; exact List.length_set ..
       refine zCQ (hs':=[hO Int (vS p10 l c9) cs8,hB b2 [vI x.From,vI x.To,vI x.Kinds]]) (m':=[(3,vS p10 l c9),(5,vS p7 y1 c6),(24,vS p7 y1 c6),(25,vI (y1.length:Int)),(26,vI t26),(60,vS p10 l c9),(62,vI x.To),(64,vI (if x2 < x1 then x2 else x1))]) rfl (by first | rfl | simp only [vS,hl01]) ?_;have H:=H.trans le4;obtain ⟨x6,hy10,N⟩:=zB N;refine mP 0 rfl rfl rfl h14 hy10 ?_;intro ad6 ccs6 hat6 hcc5 hrep6;obtain rfl:=hrep6;obtain ⟨l1,hy11,N⟩:=zB N;refine pY (c:=[vI (if x2 < x1 then x2 else x1)]) (x':=(if x2 < x1 then x2 else x1)) 0 0 rfl rfl rfl hat6 rfl rfl hcc5 (by kernel_rfl) (by kernel_rfl) (by kernel_rfl) h14 hy10 (by kernel_rfl) rfl ?_;rw [show l.set x.To.toNat (if x2 < x1 then x2 else x1)=l1 from zC hy11];intro cs9 h15 hl02;exact kS (m':=[(3,vS p10 l c9),(5,vS p7 y1 c6),(24,vS p7 y1 c6),(25,vI (y1.length:Int)),(26,vI t26),(60,vS p10 l c9),(62,vI x.To),(64,vI (if x2 < x1 then x2 else x1))]) ⟨rfl,rfl,rfl,rfl,rfl,rfl,rfl,rfl,trivial⟩<|zCQ (hs':=[hO Int (vS p10 l1 c9) cs9,hB b2 [vI x.From,vI x.To,vI x.Kinds]]) (m':=[(3,vS p10 l1 c9),(5,vS p7 y1 c6),(24,vS p7 y1 c6),(25,vI (y1.length:Int)),(26,vI t26),(60,vS p10 l1 c9),(62,vI x.To),(64,vI (if x2 < x1 then x2 else x1))]) (by first | rfl | simp only [vS,hl02,List.nil_append,List.cons_append,List.set_cons_zero,List.set_cons_succ,List.eraseIdx_cons_zero,List.eraseIdx_cons_succ]) (by first | rfl | simp only [vS,hl02])<|yF [] [(6,vY)]<|wJ (zH [0] rfl (by decide))<|yU [(3,vS p10 l1 c9),(5,vS p7 y1 c6),(6,vY),(24,vS p7 y1 c6),(25,vI (y1.length:Int)),(26,vI t26)]<|zX ⟨_,_,_,_,_,(zC N).symm,H,h15,rfl,rfl⟩
     intro hc4 N;exact zY<|wJ (zH [1] rfl (by decide))<|yU [(3,vS p10 out5 c9),(5,vS p7 y1 c6),(6,.bool changed1),(24,vS p7 y1 c6),(25,vI (y1.length:Int)),(26,vI t26)]<|zX ⟨_,_,_,_,_,(zC N).symm,H,h11,rfl,rfl⟩
   rintro I04 hs2 m2 ⟨out7,changed3,p12,c11,cs7,heq2,le5,h13,rfl,rfl⟩;subst o02;have h8:=h8.mono le5;have H:=H.trans le5;exact zU<|zD<|zR<|yF [] [(26,vI (W (t26 + 1)))]<|xF<|vE [(3,vS p12 out7 c11),(5,vS p7 y1 c6),(6,.bool changed3),(24,vS p7 y1 c6),(25,vI (y1.length:Int)),(26,vI (W (t26 + 1)))]<|ih out7 changed3 (W (t26 + 1)) _ hMc1 H h8 h13 hg ho hx
 intro hc2 N;exact xA<|zO<|zO<|yU [(3,vS p10 out5 c9),(5,vS p7 y1 c6),(6,.bool changed1)]<|hx _ _ _ _ _ _ (zC N).symm H h11
def M.impl_ConnectedParts_l2 (y1:(List yL)) (out3:List Int) (changed:Bool):Option (List Int):=do
 if changed then
  let (out6,changed2)←M.impl_ConnectedParts_l3 y1 out3 false 0
  M.impl_ConnectedParts_l2 y1 out6 changed2
 else
  pure (id out3)
 partial_fixpoint
theorem impl_ConnectedParts_l2_ok (y1:(List yL)):∀ (out3:List Int) (changed:Bool) (o:List Int),M.impl_ConnectedParts_l2 y1 out3 changed=some o→∀ {B}{I0 I:Imm}{Q p7 c6 p8 c7 cs3},I0.le I→(S4 I p7 y1 c6)→(RL I cs3 out3)→NG Q→NO Q→(∀ (I':Imm) (out4:List Int) (p9:Option Addr) (c8:Nat) (cs4:List Value),o=out4→I0.le I'→(RL I' cs4 out4)→T 69 B Q (.exit 2) I' [hO Int (vS p9 out4 c8) cs4] [(3,vS p9 out4 c8)])→J Tryz.prog 69 B (nav (bodyOf Tryz.f25) [1,1,1,1,0,1,0]) Q I [hO Int (vS p8 out3 c7) cs3] [(3,vS p8 out3 c7),(5,vS p7 y1 c6),(6,.bool changed)]:=by
 refine M.impl_ConnectedParts_l2.partial_correctness y1 _ ?_;intro self ih out3 changed o N B I0 I Q p7 c6 p8 c7 cs3 H h8 h9 hg ho hx;refine xE hg ho<|yJ<|yG [(23,.bool changed)]<|zD<|yO N ?_ ?_
 · intro hc1 N;refine zY<|zD<|zV<|yG [(6,vF)]<|wX [(24,vS p7 y1 c6),(25,vI (y1.length:Int)),(26,vI 0)]<|zD<|zV<|vE [(3,vS p8 out3 c7),(5,vS p7 y1 c6),(6,vF),(24,vS p7 y1 c6),(25,vI (y1.length:Int)),(26,vI 0)] ?_;obtain ⟨o03,ho03,hMl1⟩:=zB N;refine impl_ConnectedParts_l3_ok y1 out3 false 0 o03 ho03 iR h8 h9 (fun _ _ _ h=>hg _ _ _ h) (fun _ _ h=>ho _ _ h) ?_;intro I06 out6 changed2 p11 c10 cs6 heq3 le6 h12;subst o03;have h8:=h8.mono le6;have H:=H.trans le6;exact zW<|zU<|xF<|vE [(3,vS p11 out6 c10),(5,vS p7 y1 c6),(6,.bool changed2)]<|ih out6 changed2 _ hMl1 H h8 h12 hg ho hx
 intro hc1 N;exact xA<|zO<|zO<|yU [(3,vS p8 out3 c7)]<|hx _ _ _ _ _ (zC N).symm H h9
def M.impl_ConnectedParts (p:zK):Option ((List Int)):=do
 let y←pC p
 let out1←M.impl_ConnectedParts_l1 y ([]:List Int) 0
 let y1←mD p
 let out4←M.impl_ConnectedParts_l2 y1 out1 true
 pure (id out4)
theorem impl_ConnectedParts_ok:∀ (p:zK) r,M.impl_ConnectedParts p=some r→∀ {I:Imm}{p1 c p2 c1},(S4 I p1 p.Arrays c)→(S4 I p2 p.Parts c1)→Ret Tryz.prog 25 [vA (cProg p p1 c p2 c1)] I [] (zHI  r):=by
 intro p r N I p1 c p2 c1 h h1;unfold M.impl_ConnectedParts at N;refine yB (fn:=Tryz.f25) (c:=(bodyOf Tryz.f25)) Tryz.func25 rfl rfl ?_;rintro B - -;refine yP<|tM (cProg p p1 c p2 c1) ?_;intro b hb;refine yF [] []<|wX [(3,z0)]<|yI<|yP<|yH 1 [0] [(10,vA (cProg p p1 c p2 c1))] ?_;obtain ⟨y,hy,N⟩:=zB N;refine yQ (zEW p _ hy h h1) ?_;rintro I0 hs2 v2 k2 le - ⟨v0,rfl,rfl,h2⟩ -;have h:=h.mono le;have h1:=h1.mono le;obtain ⟨p3,c2,rfl⟩:=h2.form;refine yF [] [(12,vI (y.length:Int)),(13,vI 0)]<|zD<|zV<|vE [(1,vP b 0),(3,z0),(12,vI (y.length:Int)),(13,vI 0)]<|qT (uN (Rp.sz Int)) ?_;have h3:RL I0 [] ([]:List Int):=RepL.nil;obtain ⟨o0,ho0,hMl⟩:=zB N;refine impl_ConnectedParts_l1_ok y ([]:List Int) 0 o0 ho0 iR h h1 h3 (fun _ _ _ h=>h) (fun _ _ h=>h) ?_;intro I01 out1 p5 c4 cs1 heq le1 h5;subst o0;have h:=h.mono le1;have h1:=h1.mono le1;refine zW<|xQ<|yH 1 [1] [(21,vA (cProg p p1 c p2 c1))] ?_;obtain ⟨y1,hy2,N⟩:=zB hMl;refine yQ (zGR p _ hy2 h h1) ?_;rintro I02 hs2 v2 k2 le2 - ⟨v01,rfl,rfl,h8⟩ -;have h5:=iM le2 h5;have h:=h.mono le2;obtain ⟨p7,c6,rfl⟩:=h8.form;refine yF [] [(5,vS p7 y1 c6)]<|yI<|yG [(6,vY)]<|zD<|zV<|qT (zH [0] (hs':=[hO Int (vS p5 out1 c4) cs1]) rfl (by decide))<|vE [(3,vS p5 out1 c4),(5,vS p7 y1 c6),(6,vY)] ?_;obtain ⟨o04,ho04,hMl2⟩:=zB N;refine impl_ConnectedParts_l2_ok y1 out1 true o04 ho04 iR h8 h5 (fun _ _ _ h=>h) (fun _ _ h=>h) ?_;intro I07 out4 p9 c8 cs4 heq4 le7 h10;subst o04;refine zW<|wX [(2,vS p9 out4 c8)]<|zD<|yC<|xL 0 rfl ?_;intro I08 le8 hl03;have h16:=SL.of_frozen hl03 le8 h10;obtain rfl:=zC hMl2;exact xM ⟨_,_,(.tmp rfl ResV.nil),yE,⟨_,rfl,rfl,h16⟩⟩
def M.spec_ProgramInstances (p:zK):Option ((List zQ)):=do
 let y←tF p
 if (!y) then
  pure ([]:List zQ)
 else
  let y1←sV p
  pure (id y1)
theorem spec_ProgramInstances_ok:∀ (p:zK) r,M.spec_ProgramInstances p=some r→∀ {I:Imm}{p1 c p2 c1},(S4 I p1 p.Arrays c)→(S4 I p2 p.Parts c1)→Ret Tryz.prog 47 [vA (cProg p p1 c p2 c1)] I [] (mZ  r):=by
 intro p r N I p1 c p2 c1 h h1;unfold M.spec_ProgramInstances at N;refine yB (fn:=Tryz.f47) (c:=(bodyOf Tryz.f47)) Tryz.func47 rfl rfl ?_;rintro B - -;refine yP<|tM (cProg p p1 c p2 c1) ?_;intro b hb;refine yF [] []<|yI<|yP<|yH 1 [0] [(3,vA (cProg p p1 c p2 c1))] ?_;obtain ⟨y,hy,N⟩:=zB N;refine yQ (zAO p _ hy h h1) ?_;rintro I0 hs2 v2 k2 le - ⟨v0,rfl,rfl,rfl⟩ -;have h:=h.mono le;have h1:=h1.mono le;refine yF [] [(5,.bool (!y))]<|zD<|yO N ?_ ?_
 · intro hc N;refine yP<|xW [] zQ ?_;intro b1 hb1;have h3:RL I0 [] ([]:List zQ):=rfl;refine yF [] [(2,vS (some ⟨b1,0,none⟩) ([]:List zQ) 0)]<|zD<|yC<|zN<|xL 0 rfl ?_;intro I01 le1 hl0;have h4:=SL.of_frozen hl0 le1 h3;obtain rfl:=zC N;exact xM ⟨_,_,(.tmp rfl ResV.nil),yE,⟨_,rfl,rfl,h4⟩⟩
 intro hc N;refine zY<|xQ<|yH 1 [0] [(7,vA (cProg p p1 c p2 c1))] ?_;obtain ⟨y1,hy1,N⟩:=zB N;refine yQ (zAj p _ hy1 h h1) ?_;rintro I02 hs2 v2 k2 le2 - ⟨v01,rfl,rfl,h5⟩ -;obtain ⟨p3,c2,rfl⟩:=h5.form;refine yF [] [(2,vS p3 y1 c2)]<|zD<|yC ?_;obtain rfl:=zC N;exact xM ⟨_,_,(.tmp rfl ResV.nil),yE,⟨_,rfl,rfl,h5⟩⟩
def M.spec_ConnectedParts_l1 (p:zK) (out:List Int) (i:Int):Option (List Int):=do
 let y←M.spec_ProgramInstances p
 if (decide (i < (y.length:Int))) then
  let out2←app 8 out ([i]:List Int)
  M.spec_ConnectedParts_l1 p out2 (W (i + 1))
 else
  pure (id out)
 partial_fixpoint
theorem spec_ConnectedParts_l1_ok (p:zK):∀ (out:List Int) (i:Int) (o:List Int),M.spec_ConnectedParts_l1 p out i=some o→∀ {B}{I0 I:Imm}{Q p1 c p2 c1}{b:Nat}{p3 c2 cs},I0.le I→(S4 I p1 p.Arrays c)→(S4 I p2 p.Parts c1)→(RL I cs out)→NG Q→NO Q→(∀ (I':Imm) (out1:List Int) (p4:Option Addr) (c3:Nat) (cs1:List Value),o=out1→I0.le I'→(RL I' cs1 out1)→T 70 B Q (.exit 0) I' [hO Int (vS p4 out1 c3) cs1,hB b (cProg p p1 c p2 c1)] [(1,vP b 0),(3,vS p4 out1 c3)])→J Tryz.prog 70 B (nav (bodyOf Tryz.f26) [1,1,0,1,0]) Q I [hO Int (vS p3 out c2) cs,hB b (cProg p p1 c p2 c1)] [(1,vP b 0),(3,vS p3 out c2),(4,vI i)]:=by
 refine M.spec_ConnectedParts_l1.partial_correctness p _ ?_;intro self ih out i o N B I0 I Q p1 c p2 c1 b p3 c2 cs H h h1 h3 hg ho hx;refine xE hg ho<|yJ<|yP<|yH 2 [1] [(12,vI i),(13,vA (cProg p p1 c p2 c1))] ?_;obtain ⟨y,hy,N⟩:=zB N;refine yQ (spec_ProgramInstances_ok p _ hy h h1) ?_;rintro I0 hs2 v2 k2 le - ⟨v0,rfl,rfl,h5⟩ -;have h3:=iM le h3;have h:=h.mono le;have h1:=h1.mono le;have H:=H.trans le;obtain ⟨p5,c4,rfl⟩:=h5.form;refine yF [] [(16,.bool (decide (i < (y.length:Int))))]<|zD<|yO N ?_ ?_
 · intro hc N;refine zY<|yI<|zV<|zR<|yH 2 [] [(19,vS p3 out c2),(20,vI i)]<|xW [vI i] Int ?_;intro b2 hb2;have h6:RL I0 [vI i] ([i]:List Int):=⟨[vI i],_,rfl,rfl,rfl,rfl⟩;obtain ⟨out2,hy1,N⟩:=zB N;refine qU 3 1 1 rfl rfl rfl h3 (.inr ⟨0,rfl⟩) h6 hy1 ?_;intro p6 c5 cs2 h7;exact rV (zH [1,2] (hs':=[hO Int (vS p6 out2 c5) cs2,hB b (cProg p p1 c p2 c1)]) rfl (by decide))<|yF [] [(3,vS p6 out2 c5)]<|zU<|zD<|zR<|yF [] [(4,vI (W (i + 1)))]<|xF<|vE [(1,vP b 0),(3,vS p6 out2 c5),(4,vI (W (i + 1)))]<|ih out2 (W (i + 1)) _ N H h h1 h7 hg ho hx
 intro hc N;exact xA<|zO<|zO<|yU [(1,vP b 0),(3,vS p3 out c2)]<|hx _ _ _ _ _ (zC N).symm H h3
def M.spec_ConnectedParts_l3 (a0:Int) (b3:Int) (out5:List Int) (k0:Int):Option (List Int):=do
 if (decide (k0 < (out5.length:Int))) then
  let x4←idx out5 k0
  let out7←(do
    if (x4 == b3) then
     let x5←idx out5 k0
     let l←pure (out5.set k0.toNat a0)
     pure (id l)
    else
     pure (id out5)
      : Option (List Int))
  M.spec_ConnectedParts_l3 a0 b3 out7 (W (k0 + 1))
 else
  pure (id out5)
 partial_fixpoint
theorem spec_ConnectedParts_l3_ok (a0:Int) (b3:Int):∀ (out5:List Int) (k0:Int) (o:List Int),M.spec_ConnectedParts_l3 a0 b3 out5 k0=some o→∀ {B}{I0 I:Imm}{Q}{y1:(List yL)}{i1:Int}{p7 c6 p10 c9 cs5},I0.le I→(S4 I p7 y1 c6)→(RL I cs5 out5)→NG Q→NO Q→(∀ (I':Imm) (out6:List Int) (p11:Option Addr) (c10:Nat) (cs6:List Value),o=out6→I0.le I'→(RL I' cs6 out6)→T 70 B Q (.exit 4) I' [hO Int (vS p11 out6 c10) cs6] [(3,vS p11 out6 c10),(5,vS p7 y1 c6),(6,vI i1)])→J Tryz.prog 70 B (nav (bodyOf Tryz.f26) [1,1,1,1,0,1,0,0,1,0,0,1,1,1,1,0]) Q I [hO Int (vS p10 out5 c9) cs5] [(3,vS p10 out5 c9),(5,vS p7 y1 c6),(6,vI i1),(7,vI a0),(8,vI b3),(10,vI k0)]:=by
 refine M.spec_ConnectedParts_l3.partial_correctness a0 b3 _ ?_;intro self ih out5 k0 o N B I0 I Q y1 i1 p7 c6 p10 c9 cs5 H h8 h11 hg ho hx;refine xE hg ho<|yJ<|yG [(56,.bool (decide (k0 < (out5.length:Int))))]<|zD<|yO N ?_ ?_
 · intro hc3 N;refine zY<|yI<|zV<|yP<|yH 2 [] [(59,vS p10 out5 c9),(60,vI k0)] ?_;obtain ⟨x4,hy7,N⟩:=zB N;refine mP 0 rfl rfl rfl h11 hy7 ?_;intro ad4 ccs4 hat4 hcc2 hrep4;obtain rfl:=hrep4;refine zCv 0 0 hat4 hcc2 [vI x4] (vI x4) rfl rfl<|yF [] [(64,.bool (x4 == b3))]<|zD ?_;obtain ⟨o02,ho02,hMc1⟩:=zB N;refine yV (fun I' hs' m'=>∃ (out7:List Int) (p12:Option Addr) (c11:Nat) (cs7:List Value),o02=out7∧I.le I'∧(RL I' cs7 out7)∧hs'=[hO Int (vS p12 out7 c11) cs7]∧m'=[(3,vS p12 out7 c11),(5,vS p7 y1 c6),(6,vI i1),(7,vI a0),(8,vI b3),(10,vI k0)]) ?_ ?_
   · have H:=iS I;refine yO ho02 ?_ ?_
     · intro hc4 N;refine zR<|yH 3 [] [(65,vS p10 out5 c9),(66,vI k0),(67,vI a0)] ?_;obtain ⟨x5,hy8,N⟩:=zB N;refine mP 0 rfl rfl rfl h11 hy8 ?_;intro ad5 ccs5 hat5 hcc3 hrep5;obtain rfl:=hrep5;obtain ⟨l,hy9,N⟩:=zB N;refine pY (c:=[vI a0]) (x':=a0) 0 0 rfl rfl rfl hat5 rfl rfl hcc3 (by kernel_rfl) (by kernel_rfl) (by kernel_rfl) h11 hy8 (by kernel_rfl) rfl ?_;rw [show out5.set k0.toNat a0=l from zC hy9];intro cs8 h14 hl0;exact kS (m':=[(3,vS p10 out5 c9),(5,vS p7 y1 c6),(6,vI i1),(7,vI a0),(8,vI b3),(10,vI k0),(65,vS p10 out5 c9),(66,vI k0),(67,vI a0)]) ⟨rfl,rfl,rfl,rfl,rfl,rfl,rfl,rfl,rfl,trivial⟩<|zCQ (hs':=[hO Int (vS p10 l c9) cs8]) (m':=[(3,vS p10 l c9),(5,vS p7 y1 c6),(6,vI i1),(7,vI a0),(8,vI b3),(10,vI k0),(65,vS p10 l c9),(66,vI k0),(67,vI a0)]) (by first | rfl | simp only [vS,hl0,List.nil_append,List.cons_append,List.set_cons_zero,List.set_cons_succ,List.eraseIdx_cons_zero,List.eraseIdx_cons_succ]) (by first | rfl | simp only [vS,hl0])<|yN rfl<|yU [(3,vS p10 l c9),(5,vS p7 y1 c6),(6,vI i1),(7,vI a0),(8,vI b3),(10,vI k0)]<|zX ⟨_,_,_,_,(zC N).symm,H,h14,rfl,rfl⟩
     intro hc4 N;exact zY<|yU [(3,vS p10 out5 c9),(5,vS p7 y1 c6),(6,vI i1),(7,vI a0),(8,vI b3),(10,vI k0)]<|zX ⟨_,_,_,_,(zC N).symm,H,h11,rfl,rfl⟩
   rintro I04 hs2 m2 ⟨out7,p12,c11,cs7,heq2,le4,h13,rfl,rfl⟩;subst o02;have h8:=h8.mono le4;have H:=H.trans le4;exact zU<|zD<|zR<|yF [] [(10,vI (W (k0 + 1)))]<|xF<|vE [(3,vS p12 out7 c11),(5,vS p7 y1 c6),(6,vI i1),(7,vI a0),(8,vI b3),(10,vI (W (k0 + 1)))]<|ih out7 (W (k0 + 1)) _ hMc1 H h8 h13 hg ho hx
 intro hc3 N;exact xA<|zO<|zO<|yU [(3,vS p10 out5 c9),(5,vS p7 y1 c6),(6,vI i1)]<|hx _ _ _ _ _ (zC N).symm H h11
def M.spec_ConnectedParts_l2 (y1:(List yL)) (out3:List Int) (i1:Int):Option (List Int):=do
 if (decide (i1 < (y1.length:Int))) then
  let x←idx y1 i1
  let x1←idx out3 x.From
  let x2←idx y1 i1
  let x3←idx out3 x2.To
  let (a0,b3)←(do
    if (decide (x3 < x1)) then
     pure (x3,x1)
    else
     pure (x1,x3)
      : Option (Int×Int))
  let out6←M.spec_ConnectedParts_l3 a0 b3 out3 0
  M.spec_ConnectedParts_l2 y1 out6 (W (i1 + 1))
 else
  pure (id out3)
 partial_fixpoint
theorem spec_ConnectedParts_l2_ok (y1:(List yL)):∀ (out3:List Int) (i1:Int) (o:List Int),M.spec_ConnectedParts_l2 y1 out3 i1=some o→∀ {B}{I0 I:Imm}{Q p7 c6 p8 c7 cs3},I0.le I→(S4 I p7 y1 c6)→(RL I cs3 out3)→NG Q→NO Q→(∀ (I':Imm) (out4:List Int) (p9:Option Addr) (c8:Nat) (cs4:List Value),o=out4→I0.le I'→(RL I' cs4 out4)→T 70 B Q (.exit 2) I' [hO Int (vS p9 out4 c8) cs4] [(3,vS p9 out4 c8)])→J Tryz.prog 70 B (nav (bodyOf Tryz.f26) [1,1,1,1,0,1,0]) Q I [hO Int (vS p8 out3 c7) cs3] [(3,vS p8 out3 c7),(5,vS p7 y1 c6),(6,vI i1)]:=by
 refine M.spec_ConnectedParts_l2.partial_correctness y1 _ ?_;intro self ih out3 i1 o N B I0 I Q p7 c6 p8 c7 cs3 H h8 h9 hg ho hx;refine xE hg ho<|yJ<|yG [(28,.bool (decide (i1 < (y1.length:Int))))]<|zD<|yO N ?_ ?_
 · intro hc1 N;refine zY<|yI<|zV<|yP<|yH 3 [] [(31,vS p8 out3 c7),(32,vS p7 y1 c6),(33,vI i1)] ?_;obtain ⟨x,hy3,N⟩:=zB N;refine xX rfl rfl h8 hy3 ?_;intro ad ccs hat hrep;obtain rfl:=zIS hrep;refine yH 5 [] [(35,.pointer (some ad))]<|xT 0 hat [vI x.From] (vI x.From) rfl ?_;obtain ⟨x1,hy4,N⟩:=zB N;refine mP 0 rfl rfl rfl h9 hy4 ?_;intro ad1 ccs1 hat1 hcc hrep1;obtain rfl:=hrep1;refine zCv 0 0 hat1 hcc [vI x1] (vI x1) rfl rfl<|yF [] [(7,vI x1)]<|xQ<|yH 3 [] [(39,vS p8 out3 c7),(40,vS p7 y1 c6),(41,vI i1)] ?_;obtain ⟨x2,hy5,N⟩:=zB N;refine xX rfl rfl h8 hy5 ?_;intro ad2 ccs2 hat2 hrep2;obtain rfl:=zIS hrep2;refine yH 5 [] [(43,.pointer (some (ad2.add 1)))]<|xT 1 hat2 [vI x2.To] (vI x2.To) rfl ?_;obtain ⟨x3,hy6,N⟩:=zB N;refine mP 0 rfl rfl rfl h9 hy6 ?_;intro ad3 ccs3 hat3 hcc1 hrep3;obtain rfl:=hrep3;refine zCv 0 0 hat3 hcc1 [vI x3] (vI x3) rfl rfl<|yF [] [(8,vI x3)]<|yI<|yG [(49,.bool (decide (x3 < x1)))]<|zD ?_;obtain ⟨o01,ho01,hMc⟩:=zB N;refine yV (fun I' hs' m'=>∃ (a0:Int) (b3:Int),o01=(a0,b3)∧I.le I'∧hs'=[hO Int (vS p8 out3 c7) cs3]∧m'=[(3,vS p8 out3 c7),(5,vS p7 y1 c6),(6,vI i1),(7,vI a0),(8,vI b3)]) ?_ ?_
   · have H:=iS I;refine yO ho01 ?_ ?_
     · intro hc2 N;exact yG [(9,vI x1)]<|wX [(7,vI x3)]<|zD<|zR<|yF [] [(8,vI x1)]<|yU [(3,vS p8 out3 c7),(5,vS p7 y1 c6),(6,vI i1),(7,vI x3),(8,vI x1)]<|zX ⟨_,_,(zC N).symm,H,rfl,rfl⟩
     intro hc2 N;exact zY<|yU [(3,vS p8 out3 c7),(5,vS p7 y1 c6),(6,vI i1),(7,vI x1),(8,vI x3)]<|zX ⟨_,_,(zC N).symm,H,rfl,rfl⟩
   rintro I03 hs2 m2 ⟨a0,b3,heq1,le3,rfl,rfl⟩;subst o01;have h9:=iM le3 h9;have h8:=h8.mono le3;have H:=H.trans le3;refine wX [(10,vI 0)]<|zD<|zV<|vE [(3,vS p8 out3 c7),(5,vS p7 y1 c6),(6,vI i1),(7,vI a0),(8,vI b3),(10,vI 0)] ?_;obtain ⟨o03,ho03,hMl1⟩:=zB hMc;refine spec_ConnectedParts_l3_ok a0 b3 out3 0 o03 ho03 iR h8 h9 (fun _ _ _ h=>hg _ _ _ h) (fun _ _ h=>ho _ _ h) ?_;intro I05 out6 p11 c10 cs6 heq3 le5 h12;subst o03;have h8:=h8.mono le5;have H:=H.trans le5;exact zW<|zU<|zD<|zR<|yF [] [(6,vI (W (i1 + 1)))]<|xF<|vE [(3,vS p11 out6 c10),(5,vS p7 y1 c6),(6,vI (W (i1 + 1)))]<|ih out6 (W (i1 + 1)) _ hMl1 H h8 h12 hg ho hx
 intro hc1 N;exact xA<|zO<|zO<|yU [(3,vS p8 out3 c7)]<|hx _ _ _ _ _ (zC N).symm H h9
def M.spec_ConnectedParts (p:zK):Option ((List Int)):=do
 let out1←M.spec_ConnectedParts_l1 p ([]:List Int) 0
 let y1←gX p
 let out4←M.spec_ConnectedParts_l2 y1 out1 0
 pure (id out4)
theorem spec_ConnectedParts_ok:∀ (p:zK) r,M.spec_ConnectedParts p=some r→∀ {I:Imm}{p1 c p2 c1},(S4 I p1 p.Arrays c)→(S4 I p2 p.Parts c1)→Ret Tryz.prog 26 [vA (cProg p p1 c p2 c1)] I [] (zHI  r):=by
 intro p r N I p1 c p2 c1 h h1;unfold M.spec_ConnectedParts at N;refine yB (fn:=Tryz.f26) (c:=(bodyOf Tryz.f26)) Tryz.func26 rfl rfl ?_;rintro B - -;refine yP<|tM (cProg p p1 c p2 c1) ?_;intro b hb;refine yF [] []<|xQ<|xW [] Int ?_;intro b1 hb1;have h2:RL I [] ([]:List Int):=rfl;refine yF [] [(3,vS (some ⟨b1,0,none⟩) ([]:List Int) 0)]<|yI<|yG [(4,vI 0)]<|zD<|zV<|vE [(1,vP b 0),(3,vS (some ⟨b1,0,none⟩) ([]:List Int) 0),(4,vI 0)] ?_;obtain ⟨o0,ho0,hMl⟩:=zB N;refine spec_ConnectedParts_l1_ok p ([]:List Int) 0 o0 ho0 iR h h1 h2 (fun _ _ _ h=>h) (fun _ _ h=>h) ?_;intro I01 out1 p4 c3 cs1 heq le1 h4;subst o0;have h:=h.mono le1;have h1:=h1.mono le1;refine zW<|xQ<|yH 1 [1] [(23,vA (cProg p p1 c p2 c1))] ?_;obtain ⟨y1,hy2,N⟩:=zB hMl;refine yQ (spec_Dependences_ok p _ hy2 h h1) ?_;rintro I02 hs2 v2 k2 le2 - ⟨v01,rfl,rfl,h8⟩ -;have h4:=iM le2 h4;have h:=h.mono le2;obtain ⟨p7,c6,rfl⟩:=h8.form;refine yF [] [(5,vS p7 y1 c6)]<|yI<|yG [(6,vI 0)]<|zD<|zV<|qT (zH [0] (hs':=[hO Int (vS p4 out1 c3) cs1]) rfl (by decide))<|vE [(3,vS p4 out1 c3),(5,vS p7 y1 c6),(6,vI 0)] ?_;obtain ⟨o04,ho04,hMl2⟩:=zB N;refine spec_ConnectedParts_l2_ok y1 out1 0 o04 ho04 iR h8 h4 (fun _ _ _ h=>h) (fun _ _ h=>h) ?_;intro I06 out4 p9 c8 cs4 heq4 le6 h10;subst o04;refine zW<|wX [(2,vS p9 out4 c8)]<|zD<|yC<|xL 0 rfl ?_;intro I07 le7 hl01;have h15:=SL.of_frozen hl01 le7 h10;obtain rfl:=zC hMl2;exact xM ⟨_,_,(.tmp rfl ResV.nil),yE,⟨_,rfl,rfl,h15⟩⟩
def M.laws_FnConnectedParts_l1 (y1:(List Int)) (y4:(List yL)) (i:Int):Option (Out Unit (Bool)):=do
 if (decide (i < (y4.length:Int))) then
  let x←idx y4 i
  let x1←idx y1 x.From
  let x2←idx y4 i
  let x3←idx y1 x2.To
  if (x1 != x3) then
   pure (.ret false)
  else
   M.laws_FnConnectedParts_l1 y1 y4 (W (i + 1))
 else
  pure (.done ())
 partial_fixpoint
theorem laws_FnConnectedParts_l1_ok (y1:(List Int)) (y4:(List yL)):∀ (i:Int) (o:Out Unit (Bool)),M.laws_FnConnectedParts_l1 y1 y4 i=some o→∀ {B}{I0 I:Imm}{Q}{y:zK}{p1 c1 p2 c2}{b:Nat}{p3 c3 p5 c5},I0.le I→(S4 I p3 y1 c3)→(S4 I p5 y4 c5)→(S4 I p1 y.Arrays c1)→(S4 I p2 y.Parts c2)→NG Q→NO Q→(∀ (I':Imm) ,o=(.done ())→I0.le I'→T 77 B Q (.exit 0) I' [hB b (cProg y p1 c1 p2 c2)] [(3,vP b 0),(4,vS p3 y1 c3)])→(∀ r I' hs' m',o=(.ret r)→I0.le I'→RS Tryz.prog Tryz.f7 B (zZ  r) I' hs' m'→T 77 B Q .ret I' hs' m')→J Tryz.prog 77 B (nav (bodyOf Tryz.f7) [1,1,1,1,1,1,0,1,0]) Q I [hB b (cProg y p1 c1 p2 c2)] [(3,vP b 0),(4,vS p3 y1 c3),(5,vS p5 y4 c5),(6,vI i)]:=by
 refine M.laws_FnConnectedParts_l1.partial_correctness y1 y4 _ ?_;intro self ih i o N B I0 I Q y p1 c1 p2 c2 b p3 c3 p5 c5 H h4 h7 h2 h3 hg ho hx hr;refine xE hg ho<|yJ<|yG [(25,.bool (decide (i < (y4.length:Int))))]<|zD<|yO N ?_ ?_
 · intro hc2 N;refine zY<|yI<|zV<|yJ<|jD (by kernel_rfl) (by kernel_rfl)<|gY 3 [] [(28,vS p3 y1 c3),(29,vS p5 y4 c5),(30,vI i)] ?_;obtain ⟨x,hy5,N⟩:=zB N;refine zB5 rfl rfl h7 hy5 ?_;intro ad ccs hat hrep;obtain rfl:=zIS hrep;refine gY 5 [] [(32,.pointer (some ad))]<|zAG 0 hat [vI x.From] (vI x.From) rfl ?_;obtain ⟨x1,hy6,N⟩:=zB N;refine zB5 rfl rfl h4 hy6 ?_;intro ad1 ccs1 hat1 hrep1;obtain rfl:=hrep1;refine zAG 0 hat1 [vI x1] (vI x1) rfl<|gY 11 [] [(36,vS p3 y1 c3),(37,vS p5 y4 c5),(38,vI i)] ?_;obtain ⟨x2,hy7,N⟩:=zB N;refine zB5 rfl rfl h7 hy7 ?_;intro ad2 ccs2 hat2 hrep2;obtain rfl:=zIS hrep2;refine gY 13 [] [(40,.pointer (some (ad2.add 1)))]<|zAG 1 hat2 [vI x2.To] (vI x2.To) rfl ?_;obtain ⟨x3,hy8,N⟩:=zB N;refine zB5 rfl rfl h4 hy8 ?_;intro ad3 ccs3 hat3 hrep3;obtain rfl:=hrep3;refine zAG 0 hat3 [vI x3] (vI x3) rfl<|zCT [] [(44,.bool (x1 != x3))]<|zD<|yO N ?_ ?_
   · intro hc3 N;exact yG [(2,vF)]<|zD<|yC<|yA<|zN<|zN<|hr _ _ _ _ (zC N).symm H ⟨_,_,(.tmp rfl ResV.nil),yE,⟨_,rfl,rfl,rfl⟩⟩
   intro hc3 N;exact zY<|zU<|zD<|zR<|yF [] [(6,vI (W (i + 1)))]<|xF<|vE [(3,vP b 0),(4,vS p3 y1 c3),(5,vS p5 y4 c5),(6,vI (W (i + 1)))]<|ih (W (i + 1)) _ N H h4 h7 h2 h3 hg ho hx hr
 intro hc2 N;exact xA<|zO<|zO<|yU [(3,vP b 0),(4,vS p3 y1 c3)]<|hx _  (zC N).symm H
def M.laws_FnConnectedParts_l2 (y1:(List Int)) (i1:Int):Option (Out Unit (Bool)):=do
 if (decide (i1 < (y1.length:Int))) then
  let t70←(do
    let x4←idx y1 i1
    if (decide (x4 > i1)) then
     pure true
    else
     let x5←idx y1 i1
     let x6←idx y1 x5
     let x7←idx y1 i1
     pure (x6 != x7)
      : Option Bool)
  if t70 then
   pure (.ret false)
  else
   M.laws_FnConnectedParts_l2 y1 (W (i1 + 1))
 else
  pure (.done ())
 partial_fixpoint
theorem laws_FnConnectedParts_l2_ok (y1:(List Int)):∀ (i1:Int) (o:Out Unit (Bool)),M.laws_FnConnectedParts_l2 y1 i1=some o→∀ {B}{I0 I:Imm}{Q}{y:zK}{p1 c1 p2 c2}{b:Nat}{p3 c3},I0.le I→(S4 I p3 y1 c3)→(S4 I p1 y.Arrays c1)→(S4 I p2 y.Parts c2)→NG Q→NO Q→(∀ (I':Imm) ,o=(.done ())→I0.le I'→T 77 B Q (.exit 2) I' [hB b (cProg y p1 c1 p2 c2)] [(3,vP b 0),(4,vS p3 y1 c3)])→(∀ r I' hs' m',o=(.ret r)→I0.le I'→RS Tryz.prog Tryz.f7 B (zZ  r) I' hs' m'→T 77 B Q .ret I' hs' m')→J Tryz.prog 77 B (nav (bodyOf Tryz.f7) [1,1,1,1,1,1,1,0,1,0]) Q I [hB b (cProg y p1 c1 p2 c2)] [(3,vP b 0),(4,vS p3 y1 c3),(7,vI i1)]:=by
 refine M.laws_FnConnectedParts_l2.partial_correctness y1 _ ?_;intro self ih i1 o N B I0 I Q y p1 c1 p2 c2 b p3 c3 H h4 h2 h3 hg ho hx hr;refine xE hg ho<|yJ<|yG [(48,.bool (decide (i1 < (y1.length:Int))))]<|zD<|yO N ?_ ?_
 · intro hc4 N;refine zY<|yI<|zV<|yJ ?_;obtain ⟨o01,ho01,hMc⟩:=zB N;refine yV (fun I' hs' m'=>∃ (t70:Bool),o01=t70∧I.le I'∧hs'=[hB b (cProg y p1 c1 p2 c2)]∧m'=[(3,vP b 0),(4,vS p3 y1 c3),(7,vI i1),(70,.bool t70)]) ?_ ?_
   · have H:=iS I;refine jD (by kernel_rfl) (by kernel_rfl)<|gY 2 [] [(51,vS p3 y1 c3),(52,vI i1)] ?_;obtain ⟨x4,hy9,N⟩:=zB ho01;refine zB5 rfl rfl h4 hy9 ?_;intro ad4 ccs4 hat4 hrep4;obtain rfl:=hrep4;refine zAG 0 hat4 [vI x4] (vI x4) rfl<|gY 7 [] [(57,.bool (decide (x4 > i1)))] ?_;cases hc5:(decide (x4 > i1)) with
     | true =>
      have hM0:=zT hc5 N
      try rw [hc5]
      exact zCT [] [(70,vY)]<|yU [(3,vP b 0),(4,vS p3 y1 c3),(7,vI i1),(70,vY)]<|zX ⟨_,(zC hM0).symm,H,rfl,rfl⟩
     | false =>
      have hM01:=zS hc5 N
      try rw [hc5]
      refine gY 10 [] [(58,vS p3 y1 c3),(59,vS p3 y1 c3),(60,vI i1)] ?_;obtain ⟨x5,hy10,N⟩:=zB hM01;refine zB5 rfl rfl h4 hy10 ?_;intro ad5 ccs5 hat5 hrep5;obtain rfl:=hrep5;refine zAG 0 hat5 [vI x5] (vI x5) rfl ?_;obtain ⟨x6,hy11,N⟩:=zB N;refine zB5 rfl rfl h4 hy11 ?_;intro ad6 ccs6 hat6 hrep6;obtain rfl:=hrep6;refine zAG 0 hat6 [vI x6] (vI x6) rfl<|gY 16 [] [(65,vS p3 y1 c3),(66,vI i1)] ?_;obtain ⟨x7,hy12,N⟩:=zB N;refine zB5 rfl rfl h4 hy12 ?_;intro ad7 ccs7 hat7 hrep7;obtain rfl:=hrep7;exact zAG 0 hat7 [vI x7] (vI x7) rfl<|zCT [] [(70,.bool (x6 != x7))]<|yU [(3,vP b 0),(4,vS p3 y1 c3),(7,vI i1),(70,.bool (x6 != x7))]<|zX ⟨_,(zC N).symm,H,rfl,rfl⟩
   rintro I06 hs2 m2 ⟨t70,heq1,le6,rfl,rfl⟩;subst o01;have h4:=h4.mono le6;have h2:=h2.mono le6;have h3:=h3.mono le6;have H:=H.trans le6;refine zD<|yO hMc ?_ ?_
   · intro hc6 N;exact yG [(2,vF)]<|zD<|yC<|yA<|zN<|zN<|hr _ _ _ _ (zC N).symm H ⟨_,_,(.tmp rfl ResV.nil),yE,⟨_,rfl,rfl,rfl⟩⟩
   intro hc6 N;exact zY<|zU<|zD<|zR<|yF [] [(7,vI (W (i1 + 1)))]<|xF<|vE [(3,vP b 0),(4,vS p3 y1 c3),(7,vI (W (i1 + 1)))]<|ih (W (i1 + 1)) _ N H h4 h2 h3 hg ho hx hr
 intro hc4 N;exact xA<|zO<|zO<|yU [(3,vP b 0),(4,vS p3 y1 c3)]<|hx _  (zC N).symm H
def M.laws_FnConnectedParts (code:(List UInt8)):Option (Bool):=do
 if (decide ((code.length:Int) > 1048576)) then
  pure true
 else
  let y←M.spec_DrawConnectedParts code
  let y1←M.impl_ConnectedParts y
  let y2←M.spec_ConnectedParts y
  let y3←M.laws_lnInts y1 y2
  if (!y3) then
   pure false
  else
   let y4←mD y
   match←M.laws_FnConnectedParts_l1 y1 y4 0 with
   | .ret r0=>pure r0
   | .done _ =>
    match←M.laws_FnConnectedParts_l2 y1 0 with
    | .ret r0=>pure r0
    | .done _ =>
     let y5←pC y
     pure ((y1.length:Int) == (y5.length:Int))
theorem laws_FnConnectedParts_ok:∀ (code:(List UInt8)) r,M.laws_FnConnectedParts code=some r→∀ {I:Imm}{p c},(S4 I p code c)→Ret Tryz.prog 7 [vS p code c] I [] (zZ  r):=by
 intro code r N I p c h;unfold M.laws_FnConnectedParts at N;refine yB (fn:=Tryz.f7) (c:=(bodyOf Tryz.f7)) Tryz.func7 rfl rfl ?_;rintro B - -;refine yG []<|yI<|yG [(10,.bool (decide ((code.length:Int) > 1048576)))]<|zD<|yO N ?_ ?_
 · intro hc N;refine yG [(2,vY)]<|zD<|yC<|zN ?_;obtain rfl:=zC N;exact uM
 intro hc N;refine zY<|xQ<|yH 1 [] [(11,vS p code c)] ?_;obtain ⟨y,hy,N⟩:=zB N;refine yQ (spec_DrawConnectedParts_ok code _ hy h) ?_;rintro I0 hs2 v2 k2 le - ⟨v0,rfl,rfl,⟨cs,rfl,h1⟩⟩ -;obtain ⟨v01,v02,rfl,h2,h3⟩:=fH h1;obtain ⟨p1,c1,rfl⟩:=h2.form;obtain ⟨p2,c2,rfl⟩:=h3.form;refine uO zTwo ?_;intro b hb;refine xP 0 (cProg y p1 c1 p2 c2) [hB b (cProg y p1 c1 p2 c2)] rfl rfl rfl rfl<|yN rfl<|xQ<|yH 1 [0] [(13,vA (cProg y p1 c1 p2 c2))] ?_;obtain ⟨y1,hy1,N⟩:=zB N;refine yQ (impl_ConnectedParts_ok y _ hy1 h2 h3) ?_;rintro I01 hs2 v2 k2 le1 - ⟨v03,rfl,rfl,h4⟩ -;have h2:=h2.mono le1;have h3:=h3.mono le1;obtain ⟨p3,c3,rfl⟩:=h4.form;refine yF [] [(4,vS p3 y1 c3)]<|yI<|yP<|yH 2 [0] [(15,vS p3 y1 c3),(16,vA (cProg y p1 c1 p2 c2))] ?_;obtain ⟨y2,hy2,N⟩:=zB N;refine yQ (spec_ConnectedParts_ok y _ hy2 h2 h3) ?_;rintro I02 hs2 v2 k2 le2 - ⟨v04,rfl,rfl,h5⟩ -;have h4:=h4.mono le2;have h2:=h2.mono le2;have h3:=h3.mono le2;obtain ⟨p4,c4,rfl⟩:=h5.form;obtain ⟨y3,hy3,N⟩:=zB N;refine yQ (laws_lnInts_ok y1 y2 _ hy3 h4 h5) ?_;rintro I03 hs2 v2 k2 le3 - ⟨v05,rfl,rfl,rfl⟩ -;have h4:=h4.mono le3;have h2:=h2.mono le3;have h3:=h3.mono le3;refine yF [] [(19,.bool (!y3))]<|zD<|yO N ?_ ?_
 · intro hc1 N;refine yG [(2,vF)]<|zD<|yC<|zN ?_;obtain rfl:=zC N;exact uM
 intro hc1 N;refine zY<|xQ<|yH 1 [0] [(20,vA (cProg y p1 c1 p2 c2))] ?_;obtain ⟨y4,hy4,N⟩:=zB N;refine yQ (zGR y _ hy4 h2 h3) ?_;rintro I04 hs2 v2 k2 le4 - ⟨v06,rfl,rfl,h7⟩ -;have h4:=h4.mono le4;have h2:=h2.mono le4;have h3:=h3.mono le4;obtain ⟨p5,c5,rfl⟩:=h7.form;refine yF [] [(5,vS p5 y4 c5)]<|yI<|yG [(6,vI 0)]<|zD<|zV<|vE [(3,vP b 0),(4,vS p3 y1 c3),(5,vS p5 y4 c5),(6,vI 0)] ?_;obtain ⟨o0,ho0,hMl⟩:=zB N;refine laws_FnConnectedParts_l1_ok y1 y4 0 o0 ho0 iR h4 h7 h2 h3 (fun _ _ _ h=>h) (fun _ _ h=>h) ?_ ?_
 · intro I05  heq le5;subst o0;have h4:=h4.mono le5;have h2:=h2.mono le5;have h3:=h3.mono le5;refine zW<|yI<|yG [(7,vI 0)]<|zD<|zV<|vE [(3,vP b 0),(4,vS p3 y1 c3),(7,vI 0)] ?_;obtain ⟨o02,ho02,hMl1⟩:=zB hMl;refine laws_FnConnectedParts_l2_ok y1 0 o02 ho02 iR h4 h2 h3 (fun _ _ _ h=>h) (fun _ _ h=>h) ?_ ?_
   · intro I07  heq2 le7;subst o02;have h2:=h2.mono le7;have h3:=h3.mono le7;refine zW<|xQ<|yH 3 [0] [(72,vI (y1.length:Int)),(73,vA (cProg y p1 c1 p2 c2))] ?_;obtain ⟨y5,hy13,N⟩:=zB hMl1;refine yQ (zEW y _ hy13 h2 h3) ?_;rintro I08 hs2 v2 k2 le8 - ⟨v07,rfl,rfl,h8⟩ -;obtain ⟨p6,c6,rfl⟩:=h8.form;refine yF [] [(2,.bool ((y1.length:Int) == (y5.length:Int)))]<|zD<|yC ?_;obtain rfl:=zC N;exact uM
   intro r0 I9 hs9 m9 heq9 le9 hrs9;subst heq9;refine yA<|zN ?_;obtain rfl:=zC hMl1;exact xM hrs9
 intro r0 I9 hs9 m9 heq9 le9 hrs9;subst heq9;refine yA<|zN ?_;obtain rfl:=zC hMl;exact xM hrs9
end Go.LN
namespace Go.LN
theorem specInstP (P:zK) (h:BG P):M.spec_ProgramInstances P=some (if validP P then progI P else []):=by
  unfold M.spec_ProgramInstances;rw [specValidP P h];cases hv:validP P with
  | false=>rfl
  | true =>
    obtain ⟨_,v2,v3,_⟩:=jU hv;have hl:=zGN P v2 v3 _ 0 [] (Nat.zero_add _) (by simp);rw [Int.natCast_zero,List.nil_append] at hl;simp only [Bool.not_true,bF,if_false,oB,oS,sV,hl,oP,id,if_true];rfl
theorem ints_refl (l:List Int) (h:l.length ≤ 1048576):M.laws_lnInts l l=some true:=by
  unfold M.laws_lnInts;have hl:=jB (n:=l.length) (f:=M.laws_lnInts_l1 l l) (P:=fun _=>true) (fun i hi=>by
      rw [M.laws_lnInts_l1];have h1:((i:Int) < (l.length:Int)):=by omega
      simp only [h1,decide_true,if_true,yX hi,oB,oS,bne_self_eq_false,bF,if_false];rw [uP (by omega)]) (by rw [M.laws_lnInts_l1]; simp)
  rw [hl];have:((List.range l.length).all fun _=>true)=true:=by simp
  simp [this]
end Go.LN
namespace Go.LN
theorem dpF_len {P:zK}:(dpF P).length ≤ 14400:=by
  unfold dpF;split
  · rename_i hv;have hlen:=(jU hv).2.2.2;have:=zIN P (progI P).length 0;have h2:(progI P).length * (progI P).length ≤ 120 * 120:=Nat.mul_le_mul hlen hlen;omega
  · simp
end Go.LN
namespace Go.LN
def EE (D:List yL) (i k:Nat):Prop:=∃ d ∈ D,d.From=(i:Int)∧d.To=(k:Int)
inductive Cn (D:List yL):Nat→Nat→Prop where
  | refl (x:Nat):Cn D x x
  | edge {x y:Nat} (h:EE D x y):Cn D x y
  | symm {x y:Nat} (h:Cn D x y):Cn D y x
  | trans {x y z:Nat} (h:Cn D x y) (k:Cn D y z):Cn D x z
def GL (D:List yL) (n:Nat) (g:Nat→Int):Prop:=∀ x,x < n→∃ y:Nat,g x=(y:Int)∧y ≤ x∧Cn D x y
def FE (D:List yL) (g:Nat→Int):Prop:=∀ d ∈ D,g d.From.toNat=g d.To.toNat
theorem FE.conn {D:List yL}{g:Nat→Int} (h:FE D g) {x y:Nat} (c:Cn D x y):g x=g y:=by
  induction c with
  | refl x=>rfl
  | edge e =>
    obtain ⟨d,hd,e1,e2⟩:=e;have:=h d hd;rw [e1,e2,iN,iN] at this;exact this
  | symm _ ih=>exact ih.symm
  | trans _ _ ih1 ih2=>exact ih1.trans ih2
theorem conn_le {D:List yL}{n:Nat}{g h:Nat→Int} (hg:GL D n g) (hh:GL D n h) (fh:FE D h) {x:Nat} (hx:x < n):h x ≤ g x:=by
  obtain ⟨y,e1,h1,c1⟩:=hg x hx;obtain ⟨z,e2,h2,c2⟩:=hh y (by omega);rw [fh.conn c1,e2,e1];omega
theorem conn_uniq {D:List yL}{n:Nat}{g h:Nat→Int} (hg:GL D n g) (fg:FE D g) (hh:GL D n h) (fh:FE D h):stL n g=stL n h :=
  zJb fun x hx=>Int.le_antisymm (conn_le hh hg fg hx) (conn_le hg hh fh hx)
def mnC (s:(Nat→Int)×Bool) (d:yL):Int:=if s.1 d.To.toNat < s.1 d.From.toNat then s.1 d.To.toNat else s.1 d.From.toNat
theorem mnC_le (s:(Nat→Int)×Bool) (d:yL):mnC s d ≤ s.1 d.From.toNat∧mnC s d ≤ s.1 d.To.toNat:=by
  unfold mnC;split <;> omega
def stpC (s:(Nat→Int)×Bool) (d:yL):(Nat→Int)×Bool :=
  if s.1 d.From.toNat ≠ mnC s d∨s.1 d.To.toNat ≠ mnC s d then (upd (upd s.1 d.From.toNat (mnC s d)) d.To.toNat (mnC s d),true) else s
theorem stpC_no {s:(Nat→Int)×Bool}{d:yL} (h:(stpC s d).2=false):stpC s d=s∧s.2=false∧s.1 d.From.toNat=s.1 d.To.toNat:=by
  unfold stpC at h ⊢;by_cases hc:s.1 d.From.toNat ≠ mnC s d∨s.1 d.To.toNat ≠ mnC s d
  · rw [if_pos hc] at h; cases h
  · rw [if_neg hc] at h ⊢;exact ⟨rfl,h,by omega⟩
theorem foldC_no:∀ (D:List yL) (s:(Nat→Int)×Bool),(D.foldl stpC s).2=false→(D.foldl stpC s)=s∧s.2=false∧FE D s.1
  | [],s,h=>⟨rfl,h,fun d hd=>by cases hd⟩
  | d::D,s,h=>by
    rw [List.foldl_cons] at h ⊢
    obtain ⟨h1,h2,h3⟩:=foldC_no D _ h
    obtain ⟨k1,k2,k3⟩:=stpC_no h2
    rw [k1] at h1 h3 ⊢
    refine ⟨h1,k2,fun e he=>?_⟩
    rcases List.mem_cons.1 he with rfl | he
    · exact k3
    · exact h3 e he
theorem stpC_le (s:(Nat→Int)×Bool) (d:yL) (x:Nat):(stpC s d).1 x ≤ s.1 x:=by
  obtain ⟨h1,h2⟩:=mnC_le s d;unfold stpC;by_cases hc:s.1 d.From.toNat ≠ mnC s d∨s.1 d.To.toNat ≠ mnC s d
  · rw [if_pos hc];show upd (upd s.1 d.From.toNat (mnC s d)) d.To.toNat (mnC s d) x ≤ _;unfold upd;by_cases e1:x=d.To.toNat
    · rw [if_pos e1,e1]; exact h2
    · rw [if_neg e1];by_cases e2:x=d.From.toNat
      · rw [if_pos e2,e2]; exact h1
      · rw [if_neg e2]; exact Int.le_refl _
  · rw [if_neg hc]; exact Int.le_refl _
theorem foldC_le:∀ (D:List yL) (s:(Nat→Int)×Bool) (x:Nat),(D.foldl stpC s).1 x ≤ s.1 x
  | [],s,x=>Int.le_refl _
  | d::D,s,x=>by rw [List.foldl_cons]; exact Int.le_trans (foldC_le D _ x) (stpC_le s d x)
theorem stpC_lt {n:Nat}{s:(Nat→Int)×Bool}{d:yL} (hd:DB n d) (hs:s.2=false) (h:(stpC s d).2=true):∃ x,x < n∧(stpC s d).1 x < s.1 x:=by
  obtain ⟨i,k,e1,e2,h1,h2⟩:=hd;obtain ⟨g1,g2⟩:=mnC_le s d;unfold stpC at h ⊢;rw [e1,e2,iN,iN] at h ⊢;rw [e1,iN] at g1;rw [e2,iN] at g2;by_cases hc:s.1 i ≠ mnC s d∨s.1 k ≠ mnC s d
  · rw [if_pos hc];show ∃ x,x < n∧upd (upd s.1 i (mnC s d)) k (mnC s d) x < s.1 x;unfold upd;rcases hc with hc | hc
    · refine ⟨i,h1,?_⟩;by_cases e:i=k
      · rw [if_pos e]; omega
      · rw [if_neg e,if_pos rfl]; omega
    · refine ⟨k,h2,?_⟩;rw [if_pos rfl]; omega
  · rw [if_neg hc,hs] at h; cases h
theorem foldC_lt {n:Nat}:∀ (D:List yL) (s:(Nat→Int)×Bool),(∀ d ∈ D,DB n d)→s.2=false→(D.foldl stpC s).2=true→∃ x,x < n∧(D.foldl stpC s).1 x < s.1 x
  | [],s,_,hs,h=>by rw [List.foldl_nil,hs] at h; cases h
  | d::D,s,hD,hs,h=>by
    rw [List.foldl_cons] at h ⊢
    cases hb:(stpC s d).2 with
    | false =>
      obtain ⟨k1,_,_⟩:=stpC_no hb
      rw [k1] at h ⊢
      exact foldC_lt D s (fun e he=>hD e (List.mem_cons_of_mem _ he)) hs h
    | true =>
      obtain ⟨x,hx,hl⟩:=stpC_lt (hD d (List.mem_cons_self ..)) hs hb
      exact ⟨x,hx,Int.lt_of_le_of_lt (foldC_le D _ x) hl⟩
theorem GL_min {D:List yL}{n:Nat}{g:Nat→Int} (hg:GL D n g) {i k:Nat} (hi:i < n) (hk:k < n) (e:EE D i k):∃ y:Nat,(if g k < g i then g k else g i)=(y:Int)∧y ≤ i∧y ≤ k∧Cn D i y∧Cn D k y:=by
  obtain ⟨a,a1,a2,a3⟩:=hg i hi;obtain ⟨b,b1,b2,b3⟩:=hg k hk;by_cases h:g k < g i
  · rw [if_pos h];exact ⟨b,b1,by omega,b2,.trans (.edge e) b3,b3⟩
  · rw [if_neg h];exact ⟨a,a1,a2,by omega,a3,.trans (.symm (.edge e)) a3⟩
theorem stpC_GL {D:List yL}{n:Nat}{s:(Nat→Int)×Bool}{d:yL} (hD:d ∈ D) (hd:DB n d) (hg:GL D n s.1):GL D n (stpC s d).1:=by
  obtain ⟨i,k,e1,e2,h1,h2⟩:=hd;obtain ⟨y,m1,m2,m3,m4,m5⟩:=GL_min hg h1 h2 ⟨d,hD,e1,e2⟩;unfold stpC mnC;rw [e1,e2,iN,iN,m1];split
  · intro x hx;show ∃ z:Nat,upd (upd s.1 i (y:Int)) k (y:Int) x=(z:Int)∧_;unfold upd;by_cases a1:x=k
    · rw [if_pos a1,a1]; exact ⟨y,rfl,m3,m5⟩
    · rw [if_neg a1];by_cases a2:x=i
      · rw [if_pos a2,a2]; exact ⟨y,rfl,m2,m4⟩
      · rw [if_neg a2]; exact hg x hx
  · exact hg
theorem foldC_GL {D:List yL}{n:Nat}:∀ (L:List yL) (s:(Nat→Int)×Bool),(∀ d ∈ L,d ∈ D)→(∀ d ∈ L,DB n d)→GL D n s.1→GL D n (L.foldl stpC s).1
  | [],s,_,_,h=>h
  | d::L,s,h1,h2,h=>by
    rw [List.foldl_cons]
    exact foldC_GL L _ (fun e he=>h1 e (List.mem_cons_of_mem _ he)) (fun e he=>h2 e (List.mem_cons_of_mem _ he)) (stpC_GL (h1 d (List.mem_cons_self ..)) (h2 d (List.mem_cons_self ..)) h)
def smF (g:Nat→Int):Nat→Nat
  | 0=>0
  | n + 1=>smF g n + (g n).toNat
theorem smF_le {f g:Nat→Int} (h:∀ x,f x ≤ g x):∀ n,smF f n ≤ smF g n
  | 0=>Nat.le_refl _
  | n + 1=>by
    have:=smF_le h n
    have:=h n
    rw [smF,smF]; omega
theorem smF_lt {f g:Nat→Int} (h:∀ x,f x ≤ g x):∀ {n x:Nat},x < n→0 ≤ f x→f x < g x→smF f n < smF g n
  | n + 1,x,hx,h0,hl=>by
    have h1:=smF_le h n
    have h2:=h n
    rw [smF,smF]
    by_cases e:x=n
    · subst e; omega
    · have:=smF_lt h (n:=n) (x:=x) (by omega) h0 hl
      omega
theorem connI_l3 {D:List yL}{n:Nat} (hD:∀ d ∈ D,DB n d) (hl:D.length ≤ 1000000):∀ (j q:Nat) (s:(Nat→Int)×Bool),q + j=D.length→M.impl_ConnectedParts_l3 D (stL n s.1) s.2 (q:Int)=some (stL n ((D.drop q).foldl stpC s).1,((D.drop q).foldl stpC s).2):=by
  intro j
  induction j with
  | zero =>
    intro q s hq;rw [M.impl_ConnectedParts_l3];have:¬((q:Int) < (D.length:Int)):=by omega
    simp only [this,decide_false,bF,if_false,oP,id];rw [List.drop_eq_nil_iff.2 (by omega)]; rfl
  | succ j ih =>
    intro q s hq;rw [M.impl_ConnectedParts_l3];have hlt:q < D.length:=by omega
    have hc:((q:Int) < (D.length:Int)):=by omega
    obtain ⟨i,k,e1,e2,h1,h2⟩:=hD D[q] (List.getElem_mem hlt);rw [gC hlt,List.foldl_cons];have es:stpC s D[q]=if s.1 i ≠ (if s.1 k < s.1 i then s.1 k else s.1 i)∨s.1 k ≠ (if s.1 k < s.1 i then s.1 k else s.1 i) then (upd (upd s.1 i (if s.1 k < s.1 i then s.1 k else s.1 i)) k (if s.1 k < s.1 i then s.1 k else s.1 i),true) else s:=by
      unfold stpC mnC;rw [e1,e2,iN,iN]
    rw [es];simp only [hc,decide_true,if_true,yX hlt,oB,oS,oP,id,e1,e2,zJr h1,zJr h2,iN,zJs h1,zJs h2];rw [uP (show q < 9223372036854775807 by omega)];generalize (if s.1 k < s.1 i then s.1 k else s.1 i)=m;by_cases a1:s.1 i=m
    · have b1:(s.1 i != m)=false:=by simpa using a1
      by_cases a2:s.1 k=m
      · have b2:(s.1 k != m)=false:=by simpa using a2
        rw [if_neg (c:=s.1 i ≠ m∨s.1 k ≠ m) fun h=>h.elim (fun h=>h a1) fun h=>h a2];simp only [b1,b2,bF,if_false,oS];exact ih (q + 1) s (by omega)
      · have b2:(s.1 k != m)=true:=by simpa using a2
        rw [if_pos (c:=s.1 i ≠ m∨s.1 k ≠ m) (.inr a2)];simp only [b1,b2,bF,if_false,if_true,oS];exact ih (q + 1) (upd (upd s.1 i m) k m,true) (by omega)
    · have b1:(s.1 i != m)=true:=by simpa using a1
      rw [if_pos (c:=s.1 i ≠ m∨s.1 k ≠ m) (.inl a1)];simp only [b1,if_true,oS];exact ih (q + 1) (upd (upd s.1 i m) k m,true) (by omega)
theorem connI_l2 {D:List yL}{n:Nat} (hD:∀ d ∈ D,DB n d) (hl:D.length ≤ 1000000):∀ (N:Nat) (g:Nat→Int),smF g n ≤ N→GL D n g→∃ h,M.impl_ConnectedParts_l2 D (stL n g) true=some (stL n h)∧GL D n h∧FE D h:=by
  intro N
  induction N with
  | zero =>
    intro g hN hg;have h3:=connI_l3 hD hl _ 0 (g,false) (Nat.zero_add D.length);rw [Int.natCast_zero,List.drop_zero] at h3;rw [M.impl_ConnectedParts_l2];simp only [if_true,h3,oB,oS];cases hb:(D.foldl stpC (g,false)).2 with
    | false =>
      obtain ⟨k1,_,k3⟩:=foldC_no D (g,false) hb;rw [k1];exact ⟨g,by rw [M.impl_ConnectedParts_l2]; rfl,hg,k3⟩
    | true =>
      obtain ⟨x,hx,hlt⟩:=foldC_lt D (g,false) hD rfl hb;have hG:=foldC_GL D (g,false) (fun _ h=>h) hD hg;obtain ⟨y,hy,_⟩:=hG x hx;have:=smF_lt (fun x=>foldC_le D (g,false) x) hx (by omega) hlt;have:smF g n=0:=by omega
      have:smF (g,false).1 n=smF g n:=rfl;omega
  | succ N ih =>
    intro g hN hg;have h3:=connI_l3 hD hl _ 0 (g,false) (Nat.zero_add D.length);rw [Int.natCast_zero,List.drop_zero] at h3;rw [M.impl_ConnectedParts_l2];simp only [if_true,h3,oB,oS];cases hb:(D.foldl stpC (g,false)).2 with
    | false =>
      obtain ⟨k1,_,k3⟩:=foldC_no D (g,false) hb;rw [k1];exact ⟨g,by rw [M.impl_ConnectedParts_l2]; rfl,hg,k3⟩
    | true =>
      obtain ⟨x,hx,hlt⟩:=foldC_lt D (g,false) hD rfl hb;have hG:=foldC_GL D (g,false) (fun _ h=>h) hD hg;obtain ⟨y,hy,_⟩:=hG x hx;have:=smF_lt (fun x=>foldC_le D (g,false) x) hx (by omega) hlt;have:smF (g,false).1 n=smF g n:=rfl;exact ih _ (by omega) hG
def rel (g:Nat→Int) (a b:Int):Nat→Int:=fun x=>if g x=b then a else g x
def stpR (g:Nat→Int) (d:yL):Nat→Int :=
  if g d.To.toNat < g d.From.toNat then rel g (g d.To.toNat) (g d.From.toNat) else rel g (g d.From.toNat) (g d.To.toNat)
theorem stpR_eq {g:Nat→Int}{d:yL}{x y:Nat} (h:g x=g y):stpR g d x=stpR g d y:=by
  unfold stpR rel;split <;> (dsimp only; rw [h])
theorem stpR_one (g:Nat→Int) (d:yL):stpR g d d.From.toNat=stpR g d d.To.toNat:=by
  unfold stpR rel;split
  · dsimp only;rw [if_pos rfl];split <;> rfl
  · dsimp only;rw [if_pos (c:=g d.To.toNat=g d.To.toNat) rfl];split <;> rfl
theorem foldR_eq:∀ (L:List yL) (g:Nat→Int) (x y:Nat),g x=g y→L.foldl stpR g x=L.foldl stpR g y
  | [],g,x,y,h=>h
  | d::L,g,x,y,h=>foldR_eq L _ x y (stpR_eq h)
theorem foldR_FE:∀ (L:List yL) (g:Nat→Int),FE L (L.foldl stpR g)
  | [],g=>fun d hd=>by cases hd
  | d::L,g=>by
    intro e he
    rw [List.foldl_cons]
    rcases List.mem_cons.1 he with rfl | he
    · exact foldR_eq L _ _ _ (stpR_one g e)
    · exact foldR_FE L _ e he
theorem rel_GL {D:List yL}{n:Nat}{g:Nat→Int} (hg:GL D n g) {i k:Nat} (hi:i < n) (hk:k < n) (c:Cn D i k) (h:g i ≤ g k):GL D n (rel g (g i) (g k)):=by
  intro x hx;unfold rel;obtain ⟨a,a1,a2,a3⟩:=hg i hi;obtain ⟨b,b1,b2,b3⟩:=hg k hk;obtain ⟨z,z1,z2,z3⟩:=hg x hx;by_cases e:g x=g k
  · rw [if_pos e];have:z=b:=by omega
    subst this;exact ⟨a,a1,by omega,.trans z3 (.trans (.symm b3) (.trans (.symm c) a3))⟩
  · rw [if_neg e]; exact ⟨z,z1,z2,z3⟩
theorem stpR_GL {D:List yL}{n:Nat}{g:Nat→Int}{d:yL} (hD:d ∈ D) (hd:DB n d) (hg:GL D n g):GL D n (stpR g d):=by
  obtain ⟨i,k,e1,e2,h1,h2⟩:=hd;have c:Cn D i k:=.edge ⟨d,hD,e1,e2⟩;unfold stpR;rw [e1,e2,iN,iN];split
  · exact rel_GL hg h2 h1 c.symm (by omega)
  · exact rel_GL hg h1 h2 c (by omega)
theorem foldR_GL {D:List yL}{n:Nat}:∀ (L:List yL) (g:Nat→Int),(∀ d ∈ L,d ∈ D)→(∀ d ∈ L,DB n d)→GL D n g→GL D n (L.foldl stpR g)
  | [],g,_,_,h=>h
  | d::L,g,h1,h2,h=>by
    rw [List.foldl_cons]
    exact foldR_GL L _ (fun e he=>h1 e (List.mem_cons_of_mem _ he)) (fun e he=>h2 e (List.mem_cons_of_mem _ he)) (stpR_GL (h1 d (List.mem_cons_self ..)) (h2 d (List.mem_cons_self ..)) h)
theorem connS_l3 {n:Nat} (hn:n ≤ 1000000) (g:Nat→Int) (a b:Int):∀ (j k:Nat),k + j=n→M.spec_ConnectedParts_l3 a b (stL n fun x=>if x < k then rel g a b x else g x) (k:Int)=some (stL n (rel g a b)):=by
  intro j
  induction j with
  | zero =>
    intro k hk;rw [M.spec_ConnectedParts_l3];have:¬((k:Int) < ((stL n fun x=>if x < k then rel g a b x else g x).length:Int)):=by rw [zF1]; omega
    simp only [this,decide_false,bF,if_false,oP,id];exact congrArg some (zJb fun x hx=>by rw [if_pos (by omega)])
  | succ j ih =>
    intro k hk;rw [M.spec_ConnectedParts_l3];have hc:((k:Int) < ((stL n fun x=>if x < k then rel g a b x else g x).length:Int)):=by rw [zF1]; omega
    have hlt:k < n:=by omega
    simp only [hc,decide_true,if_true,zJr hlt,Nat.lt_irrefl,if_false,oB,oS,oP,id,iN,zJs hlt];rw [uP (show k < 9223372036854775807 by omega),← ih (k + 1) (by omega)];by_cases e:g k=b
    · have e1:(g k == b)=true:=by simpa using e
      simp only [e1,if_true,oS]
      congr 1
      refine zJb fun x hx=>?_;unfold upd;by_cases e2:x=k
      · rw [if_pos e2,if_pos (by omega),e2];unfold rel;rw [if_pos e]
      · rw [if_neg e2];dsimp only;by_cases e3:x < k
        · rw [if_pos e3,if_pos (by omega)]
        · rw [if_neg e3,if_neg (by omega)]
    · have e1:(g k == b)=false:=by simpa using e
      simp only [e1,bF,if_false,oS]
      congr 1
      refine zJb fun x hx=>?_;by_cases e2:x=k
      · rw [if_neg (by omega),if_pos (by omega),e2];unfold rel;rw [if_neg e]
      · by_cases e3:x < k
        · rw [if_pos e3,if_pos (by omega)]
        · rw [if_neg e3,if_neg (by omega)]
theorem connS_l2 {D:List yL}{n:Nat} (hn:n ≤ 1000000) (hD:∀ d ∈ D,DB n d) (hl:D.length ≤ 1000000):∀ (j q:Nat) (g:Nat→Int),q + j=D.length→M.spec_ConnectedParts_l2 D (stL n g) (q:Int)=some (stL n ((D.drop q).foldl stpR g)):=by
  intro j
  induction j with
  | zero =>
    intro q g hq;rw [M.spec_ConnectedParts_l2];have:¬((q:Int) < (D.length:Int)):=by omega
    simp only [this,decide_false,bF,if_false,oP,id];rw [List.drop_eq_nil_iff.2 (by omega)]; rfl
  | succ j ih =>
    intro q g hq;rw [M.spec_ConnectedParts_l2];have hlt:q < D.length:=by omega
    have hc:((q:Int) < (D.length:Int)):=by omega
    obtain ⟨i,k,e1,e2,h1,h2⟩:=hD D[q] (List.getElem_mem hlt);rw [gC hlt,List.foldl_cons];have es:stpR g D[q]=if g k < g i then rel g (g k) (g i) else rel g (g i) (g k):=by
      unfold stpR;rw [e1,e2,iN,iN]
    have h3:∀ a b,M.spec_ConnectedParts_l3 a b (stL n g) 0=some (stL n (rel g a b)):=fun a b=>by
      have:=connS_l3 hn g a b n 0 (Nat.zero_add _);rw [Int.natCast_zero] at this;rw [← this]
      congr 1
    rw [es];simp only [hc,decide_true,if_true,yX hlt,oB,oS,oP,e1,e2,zJr h1,zJr h2];rw [uP (show q < 9223372036854775807 by omega)];by_cases hw:g k < g i
    · simp only [hw,decide_true,if_true,oS,h3];exact ih (q + 1) _ (by omega)
    · simp only [hw,decide_false,bF,if_false,oS,h3];exact ih (q + 1) _ (by omega)
def insF (P:zK):List zQ:=if validP P then progI P else []
theorem insF_len {P:zK}:(insF P).length ≤ 120:=by
  unfold insF;split
  · rename_i hv; exact (jU hv).2.2.2
  · simp
theorem dpF_DB {P:zK}:∀ d ∈ dpF P,DB (insF P).length d:=by
  intro d hd;unfold dpF at hd;unfold insF;split at hd
  · rename_i hv;rw [if_pos hv]; exact zJt d hd
  · cases hd
theorem idI_l1 {l:List zQ} (hl:l.length ≤ 1000000):∀ (j i:Nat),i + j=l.length→M.impl_ConnectedParts_l1 l (stL i fun x=>(x:Int)) (i:Int)=some (stL l.length fun x=>(x:Int)):=by
  intro j
  induction j with
  | zero =>
    intro i hi;rw [M.impl_ConnectedParts_l1];have:¬((i:Int) < (l.length:Int)):=by omega
    simp only [this,decide_false,bF,if_false,oP,id];rw [show i=l.length by omega]
  | succ j ih =>
    intro i hi;rw [M.impl_ConnectedParts_l1];have hc:((i:Int) < (l.length:Int)):=by omega
    simp only [hc,decide_true,if_true,qX (show ((stL i fun x=>(x:Int)).length + [(i:Int)].length) * 8 ≤ 140737488355328 by rw [zF1]; simp; omega),oB,oS];rw [uP (by omega),← ih (i + 1) (by omega)]
    congr 1
    unfold stL;rw [List.range_succ,List.map_append]; rfl
theorem idS_l1 {P:zK} (hb:BG P):∀ (j i:Nat),i + j=(insF P).length→M.spec_ConnectedParts_l1 P (stL i fun x=>(x:Int)) (i:Int)=some (stL (insF P).length fun x=>(x:Int)):=by
  have hl:=insF_len (P:=P);have hs:M.spec_ProgramInstances P=some (insF P):=specInstP P hb;intro j
  induction j with
  | zero =>
    intro i hi;rw [M.spec_ConnectedParts_l1];have:¬((i:Int) < ((insF P).length:Int)):=by omega
    simp only [hs,this,decide_false,bF,if_false,oB,oS,oP,id];rw [show i=(insF P).length by omega]
  | succ j ih =>
    intro i hi;rw [M.spec_ConnectedParts_l1];have hc:((i:Int) < ((insF P).length:Int)):=by omega
    simp only [hs,hc,decide_true,if_true,qX (show ((stL i fun x=>(x:Int)).length + [(i:Int)].length) * 8 ≤ 140737488355328 by rw [zF1]; simp; omega),oB,oS];rw [uP (by omega),← ih (i + 1) (by omega)]
    congr 1
    unfold stL;rw [List.range_succ,List.map_append]; rfl
theorem GL_id (D:List yL) (n:Nat):GL D n fun x=>(x:Int):=fun x _=>⟨x,rfl,Nat.le_refl _,.refl x⟩
theorem connV (P:zK) (hb:BG P):∃ h,M.impl_ConnectedParts P=some (stL (insF P).length h)∧M.spec_ConnectedParts P=some (stL (insF P).length h)∧GL (dpF P) (insF P).length h∧FE (dpF P) h:=by
  have hl:=insF_len (P:=P);have hd:=dpF_len (P:=P);have i1:=idI_l1 (l:=insF P) (by omega) _ 0 (Nat.zero_add _);have s1:=idS_l1 hb _ 0 (Nat.zero_add _);have e0:(stL 0 fun x=>(x:Int))=[]:=rfl;rw [e0,Int.natCast_zero] at i1 s1;obtain ⟨h,i2,g1,f1⟩:=connI_l2 dpF_DB (by omega) _ (fun x=>(x:Int)) (Nat.le_refl (smF (fun x=>(x:Int)) (insF P).length)) (GL_id (dpF P) _);have s2:=connS_l2 (by omega) (dpF_DB (P:=P)) (by omega) _ 0 (fun x=>(x:Int)) (Nat.zero_add _);rw [List.drop_zero,Int.natCast_zero] at s2;have hi:pC P=some (insF P):=implInstP P hb;refine ⟨h,?_,?_,g1,f1⟩
  · unfold M.impl_ConnectedParts;simp only [hi,implDeps P hb,i1,i2,oB,oS,oP,id]
  · unfold M.spec_ConnectedParts;simp only [specDeps P hb,s1,s2,oB,oS,oP,id];exact congrArg some (conn_uniq (foldR_GL _ _ (fun _ h=>h) dpF_DB (GL_id _ _)) (foldR_FE _ _) g1 f1)
theorem nlaw_l1 {D:List yL}{n:Nat} (hD:∀ d ∈ D,DB n d) (hl:D.length ≤ 1000000) {g:Nat→Int} (f:FE D g):M.laws_FnConnectedParts_l1 (stL n g) D 0=some (.done ()):=by
  have h:=jB (n:=D.length) (f:=M.laws_FnConnectedParts_l1 (stL n g) D) (P:=fun _=>true) (fun i hi=>by
      rw [M.laws_FnConnectedParts_l1];have h1:((i:Int) < (D.length:Int)):=by omega
      obtain ⟨a,k,e1,e2,k1,k2⟩:=hD D[i] (List.getElem_mem hi);have h3:=f D[i] (List.getElem_mem hi);rw [e1,e2,iN,iN] at h3;simp only [h1,decide_true,if_true,yX hi,e1,e2,zJr k1,zJr k2,h3,bne_self_eq_false,oB,oS,oP,bF,if_false];rw [uP (by omega)]) (by
      rw [M.laws_FnConnectedParts_l1];simp)
  rw [h];have:((List.range D.length).all fun _=>true)=true:=by simp
  simp [this]
theorem nlaw_l2 {D:List yL}{n:Nat} (hn:n ≤ 1000000) {g:Nat→Int} (hg:GL D n g) (f:FE D g):M.laws_FnConnectedParts_l2 (stL n g) 0=some (.done ()):=by
  have h:=jB (n:=n) (f:=M.laws_FnConnectedParts_l2 (stL n g)) (P:=fun _=>true) (fun i hi=>by
      rw [M.laws_FnConnectedParts_l2];have h1:((i:Int) < ((stL n g).length:Int)):=by rw [zF1]; omega
      obtain ⟨y,e1,h2,c⟩:=hg i hi;have h3:g y=(y:Int):=by rw [← f.conn c,e1]
      have h4:¬((y:Int) > (i:Int)):=by omega
      simp only [h1,decide_true,if_true,zJr hi,e1,zJr (show y < n by omega),h3,h4,decide_false,bne_self_eq_false,oB,oS,oP,bF,if_false];rw [uP (by omega)]) (by
      rw [M.laws_FnConnectedParts_l2];have h1:¬((n:Int) < ((stL n g).length:Int)):=by rw [zF1]; omega
      simp only [h1,decide_false,bF,if_false,oP])
  rw [h];have:((List.range n).all fun _=>true)=true:=by simp
  simp [this]
theorem law_ConnectedParts (code:List UInt8):∃ r,M.laws_FnConnectedParts code=some r∧r=true:=by
  obtain ⟨y,hy,hb,hAR⟩:=drawProg code;unfold M.laws_FnConnectedParts;refine ⟨true,?_,rfl⟩;have hd:M.spec_DrawConnectedParts code=some y:=by unfold M.spec_DrawConnectedParts; rw [hy]; rfl
  by_cases h1:(code.length:Int) > 1048576
  · simp [h1]
  · have hl:=insF_len (P:=y);have hdl:=dpF_len (P:=y);obtain ⟨h,c1,c2,hg,f⟩:=connV y hb;have hr:=ints_refl (stL (insF y).length h) (by rw [zF1]; omega);have hi:pC y=some (insF y):=implInstP y hb;simp only [h1,decide_false,bF,if_false,hd,c1,c2,hr,Bool.not_true,implDeps y hb,nlaw_l1 dpF_DB (show (dpF y).length ≤ 1000000 by omega) f,nlaw_l2 (show (insF y).length ≤ 1000000 by omega) hg f,hi,zF1,beq_self_eq_true,oP,oB,oS]
end Go.LN
