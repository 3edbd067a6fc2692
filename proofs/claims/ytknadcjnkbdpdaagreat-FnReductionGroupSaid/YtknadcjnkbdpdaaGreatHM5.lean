/- Helper of the proof (see the last text). -/
import Derived.Test.YtknadcjnkbdpdaaGreatHM4
set_option linter.unusedVariables false
set_option linter.unusedSimpArgs false
namespace Go.LN
open Go.Proofs
set_option maxRecDepth 20000
def zAO (b0:Nat) (r:zN×zO):KT:=fun kk I' hs' v=>
  ∃ v0 k0,hs'=[.blk b0 ⟨k0⟩]∧v=tupV [v0]∧(∃ cs,v0=.agg ⟨cs⟩∧Rp.rep I' cs r.1)∧Rp.rep I' k0 r.2
def qZ (y1:(List zD)) (Body2:List zI) (n0:Int) (x6:zO):Option ((List zI×zO)):=do
 if (decide (n0 < 5)) then
  let (y7,y8)←jL x6 (y1.length:Int)
  let y9←nM
  let (y11,y12)←pJ y9 (zN.mk y1 ([y7]:List zI))
  if y12 then
   let l←app 152 Body2 ([y7]:List zI)
   pure (l,y8)
  else
   qZ y1 Body2 (W (n0 + 1)) y8
 else
  pure (Body2,x6)
 partial_fixpoint
theorem zDG (y1:(List zD)) (Body2:List zI):∀ (n0:Int) (x6:zO) (o:(List zI×zO)),qZ y1 Body2 n0 x6=some o→∀ {B}{I0 I:Imm}{Q}{i:Int}{x:zN}{k0:Int}{r01:Nat}{b:Nat}{p1 c1 p2 c2 p7 c7}{b1:Nat}{p14 c14 cs2 p15 c15},I0.le I→(S4 I p7 y1 c7)→(S4 I p1 x.Nest c1)→(S4 I p2 x.Body c2)→(RL I cs2 Body2)→(S4 I p15 x6.b c15)→NG Q→NO Q→(∀ (I':Imm) (Body3:List zI) (x7:zO) (p16:Option Addr) (c16:Nat) (cs3:List Value) (p17:Option Addr) (c17:Nat),o=(Body3,x7)→I0.le I'→(RL I' cs3 Body3)→(S4 I' p17 x7.b c17)→T 81 B Q (.exit 4) I' [hO zI (vS p16 Body3 c16) cs3,hB r01 (cRd x7 p17 c17),hB b1 [vS p7 y1 c7,vS p16 Body3 c16],hB b (cPart x p1 c1 p2 c2)] [(0,vP r01 0),(2,vP b 0),(3,vI i),(4,vP b1 0),(5,vI k0)])→J Tryz.prog 81 B (nav (bodyOf Tryz.f86) [1,0,1,0,0,1,0,0,1,0,1,0,0,1,0,0,1,0]) Q I [hO zI (vS p14 Body2 c14) cs2,hB r01 (cRd x6 p15 c15),hB b1 [vS p7 y1 c7,vS p14 Body2 c14],hB b (cPart x p1 c1 p2 c2)] [(0,vP r01 0),(2,vP b 0),(3,vI i),(4,vP b1 0),(5,vI k0),(6,vI n0)]:=by
 refine qZ.partial_correctness y1 Body2 _ fun self ih n0 x6 o N B I0 I Q i x k0 r01 b p1 c1 p2 c2 p7 c7 b1 p14 c14 cs2 p15 c15 H h7 h1 h2 h20 h21 hg ho hx=>yZ hg ho<|yG<|yF [(31,.bool (decide (n0 < 5)))]<|zM<|yL N ?_ ?_
 · intro hc2 N;refine zW<|yI<|yP<|yK<|yD 4 [2] [(34,vP r01 0),(37,vI (y1.length:Int))]<|sU (yB [1,0,2,3] (hs':=[hB r01 (cRd x6 p15 c15),hO zI (vS p14 Body2 c14) cs2,hB b1 [vS p7 y1 c7,vS p14 Body2 c14],hB b (cPart x p1 c1 p2 c2)])) ?_;obtain ⟨⟨y7,y8⟩,hy2,N⟩:=zB N;refine tM [hB r01 (cRd x6 p15 c15)] [hO zI (vS p14 Body2 c14) cs2,hB b1 [vS p7 y1 c7,vS p14 Body2 c14],hB b (cPart x p1 c1 p2 c2)] (zFJ x6 (y1.length:Int) _ hy2 h21) ?_;rintro I03 hs2 v2 k2 le3 - ⟨v04,kk2,rfl,rfl,⟨cs4,rfl,h24⟩,h25⟩ -;have h20:=iM le3 h20;have h7:=h7.mono le3;have h1:=h1.mono le3;have h2:=h2.mono le3;have H:=H.trans le3;obtain ⟨p18,c18,p19,c19,p20,c20,p21,c21,rfl,h26,h27,h28,h29⟩:=tQ h24;obtain ⟨p22,c22,rfl,h30⟩:=yE h25;refine wR [vT ([]),z0,vI 0,vI 0,z0,vI 0,vT ([]),z0,z0] ?_;intro b3 hb3;refine xE 0 (cStmt y7 p18 c18 p19 c19 p20 c20 p21 c21) [hB b3 (cStmt y7 p18 c18 p19 c19 p20 c20 p21 c21),hB r01 (cRd y8 p22 c22),hO zI (vS p14 Body2 c14) cs2,hB b1 [vS p7 y1 c7,vS p14 Body2 c14],hB b (cPart x p1 c1 p2 c2)] rfl rfl rfl rfl<|yH rfl<|zM<|yG ?_;obtain ⟨y9,hy3,N⟩:=zB N;obtain ⟨⟨y11,y12⟩,hy4,N⟩:=zB N;refine wA [.x (fun I' v hx=>∃ p23 c23,v=vS p23 y9 c23∧hx=[]∧(S4 I' p23 y9 c23)),.p (vP b1 0) [],.p (vS p7 y1 c7) [3],.p (vA (cStmt y7 p18 c18 p19 c19 p20 c20 p21 c21)) [0],.x (fun I' v hx=>∃ b4,v=vS (some ⟨b4,0,none⟩) ([y7]:List zI) 1∧hx=[]∧(SL I' (vS (some ⟨b4,0,none⟩) ([y7]:List zI) 1) ([y7]:List zI))),.x (fun I' v hx=>∃ b41,v=vA [vS p7 y1 c7,vS (some ⟨b41,0,none⟩) ([y7]:List zI) 1]∧hx=[]∧(SL I' (vS (some ⟨b41,0,none⟩) ([y7]:List zI) 1) ([y7]:List zI))),.q (.tuple ⟨[vI y11,.bool y12]⟩),.p (.tuple ⟨[vI y11,.bool y12]⟩) [],.p (vI y11) [],.p (.bool y12) [],.p (vI y11) []] [[],[],[(1,false)],[],[(3,false)],[(2,false),(4,false)],[(0,false),(5,false)],[(6,false)],[(7,false)],[(7,false)],[(8,false)]] [hB b3 (cStmt y7 p18 c18 p19 c19 p20 c20 p21 c21),hB r01 (cRd y8 p22 c22),hO zI (vS p14 Body2 c14) cs2,hB b1 [vS p7 y1 c7,vS p14 Body2 c14],hB b (cPart x p1 c1 p2 c2)] [] [(9,false)] (yB [0,1,2,3,4]) ?_ ?_
   · refine Ox ?_<|Op<|Op<|Op<|Ox ?_<|Ox ?_<|Oq ?_<|Op<|Op<|Op<|Op<|On
     · intro I1 hf le1;refine yM [] ?_;have H:=iS I1;refine xT (gG  _ hy3 ) ?_;rintro I04 hs2 v2 k2 le4 - ⟨v010,rfl,rfl,h31⟩ -;have H:=H.trans le4;obtain ⟨p23,c23,rfl⟩:=h31.form;exact yO [] H ⟨_,_,rfl,rfl,h31⟩
     · intro I1 hf le1;refine yM [(43,vA (cStmt y7 p18 c18 p19 c19 p20 c20 p21 c21))] ?_;have H:=iS I1;have h26:=h26.mono le1;have h27:=h27.mono le1;have h28:=h28.mono le1;have h29:=h29.mono le1;refine xY (cStmt y7 p18 c18 p19 c19 p20 c20 p21 c21) zI ?_;intro b4 hb4;have h32:RL I1 (cStmt y7 p18 c18 p19 c19 p20 c20 p21 c21) ([y7]:List zI):=⟨(cStmt y7 p18 c18 p19 c19 p20 c20 p21 c21),_,rfl,rfl,(wM ⟨_,_,_,_,rfl,h26,h27,h28,h29⟩),rfl⟩;refine yJ 0 rfl ?_;intro I05 le5 hl01;have h33:=SL.of_frozen hl01 le5 h32;have H:=H.trans le5;exact yO [] H ⟨_,rfl,rfl,h33⟩
     · intro I1 hf le1;refine zF ?_;rintro _ _ ⟨rfl,rfl⟩;refine zF ?_;rintro _ _ ⟨b4,rfl,rfl,h33⟩;refine yM [(42,vS p7 y1 c7),(44,vS (some ⟨b4,0,none⟩) ([y7]:List zI) 1)] ?_;exact uS 6 [(45,vA [vS p7 y1 c7,vS (some ⟨b4,0,none⟩) ([y7]:List zI) 1])]<|yO [] iR ⟨_,rfl,rfl,h33⟩
     intro I1 hf le1;refine zF ?_;rintro _ _ ⟨p23,c23,rfl,rfl,h31⟩;refine zF ?_;rintro _ _ ⟨b41,rfl,rfl,h331⟩;refine yM [(40,vS p23 y9 c23),(45,vA [vS p7 y1 c7,vS (some ⟨b41,0,none⟩) ([y7]:List zI) 1])] ?_;have H:=iS I1;have h7:=h7.mono le1;refine xT (eI y9 (zN.mk y1 ([y7]:List zI)) _ hy4 h31 h7 h331) ?_;rintro I06 hs2 v2 k2 le6 - ⟨v011,v012,rfl,rfl,rfl,rfl⟩ -;have H:=H.trans le6;exact yS H
   intro I07 le7;refine yM [(0,vP r01 0),(2,vP b 0),(3,vI i),(4,vP b1 0),(5,vI k0),(6,vI n0),(7,vP b3 0),(48,.bool y12)] ?_;have h26:=h26.mono le7;have h27:=h27.mono le7;have h28:=h28.mono le7;have h29:=h29.mono le7;have h30:=h30.mono le7;have h20:=iM le7 h20;have h7:=h7.mono le7;have h1:=h1.mono le7;have h2:=h2.mono le7;have H:=H.trans le7;refine yC [] [(9,.bool y12)]<|vH [(49,.bool y12)]<|zM<|yL N ?_ ?_
   · intro hc3 N;refine yK<|yD 3 [3,0] [(51,vS p14 Body2 c14),(52,vA (cStmt y7 p18 c18 p19 c19 p20 c20 p21 c21))]<|xY (cStmt y7 p18 c18 p19 c19 p20 c20 p21 c21) zI ?_;intro b5 hb5;have h36:RL I07 (cStmt y7 p18 c18 p19 c19 p20 c20 p21 c21) ([y7]:List zI):=⟨(cStmt y7 p18 c18 p19 c19 p20 c20 p21 c21),_,rfl,rfl,(wM ⟨_,_,_,_,rfl,h26,h27,h28,h29⟩),rfl⟩;obtain ⟨l,hy5,N⟩:=zB N;refine pG 49 9 3 rfl rfl rfl h20 (.inr ⟨0,rfl⟩) h36 hy5 ?_;intro p24 c24 cs5 h37;exact sU (yB [1,2,3,4,5] (hs':=[hB b3 (cStmt y7 p18 c18 p19 c19 p20 c20 p21 c21),hB r01 (cRd y8 p22 c22),hO zI (vS p24 l c24) cs5,hB b1 [vS p7 y1 c7,vS p14 Body2 c14],hB b (cPart x p1 c1 p2 c2)]))<|yD 6 [] [(55,vP b1 1)]<|xE 3 [vS p7 y1 c7,vS p24 l c24] [hB b3 (cStmt y7 p18 c18 p19 c19 p20 c20 p21 c21),hB r01 (cRd y8 p22 c22),hO zI (vS p24 l c24) cs5,hB b1 [vS p7 y1 c7,vS p24 l c24],hB b (cPart x p1 c1 p2 c2)] rfl rfl rfl rfl<|yH rfl<|zM<|zEj<|zFf rfl<|kJ<|kJ<|xU (yA [2,1,3,4] rfl (by decide))<|yT [(0,vP r01 0),(2,vP b 0),(3,vI i),(4,vP b1 0),(5,vI k0)]<|hx _ _ _ _ _ _ _ _ (zC N).symm H h37 h30
   intro hc3 N;exact zW<|zT<|zM<|zQ<|yC [] [(6,vI (W (n0 + 1)))]<|yY<|pK (yA [2,1,3,4] rfl (by decide))<|vE [(0,vP r01 0),(2,vP b 0),(3,vI i),(4,vP b1 0),(5,vI k0),(6,vI (W (n0 + 1)))]<|ih (W (n0 + 1)) y8 _ N H h7 h1 h2 h20 h30 hg ho hx
 intro hc2 N;exact vW<|yT [(0,vP r01 0),(2,vP b 0),(3,vI i),(4,vP b1 0),(5,vI k0)]<|hx _ _ _ _ _ _ _ _ (zC N).symm H h20 h21
def pA (y1:(List zD)) (k0:Int) (Body:List zI) (x4:zO):Option ((List zI×zO)):=do
 if (decide (k0 > 0)) then
  let (Body3,x7)←qZ y1 Body 0 x4
  pA y1 (W (k0 - 1)) Body3 x7
 else
  pure (Body,x4)
 partial_fixpoint
theorem zDH (y1:(List zD)):∀ (k0:Int) (Body:List zI) (x4:zO) (o:(List zI×zO)),pA y1 k0 Body x4=some o→∀ {B}{I0 I:Imm}{Q}{i:Int}{x:zN}{r01:Nat}{b:Nat}{p1 c1 p2 c2 p7 c7}{b1:Nat}{p10 c10 cs p11 c11},I0.le I→(S4 I p7 y1 c7)→(S4 I p1 x.Nest c1)→(S4 I p2 x.Body c2)→(RL I cs Body)→(S4 I p11 x4.b c11)→NG Q→NO Q→(∀ (I':Imm) (Body1:List zI) (x5:zO) (p12:Option Addr) (c12:Nat) (cs1:List Value) (p13:Option Addr) (c13:Nat),o=(Body1,x5)→I0.le I'→(RL I' cs1 Body1)→(S4 I' p13 x5.b c13)→T 81 B Q (.exit 2) I' [hO zI (vS p12 Body1 c12) cs1,hB r01 (cRd x5 p13 c13),hB b1 [vS p7 y1 c7,vS p12 Body1 c12],hB b (cPart x p1 c1 p2 c2)] [(0,vP r01 0),(2,vP b 0),(3,vI i),(4,vP b1 0)])→J Tryz.prog 81 B (nav (bodyOf Tryz.f86) [1,0,1,0,0,1,0,0,1,0,1,0]) Q I [hO zI (vS p10 Body c10) cs,hB r01 (cRd x4 p11 c11),hB b1 [vS p7 y1 c7,vS p10 Body c10],hB b (cPart x p1 c1 p2 c2)] [(0,vP r01 0),(2,vP b 0),(3,vI i),(4,vP b1 0),(5,vI k0)]:=by
 refine pA.partial_correctness y1 _ fun self ih k0 Body x4 o N B I0 I Q i x r01 b p1 c1 p2 c2 p7 c7 b1 p10 c10 cs p11 c11 H h7 h1 h2 h16 h17 hg ho hx=>yZ hg ho<|yG<|yF [(27,.bool (decide (k0 > 0)))]<|zM<|yL N ?_ ?_
 · intro hc1 N;refine zW<|yI<|yP<|yF [(6,vI 0)]<|wO<|vE [(0,vP r01 0),(2,vP b 0),(3,vI i),(4,vP b1 0),(5,vI k0),(6,vI 0)] ?_;obtain ⟨o0,ho0,hMl⟩:=zB N;refine zDG y1 Body 0 x4 o0 ho0 iR h7 h1 h2 h16 h17 (fun _ _ _ h=>hg _ _ _ h) (fun _ _ h=>ho _ _ h) ?_;intro I08 Body3 x7 p16 c16 cs3 p17 c17 heq le8 h22 h23;subst o0;have h7:=h7.mono le8;have h1:=h1.mono le8;have h2:=h2.mono le8;have H:=H.trans le8;exact zX<|zT<|zM<|zQ<|yC [] [(5,vI (W (k0 - 1)))]<|yY<|vE [(0,vP r01 0),(2,vP b 0),(3,vI i),(4,vP b1 0),(5,vI (W (k0 - 1)))]<|ih (W (k0 - 1)) Body3 x7 _ hMl H h7 h1 h2 h22 h23 hg ho hx
 intro hc1 N;exact vW<|yT [(0,vP r01 0),(2,vP b 0),(3,vI i),(4,vP b1 0)]<|hx _ _ _ _ _ _ _ _ (zC N).symm H h16 h17
def pC (x:zN) (i:Int) (x1:zO):Option (Out (zN×zO) (zN×zO)):=do
 if (decide (i < 4)) then
  let (y1,y2)←jK x1
  let (y4,y5)←yW y2 ([1,2,1,3]:List Int)
  let (Body1,x5)←pA y1 y4 ([]:List zI) y5
  let y13←nM
  let (y15,y16)←pJ y13 (zN.mk y1 Body1)
  let t66←(do
    if y16 then
     pure (decide (y15 ≤ 40))
    else
     pure false
      : Option Bool)
  if t66 then
   pure (.ret ((zN.mk y1 Body1),x5))
  else
   pC x (W (i + 1)) x5
 else
  pure (.done (x,x1))
 partial_fixpoint
theorem zDI (x:zN):∀ (i:Int) (x1:zO) (o:Out (zN×zO) (zN×zO)),pC x i x1=some o→∀ {B}{I0 I:Imm}{Q}  {r01:Nat}{b:Nat}{p1 c1 p2 c2 p3 c3},I0.le I→(S4 I p1 x.Nest c1)→(S4 I p2 x.Body c2)→(S4 I p3 x1.b c3)→NG Q→NO Q→(∀ (I':Imm) (x2:zN) (x3:zO) (p4:Option Addr) (c4:Nat) (p5:Option Addr) (c5:Nat) (p6:Option Addr) (c6:Nat),o=(.done (x2,x3))→I0.le I'→(S4 I' p4 x2.Nest c4)→(S4 I' p5 x2.Body c5)→(S4 I' p6 x3.b c6)→T 81 B Q (.exit 0) I' [hB b (cPart x2 p4 c4 p5 c5),hB r01 (cRd x3 p6 c6)] [(2,vP b 0)])→(∀ r I' hs' m',o=(.ret r)→I0.le I'→RS Tryz.prog Tryz.f86 B (zAO r01 r) I' hs' m'→T 81 B Q .ret I' hs' m')→J Tryz.prog 81 B (nav (bodyOf Tryz.f86) [1,0,1,0]) Q I [hB b (cPart x p1 c1 p2 c2),hB r01 (cRd x1 p3 c3)] [(0,vP r01 0),(2,vP b 0),(3,vI i)]:=by
 refine pC.partial_correctness x _ fun self ih i x1 o N B I0 I Q r01 b p1 c1 p2 c2 p3 c3 H h1 h2 h3 hg ho hx hr=>yZ hg ho<|yG<|yF [(17,.bool (decide (i < 4)))]<|zM<|yL N ?_ ?_
 · intro hc N;refine zW<|yI<|yP<|yK<|yD 1 [] [(20,vP r01 0)]<|sU (yB [1,0] (hs':=[hB r01 (cRd x1 p3 c3),hB b (cPart x p1 c1 p2 c2)])) ?_;obtain ⟨⟨y1,y2⟩,hy,N⟩:=zB N;refine tM [hB r01 (cRd x1 p3 c3)] [hB b (cPart x p1 c1 p2 c2)] (zFH x1 _ hy h3) ?_;rintro I0 hs2 v2 k2 le - ⟨v0,kk,rfl,rfl,h7,h8⟩ -;have h1:=h1.mono le;have h2:=h2.mono le;have H:=H.trans le;obtain ⟨p7,c7,rfl⟩:=h7.form;obtain ⟨p8,c8,rfl,h9⟩:=yE h8;refine yD 3 [] [(22,vA [vS p7 y1 c7,z0])]<|wR zTwo ?_;intro b1 hb1;refine xE 0 [vS p7 y1 c7,z0] [hB b1 [vS p7 y1 c7,z0],hB r01 (cRd y2 p8 c8),hB b (cPart x p1 c1 p2 c2)] rfl rfl rfl rfl<|yH rfl<|yI<|yK<|yD 1 [] [(23,vP r01 0)]<|xY [vI 1,vI 2,vI 1,vI 3] Int ?_;intro b2 hb2;have h10:RL I0 [vI 1,vI 2,vI 1,vI 3] ([1,2,1,3]:List Int):=⟨[vI 1],_,rfl,rfl,rfl,⟨[vI 2],_,rfl,rfl,rfl,⟨[vI 1],_,rfl,rfl,rfl,⟨[vI 3],_,rfl,rfl,rfl,rfl⟩⟩⟩⟩;refine yJ 0 rfl ?_;intro I01 le1 hl0;have h11:=SL.of_frozen hl0 le1 h10;have h7:=h7.mono le1;have h9:=h9.mono le1;have h1:=h1.mono le1;have h2:=h2.mono le1;have H:=H.trans le1;refine sU (yB [1,0,2] (hs':=[hB r01 (cRd y2 p8 c8),hB b1 [vS p7 y1 c7,z0],hB b (cPart x p1 c1 p2 c2)])) ?_;obtain ⟨⟨y4,y5⟩,hy1,N⟩:=zB N;refine tM [hB r01 (cRd y2 p8 c8)] [hB b1 [vS p7 y1 c7,z0],hB b (cPart x p1 c1 p2 c2)] (xI y2 ([1,2,1,3]:List Int) _ hy1 h9 h11) ?_;rintro I02 hs2 v2 k2 le2 - ⟨v02,kk1,rfl,rfl,rfl,h13⟩ -;have h7:=h7.mono le2;have h1:=h1.mono le2;have h2:=h2.mono le2;have H:=H.trans le2;obtain ⟨p9,c9,rfl,h14⟩:=yE h13;refine yC [] [(5,vI y4)]<|wO<|vE [(0,vP r01 0),(2,vP b 0),(3,vI i),(4,vP b1 0),(5,vI y4)]<|pK (vM (Rp.sz zI)) ?_;have h15:RL I02 [] ([]:List zI):=RepL.nil;obtain ⟨o01,ho01,hMl1⟩:=zB N;refine zDH y1 y4 ([]:List zI) y5 o01 ho01 iR h7 h1 h2 h15 h14 (fun _ _ _ h=>hg _ _ _ h) (fun _ _ h=>ho _ _ h) ?_;intro I09 Body1 x5 p12 c12 cs1 p13 c13 heq1 le9 h18 h19;subst o01;have h7:=h7.mono le9;have h1:=h1.mono le9;have h2:=h2.mono le9;have H:=H.trans le9;refine zX<|yI<|pL 0 rfl ?_;intro I010 le10 hl02;have h38:=SL.of_frozen hl02 le10 h18;have h19:=h19.mono le10;have h7:=h7.mono le10;have h1:=h1.mono le10;have h2:=h2.mono le10;have H:=H.trans le10;obtain ⟨y13,hy6,N⟩:=zB hMl1;obtain ⟨⟨y15,y16⟩,hy7,N⟩:=zB N;refine wA [.x (fun I' v hx=>∃ p25 c25,v=vS p25 y13 c25∧hx=[]∧(S4 I' p25 y13 c25)),.p (vA [vS p7 y1 c7,vS p12 Body1 c12]) [1],.q (.tuple ⟨[vI y15,.bool y16]⟩),.p (.tuple ⟨[vI y15,.bool y16]⟩) [],.p (vI y15) [],.p (.bool y16) [],.p (vI y15) []] [[],[],[(0,false),(1,false)],[(2,false)],[(3,false)],[(3,false)],[(4,false)]] [hB r01 (cRd x5 p13 c13),hB b1 [vS p7 y1 c7,vS p12 Body1 c12],hB b (cPart x p1 c1 p2 c2)] [] [(5,false),(6,false)] (yB [0,1,2]) ?_ ?_
   · refine Ox ?_<|Op<|Oq ?_<|Op<|Op<|Op<|Op<|On
     · intro I1 hf le1;refine yM [] ?_;have H:=iS I1;refine xT (gG  _ hy6 ) ?_;rintro I011 hs2 v2 k2 le11 - ⟨v013,rfl,rfl,h39⟩ -;have H:=H.trans le11;obtain ⟨p25,c25,rfl⟩:=h39.form;exact yO [] H ⟨_,_,rfl,rfl,h39⟩
     intro I1 hf le1;refine zF ?_;rintro _ _ ⟨p25,c25,rfl,rfl,h39⟩;refine yM [(57,vS p25 y13 c25),(58,vA [vS p7 y1 c7,vS p12 Body1 c12])] ?_;have H:=iS I1;have h7:=h7.mono le1;have h38:=h38.mono le1;refine xT (eI y13 (zN.mk y1 Body1) _ hy7 h39 h7 h38) ?_;rintro I012 hs2 v2 k2 le12 - ⟨v014,v015,rfl,rfl,rfl,rfl⟩ -;have H:=H.trans le12;exact yS H
   intro I013 le13;refine yM [(0,vP r01 0),(2,vP b 0),(3,vI i),(4,vP b1 0),(10,vI y15),(61,.bool y16)] ?_;have h19:=h19.mono le13;have h7:=h7.mono le13;have h38:=h38.mono le13;have h1:=h1.mono le13;have h2:=h2.mono le13;have H:=H.trans le13;refine yC [] [(11,.bool y16)]<|zM<|yG ?_;obtain ⟨o02,ho02,hMc⟩:=zB N;refine yU (fun I' hs' m'=>∃ (t66:Bool),o02=t66∧I013.le I'∧hs'=[hB r01 (cRd x5 p13 c13),hB b1 [vS p7 y1 c7,vS p12 Body1 c12],hB b (cPart x p1 c1 p2 c2)]∧m'=[(0,vP r01 0),(2,vP b 0),(3,vI i),(4,vP b1 0),(66,.bool t66)]) ?_ ?_
   · have H:=iS I013;refine zQ<|yD 2 [] [(63,.bool y16)] ?_;cases hc4:y16 with
     | true =>
      have hM0:=zP hc4 ho02
      try rw [hc4]
      exact yC [] [(66,.bool (decide (y15 ≤ 40)))]<|yT [(0,vP r01 0),(2,vP b 0),(3,vI i),(4,vP b1 0),(66,.bool (decide (y15 ≤ 40)))]<|zV (ct hM0 H)
     | false =>
      have hM01:=zL hc4 ho02
      try rw [hc4]
      exact yC [] [(66,vF)]<|yT [(0,vP r01 0),(2,vP b 0),(3,vI i),(4,vP b1 0),(66,vF)]<|zV (ct hM01 H)
   rintro I014 hs2 m2 ⟨t66,heq2,le14,rfl,rfl⟩;subst o02;have h19:=h19.mono le14;have h7:=h7.mono le14;have h38:=h38.mono le14;have h1:=h1.mono le14;have h2:=h2.mono le14;have H:=H.trans le14;refine zM<|yL hMc ?_ ?_
   · intro hc5 N;exact yK<|yD 1 [1] [(67,vA [vS p7 y1 c7,vS p12 Body1 c12])]<|xE 2 [vS p7 y1 c7,vS p12 Body1 c12] [hB r01 (cRd x5 p13 c13),hB b1 [vS p7 y1 c7,vS p12 Body1 c12],hB b [vS p7 y1 c7,vS p12 Body1 c12]] rfl rfl rfl rfl<|yH rfl<|xG<|zZ<|zH<|zH<|hr _ _ _ _ (zC N).symm H ⟨_,_,(.cell 2 rfl rfl (by kernel_rfl) ResV.nil),(yA [0] rfl (by decide)),⟨_,_,rfl,rfl,⟨_,rfl,(rS ⟨_,_,rfl,h7,h38⟩)⟩,(yR ⟨_,rfl,h19⟩)⟩⟩
   intro hc5 N;exact zW<|zT<|zM<|zQ<|yC [] [(3,vI (W (i + 1)))]<|yY<|pK (yA [2,0] rfl (by decide))<|vE [(0,vP r01 0),(2,vP b 0),(3,vI (W (i + 1)))]<|ih (W (i + 1)) x5 _ N H h1 h2 h19 hg ho hx hr
 intro hc N;exact vW<|yT [(2,vP b 0)]<|hx _ _ _ _ _ _ _ _ _ (zC N).symm H h1 h2 h3
def jM (r0:zO):Option (zN×zO):=do
 match←pC (zN.mk ([]:List zD) ([]:List zI)) 0 r0 with
 | .ret r0=>pure r0
 | .done (x2,x3) =>
  let (y18,y19)←oH (⟨[65,91,105,93,61,40,65,91,105,93,43,123,105,125,41]⟩:Str)
  let (y21,y22)←kU ([4]:List Int)
  pure ((zN.mk y21 ([y18]:List zI)),x3)
theorem zFK:∀ r0 r,jM r0=some r→∀ {I:Imm}{r01:Nat}{p c},(S4 I p r0.b c)→RT 86 [vP r01 0] I [hB r01 (cRd r0 p c)] (zAO r01 r):=by
 intro r0 r N I r01 p c h;unfold jM at N;refine zY (fn:=Tryz.f86) (c:=(bodyOf Tryz.f86)) Tryz.func86 rfl rfl ?_;rintro B - -;refine yK<|wR zTwo ?_;intro b hb;refine yH rfl<|yI<|yF [(3,vI 0)]<|wO<|vE [(0,vP r01 0),(2,vP b 0),(3,vI 0)] ?_;obtain ⟨o03,ho03,hMl2⟩:=zB N;refine zDI (zN.mk ([]:List zD) ([]:List zI)) 0 r0 o03 ho03 iR (SL.nil _) (SL.nil _) h (fun _ _ _ h=>h) (fun _ _ h=>h) ?_ ?_
 · intro I015 x2 x3 p4 c4 p5 c5 p6 c6 heq3 le15 h4 h5 h6;subst o03;refine zX<|yI<|zQ ?_;obtain ⟨⟨y18,y19⟩,hy8,N⟩:=zB hMl2;refine xT (dD (⟨[65,91,105,93,61,40,65,91,105,93,43,123,105,125,41]⟩:Str) _ hy8 ) ?_;rintro I016 hs2 v2 k2 le16 - ⟨v016,v017,rfl,rfl,⟨cs6,rfl,h42⟩,rfl⟩ -;have h6:=h6.mono le16;obtain ⟨p26,c26,p27,c27,p28,c28,p29,c29,rfl,h44,h45,h46,h47⟩:=tQ h42;refine yD 4 [] [(70,vA (cStmt y18 p26 c26 p27 c27 p28 c28 p29 c29)),(71,.bool y19)]<|wR [vT ([]),z0,vI 0,vI 0,z0,vI 0,vT ([]),z0,z0] ?_;intro b6 hb6;refine xE 0 (cStmt y18 p26 c26 p27 c27 p28 c28 p29 c29) [hB b6 (cStmt y18 p26 c26 p27 c27 p28 c28 p29 c29),hB b (cPart x2 p4 c4 p5 c5),hB r01 (cRd x3 p6 c6)] rfl rfl rfl rfl<|yC [] []<|xD<|xY [vI 4] Int ?_;intro b7 hb7;have h48:RL I016 [vI 4] ([4]:List Int):=⟨[vI 4],_,rfl,rfl,rfl,rfl⟩;refine yJ 0 rfl ?_;intro I017 le17 hl03;have h49:=SL.of_frozen hl03 le17 h48;have h44:=h44.mono le17;have h45:=h45.mono le17;have h46:=h46.mono le17;have h47:=h47.mono le17;have h6:=h6.mono le17;obtain ⟨⟨y21,y22⟩,hy9,N⟩:=zB N;refine xT (zEX ([4]:List Int) _ hy9 h49) ?_;rintro I018 hs2 v2 k2 le18 - ⟨v022,v023,rfl,rfl,h50,rfl⟩ -;have h44:=h44.mono le18;have h45:=h45.mono le18;have h46:=h46.mono le18;have h47:=h47.mono le18;have h6:=h6.mono le18;obtain ⟨p30,c30,rfl⟩:=h50.form;refine yC [] [(14,vS p30 y21 c30)]<|xD<|yD 2 [0] [(77,vS p30 y21 c30),(78,vA (cStmt y18 p26 c26 p27 c27 p28 c28 p29 c29))]<|xY (cStmt y18 p26 c26 p27 c27 p28 c28 p29 c29) zI ?_;intro b8 hb8;have h52:RL I018 (cStmt y18 p26 c26 p27 c27 p28 c28 p29 c29) ([y18]:List zI):=⟨(cStmt y18 p26 c26 p27 c27 p28 c28 p29 c29),_,rfl,rfl,(wM ⟨_,_,_,_,rfl,h44,h45,h46,h47⟩),rfl⟩;refine yD 4 [] [(80,vA [vS p30 y21 c30,vS (some ⟨b8,0,none⟩) ([y18]:List zI) 1])]<|xE 2 [vS p30 y21 c30,vS (some ⟨b8,0,none⟩) ([y18]:List zI) 1] [hO zI (vS (some ⟨b8,0,none⟩) ([y18]:List zI) 1) (cStmt y18 p26 c26 p27 c27 p28 c28 p29 c29),hB b6 (cStmt y18 p26 c26 p27 c27 p28 c28 p29 c29),hB b [vS p30 y21 c30,vS (some ⟨b8,0,none⟩) ([y18]:List zI) 1],hB r01 (cRd x3 p6 c6)] rfl rfl rfl rfl<|yH rfl<|xG<|xP 0 rfl ?_;intro I019 le19 hl04;have h53:=SL.of_frozen hl04 le19 h52;have h50:=h50.mono le19;have h6:=h6.mono le19;obtain rfl:=zC N;exact xC ⟨_,_,(.cell 1 rfl rfl (by kernel_rfl) ResV.nil),(yA [2] rfl (by decide)),⟨_,_,rfl,rfl,⟨_,rfl,(rS ⟨_,_,rfl,h50,h53⟩)⟩,(yR ⟨_,rfl,h6⟩)⟩⟩
 intro r0 I9 hs9 m9 heq9 le9 hrs9;subst heq9;refine zZ<|zH ?_;obtain rfl:=zC hMl2;exact xC hrs9
def zDr (b0:Nat) (r:zK×zO):KT:=fun kk I' hs' v=>
  ∃ v0 k0,hs'=[.blk b0 ⟨k0⟩]∧v=tupV [v0]∧(∃ cs,v0=.agg ⟨cs⟩∧Rp.rep I' cs r.1)∧Rp.rep I' k0 r.2
def pD (i:Int) (Parts:List zN) (x:zO):Option ((List zN×zO)):=do
 if (decide (i > 0)) then
  let (y5,y6)←jM x
  let l←app 48 Parts ([y5]:List zN)
  pD (W (i - 1)) l y6
 else
  pure (Parts,x)
 partial_fixpoint
theorem zDJ :∀ (i:Int) (Parts:List zN) (x:zO) (o:(List zN×zO)),pD i Parts x=some o→∀ {B}{I0 I:Imm}{Q}{y:(List zE)}{r01:Nat}{b:Nat}{p1 c1}{b1:Nat}{p3 c3 cs p4 c4},I0.le I→(S4 I p1 y c1)→(RL I cs Parts)→(S4 I p4 x.b c4)→NG Q→NO Q→(∀ (I':Imm) (Parts1:List zN) (x1:zO) (p5:Option Addr) (c5:Nat) (cs1:List Value) (p6:Option Addr) (c6:Nat),o=(Parts1,x1)→I0.le I'→(RL I' cs1 Parts1)→(S4 I' p6 x1.b c6)→T 29 B Q (.exit 0) I' [hO zN (vS p5 Parts1 c5) cs1,hB r01 (cRd x1 p6 c6),hB b1 [vS p1 y c1,vS p5 Parts1 c5],hB b zTwo] [(2,vP b 0),(3,vP b1 0)])→J Tryz.prog 29 B (nav (bodyOf Tryz.f36) [1,1,0,1,0]) Q I [hO zN (vS p3 Parts c3) cs,hB r01 (cRd x p4 c4),hB b1 [vS p1 y c1,vS p3 Parts c3],hB b zTwo] [(0,vP r01 0),(2,vP b 0),(3,vP b1 0),(4,vI i)]:=by
 refine pD.partial_correctness  _ fun self ih i Parts x o N B I0 I Q y r01 b p1 c1 b1 p3 c3 cs p4 c4 H h1 h8 h9 hg ho hx=>yZ hg ho<|yG<|yF [(11,.bool (decide (i > 0)))]<|zM<|yL N ?_ ?_
 · intro hc N;refine zW<|yI<|yP ?_;obtain ⟨⟨y5,y6⟩,hy2,N⟩:=zB N;obtain ⟨l,hy3,N⟩:=zB N;refine wA [.p (vP b1 1) [],.p (vS p3 Parts c3) [0],.p (vP r01 0) [],.x (fun I' v hx=>∃ p7 c7 p8 c8 p9 c9,v=vA (cPart y5 p7 c7 p8 c8)∧hx=[hB r01 (cRd y6 p9 c9)]∧(S4 I' p7 y5.Nest c7)∧(S4 I' p8 y5.Body c8)∧(S4 I' p9 y6.b c9)),.x (fun I' v hx=>∃ b3,v=vS (some ⟨b3,0,none⟩) ([y5]:List zN) 1∧hx=[]∧(SL I' (vS (some ⟨b3,0,none⟩) ([y5]:List zN) 1) ([y5]:List zN))),.x (fun I' v hx=>∃ p10 c10 cs3,v=vS p10 l c10∧hx=[hO zN (vS p10 l c10) cs3]∧(RL I' cs3 l))] [[],[(0,false)],[],[(2,false),(8,true)],[(3,false)],[(1,false),(4,false),(9,true)]] [hB b1 [vS p1 y c1,vS p3 Parts c3],hB b zTwo] [[hB r01 (cRd x p4 c4)],[hO zN (vS p3 Parts c3) cs]] [(3,true),(5,true)] (yB [2,3,1,0]) ?_ ?_
   · refine Op<|Op<|Op<|Ox ?_<|Ox ?_<|Ox ?_<|On
     · intro I1 hf le1;refine zF ?_;rintro _ _ ⟨rfl,rfl⟩;refine zF ?_;rintro _ _ rfl;refine yM [(16,vP r01 0)] ?_;have H:=iS I1;have h9:=h9.mono le1;refine tM [hB r01 (cRd x p4 c4)] (hB b1 [vS p1 y c1,vS p3 Parts c3]::hB b zTwo::hf) (zFK x _ hy2 h9) ?_;rintro I03 hs2 v2 k2 le3 - ⟨v03,kk1,rfl,rfl,⟨cs2,rfl,h12⟩,h13⟩ -;have H:=H.trans le3;obtain ⟨p7,c7,p8,c8,rfl,h14,h15⟩:=wT h12;obtain ⟨p9,c9,rfl,h16⟩:=yE h13;exact yO [hB r01 (cRd y6 p9 c9)] H ⟨_,_,_,_,_,_,rfl,rfl,h14,h15,h16⟩
     · intro I1 hf le1;refine zF ?_;rintro _ _ ⟨p7,c7,p8,c8,p9,c9,rfl,rfl,h14,h15,h16⟩;refine yM [(17,vA (cPart y5 p7 c7 p8 c8))] ?_;have H:=iS I1;refine xY (cPart y5 p7 c7 p8 c8) zN ?_;intro b3 hb3;have h17:RL I1 (cPart y5 p7 c7 p8 c8) ([y5]:List zN):=⟨(cPart y5 p7 c7 p8 c8),_,rfl,rfl,(rS ⟨_,_,rfl,h14,h15⟩),rfl⟩;refine yJ 0 rfl ?_;intro I04 le4 hl01;have h18:=SL.of_frozen hl01 le4 h17;have H:=H.trans le4;exact yO [] H ⟨_,rfl,rfl,h18⟩
     intro I1 hf le1;refine zF ?_;rintro _ _ ⟨rfl,rfl⟩;refine zF ?_;rintro _ _ ⟨b3,rfl,rfl,h18⟩;refine zF ?_;rintro _ _ rfl;refine yM [(15,vS p3 Parts c3),(18,vS (some ⟨b3,0,none⟩) ([y5]:List zN) 1)] ?_;have h8:=iM le1 h8;obtain ⟨ccs,k0,k01⟩:=h18;have h18:SL I1 (vS (some ⟨b3,0,none⟩) ([y5]:List zN) 1) ([y5]:List zN):=⟨_,k0,k01⟩;exact pG 53 2 0 rfl rfl rfl h8 (.inl k0) k01 hy3 fun p10 c10 cs3 h19=>uC (hs':=(hO zN (vS p10 l c10) cs3::hB b1 [vS p1 y c1,vS p3 Parts c3]::hB b zTwo::hf)) rfl<|yO [hO zN (vS p10 l c10) cs3] iR ⟨_,_,_,rfl,rfl,h19⟩
   intro I05 le5;refine zF ?_;rintro _ _ ⟨p7,c7,p8,c8,p9,c9,rfl,rfl,h14,h15,h16⟩;refine zF ?_;rintro _ _ ⟨p10,c10,cs3,rfl,rfl,h19⟩;refine yM [(0,vP r01 0),(2,vP b 0),(3,vP b1 0),(4,vI i),(19,vS p10 l c10)] ?_;have h1:=h1.mono le5;have H:=H.trans le5;exact yD 7 [] [(20,vP b1 1)]<|xE 2 [vS p1 y c1,vS p10 l c10] [hO zN (vS p10 l c10) cs3,hB r01 (cRd y6 p9 c9),hB b1 [vS p1 y c1,vS p10 l c10],hB b zTwo] rfl rfl rfl rfl<|yH rfl<|zT<|zM<|zQ<|yC [] [(4,vI (W (i - 1)))]<|yY<|vE [(0,vP r01 0),(2,vP b 0),(3,vP b1 0),(4,vI (W (i - 1)))]<|ih (W (i - 1)) l y6 _ N H h1 h19 h16 hg ho hx
 intro hc N;exact vW<|yT [(2,vP b 0),(3,vP b1 0)]<|hx _ _ _ _ _ _ _ _ (zC N).symm H h8 h9
def jN (r0:zO):Option (zK×zO):=do
 let y←nM
 let (y2,y3)←yW r0 ([1,2,1,3]:List Int)
 let (Parts1,x1)←pD y2 ([]:List zN) y3
 let y7←vG (zK.mk y Parts1)
 if y7 then
  pure ((zK.mk y Parts1),x1)
 else
  let y8←nM
  let l1←slc Parts1 0 1
  pure ((zK.mk y8 l1),x1)
theorem zFL:∀ r0 r,jN r0=some r→∀ {I:Imm}{r01:Nat}{p c},(S4 I p r0.b c)→RT 36 [vP r01 0] I [hB r01 (cRd r0 p c)] (zDr r01 r):=by
 intro r0 r N I r01 p c h;unfold jN at N;refine zY (fn:=Tryz.f36) (c:=(bodyOf Tryz.f36)) Tryz.func36 rfl rfl ?_;rintro B - -;have H:=iS I;refine yK<|wR zTwo ?_;intro b hb;refine yH rfl<|xD<|bE N fun y hy N=>xT (gG  _ hy ) ?_;rintro I0 hs2 v2 k2 le - ⟨v0,rfl,rfl,h1⟩ -;have h:=h.mono le;have H:=H.trans le;obtain ⟨p1,c1,rfl⟩:=h1.form;refine yD 2 [] [(6,vA [vS p1 y c1,z0])]<|wR zTwo ?_;intro b1 hb1;refine xE 0 [vS p1 y c1,z0] [hB b1 [vS p1 y c1,z0],hB b zTwo,hB r01 (cRd r0 p c)] rfl rfl rfl rfl<|yH rfl<|yI<|yK<|yD 1 [] [(7,vP r01 0)]<|xY [vI 1,vI 2,vI 1,vI 3] Int ?_;intro b2 hb2;have h2:RL I0 [vI 1,vI 2,vI 1,vI 3] ([1,2,1,3]:List Int):=⟨[vI 1],_,rfl,rfl,rfl,⟨[vI 2],_,rfl,rfl,rfl,⟨[vI 1],_,rfl,rfl,rfl,⟨[vI 3],_,rfl,rfl,rfl,rfl⟩⟩⟩⟩;refine yJ 0 rfl ?_;intro I01 le1 hl0;have h3:=SL.of_frozen hl0 le1 h2;have h1:=h1.mono le1;have h:=h.mono le1;have H:=H.trans le1;refine sU (yB [2,0,1] (hs':=[hB r01 (cRd r0 p c),hB b1 [vS p1 y c1,z0],hB b zTwo])) ?_;obtain ⟨⟨y2,y3⟩,hy1,N⟩:=zB N;refine tM [hB r01 (cRd r0 p c)] [hB b1 [vS p1 y c1,z0],hB b zTwo] (xI r0 ([1,2,1,3]:List Int) _ hy1 h h3) ?_;rintro I02 hs2 v2 k2 le2 - ⟨v01,kk,rfl,rfl,rfl,h5⟩ -;have h1:=h1.mono le2;have H:=H.trans le2;obtain ⟨p2,c2,rfl,h6⟩:=yE h5;refine yC [] [(4,vI y2)]<|wO<|vE [(0,vP r01 0),(2,vP b 0),(3,vP b1 0),(4,vI y2)]<|pK (vM (Rp.sz zN)) ?_;have h7:RL I02 [] ([]:List zN):=RepL.nil;obtain ⟨o0,ho0,hMl⟩:=zB N;refine zDJ y2 ([]:List zN) y3 o0 ho0 iR h1 h7 h6 (fun _ _ _ h=>h) (fun _ _ h=>h) ?_;intro I06 Parts1 x1 p5 c5 cs1 p6 c6 heq le6 h10 h11;subst o0;have h1:=h1.mono le6;have H:=H.trans le6;refine zX<|yI<|yK<|yD 1 [2] [(21,vA [vS p1 y c1,vS p5 Parts1 c5])]<|yJ 0 rfl ?_;intro I07 le7 hl02;have h20:=SL.of_frozen hl02 le7 h10;have h1:=h1.mono le7;have h11:=h11.mono le7;have H:=H.trans le7;obtain ⟨y7,hy4,N⟩:=zB hMl;refine vJ (nA (zK.mk y Parts1) _ hy4 h1 h20) ?_;intro I08 le8;have h11:=h11.mono le8;have h1:=h1.mono le8;have h20:=h20.mono le8;have H:=H.trans le8;refine yH rfl<|zM<|yL N ?_ ?_
 · intro hc1 N;refine yK<|yD 1 [1] [(23,vA [vS p1 y c1,vS p5 Parts1 c5])]<|xE 2 [vS p1 y c1,vS p5 Parts1 c5] [hB r01 (cRd x1 p6 c6),hB b1 [vS p1 y c1,vS p5 Parts1 c5],hB b [vS p1 y c1,vS p5 Parts1 c5]] rfl rfl rfl rfl<|yH rfl<|xG<|zH ?_;obtain rfl:=zC N;exact xC ⟨_,_,(.cell 2 rfl rfl (by kernel_rfl) ResV.nil),(yA [0] rfl (by decide)),⟨_,_,rfl,rfl,⟨_,rfl,(wZ ⟨_,_,rfl,h1,h20⟩)⟩,(yR ⟨_,rfl,h11⟩)⟩⟩
 intro hc1 N;refine zW<|zM<|yG ?_;obtain ⟨y8,hy5,N⟩:=zB N;obtain ⟨l1,hy6,N⟩:=zB N;refine wA [.x (fun I' v hx=>∃ p11 c11,v=vS p11 y8 c11∧hx=[]∧(S4 I' p11 y8 c11)),.p (vP b1 1) [],.p (vS p5 Parts1 c5) [1],.x (fun I' v hx=>∃ p12 c12,v=vS p12 l1 c12∧hx=[]∧(S4 I' p12 l1 c12)),.x (fun I' v hx=>∃ p111 c111 p121 c121,v=vA [vS p111 y8 c111,vS p121 l1 c121]∧hx=[]∧(S4 I' p111 y8 c111)∧(S4 I' p121 l1 c121))] [[],[],[(1,false)],[(2,false)],[(0,false),(3,false)]] [hB r01 (cRd x1 p6 c6),hB b1 [vS p1 y c1,vS p5 Parts1 c5],hB b zTwo] [] [(4,false)] (yB [0,1,2]) ?_ ?_
 · refine Ox ?_<|Op<|Op<|Ox ?_<|Ox ?_<|On
   · intro I1 hf le1;refine yM [] ?_;have H:=iS I1;refine xT (gG  _ hy5 ) ?_;rintro I09 hs2 v2 k2 le9 - ⟨v08,rfl,rfl,h22⟩ -;have H:=H.trans le9;obtain ⟨p11,c11,rfl⟩:=h22.form;exact yO [] H ⟨_,_,rfl,rfl,h22⟩
   · intro I1 hf le1;refine yM [(26,vS p5 Parts1 c5)] ?_;have h20:=h20.mono le1;refine zKb rfl h20 hy6 ?_;intro v09 h23;obtain ⟨p12,c12,rfl⟩:=h23.form;exact yO [] iR ⟨_,_,rfl,rfl,h23⟩
   intro I1 hf le1;refine zF ?_;rintro _ _ ⟨p11,c11,rfl,rfl,h22⟩;refine zF ?_;rintro _ _ ⟨p12,c12,rfl,rfl,h23⟩;exact yM [(24,vS p11 y8 c11),(27,vS p12 l1 c12)]<|uS 5 [(28,vA [vS p11 y8 c11,vS p12 l1 c12])]<|yO [] iR ⟨_,_,_,_,rfl,rfl,h22,h23⟩
 intro I010 le10;refine zF ?_;rintro _ _ ⟨p111,c111,p121,c121,rfl,rfl,h221,h231⟩;refine yM [(2,vP b 0),(28,vA [vS p111 y8 c111,vS p121 l1 c121])] ?_;have h11:=h11.mono le10;refine xE 2 [vS p111 y8 c111,vS p121 l1 c121] [hB r01 (cRd x1 p6 c6),hB b1 [vS p1 y c1,vS p5 Parts1 c5],hB b [vS p111 y8 c111,vS p121 l1 c121]] rfl rfl rfl rfl<|yH rfl<|zM<|yX ?_;obtain rfl:=zC N;exact xC ⟨_,_,(.cell 2 rfl rfl (by kernel_rfl) ResV.nil),(yA [0] rfl (by decide)),⟨_,_,rfl,rfl,⟨_,rfl,(wZ ⟨_,_,rfl,h221,h231⟩)⟩,(yR ⟨_,rfl,h11⟩)⟩⟩
def zDs (b0:Nat) (r:zK×zO):KT:=fun kk I' hs' v=>
  ∃ v0 k0,hs'=[.blk b0 ⟨k0⟩]∧v=tupV [v0]∧(∃ cs,v0=.agg ⟨cs⟩∧Rp.rep I' cs r.1)∧Rp.rep I' k0 r.2
def jO (r0:zO):Option (zK×zO):=do
 let (y1,y2)←rC r0 ([(⟨[112,97,114,116,10,102,111,114,32,48,32,51,10,102,111,114,32,48,32,52,10,66,91,105,44,106,93,61,40,66,91,105,44,106,93,43,123,50,42,105,43,106,125,41,10]⟩:Str),(⟨[112,97,114,116,10,102,111,114,32,48,32,51,10,102,111,114,32,48,32,52,10,66,91,105,44,106,43,49,93,61,40,66,91,105,44,106,93,43,49,41,10]⟩:Str),(⟨[112,97,114,116,10,102,111,114,32,48,32,51,10,102,111,114,32,49,32,52,10,66,91,105,43,49,44,106,45,49,93,61,40,66,91,105,44,106,93,42,50,41,10]⟩:Str),(⟨[112,97,114,116,10,102,111,114,32,48,32,51,10,102,111,114,32,49,32,53,10,66,91,105,43,49,44,106,93,61,40,66,91,105,44,106,45,49,93,43,66,91,105,44,106,93,41,10,65,91,105,93,61,123,106,125,10]⟩:Str),(⟨[112,97,114,116,10,102,111,114,32,48,32,52,10,65,91,105,93,61,40,123,105,125,42,50,41,10,112,97,114,116,10,102,111,114,32,48,32,52,10,65,91,105,43,49,93,61,40,65,91,105,93,43,67,91,48,93,41,10]⟩:Str),(⟨[112,97,114,116,10,102,111,114,32,48,32,53,10,65,91,105,93,61,40,65,91,105,93,43,51,41,10,66,91,48,44,105,93,61,65,91,105,93,10]⟩:Str),(⟨[112,97,114,116,10,102,111,114,32,48,32,51,10,102,111,114,32,48,32,51,10,67,91,105,93,61,40,67,91,105,93,43,66,91,105,44,106,93,41,10,112,97,114,116,10,102,111,114,32,48,32,51,10,102,111,114,32,48,32,51,10,65,91,106,93,61,40,65,91,106,93,45,66,91,106,44,105,93,41,10]⟩:Str),(⟨[112,97,114,116,10,102,111,114,32,48,32,52,10,102,111,114,32,48,32,105,43,49,10,66,91,105,44,106,93,61,40,65,91,106,93,42,67,91,48,93,41,10]⟩:Str)]:List Str)
 let s←cat (⟨[112,114,111,103,114,97,109,10,97,114,114,97,121,32,65,32,54,10,97,114,114,97,121,32,66,32,52,32,53,10,97,114,114,97,121,32,67,32,51,10]⟩:Str) y1
 let (y4,y5)←qE s
 let (t20,x)←(do
   if y5 then
    let (y7,y8)←yV y2 3
    pure ((decide (y7 > 0)),y8)
   else
    pure (false,y2)
     : Option (Bool×zO))
 if t20 then
  pure (y4,x)
 else
  let (y10,y11)←jN x
  pure (y10,y11)
theorem zFM:∀ r0 r,jO r0=some r→∀ {I:Imm}{r01:Nat}{p c},(S4 I p r0.b c)→RT 115 [vP r01 0] I [hB r01 (cRd r0 p c)] (zDs r01 r):=by
 intro r0 r N I r01 p c h;unfold jO at N;refine zY (fn:=Tryz.f115) (c:=(bodyOf Tryz.f115)) Tryz.func115 rfl rfl ?_;rintro B - -;have H:=iS I;refine yK<|wR zTwo ?_;intro b hb;refine yH rfl<|xD<|yD 1 [] [(6,vP r01 0)]<|xY [vT ([112,97,114,116,10,102,111,114,32,48,32,51,10,102,111,114,32,48,32,52,10,66,91,105,44,106,93,61,40,66,91,105,44,106,93,43,123,50,42,105,43,106,125,41,10]),vT ([112,97,114,116,10,102,111,114,32,48,32,51,10,102,111,114,32,48,32,52,10,66,91,105,44,106,43,49,93,61,40,66,91,105,44,106,93,43,49,41,10]),vT ([112,97,114,116,10,102,111,114,32,48,32,51,10,102,111,114,32,49,32,52,10,66,91,105,43,49,44,106,45,49,93,61,40,66,91,105,44,106,93,42,50,41,10]),vT ([112,97,114,116,10,102,111,114,32,48,32,51,10,102,111,114,32,49,32,53,10,66,91,105,43,49,44,106,93,61,40,66,91,105,44,106,45,49,93,43,66,91,105,44,106,93,41,10,65,91,105,93,61,123,106,125,10]),vT ([112,97,114,116,10,102,111,114,32,48,32,52,10,65,91,105,93,61,40,123,105,125,42,50,41,10,112,97,114,116,10,102,111,114,32,48,32,52,10,65,91,105,43,49,93,61,40,65,91,105,93,43,67,91,48,93,41,10]),vT ([112,97,114,116,10,102,111,114,32,48,32,53,10,65,91,105,93,61,40,65,91,105,93,43,51,41,10,66,91,48,44,105,93,61,65,91,105,93,10]),vT ([112,97,114,116,10,102,111,114,32,48,32,51,10,102,111,114,32,48,32,51,10,67,91,105,93,61,40,67,91,105,93,43,66,91,105,44,106,93,41,10,112,97,114,116,10,102,111,114,32,48,32,51,10,102,111,114,32,48,32,51,10,65,91,106,93,61,40,65,91,106,93,45,66,91,106,44,105,93,41,10]),vT ([112,97,114,116,10,102,111,114,32,48,32,52,10,102,111,114,32,48,32,105,43,49,10,66,91,105,44,106,93,61,40,65,91,106,93,42,67,91,48,93,41,10])] Str ?_;intro b1 hb1;have h1:RL I [vT ([112,97,114,116,10,102,111,114,32,48,32,51,10,102,111,114,32,48,32,52,10,66,91,105,44,106,93,61,40,66,91,105,44,106,93,43,123,50,42,105,43,106,125,41,10]),vT ([112,97,114,116,10,102,111,114,32,48,32,51,10,102,111,114,32,48,32,52,10,66,91,105,44,106,43,49,93,61,40,66,91,105,44,106,93,43,49,41,10]),vT ([112,97,114,116,10,102,111,114,32,48,32,51,10,102,111,114,32,49,32,52,10,66,91,105,43,49,44,106,45,49,93,61,40,66,91,105,44,106,93,42,50,41,10]),vT ([112,97,114,116,10,102,111,114,32,48,32,51,10,102,111,114,32,49,32,53,10,66,91,105,43,49,44,106,93,61,40,66,91,105,44,106,45,49,93,43,66,91,105,44,106,93,41,10,65,91,105,93,61,123,106,125,10]),vT ([112,97,114,116,10,102,111,114,32,48,32,52,10,65,91,105,93,61,40,123,105,125,42,50,41,10,112,97,114,116,10,102,111,114,32,48,32,52,10,65,91,105,43,49,93,61,40,65,91,105,93,43,67,91,48,93,41,10]),vT ([112,97,114,116,10,102,111,114,32,48,32,53,10,65,91,105,93,61,40,65,91,105,93,43,51,41,10,66,91,48,44,105,93,61,65,91,105,93,10]),vT ([112,97,114,116,10,102,111,114,32,48,32,51,10,102,111,114,32,48,32,51,10,67,91,105,93,61,40,67,91,105,93,43,66,91,105,44,106,93,41,10,112,97,114,116,10,102,111,114,32,48,32,51,10,102,111,114,32,48,32,51,10,65,91,106,93,61,40,65,91,106,93,45,66,91,106,44,105,93,41,10]),vT ([112,97,114,116,10,102,111,114,32,48,32,52,10,102,111,114,32,48,32,105,43,49,10,66,91,105,44,106,93,61,40,65,91,106,93,42,67,91,48,93,41,10])] ([(⟨[112,97,114,116,10,102,111,114,32,48,32,51,10,102,111,114,32,48,32,52,10,66,91,105,44,106,93,61,40,66,91,105,44,106,93,43,123,50,42,105,43,106,125,41,10]⟩:Str),(⟨[112,97,114,116,10,102,111,114,32,48,32,51,10,102,111,114,32,48,32,52,10,66,91,105,44,106,43,49,93,61,40,66,91,105,44,106,93,43,49,41,10]⟩:Str),(⟨[112,97,114,116,10,102,111,114,32,48,32,51,10,102,111,114,32,49,32,52,10,66,91,105,43,49,44,106,45,49,93,61,40,66,91,105,44,106,93,42,50,41,10]⟩:Str),(⟨[112,97,114,116,10,102,111,114,32,48,32,51,10,102,111,114,32,49,32,53,10,66,91,105,43,49,44,106,93,61,40,66,91,105,44,106,45,49,93,43,66,91,105,44,106,93,41,10,65,91,105,93,61,123,106,125,10]⟩:Str),(⟨[112,97,114,116,10,102,111,114,32,48,32,52,10,65,91,105,93,61,40,123,105,125,42,50,41,10,112,97,114,116,10,102,111,114,32,48,32,52,10,65,91,105,43,49,93,61,40,65,91,105,93,43,67,91,48,93,41,10]⟩:Str),(⟨[112,97,114,116,10,102,111,114,32,48,32,53,10,65,91,105,93,61,40,65,91,105,93,43,51,41,10,66,91,48,44,105,93,61,65,91,105,93,10]⟩:Str),(⟨[112,97,114,116,10,102,111,114,32,48,32,51,10,102,111,114,32,48,32,51,10,67,91,105,93,61,40,67,91,105,93,43,66,91,105,44,106,93,41,10,112,97,114,116,10,102,111,114,32,48,32,51,10,102,111,114,32,48,32,51,10,65,91,106,93,61,40,65,91,106,93,45,66,91,106,44,105,93,41,10]⟩:Str),(⟨[112,97,114,116,10,102,111,114,32,48,32,52,10,102,111,114,32,48,32,105,43,49,10,66,91,105,44,106,93,61,40,65,91,106,93,42,67,91,48,93,41,10]⟩:Str)]:List Str):=⟨[vT ([112,97,114,116,10,102,111,114,32,48,32,51,10,102,111,114,32,48,32,52,10,66,91,105,44,106,93,61,40,66,91,105,44,106,93,43,123,50,42,105,43,106,125,41,10])],_,rfl,rfl,rfl,⟨[vT ([112,97,114,116,10,102,111,114,32,48,32,51,10,102,111,114,32,48,32,52,10,66,91,105,44,106,43,49,93,61,40,66,91,105,44,106,93,43,49,41,10])],_,rfl,rfl,rfl,⟨[vT ([112,97,114,116,10,102,111,114,32,48,32,51,10,102,111,114,32,49,32,52,10,66,91,105,43,49,44,106,45,49,93,61,40,66,91,105,44,106,93,42,50,41,10])],_,rfl,rfl,rfl,⟨[vT ([112,97,114,116,10,102,111,114,32,48,32,51,10,102,111,114,32,49,32,53,10,66,91,105,43,49,44,106,93,61,40,66,91,105,44,106,45,49,93,43,66,91,105,44,106,93,41,10,65,91,105,93,61,123,106,125,10])],_,rfl,rfl,rfl,⟨[vT ([112,97,114,116,10,102,111,114,32,48,32,52,10,65,91,105,93,61,40,123,105,125,42,50,41,10,112,97,114,116,10,102,111,114,32,48,32,52,10,65,91,105,43,49,93,61,40,65,91,105,93,43,67,91,48,93,41,10])],_,rfl,rfl,rfl,⟨[vT ([112,97,114,116,10,102,111,114,32,48,32,53,10,65,91,105,93,61,40,65,91,105,93,43,51,41,10,66,91,48,44,105,93,61,65,91,105,93,10])],_,rfl,rfl,rfl,⟨[vT ([112,97,114,116,10,102,111,114,32,48,32,51,10,102,111,114,32,48,32,51,10,67,91,105,93,61,40,67,91,105,93,43,66,91,105,44,106,93,41,10,112,97,114,116,10,102,111,114,32,48,32,51,10,102,111,114,32,48,32,51,10,65,91,106,93,61,40,65,91,106,93,45,66,91,106,44,105,93,41,10])],_,rfl,rfl,rfl,⟨[vT ([112,97,114,116,10,102,111,114,32,48,32,52,10,102,111,114,32,48,32,105,43,49,10,66,91,105,44,106,93,61,40,65,91,106,93,42,67,91,48,93,41,10])],_,rfl,rfl,rfl,rfl⟩⟩⟩⟩⟩⟩⟩⟩;refine yJ 0 rfl ?_;intro I0 le hl0;have h2:=SL.of_frozen hl0 le h1;have h:=h.mono le;have H:=H.trans le;refine sU (yB [1,0] (hs':=[hB r01 (cRd r0 p c),hB b zTwo])) ?_;obtain ⟨⟨y1,y2⟩,hy,N⟩:=zB N;refine tM [hB r01 (cRd r0 p c)] [hB b zTwo] (nV r0 ([(⟨[112,97,114,116,10,102,111,114,32,48,32,51,10,102,111,114,32,48,32,52,10,66,91,105,44,106,93,61,40,66,91,105,44,106,93,43,123,50,42,105,43,106,125,41,10]⟩:Str),(⟨[112,97,114,116,10,102,111,114,32,48,32,51,10,102,111,114,32,48,32,52,10,66,91,105,44,106,43,49,93,61,40,66,91,105,44,106,93,43,49,41,10]⟩:Str),(⟨[112,97,114,116,10,102,111,114,32,48,32,51,10,102,111,114,32,49,32,52,10,66,91,105,43,49,44,106,45,49,93,61,40,66,91,105,44,106,93,42,50,41,10]⟩:Str),(⟨[112,97,114,116,10,102,111,114,32,48,32,51,10,102,111,114,32,49,32,53,10,66,91,105,43,49,44,106,93,61,40,66,91,105,44,106,45,49,93,43,66,91,105,44,106,93,41,10,65,91,105,93,61,123,106,125,10]⟩:Str),(⟨[112,97,114,116,10,102,111,114,32,48,32,52,10,65,91,105,93,61,40,123,105,125,42,50,41,10,112,97,114,116,10,102,111,114,32,48,32,52,10,65,91,105,43,49,93,61,40,65,91,105,93,43,67,91,48,93,41,10]⟩:Str),(⟨[112,97,114,116,10,102,111,114,32,48,32,53,10,65,91,105,93,61,40,65,91,105,93,43,51,41,10,66,91,48,44,105,93,61,65,91,105,93,10]⟩:Str),(⟨[112,97,114,116,10,102,111,114,32,48,32,51,10,102,111,114,32,48,32,51,10,67,91,105,93,61,40,67,91,105,93,43,66,91,105,44,106,93,41,10,112,97,114,116,10,102,111,114,32,48,32,51,10,102,111,114,32,48,32,51,10,65,91,106,93,61,40,65,91,106,93,45,66,91,106,44,105,93,41,10]⟩:Str),(⟨[112,97,114,116,10,102,111,114,32,48,32,52,10,102,111,114,32,48,32,105,43,49,10,66,91,105,44,106,93,61,40,65,91,106,93,42,67,91,48,93,41,10]⟩:Str)]:List Str) _ hy h h2) ?_;rintro I01 hs2 v2 k2 le1 - ⟨v0,kk,rfl,rfl,rfl,h4⟩ -;have H:=H.trans le1;obtain ⟨p1,c1,rfl,h5⟩:=yE h4;refine yC [] [(3,vT y1.l)]<|xD<|yD 1 [] [(10,vT y1.l)]<|bE N fun s hy1 N=>nU rfl hy1 ?_;obtain ⟨⟨y4,y5⟩,hy2,N⟩:=zB N;refine xT (fD s _ hy2 ) ?_;rintro I02 hs2 v2 k2 le2 - ⟨v02,v03,rfl,rfl,⟨cs,rfl,h6⟩,rfl⟩ -;have h5:=h5.mono le2;have H:=H.trans le2;obtain ⟨p2,c2,p3,c3,rfl,h8,h9⟩:=pS h6;refine yD 6 [] [(13,vA (cProg y4 p2 c2 p3 c3)),(14,.bool y5)]<|wR zTwo ?_;intro b2 hb2;refine xE 0 (cProg y4 p2 c2 p3 c3) [hB b2 (cProg y4 p2 c2 p3 c3),hB r01 (cRd y2 p1 c1),hB b zTwo] rfl rfl rfl rfl<|yC [] [(5,.bool y5)]<|yI<|yG ?_;obtain ⟨o0,ho0,hMc⟩:=zB N;refine yU (fun I' hs' m'=>∃ (t20:Bool) (x:zO) (p4:Option Addr) (c4:Nat),o0=(t20,x)∧I02.le I'∧(S4 I' p4 x.b c4)∧hs'=[hB b2 (cProg y4 p2 c2 p3 c3),hB r01 (cRd x p4 c4),hB b zTwo]∧m'=[(0,vP r01 0),(2,vP b 0),(4,vP b2 0),(20,.bool t20)]) ?_ ?_
 · have H:=iS I02;refine zQ<|yD 2 [] [(16,.bool y5)] ?_;cases hc:y5 with
   | true =>
    have hM0:=zP hc ho0
    try rw [hc]
    refine yD 3 [] [(17,vP r01 0)]<|sU (yB [1,0,2] (hs':=[hB r01 (cRd y2 p1 c1),hB b2 (cProg y4 p2 c2 p3 c3),hB b zTwo])) ?_;obtain ⟨⟨y7,y8⟩,hy3,N⟩:=zB hM0;refine tM [hB r01 (cRd y2 p1 c1)] [hB b2 (cProg y4 p2 c2 p3 c3),hB b zTwo] (xH y2 3 _ hy3 h5) ?_;rintro I04 hs2 v2 k2 le3 - ⟨v06,kk1,rfl,rfl,rfl,h12⟩ -;have H:=H.trans le3;obtain ⟨p5,c5,rfl,h13⟩:=yE h12;exact yC [] [(20,.bool (decide (y7 > 0)))]<|xU (yA [1,0,2] rfl (by decide))<|yT [(0,vP r01 0),(2,vP b 0),(4,vP b2 0),(20,.bool (decide (y7 > 0)))]<|zV ⟨_,_,_,_,(zC N).symm,H,h13,rfl,rfl⟩
   | false =>
    have hM01:=zL hc ho0
    try rw [hc]
    exact yC [] [(20,vF)]<|yT [(0,vP r01 0),(2,vP b 0),(4,vP b2 0),(20,vF)]<|zV ⟨_,_,_,_,(zC hM01).symm,H,h5,rfl,rfl⟩
 rintro I03 hs2 m2 ⟨t20,x,p4,c4,heq,le4,h10,rfl,rfl⟩;subst o0;have h8:=h8.mono le4;have h9:=h9.mono le4;refine zM<|yL hMc ?_ ?_
 · intro hc1 N;refine yK<|yD 1 [0] [(21,vA (cProg y4 p2 c2 p3 c3))]<|xE 2 (cProg y4 p2 c2 p3 c3) [hB b2 (cProg y4 p2 c2 p3 c3),hB r01 (cRd x p4 c4),hB b (cProg y4 p2 c2 p3 c3)] rfl rfl rfl rfl<|yH rfl<|xG<|zH ?_;obtain rfl:=zC N;exact xC ⟨_,_,(.cell 2 rfl rfl (by kernel_rfl) ResV.nil),(yA [1] rfl (by decide)),⟨_,_,rfl,rfl,⟨_,rfl,(wZ ⟨_,_,rfl,h8,h9⟩)⟩,(yR ⟨_,rfl,h10⟩)⟩⟩
 intro hc1 N;refine zW<|xD<|yD 1 [] [(22,vP r01 0)]<|sU (yB [1,0,2] (hs':=[hB r01 (cRd x p4 c4),hB b2 (cProg y4 p2 c2 p3 c3),hB b zTwo])) ?_;obtain ⟨⟨y10,y11⟩,hy4,N⟩:=zB N;refine tM [hB r01 (cRd x p4 c4)] [hB b2 (cProg y4 p2 c2 p3 c3),hB b zTwo] (zFL x _ hy4 h10) ?_;rintro I05 hs2 v2 k2 le5 - ⟨v08,kk2,rfl,rfl,⟨cs1,rfl,h14⟩,h15⟩ -;obtain ⟨p6,c6,p7,c7,rfl,h16,h17⟩:=pS h14;obtain ⟨p8,c8,rfl,h18⟩:=yE h15;refine xE 2 (cProg y10 p6 c6 p7 c7) [hB r01 (cRd y11 p8 c8),hB b2 (cProg y4 p2 c2 p3 c3),hB b (cProg y10 p6 c6 p7 c7)] rfl rfl rfl rfl<|yH rfl<|zM<|yX ?_;obtain rfl:=zC N;exact xC ⟨_,_,(.cell 2 rfl rfl (by kernel_rfl) ResV.nil),(yA [0] rfl (by decide)),⟨_,_,rfl,rfl,⟨_,rfl,(wZ ⟨_,_,rfl,h16,h17⟩)⟩,(yR ⟨_,rfl,h18⟩)⟩⟩
def zDK (b0:Nat) (r:zK×zO):KT:=fun kk I' hs' v=>
  ∃ v0 k0,hs'=[.blk b0 ⟨k0⟩]∧v=tupV [v0]∧(∃ cs,v0=.agg ⟨cs⟩∧Rp.rep I' cs r.1)∧Rp.rep I' k0 r.2
def eJ (r0:zO):Option (zK×zO):=do
 let (y1,y2)←rC r0 ([(⟨[112,97,114,116,10,102,111,114,32,48,32,51,10,102,111,114,32,48,32,52,10,67,91,105,93,61,40,67,91,105,93,43,66,91,105,44,106,93,41,10]⟩:Str),(⟨[112,97,114,116,10,102,111,114,32,48,32,52,10,65,91,48,93,61,40,65,91,48,93,45,123,105,125,41,10,67,91,48,93,61,65,91,48,93,10]⟩:Str),(⟨[112,97,114,116,10,102,111,114,32,48,32,51,10,102,111,114,32,48,32,51,10,65,91,105,43,106,93,61,40,65,91,105,43,106,93,43,123,50,42,105,43,106,125,41,10,112,97,114,116,10,102,111,114,32,48,32,53,10,65,91,105,93,61,40,65,91,105,93,45,67,91,48,93,41,10]⟩:Str),(⟨[112,97,114,116,10,102,111,114,32,48,32,52,10,65,91,49,93,61,40,65,91,49,93,42,123,105,43,50,125,41,10,65,91,50,93,61,40,65,91,50,93,43,65,91,49,93,41,10]⟩:Str)]:List Str)
 let s←cat (⟨[112,114,111,103,114,97,109,10,97,114,114,97,121,32,65,32,54,10,97,114,114,97,121,32,66,32,52,32,53,10,97,114,114,97,121,32,67,32,51,10]⟩:Str) y1
 let (y4,y5)←qE s
 let (t20,x)←(do
   if y5 then
    let (y7,y8)←yV y2 3
    pure ((decide (y7 > 0)),y8)
   else
    pure (false,y2)
     : Option (Bool×zO))
 if t20 then
  pure (y4,x)
 else
  let (y10,y11)←jO x
  pure (y10,y11)
theorem zEY:∀ r0 r,eJ r0=some r→∀ {I:Imm}{r01:Nat}{p c},(S4 I p r0.b c)→RT 65 [vP r01 0] I [hB r01 (cRd r0 p c)] (zDK r01 r):=by
 intro r0 r N I r01 p c h;unfold eJ at N;refine zY (fn:=Tryz.f65) (c:=(bodyOf Tryz.f65)) Tryz.func65 rfl rfl ?_;rintro B - -;have H:=iS I;refine yK<|wR zTwo ?_;intro b hb;refine yH rfl<|xD<|yD 1 [] [(6,vP r01 0)]<|xY [vT ([112,97,114,116,10,102,111,114,32,48,32,51,10,102,111,114,32,48,32,52,10,67,91,105,93,61,40,67,91,105,93,43,66,91,105,44,106,93,41,10]),vT ([112,97,114,116,10,102,111,114,32,48,32,52,10,65,91,48,93,61,40,65,91,48,93,45,123,105,125,41,10,67,91,48,93,61,65,91,48,93,10]),vT ([112,97,114,116,10,102,111,114,32,48,32,51,10,102,111,114,32,48,32,51,10,65,91,105,43,106,93,61,40,65,91,105,43,106,93,43,123,50,42,105,43,106,125,41,10,112,97,114,116,10,102,111,114,32,48,32,53,10,65,91,105,93,61,40,65,91,105,93,45,67,91,48,93,41,10]),vT ([112,97,114,116,10,102,111,114,32,48,32,52,10,65,91,49,93,61,40,65,91,49,93,42,123,105,43,50,125,41,10,65,91,50,93,61,40,65,91,50,93,43,65,91,49,93,41,10])] Str ?_;intro b1 hb1;have h1:RL I [vT ([112,97,114,116,10,102,111,114,32,48,32,51,10,102,111,114,32,48,32,52,10,67,91,105,93,61,40,67,91,105,93,43,66,91,105,44,106,93,41,10]),vT ([112,97,114,116,10,102,111,114,32,48,32,52,10,65,91,48,93,61,40,65,91,48,93,45,123,105,125,41,10,67,91,48,93,61,65,91,48,93,10]),vT ([112,97,114,116,10,102,111,114,32,48,32,51,10,102,111,114,32,48,32,51,10,65,91,105,43,106,93,61,40,65,91,105,43,106,93,43,123,50,42,105,43,106,125,41,10,112,97,114,116,10,102,111,114,32,48,32,53,10,65,91,105,93,61,40,65,91,105,93,45,67,91,48,93,41,10]),vT ([112,97,114,116,10,102,111,114,32,48,32,52,10,65,91,49,93,61,40,65,91,49,93,42,123,105,43,50,125,41,10,65,91,50,93,61,40,65,91,50,93,43,65,91,49,93,41,10])] ([(⟨[112,97,114,116,10,102,111,114,32,48,32,51,10,102,111,114,32,48,32,52,10,67,91,105,93,61,40,67,91,105,93,43,66,91,105,44,106,93,41,10]⟩:Str),(⟨[112,97,114,116,10,102,111,114,32,48,32,52,10,65,91,48,93,61,40,65,91,48,93,45,123,105,125,41,10,67,91,48,93,61,65,91,48,93,10]⟩:Str),(⟨[112,97,114,116,10,102,111,114,32,48,32,51,10,102,111,114,32,48,32,51,10,65,91,105,43,106,93,61,40,65,91,105,43,106,93,43,123,50,42,105,43,106,125,41,10,112,97,114,116,10,102,111,114,32,48,32,53,10,65,91,105,93,61,40,65,91,105,93,45,67,91,48,93,41,10]⟩:Str),(⟨[112,97,114,116,10,102,111,114,32,48,32,52,10,65,91,49,93,61,40,65,91,49,93,42,123,105,43,50,125,41,10,65,91,50,93,61,40,65,91,50,93,43,65,91,49,93,41,10]⟩:Str)]:List Str):=⟨[vT ([112,97,114,116,10,102,111,114,32,48,32,51,10,102,111,114,32,48,32,52,10,67,91,105,93,61,40,67,91,105,93,43,66,91,105,44,106,93,41,10])],_,rfl,rfl,rfl,⟨[vT ([112,97,114,116,10,102,111,114,32,48,32,52,10,65,91,48,93,61,40,65,91,48,93,45,123,105,125,41,10,67,91,48,93,61,65,91,48,93,10])],_,rfl,rfl,rfl,⟨[vT ([112,97,114,116,10,102,111,114,32,48,32,51,10,102,111,114,32,48,32,51,10,65,91,105,43,106,93,61,40,65,91,105,43,106,93,43,123,50,42,105,43,106,125,41,10,112,97,114,116,10,102,111,114,32,48,32,53,10,65,91,105,93,61,40,65,91,105,93,45,67,91,48,93,41,10])],_,rfl,rfl,rfl,⟨[vT ([112,97,114,116,10,102,111,114,32,48,32,52,10,65,91,49,93,61,40,65,91,49,93,42,123,105,43,50,125,41,10,65,91,50,93,61,40,65,91,50,93,43,65,91,49,93,41,10])],_,rfl,rfl,rfl,rfl⟩⟩⟩⟩;refine yJ 0 rfl ?_;intro I0 le hl0;have h2:=SL.of_frozen hl0 le h1;have h:=h.mono le;have H:=H.trans le;refine sU (yB [1,0] (hs':=[hB r01 (cRd r0 p c),hB b zTwo])) ?_;obtain ⟨⟨y1,y2⟩,hy,N⟩:=zB N;refine tM [hB r01 (cRd r0 p c)] [hB b zTwo] (nV r0 ([(⟨[112,97,114,116,10,102,111,114,32,48,32,51,10,102,111,114,32,48,32,52,10,67,91,105,93,61,40,67,91,105,93,43,66,91,105,44,106,93,41,10]⟩:Str),(⟨[112,97,114,116,10,102,111,114,32,48,32,52,10,65,91,48,93,61,40,65,91,48,93,45,123,105,125,41,10,67,91,48,93,61,65,91,48,93,10]⟩:Str),(⟨[112,97,114,116,10,102,111,114,32,48,32,51,10,102,111,114,32,48,32,51,10,65,91,105,43,106,93,61,40,65,91,105,43,106,93,43,123,50,42,105,43,106,125,41,10,112,97,114,116,10,102,111,114,32,48,32,53,10,65,91,105,93,61,40,65,91,105,93,45,67,91,48,93,41,10]⟩:Str),(⟨[112,97,114,116,10,102,111,114,32,48,32,52,10,65,91,49,93,61,40,65,91,49,93,42,123,105,43,50,125,41,10,65,91,50,93,61,40,65,91,50,93,43,65,91,49,93,41,10]⟩:Str)]:List Str) _ hy h h2) ?_;rintro I01 hs2 v2 k2 le1 - ⟨v0,kk,rfl,rfl,rfl,h4⟩ -;have H:=H.trans le1;obtain ⟨p1,c1,rfl,h5⟩:=yE h4;refine yC [] [(3,vT y1.l)]<|xD<|yD 1 [] [(10,vT y1.l)]<|bE N fun s hy1 N=>nU rfl hy1 ?_;obtain ⟨⟨y4,y5⟩,hy2,N⟩:=zB N;refine xT (fD s _ hy2 ) ?_;rintro I02 hs2 v2 k2 le2 - ⟨v02,v03,rfl,rfl,⟨cs,rfl,h6⟩,rfl⟩ -;have h5:=h5.mono le2;have H:=H.trans le2;obtain ⟨p2,c2,p3,c3,rfl,h8,h9⟩:=pS h6;refine yD 6 [] [(13,vA (cProg y4 p2 c2 p3 c3)),(14,.bool y5)]<|wR zTwo ?_;intro b2 hb2;refine xE 0 (cProg y4 p2 c2 p3 c3) [hB b2 (cProg y4 p2 c2 p3 c3),hB r01 (cRd y2 p1 c1),hB b zTwo] rfl rfl rfl rfl<|yC [] [(5,.bool y5)]<|yI<|yG ?_;obtain ⟨o0,ho0,hMc⟩:=zB N;refine yU (fun I' hs' m'=>∃ (t20:Bool) (x:zO) (p4:Option Addr) (c4:Nat),o0=(t20,x)∧I02.le I'∧(S4 I' p4 x.b c4)∧hs'=[hB b2 (cProg y4 p2 c2 p3 c3),hB r01 (cRd x p4 c4),hB b zTwo]∧m'=[(0,vP r01 0),(2,vP b 0),(4,vP b2 0),(20,.bool t20)]) ?_ ?_
 · have H:=iS I02;refine zQ<|yD 2 [] [(16,.bool y5)] ?_;cases hc:y5 with
   | true =>
    have hM0:=zP hc ho0
    try rw [hc]
    refine yD 3 [] [(17,vP r01 0)]<|sU (yB [1,0,2] (hs':=[hB r01 (cRd y2 p1 c1),hB b2 (cProg y4 p2 c2 p3 c3),hB b zTwo])) ?_;obtain ⟨⟨y7,y8⟩,hy3,N⟩:=zB hM0;refine tM [hB r01 (cRd y2 p1 c1)] [hB b2 (cProg y4 p2 c2 p3 c3),hB b zTwo] (xH y2 3 _ hy3 h5) ?_;rintro I04 hs2 v2 k2 le3 - ⟨v06,kk1,rfl,rfl,rfl,h12⟩ -;have H:=H.trans le3;obtain ⟨p5,c5,rfl,h13⟩:=yE h12;exact yC [] [(20,.bool (decide (y7 > 0)))]<|xU (yA [1,0,2] rfl (by decide))<|yT [(0,vP r01 0),(2,vP b 0),(4,vP b2 0),(20,.bool (decide (y7 > 0)))]<|zV ⟨_,_,_,_,(zC N).symm,H,h13,rfl,rfl⟩
   | false =>
    have hM01:=zL hc ho0
    try rw [hc]
    exact yC [] [(20,vF)]<|yT [(0,vP r01 0),(2,vP b 0),(4,vP b2 0),(20,vF)]<|zV ⟨_,_,_,_,(zC hM01).symm,H,h5,rfl,rfl⟩
 rintro I03 hs2 m2 ⟨t20,x,p4,c4,heq,le4,h10,rfl,rfl⟩;subst o0;have h8:=h8.mono le4;have h9:=h9.mono le4;refine zM<|yL hMc ?_ ?_
 · intro hc1 N;refine yK<|yD 1 [0] [(21,vA (cProg y4 p2 c2 p3 c3))]<|xE 2 (cProg y4 p2 c2 p3 c3) [hB b2 (cProg y4 p2 c2 p3 c3),hB r01 (cRd x p4 c4),hB b (cProg y4 p2 c2 p3 c3)] rfl rfl rfl rfl<|yH rfl<|xG<|zH ?_;obtain rfl:=zC N;exact xC ⟨_,_,(.cell 2 rfl rfl (by kernel_rfl) ResV.nil),(yA [1] rfl (by decide)),⟨_,_,rfl,rfl,⟨_,rfl,(wZ ⟨_,_,rfl,h8,h9⟩)⟩,(yR ⟨_,rfl,h10⟩)⟩⟩
 intro hc1 N;refine zW<|xD<|yD 1 [] [(22,vP r01 0)]<|sU (yB [1,0,2] (hs':=[hB r01 (cRd x p4 c4),hB b2 (cProg y4 p2 c2 p3 c3),hB b zTwo])) ?_;obtain ⟨⟨y10,y11⟩,hy4,N⟩:=zB N;refine tM [hB r01 (cRd x p4 c4)] [hB b2 (cProg y4 p2 c2 p3 c3),hB b zTwo] (zFM x _ hy4 h10) ?_;rintro I05 hs2 v2 k2 le5 - ⟨v08,kk2,rfl,rfl,⟨cs1,rfl,h14⟩,h15⟩ -;obtain ⟨p6,c6,p7,c7,rfl,h16,h17⟩:=pS h14;obtain ⟨p8,c8,rfl,h18⟩:=yE h15;refine xE 2 (cProg y10 p6 c6 p7 c7) [hB r01 (cRd y11 p8 c8),hB b2 (cProg y4 p2 c2 p3 c3),hB b (cProg y10 p6 c6 p7 c7)] rfl rfl rfl rfl<|yH rfl<|zM<|yX ?_;obtain rfl:=zC N;exact xC ⟨_,_,(.cell 2 rfl rfl (by kernel_rfl) ResV.nil),(yA [0] rfl (by decide)),⟨_,_,rfl,rfl,⟨_,rfl,(wZ ⟨_,_,rfl,h16,h17⟩)⟩,(yR ⟨_,rfl,h18⟩)⟩⟩
def kD (r:(List zS)):KT:=fun kk I' hs' v=>
  ∃ v0,hs'=[]∧v=tupV [v0]∧SL I' v0 r
def wJ (p:zK) (i:Int) (y:(List (List Int))) (k0:Int) (out4:List zS) (s:Int):Option (List zS):=do
 let x1←idx p.Parts i
 if (decide (s < (x1.Body.length:Int))) then
  let x2←idx y k0
  let l←app 8 ([]:List Int) x2
  let out6←app 40 out4 ([(zS.mk i s l)]:List zS)
  wJ p i y k0 out6 (W (s + 1))
 else
  pure (id out4)
 partial_fixpoint
theorem zA4 (p:zK) (i:Int) (y:(List (List Int))) (k0:Int):∀ (out4:List zS) (s:Int) (o:List zS),wJ p i y k0 out4 s=some o→∀ {B}{I0 I:Imm}{Q p1 c p2 c1}{b:Nat}{p7 c6 cs2 p10 c9 cs5},I0.le I→(RL I cs2 y)→(S4 I p1 p.Arrays c)→(S4 I p2 p.Parts c1)→(RL I cs5 out4)→NG Q→NO Q→(∀ (I':Imm) (out5:List zS) (p11:Option Addr) (c10:Nat) (cs6:List Value),o=out5→I0.le I'→(RL I' cs6 out5)→T 54 B Q (.exit 4) I' [hO (List Int) (vS p7 y c6) cs2,hO zS (vS p11 out5 c10) cs6,hB b (cProg p p1 c p2 c1)] [(1,vP b 0),(3,vS p11 out5 c10),(4,vI i),(5,vS p7 y c6),(6,vI k0)])→J Tryz.prog 54 B (nav (bodyOf Tryz.f125) [1,1,0,1,0,0,1,0,0,1,1,0,0,1,0,0,1,0]) Q I [hO (List Int) (vS p7 y c6) cs2,hO zS (vS p10 out4 c9) cs5,hB b (cProg p p1 c p2 c1)] [(1,vP b 0),(3,vS p10 out4 c9),(4,vI i),(5,vS p7 y c6),(6,vI k0),(7,vI s)]:=by
 refine wJ.partial_correctness p i y k0 _ fun self ih out4 s o N B I0 I Q p1 c p2 c1 b p7 c6 cs2 p10 c9 cs5 H h8 h h1 h11 hg ho hx=>yZ hg ho<|yG<|yK<|yD 4 [2] [(30,vI s),(32,vS p2 p.Parts c1),(33,vI i)]<|bE N fun x1 hy2 N=>xS rfl rfl h1 hy2 ?_;intro ad1 ccs1 hat1 hrep1;obtain ⟨p12,c11,p13,c12,rfl,h13,h14⟩:=wT hrep1;refine yD 6 [] [(35,.pointer (some (ad1.add 1)))]<|xM 1 hat1 [vS p13 x1.Body c12] (vS p13 x1.Body c12) rfl<|yC [] [(38,.bool (decide (s < (x1.Body.length:Int))))]<|zM<|yL N ?_ ?_
 · intro hc2 N;refine zW<|yI<|yP<|zQ<|yD 3 [] [(41,vS p10 out4 c9),(42,vI i),(43,vI s)]<|xY [] Int ?_;intro b3 hb3;have h15:RL I [] ([]:List Int):=rfl;refine yD 6 [] [(45,vS p7 y c6),(46,vI k0)]<|bE N fun x2 hy3 N=>nT 1 rfl rfl rfl h8 hy3 ?_;intro ad2 ccs2 hat2 hcc hrep2;obtain ⟨v04,rfl,h16⟩:=hrep2;obtain ⟨p14,c13,rfl⟩:=h16.form;refine zCe 1 0 hat2 hcc [vS p14 x2 c13] (vS p14 x2 c13) rfl rfl ?_;obtain ⟨ccs3,k01,k02⟩:=h16;have h16:SL I (vS p14 x2 c13) x2:=⟨_,k01,k02⟩;obtain ⟨l,hy4,N⟩:=zB N;refine pG 3 1 0 rfl rfl rfl h15 (.inl k01) k02 hy4 fun p15 c14 cs7 h17=>sU (yB [0,1,2,3] (hs':=[hO Int (vS p15 l c14) cs7,hO (List Int) (vS p7 y c6) cs2,hO zS (vS p10 out4 c9) cs5,hB b (cProg p p1 c p2 c1)]))<|yD 10 [] [(50,vA [vI i,vI s,vS p15 l c14])]<|yJ 0 rfl ?_;intro I01 le1 hl0;have h18:=SL.of_frozen hl0 le1 h17;have h8:=iM le1 h8;have h11:=iM le1 h11;have h:=h.mono le1;have h1:=h1.mono le1;have H:=H.trans le1;refine xY [vI i,vI s,vS p15 l c14] zS ?_;intro b4 hb4;have h19:RL I01 [vI i,vI s,vS p15 l c14] ([(zS.mk i s l)]:List zS):=⟨[vI i,vI s,vS p15 l c14],_,rfl,rfl,(eA ⟨_,rfl,h18⟩),rfl⟩;obtain ⟨out6,hy5,N⟩:=zB N;exact pG 29 3 2 rfl rfl rfl h11 (.inr ⟨0,rfl⟩) h19 hy5 fun p16 c15 cs8 h20=>sU (yB [1,2,3] (hs':=[hO (List Int) (vS p7 y c6) cs2,hO zS (vS p16 out6 c15) cs8,hB b (cProg p p1 c p2 c1)]))<|yC [] [(3,vS p16 out6 c15)]<|zT<|zM<|zQ<|yC [] [(7,vI (W (s + 1)))]<|yY<|vE [(1,vP b 0),(3,vS p16 out6 c15),(4,vI i),(5,vS p7 y c6),(6,vI k0),(7,vI (W (s + 1)))]<|ih out6 (W (s + 1)) _ N H h8 h h1 h20 hg ho hx
 intro hc2 N;exact vW<|yT [(1,vP b 0),(3,vS p10 out4 c9),(4,vI i),(5,vS p7 y c6),(6,vI k0)]<|hx _ _ _ _ _ (zC N).symm H h11
def wK (p:zK) (i:Int) (y:(List (List Int))) (out2:List zS) (k0:Int):Option (List zS):=do
 if (decide (k0 < (y.length:Int))) then
  let out5←wJ p i y k0 out2 0
  wK p i y out5 (W (k0 + 1))
 else
  pure (id out2)
 partial_fixpoint
theorem zA5 (p:zK) (i:Int) (y:(List (List Int))):∀ (out2:List zS) (k0:Int) (o:List zS),wK p i y out2 k0=some o→∀ {B}{I0 I:Imm}{Q p1 c p2 c1}{b:Nat}{p7 c6 cs2 p8 c7 cs3},I0.le I→(RL I cs2 y)→(S4 I p1 p.Arrays c)→(S4 I p2 p.Parts c1)→(RL I cs3 out2)→NG Q→NO Q→(∀ (I':Imm) (out3:List zS) (p9:Option Addr) (c8:Nat) (cs4:List Value),o=out3→I0.le I'→(RL I' cs4 out3)→T 54 B Q (.exit 2) I' [hO zS (vS p9 out3 c8) cs4,hB b (cProg p p1 c p2 c1)] [(1,vP b 0),(3,vS p9 out3 c8),(4,vI i)])→J Tryz.prog 54 B (nav (bodyOf Tryz.f125) [1,1,0,1,0,0,1,0,0,1,1,0]) Q I [hO (List Int) (vS p7 y c6) cs2,hO zS (vS p8 out2 c7) cs3,hB b (cProg p p1 c p2 c1)] [(1,vP b 0),(3,vS p8 out2 c7),(4,vI i),(5,vS p7 y c6),(6,vI k0)]:=by
 refine wK.partial_correctness p i y _ fun self ih out2 k0 o N B I0 I Q p1 c p2 c1 b p7 c6 cs2 p8 c7 cs3 H h8 h h1 h9 hg ho hx=>yZ hg ho<|yG<|yF [(27,.bool (decide (k0 < (y.length:Int))))]<|zM<|yL N ?_ ?_
 · intro hc1 N;refine zW<|yI<|yP<|yF [(7,vI 0)]<|wO<|vE [(1,vP b 0),(3,vS p8 out2 c7),(4,vI i),(5,vS p7 y c6),(6,vI k0),(7,vI 0)] ?_;obtain ⟨o0,ho0,hMl⟩:=zB N;refine zA4 p i y k0 out2 0 o0 ho0 iR h8 h h1 h9 (fun _ _ _ h=>hg _ _ _ h) (fun _ _ h=>ho _ _ h) ?_;intro I02 out5 p11 c10 cs6 heq le2 h12;subst o0;have h8:=iM le2 h8;have h:=h.mono le2;have h1:=h1.mono le2;have H:=H.trans le2;exact zX<|zT<|zM<|zQ<|yC [] [(6,vI (W (k0 + 1)))]<|yY<|vE [(1,vP b 0),(3,vS p11 out5 c10),(4,vI i),(5,vS p7 y c6),(6,vI (W (k0 + 1)))]<|ih out5 (W (k0 + 1)) _ hMl H h8 h h1 h12 hg ho hx
 intro hc1 N;exact vW<|xU (yA [1,2] rfl (by decide))<|yT [(1,vP b 0),(3,vS p8 out2 c7),(4,vI i)]<|hx _ _ _ _ _ (zC N).symm H h9
def wL (p:zK) (out:List zS) (i:Int):Option (List zS):=do
 if (decide (i < (p.Parts.length:Int))) then
  let x←idx p.Parts i
  let y←vL ([]:List (List Int)) x.Nest ([]:List Int)
  let out3←wK p i y out 0
  wL p out3 (W (i + 1))
 else
  pure (id out)
 partial_fixpoint
theorem zA6 (p:zK):∀ (out:List zS) (i:Int) (o:List zS),wL p out i=some o→∀ {B}{I0 I:Imm}{Q p1 c p2 c1}{b:Nat}{p3 c2 cs},I0.le I→(S4 I p1 p.Arrays c)→(S4 I p2 p.Parts c1)→(RL I cs out)→NG Q→NO Q→(∀ (I':Imm) (out1:List zS) (p4:Option Addr) (c3:Nat) (cs1:List Value),o=out1→I0.le I'→(RL I' cs1 out1)→T 54 B Q (.exit 0) I' [hO zS (vS p4 out1 c3) cs1] [(3,vS p4 out1 c3)])→J Tryz.prog 54 B (nav (bodyOf Tryz.f125) [1,1,0,1,0]) Q I [hO zS (vS p3 out c2) cs,hB b (cProg p p1 c p2 c1)] [(1,vP b 0),(3,vS p3 out c2),(4,vI i)]:=by
 refine wL.partial_correctness p _ fun self ih out i o N B I0 I Q p1 c p2 c1 b p3 c2 cs H h h1 h3 hg ho hx=>yZ hg ho<|yG<|yK<|yC [1] [(13,.bool (decide (i < (p.Parts.length:Int))))]<|zM<|yL N ?_ ?_
 · intro hc N;refine zW<|yI<|yP<|yK<|xY [] (List Int) ?_;intro b2 hb2;have h5:RL I [] ([]:List (List Int)):=rfl;refine yD 4 [2] [(18,vS p2 p.Parts c1),(19,vI i)]<|bE N fun x hy N=>xS rfl rfl h1 hy ?_;intro ad ccs hat hrep;obtain ⟨p5,c4,p6,c5,rfl,h6,h7⟩:=wT hrep;refine yD 6 [] [(21,.pointer (some ad))]<|xM 0 hat [vS p5 x.Nest c4] (vS p5 x.Nest c4) rfl<|bE N fun y hy1 N=>tM [hO (List Int) (vS (some ⟨b2,0,none⟩) ([]:List (List Int)) 0) []] [hO zS (vS p3 out c2) cs,hB b (cProg p p1 c p2 c1)] (zAL ([]:List (List Int)) x.Nest ([]:List Int) _ hy1 h5 h6 (SL.nil _)) ?_;rintro I0 hs2 v2 k2 le - ⟨p7,c6,cs2,rfl,rfl,h8⟩ -;have h3:=iM le h3;have h:=h.mono le;have h1:=h1.mono le;have H:=H.trans le;refine yC [] [(5,vS p7 y c6)]<|vH [(6,vI 0)]<|wO<|vE [(1,vP b 0),(3,vS p3 out c2),(4,vI i),(5,vS p7 y c6),(6,vI 0)] ?_;obtain ⟨o01,ho01,hMl1⟩:=zB N;refine zA5 p i y out 0 o01 ho01 iR h8 h h1 h3 (fun _ _ _ h=>hg _ _ _ h) (fun _ _ h=>ho _ _ h) ?_;intro I03 out3 p9 c8 cs4 heq1 le3 h10;subst o01;have h:=h.mono le3;have h1:=h1.mono le3;have H:=H.trans le3;exact zX<|zT<|zM<|zQ<|yC [] [(4,vI (W (i + 1)))]<|yY<|vE [(1,vP b 0),(3,vS p9 out3 c8),(4,vI (W (i + 1)))]<|ih out3 (W (i + 1)) _ hMl1 H h h1 h10 hg ho hx
 intro hc N;exact vW<|xU (yA [0] rfl (by decide))<|yT [(3,vS p3 out c2)]<|hx _ _ _ _ _ (zC N).symm H h3
def tA (p:zK):Option ((List zS)):=do
 let out1←wL p ([]:List zS) 0
 pure (id out1)
theorem fS:∀ p r,tA p=some r→∀ {I:Imm}{p1 c p2 c1},(S4 I p1 p.Arrays c)→(S4 I p2 p.Parts c1)→RT 125 [vA (cProg p p1 c p2 c1)] I [] (kD  r):=by
 intro p r N I p1 c p2 c1 h h1;unfold tA at N;refine zY (fn:=Tryz.f125) (c:=(bodyOf Tryz.f125)) Tryz.func125 rfl rfl ?_;rintro B - -;refine yK<|uD (cProg p p1 c p2 c1) ?_;intro b hb;refine yC [] []<|xD<|xY [] zS ?_;intro b1 hb1;have h2:RL I [] ([]:List zS):=rfl;refine yC [] [(3,vS (some ⟨b1,0,none⟩) ([]:List zS) 0)]<|yI<|yF [(4,vI 0)]<|wO<|vE [(1,vP b 0),(3,vS (some ⟨b1,0,none⟩) ([]:List zS) 0),(4,vI 0)] ?_;obtain ⟨o02,ho02,hMl2⟩:=zB N;refine zA6 p ([]:List zS) 0 o02 ho02 iR h h1 h2 (fun _ _ _ h=>h) (fun _ _ h=>h) ?_;intro I04 out1 p4 c3 cs1 heq2 le4 h4;subst o02;refine zX<|vH [(2,vS p4 out1 c3)]<|xG<|xP 0 rfl ?_;intro I05 le5 hl01;have h21:=SL.of_frozen hl01 le5 h4;obtain rfl:=zC hMl2;exact xC ⟨_,_,(.tmp rfl ResV.nil),zR,⟨_,rfl,rfl,h21⟩⟩
def rN (p:zK):Option ((List zS)):=do
 let y←vG p
 if (!y) then
  pure ([]:List zS)
 else
  let y1←tA p
  pure (id y1)
theorem dV:∀ p r,rN p=some r→∀ {I:Imm}{p1 c p2 c1},(S4 I p1 p.Arrays c)→(S4 I p2 p.Parts c1)→RT 88 [vA (cProg p p1 c p2 c1)] I [] (kD  r):=by
 intro p r N I p1 c p2 c1 h h1;unfold rN at N;refine zY (fn:=Tryz.f88) (c:=(bodyOf Tryz.f88)) Tryz.func88 rfl rfl ?_;rintro B - -;refine yK<|uD (cProg p p1 c p2 c1) ?_;intro b hb;refine yC [] []<|yI<|yK<|yD 1 [0] [(3,vA (cProg p p1 c p2 c1))]<|bE N fun y hy N=>vJ (nA p _ hy h h1) ?_;intro I0 le;have h:=h.mono le;have h1:=h1.mono le;refine yC [] [(5,.bool (!y))]<|zM<|yL N ?_ ?_
 · intro hc N;refine yK<|xY [] zS ?_;intro b1 hb1;have h3:RL I0 [] ([]:List zS):=rfl;refine yC [] [(2,vS (some ⟨b1,0,none⟩) ([]:List zS) 0)]<|xG<|zH<|xP 0 rfl ?_;intro I01 le1 hl0;have h4:=SL.of_frozen hl0 le1 h3;obtain rfl:=zC N;exact xC ⟨_,_,(.tmp rfl ResV.nil),zR,⟨_,rfl,rfl,h4⟩⟩
 intro hc N;refine zW<|xD<|yD 1 [0] [(7,vA (cProg p p1 c p2 c1))]<|bE N fun y1 hy1 N=>xT (fS p _ hy1 h h1) ?_;rintro I02 hs2 v2 k2 le2 - ⟨v01,rfl,rfl,h5⟩ -;obtain ⟨p3,c2,rfl⟩:=h5.form;refine yC [] [(2,vS p3 y1 c2)]<|zM<|yX ?_;obtain rfl:=zC N;exact xC ⟨_,_,(.tmp rfl ResV.nil),zR,⟨_,rfl,rfl,h5⟩⟩
def zDL (b0:Nat) (r:Int×zO):KT:=fun kk I' hs' v=>
  ∃ v0 k0,hs'=[.blk b0 ⟨k0⟩]∧v=tupV [v0]∧v0=.int .i64 r.1∧Rp.rep I' k0 r.2
def kV (r0:zO) (p1:zK):Option (Int×zO):=do
 let y←rN p1
 let (t15,x)←(do
   if (decide ((y.length:Int) > 0)) then
    let (y2,y3)←yV r0 8
    pure ((decide (y2 > 0)),y3)
   else
    pure (false,r0)
     : Option (Bool×zO))
 if t15 then
  let (y5,y6)←yV x (y.length:Int)
  pure (y5,y6)
 else
  let (y8,y9)←yW x ([(-1),0,200,9223372036854775807]:List Int)
  pure (y8,y9)
theorem zEZ:∀ r0 p1 r,kV r0 p1=some r→∀ {I:Imm}{r01:Nat}{p c p2 c1 p3 c2},(S4 I p r0.b c)→(S4 I p2 p1.Arrays c1)→(S4 I p3 p1.Parts c2)→RT 66 [vP r01 0,vA (cProg p1 p2 c1 p3 c2)] I [hB r01 (cRd r0 p c)] (zDL r01 r):=by
 intro r0 p1 r N I r01 p c p2 c1 p3 c2 h h1 h2;unfold kV at N;refine zY (fn:=Tryz.f66) (c:=(bodyOf Tryz.f66)) Tryz.func66 rfl rfl ?_;rintro B - -;have H:=iS I;refine yK<|uD (cProg p1 p2 c1 p3 c2) ?_;intro b hb;refine yC [] []<|xD<|yD 1 [0] [(6,vA (cProg p1 p2 c1 p3 c2))]<|bE N fun y hy N=>xT (dV p1 _ hy h1 h2) ?_;rintro I0 hs2 v2 k2 le - ⟨v0,rfl,rfl,h3⟩ -;have h:=h.mono le;have H:=H.trans le;obtain ⟨p4,c3,rfl⟩:=h3.form;refine yC [] [(5,vI (y.length:Int))]<|yI<|yG ?_;obtain ⟨o0,ho0,hMc⟩:=zB N;refine yU (fun I' hs' m'=>∃ (t15:Bool) (x:zO) (p5:Option Addr) (c4:Nat),o0=(t15,x)∧I0.le I'∧(S4 I' p5 x.b c4)∧hs'=[hB r01 (cRd x p5 c4)]∧m'=[(0,vP r01 0),(5,vI (y.length:Int)),(15,.bool t15)]) ?_ ?_
 · have H:=iS I0;refine zQ<|yD 3 [] [(11,.bool (decide ((y.length:Int) > 0)))] ?_;cases hc:(decide ((y.length:Int) > 0)) with
   | true =>
    have hM0:=zP hc ho0
    try rw [hc]
    refine yD 4 [] [(12,vP r01 0)]<|sU (yB [1,0] (hs':=[hB r01 (cRd r0 p c),hB b (cProg p1 p2 c1 p3 c2)])) ?_;obtain ⟨⟨y2,y3⟩,hy1,N⟩:=zB hM0;refine tM [hB r01 (cRd r0 p c)] [hB b (cProg p1 p2 c1 p3 c2)] (xH r0 8 _ hy1 h) ?_;rintro I02 hs2 v2 k2 le1 - ⟨v01,kk,rfl,rfl,rfl,h6⟩ -;have H:=H.trans le1;obtain ⟨p6,c5,rfl,h7⟩:=yE h6;exact yC [] [(15,.bool (decide (y2 > 0)))]<|xU (yA [0] rfl (by decide))<|yT [(0,vP r01 0),(5,vI (y.length:Int)),(15,.bool (decide (y2 > 0)))]<|zV ⟨_,_,_,_,(zC N).symm,H,h7,rfl,rfl⟩
   | false =>
    have hM01:=zL hc ho0
    try rw [hc]
    exact yC [] [(15,vF)]<|xU (yA [1] rfl (by decide))<|yT [(0,vP r01 0),(5,vI (y.length:Int)),(15,vF)]<|zV ⟨_,_,_,_,(zC hM01).symm,H,h,rfl,rfl⟩
 rintro I01 hs2 m2 ⟨t15,x,p5,c4,heq,le2,h4,rfl,rfl⟩;subst o0;refine zM<|yL hMc ?_ ?_
 · intro hc1 N;refine yK<|yD 2 [] [(16,vP r01 0),(17,vI (y.length:Int))] ?_;obtain ⟨⟨y5,y6⟩,hy2,N⟩:=zB N;refine tM [hB r01 (cRd x p5 c4)] [] (xH x (y.length:Int) _ hy2 h4) ?_;rintro I03 hs2 v2 k2 le3 - ⟨v03,kk1,rfl,rfl,rfl,h9⟩ -;obtain ⟨p7,c6,rfl,h10⟩:=yE h9;refine yC [] [(4,vI y5)]<|xG<|zH ?_;obtain rfl:=zC N;exact xC ⟨_,_,(.tmp rfl ResV.nil),(yA [0] rfl (by decide)),⟨_,_,rfl,rfl,rfl,(yR ⟨_,rfl,h10⟩)⟩⟩
 intro hc1 N;refine zW<|xD<|yD 1 [] [(19,vP r01 0)]<|xY [vI (-1),vI 0,vI 200,vI 9223372036854775807] Int ?_;intro b1 hb1;have h11:RL I01 [vI (-1),vI 0,vI 200,vI 9223372036854775807] ([(-1),0,200,9223372036854775807]:List Int):=⟨[vI (-1)],_,rfl,rfl,rfl,⟨[vI 0],_,rfl,rfl,rfl,⟨[vI 200],_,rfl,rfl,rfl,⟨[vI 9223372036854775807],_,rfl,rfl,rfl,rfl⟩⟩⟩⟩;refine yJ 0 rfl ?_;intro I04 le4 hl0;have h12:=SL.of_frozen hl0 le4 h11;have h4:=h4.mono le4;obtain ⟨⟨y8,y9⟩,hy3,N⟩:=zB N;refine tM [hB r01 (cRd x p5 c4)] [] (xI x ([(-1),0,200,9223372036854775807]:List Int) _ hy3 h4 h12) ?_;rintro I05 hs2 v2 k2 le5 - ⟨v05,kk2,rfl,rfl,rfl,h14⟩ -;obtain ⟨p8,c7,rfl,h15⟩:=yE h14;refine yC [] [(4,vI y8)]<|zM<|yX ?_;obtain rfl:=zC N;exact xC ⟨_,_,(.tmp rfl ResV.nil),(yA [0] rfl (by decide)),⟨_,_,rfl,rfl,rfl,(yR ⟨_,rfl,h15⟩)⟩⟩
def fK (r:zK×Int):KT:=fun kk I' hs' v=>
  ∃ v0 v1,hs'=[]∧v=tupV [v0,v1]∧(∃ cs,v0=.agg ⟨cs⟩∧Rp.rep I' cs r.1)∧v1=.int .i64 r.2
def oN (code:(List UInt8)):Option (zK×Int):=do
 let y←kL code
 let (y2,y3)←eJ y
 let (y5,y6)←qH y3 y2
 let (y8,y9)←kV y6 y5
 pure (y5,y8)
theorem eK:∀ code r,oN code=some r→∀ {I:Imm}{p c},(S4 I p code c)→RT 19 [vS p code c] I [] (fK  r):=by
 intro code r N I p c h;unfold oN at N;refine zY (fn:=Tryz.f19) (c:=(bodyOf Tryz.f19)) Tryz.func19 rfl rfl ?_;rintro B - -;have H:=iS I;refine yK<|wR zTwo ?_;intro b hb;refine yC [] []<|xD<|yD 1 [] [(6,vS p code c)]<|bE N fun y hy N=>xT (zEK code _ hy h) ?_;rintro I0 hs2 v2 k2 le - ⟨b1,p1,c1,rfl,rfl,h1⟩ -;have H:=H.trans le;refine yC [] [(4,vP b1 0)]<|xD<|yD 2 [] [(8,vP b1 0),(9,vP b1 0)] ?_;obtain ⟨⟨y2,y3⟩,hy1,N⟩:=zB N;refine tM [hB b1 (cRd y p1 c1)] [hB b zTwo] (zEY y _ hy1 h1) ?_;rintro I01 hs2 v2 k2 le1 - ⟨v0,kk,rfl,rfl,⟨cs,rfl,h2⟩,h3⟩ -;have H:=H.trans le1;obtain ⟨p2,c2,p3,c3,rfl,h4,h5⟩:=pS h2;obtain ⟨p4,c4,rfl,h6⟩:=yE h3;obtain ⟨⟨y5,y6⟩,hy2,N⟩:=zB N;refine tM [hB b1 (cRd y3 p4 c4)] [hB b zTwo] (zDc y3 y2 _ hy2 h6 h4 h5) ?_;rintro I02 hs2 v2 k2 le2 - ⟨v04,kk1,rfl,rfl,⟨cs1,rfl,h7⟩,h8⟩ -;have H:=H.trans le2;obtain ⟨p5,c5,p6,c6,rfl,h9,h10⟩:=pS h7;obtain ⟨p7,c7,rfl,h11⟩:=yE h8;refine wR zTwo ?_;intro b2 hb1;refine xE 0 (cProg y5 p5 c5 p6 c6) [hB b2 (cProg y5 p5 c5 p6 c6),hB b1 (cRd y6 p7 c7),hB b zTwo] rfl rfl rfl rfl<|yH rfl<|zM<|yG ?_;obtain ⟨⟨y8,y9⟩,hy3,N⟩:=zB N;refine wA [.p (vA (cProg y5 p5 c5 p6 c6)) [0],.p (vP b1 0) [],.p (vA (cProg y5 p5 c5 p6 c6)) [0],.x (fun I' v hx=>∃ p8 c8,v=vI y8∧hx=[hB b1 (cRd y9 p8 c8)]∧(S4 I' p8 y9.b c8)),.x (fun I' v hx=>hx=[hB b (cProg y5 p5 c5 p6 c6)])] [[],[],[],[(1,false),(2,false),(6,true)],[(0,false),(7,true)]] [hB b2 (cProg y5 p5 c5 p6 c6)] [[hB b1 (cRd y6 p7 c7)],[hB b zTwo]] [(3,true),(4,true)] (yB [0,1,2]) ?_ ?_
 · refine Op<|Op<|Op<|Ox ?_<|Ox ?_<|On
   · intro I1 hf le1;refine zF ?_;rintro _ _ ⟨rfl,rfl⟩;refine zF ?_;rintro _ _ ⟨rfl,rfl⟩;refine zF ?_;rintro _ _ rfl;refine yM [(13,vP b1 0),(14,vA (cProg y5 p5 c5 p6 c6))] ?_;have H:=iS I1;have h9:=h9.mono le1;have h10:=h10.mono le1;have h11:=h11.mono le1;refine tM [hB b1 (cRd y6 p7 c7)] (hB b2 (cProg y5 p5 c5 p6 c6)::hf) (zEZ y6 y5 _ hy3 h11 h9 h10) ?_;rintro I03 hs2 v2 k2 le3 - ⟨v08,kk2,rfl,rfl,rfl,h13⟩ -;have H:=H.trans le3;obtain ⟨p8,c8,rfl,h14⟩:=yE h13;exact yO [hB b1 (cRd y9 p8 c8)] H ⟨_,_,rfl,rfl,h14⟩
   intro I1 hf le1;refine zF ?_;rintro _ _ ⟨rfl,rfl⟩;refine zF ?_;rintro _ _ rfl;refine yM [(2,vP b 0),(12,vA (cProg y5 p5 c5 p6 c6))] ?_;have H:=iS I1;exact xE 0 (cProg y5 p5 c5 p6 c6) (hB b (cProg y5 p5 c5 p6 c6)::hB b2 (cProg y5 p5 c5 p6 c6)::hf) rfl rfl rfl rfl<|zEp (hx:=[hB b (cProg y5 p5 c5 p6 c6)]) rfl H rfl (zGw (v:=undef)) rfl
 intro I04 le4;refine zF ?_;rintro _ _ ⟨p8,c8,rfl,rfl,h14⟩;refine zF ?_;rintro _ _ rfl;refine yM [(2,vP b 0),(15,vI y8)] ?_;have h9:=h9.mono le4;have h10:=h10.mono le4;refine yC [] [(3,vI y8)]<|zM<|yX ?_;obtain rfl:=zC N;exact xC ⟨_,_,(.cell 0 rfl rfl (by kernel_rfl) (.tmp rfl ResV.nil)),zR,⟨_,_,rfl,rfl,⟨_,rfl,(wZ ⟨_,_,rfl,h9,h10⟩)⟩,rfl⟩⟩
def zA7 (r:zI):KT:=fun kk I' hs' v=>
  ∃ v0,hs'=[]∧v=tupV [v0]∧(∃ cs,v0=.agg ⟨cs⟩∧Rp.rep I' cs r)
def nS (p:zK) (x:zS):Option (zI):=do
 let x1←idx p.Parts x.Part
 let x2←idx x1.Body x.Stmt
 pure (id x2)
theorem fE:∀ p x r,nS p x=some r→∀ {I:Imm}{p1 c p2 c1 p3 c2},(S4 I p1 p.Arrays c)→(S4 I p2 p.Parts c1)→(S4 I p3 x.Point c2)→RT 43 [vA (cProg p p1 c p2 c1),vA (cInst x p3 c2)] I [] (zA7  r):=by
 intro p x r N I p1 c p2 c1 p3 c2 h h1 h2;unfold nS at N;refine zY (fn:=Tryz.f43) (c:=(bodyOf Tryz.f43)) Tryz.func43 rfl rfl ?_;rintro B - -;refine yK<|uD (cProg p p1 c p2 c1) ?_;intro b hb;refine uD (cInst x p3 c2) ?_;intro b1 hb1;refine wR [vT ([]),z0,vI 0,vI 0,z0,vI 0,vT ([]),z0,z0] ?_;intro b2 hb2;refine yH rfl<|zM<|yG ?_;obtain ⟨x1,hy,N⟩:=zB N;obtain ⟨x2,hy1,N⟩:=zB N;refine wA [.p (vP b 1) [],.p (vS p2 p.Parts c1) [2],.p (vP b1 0) [],.p (vI x.Part) [1],.x (fun I' v hx=>∃ ad p4 c3 p5 c4,v=.pointer (some ad)∧hx=[]∧(At I' ad (cPart x1 p4 c3 p5 c4))∧(S4 I' p4 x1.Nest c3)∧(S4 I' p5 x1.Body c4)),.x (fun I' v hx=>∃ ad1 p41 c31 p51 c41,v=.pointer (some (ad1.add 1))∧hx=[]∧(At I' ad1 (cPart x1 p41 c31 p51 c41))∧(S4 I' p41 x1.Nest c31)∧(S4 I' p51 x1.Body c41)),.x (fun I' v hx=>∃ p511 c411,v=vS p511 x1.Body c411∧hx=[]∧(S4 I' p511 x1.Body c411)),.p (vP b1 1) [],.p (vI x.Stmt) [1],.x (fun I' v hx=>∃ ad2 p6 c5 p7 c6 p8 c7 p9 c8,v=.pointer (some ad2)∧hx=[]∧(At I' ad2 (cStmt x2 p6 c5 p7 c6 p8 c7 p9 c8))∧(S4 I' p6 x2.Write.Subs c5)∧(S4 I' p7 x2.Value.Index.Coefs c6)∧(S4 I' p8 x2.Value.Read.Subs c7)∧(S4 I' p9 x2.Value.Kids c8)),.x (fun I' v hx=>∃ p61 c51 p71 c61 p81 c71 p91 c81,v=vA (cStmt x2 p61 c51 p71 c61 p81 c71 p91 c81)∧hx=[]∧(S4 I' p61 x2.Write.Subs c51)∧(S4 I' p71 x2.Value.Index.Coefs c61)∧(S4 I' p81 x2.Value.Read.Subs c71)∧(S4 I' p91 x2.Value.Kids c81))] [[],[(0,false)],[],[(2,false)],[(1,false),(3,false)],[(4,false)],[(5,false)],[],[(7,false)],[(6,false),(8,false)],[(9,false)]] [hB b2 [vT ([]),z0,vI 0,vI 0,z0,vI 0,vT ([]),z0,z0],hB b1 (cInst x p3 c2),hB b (cProg p p1 c p2 c1)] [] [(10,false)] (yB [0,1,2]) ?_ ?_
 · refine Op<|Op<|Op<|Op<|Ox ?_<|Ox ?_<|Ox ?_<|Op<|Op<|Ox ?_<|Ox ?_<|On
   · intro I1 hf le1;refine yM [(6,vS p2 p.Parts c1),(8,vI x.Part)] ?_;have h1:=h1.mono le1;refine xS rfl rfl h1 hy ?_;intro ad ccs hat hrep;obtain ⟨p4,c3,p5,c4,rfl,h3,h4⟩:=wT hrep;exact yO [] iR ⟨_,_,_,_,_,rfl,rfl,hat,h3,h4⟩
   · intro I1 hf le1;refine zF ?_;rintro _ _ ⟨ad,p4,c3,p5,c4,rfl,rfl,hat,h3,h4⟩;exact yM [(9,.pointer (some ad))]<|uS 6 [(10,.pointer (some (ad.add 1)))]<|yO [] iR ⟨_,_,_,_,_,rfl,rfl,hat,h3,h4⟩
   · intro I1 hf le1;refine zF ?_;rintro _ _ ⟨ad1,p41,c31,p51,c41,rfl,rfl,hat1,h31,h41⟩;exact yM [(10,.pointer (some (ad1.add 1)))]<|xM 1 hat1 [vS p51 x1.Body c41] (vS p51 x1.Body c41) rfl<|yO [] iR ⟨_,_,rfl,rfl,h41⟩
   · intro I1 hf le1;refine zF ?_;rintro _ _ ⟨p511,c411,rfl,rfl,h411⟩;refine yM [(11,vS p511 x1.Body c411),(13,vI x.Stmt)]<|xS rfl rfl h411 hy1 ?_;intro ad2 ccs1 hat2 hrep1;obtain ⟨p6,c5,p7,c6,p8,c7,p9,c8,rfl,h5,h6,h7,h8⟩:=tQ hrep1;exact yO [] iR ⟨_,_,_,_,_,_,_,_,_,rfl,rfl,hat2,h5,h6,h7,h8⟩
   intro I1 hf le1;refine zF ?_;rintro _ _ ⟨ad2,p6,c5,p7,c6,p8,c7,p9,c8,rfl,rfl,hat2,h5,h6,h7,h8⟩;exact yM [(14,.pointer (some ad2))]<|xM 0 hat2 (cStmt x2 p6 c5 p7 c6 p8 c7 p9 c8) (vA (cStmt x2 p6 c5 p7 c6 p8 c7 p9 c8)) rfl<|yO [] iR ⟨_,_,_,_,_,_,_,_,rfl,rfl,h5,h6,h7,h8⟩
 intro I0 le;refine zF ?_;rintro _ _ ⟨p61,c51,p71,c61,p81,c71,p91,c81,rfl,rfl,h51,h61,h71,h81⟩;refine yM [(4,vP b2 0),(15,vA (cStmt x2 p61 c51 p71 c61 p81 c71 p91 c81))] ?_;refine xE 0 (cStmt x2 p61 c51 p71 c61 p81 c71 p91 c81) [hB b2 (cStmt x2 p61 c51 p71 c61 p81 c71 p91 c81),hB b1 (cInst x p3 c2),hB b (cProg p p1 c p2 c1)] rfl rfl rfl rfl<|yH rfl<|zM<|yX ?_;obtain rfl:=zC N;exact xC ⟨_,_,(.cell 0 rfl rfl (by kernel_rfl) ResV.nil),zR,⟨_,rfl,rfl,⟨_,rfl,(wM ⟨_,_,_,_,rfl,h51,h61,h71,h81⟩)⟩⟩⟩
def mJ (hsF:List HA) (r:Int):KT:=fun kk I' hs' v=>
  ∃ v0,hsF=hs'∧v=tupV [v0]∧v0=.int .i64 r
def wE (s:(List Int)) (f0:(Int→Option Bool)) (t8:Int):Option (Out Unit (Int)):=do
 if (decide (t8 < (s.length:Int))) then
  let x←idx s t8
  let y←f0 x
  if y then
   pure (.ret t8)
  else
   wE s f0 (W (t8 + 1))
 else
  pure (.done ())
 partial_fixpoint
theorem gV (s:(List Int)) (f0:(Int→Option Bool)):∀ (t8:Int) (o:Out Unit (Int)),wE s f0 t8=some o→∀ {B}{I0 I:Imm}{Q p c}{fv:Value}{hsF:List HA},I0.le I→(S4 I p s c)→(FV1 Tryz.prog I hsF fv f0)→NG Q→NO Q→(∀ (I':Imm) ,o=(.done ())→I0.le I'→T 19 B Q (.exit 0) I' hsF [])→(∀ r I' hs' m',o=(.ret r)→I0.le I'→RS Tryz.prog Tryz.f111 B (mJ hsF r) I' hs' m'→T 19 B Q .ret I' hs' m')→J Tryz.prog 19 B (nav (bodyOf Tryz.f111) [1,0,1,0]) Q I hsF [(0,vS p s c),(1,fv),(7,vI (s.length:Int)),(8,vI t8)]:=by
 refine wE.partial_correctness s f0 _ fun self ih t8 o N B I0 I Q p c fv hsF H h h1 hg ho hx hr=>yZ hg ho<|yF [(9,.bool (decide (t8 < (s.length:Int))))]<|yI<|yL N ?_ ?_
 · intro hc N;refine zW<|yI<|yP<|yF [(5,vI t8)]<|xD<|yD 3 [] [(11,fv),(12,vS p s c),(13,vI t8)]<|bE N fun x hy N=>xS rfl rfl h hy ?_;intro ad ccs hat hrep;obtain rfl:=hrep;refine xM 0 hat [vI x] (vI x) rfl<|bE N fun y hy1 N=>zID rfl rfl h1 hy1 rfl (List.append_nil _).symm ?_;rintro I0 v0 le rfl;refine uC (hs':=hsF) (List.append_nil _) ?_;have h:=h.mono le;have h1:=h1.mono le;have H:=H.trans le;refine yH rfl<|zM<|yL N ?_ ?_
   · intro hc1 N;exact yF [(4,vI t8)]<|xG<|zZ<|zH<|zH<|hr _ _ _ _ (zC N).symm H ⟨_,_,(.tmp rfl ResV.nil),(fun _ h=>h),⟨_,rfl,rfl,rfl⟩⟩
   intro hc1 N;exact zW<|zT<|zM<|zQ<|yC [] [(8,vI (W (t8 + 1)))]<|yY<|vE [(0,vS p s c),(1,fv),(7,vI (s.length:Int)),(8,vI (W (t8 + 1)))]<|ih (W (t8 + 1)) _ N H h h1 hg ho hx hr
 intro hc N;exact vW<|yT []<|hx _  (zC N).symm H
def qC (s:(List Int)) (f0:(Int→Option Bool)):Option (Int):=do
 match←wE s f0 0 with
 | .ret r0=>pure r0
 | .done _ =>
  pure (-1)
theorem fU:∀ s f0 r,qC s f0=some r→∀ {I:Imm}{p c}{fv:Value}{hsF:List HA},(S4 I p s c)→(FV1 Tryz.prog I hsF fv f0)→RT 111 [vS p s c,fv] I hsF (mJ hsF r):=by
 intro s f0 r N I p c fv hsF h h1;unfold qC at N;refine zY (fn:=Tryz.f111) (c:=(bodyOf Tryz.f111)) Tryz.func111 rfl rfl ?_;rintro B - -;refine yF []<|yI<|yF [(7,vI (s.length:Int)),(8,vI 0)]<|wO<|vE [(0,vS p s c),(1,fv),(7,vI (s.length:Int)),(8,vI 0)] ?_;obtain ⟨o0,ho0,hMl⟩:=zB N;refine gV s f0 0 o0 ho0 iR h h1 (fun _ _ _ h=>h) (fun _ _ h=>h) ?_ ?_
 · intro I01  heq le1;subst o0;refine zX<|vH [(4,vI (-1))]<|zM<|yX ?_;obtain rfl:=zC hMl;exact xC ⟨_,_,(.tmp rfl ResV.nil),(fun _ h=>h),⟨_,rfl,rfl,rfl⟩⟩
 intro r0 I9 hs9 m9 heq9 le9 hrs9;subst heq9;refine zZ<|zH ?_;obtain rfl:=zC hMl;exact xC hrs9
def gH (hsF:List HA) (r:Bool):KT:=fun kk I' hs' v=>
  ∃ v0,hsF=hs'∧v=tupV [v0]∧v0=.bool r
def xQ (s:(List Int)) (f0:(Int→Option Bool)):Option (Bool):=do
 let y←qC s f0
 pure (decide (y ≥ 0))
theorem sG:∀ s f0 r,xQ s f0=some r→∀ {I:Imm}{p c}{fv:Value}{hsF:List HA},(S4 I p s c)→(FV1 Tryz.prog I hsF fv f0)→RT 58 [vS p s c,fv] I hsF (gH hsF r):=by
 intro s f0 r N I p c fv hsF h h1;unfold xQ at N;refine zY (fn:=Tryz.f58) (c:=(bodyOf Tryz.f58)) Tryz.func58 rfl rfl ?_;rintro B - -;refine yF []<|xD<|yD 2 [] [(5,vS p s c),(6,fv)]<|bE N fun y hy N=>zD1 (hs1:=hsF) (rest:=[]) rfl rfl rfl rfl (by kernel_rfl) rfl (List.append_nil _).symm (fU s f0 _ hy h h1) ?_;rintro I0 hs2 v2 k2 le - ⟨v0,rfl,rfl,rfl⟩ -;refine uC (hs':=hsF) (List.append_nil _) ?_;refine yC [] [(4,.bool (decide (y ≥ 0)))]<|zM<|yX ?_;obtain rfl:=zC N;exact xC ⟨_,_,(.tmp rfl ResV.nil),(fun _ h=>h),⟨_,rfl,rfl,rfl⟩⟩
def wD (n0:Int) (low:Int) (high:Int):Option (Bool):=do
 let t6←(do
   if (decide (low ≤ n0)) then
    pure (decide (n0 ≤ high))
   else
    pure false
     : Option Bool)
 pure (id t6)
theorem wF:∀ n0 low high r,wD n0 low high=some r→∀ {I:Imm} ,RT 68 [vI n0,vI low,vI high] I [] (zU  r):=by
 intro n0 low high r N I;unfold wD at N;refine zY (fn:=Tryz.f68) (c:=(bodyOf Tryz.f68)) Tryz.func68 rfl rfl ?_;rintro B - -;have H:=iS I;refine yF []<|zM<|yG ?_;obtain ⟨o0,ho0,hMc⟩:=zB N;refine yU (fun I' hs' m'=>∃ (t6:Bool),o0=t6∧I.le I'∧hs'=[]∧m'=[(6,.bool t6)]) ?_ ?_
 · have H:=iS I;refine zQ<|yD 4 [] [(10,.bool (decide (low ≤ n0)))] ?_;cases hc:(decide (low ≤ n0)) with
   | true =>
    have hM0:=zP hc ho0
    try rw [hc]
    exact yC [] [(6,.bool (decide (n0 ≤ high)))]<|yT [(6,.bool (decide (n0 ≤ high)))]<|zV (ct hM0 H)
   | false =>
    have hM01:=zL hc ho0
    try rw [hc]
    exact yC [] [(6,vF)]<|yT [(6,vF)]<|zV (ct hM01 H)
 rintro I0 hs2 m2 ⟨t6,heq,le,rfl,rfl⟩;subst o0;refine zM<|yX ?_;obtain rfl:=zC hMc;exact wN
def pE (n0:Int):Option (Bool):=do
 let y←wD n0 (-9999) 9999
 pure (!y)
theorem zDM:∀ n0 r,pE n0=some r→∀ {I:Imm} ,RT 108 [vI n0] I [] (zU  r):=by
 intro n0 r N I;unfold pE at N;refine zY (fn:=Tryz.f108) (c:=(bodyOf Tryz.f108)) Tryz.func108 rfl rfl ?_;rintro B - -;refine yF []<|xD<|yD 1 [] [(3,vI n0)]<|bE N fun y hy N=>vJ (wF n0 (-9999) 9999 _ hy ) fun I0 le=>yC [] [(2,.bool (!y))]<|zM<|yX ?_;obtain rfl:=zC N;exact wN
def kW (point:(List Int)):Option (Bool):=do
 let t2←(do
   if (decide ((point.length:Int) ≤ 4)) then
    let y←xQ point pE
    pure (!y)
   else
    pure false
     : Option Bool)
 pure (id t2)
theorem zE0:∀ point r,kW point=some r→∀ {I:Imm}{p c},(S4 I p point c)→RT 55 [vS p point c] I [] (zU  r):=by
 intro point r N I p c h;unfold kW at N;refine zY (fn:=Tryz.f55) (c:=(bodyOf Tryz.f55)) Tryz.func55 rfl rfl ?_;rintro B - -;have H:=iS I;refine yF []<|zM<|yG ?_;obtain ⟨o0,ho0,hMc⟩:=zB N;refine yU (fun I' hs' m'=>∃ (t2:Bool),o0=t2∧I.le I'∧hs'=[]∧m'=[(2,.bool t2)]) ?_ ?_
 · have H:=iS I;refine zQ<|yD 4 [] [(6,.bool (decide ((point.length:Int) ≤ 4)))] ?_;cases hc:(decide ((point.length:Int) ≤ 4)) with
   | true =>
    have hM0:=zP hc ho0
    try rw [hc]
    refine yD 5 [] [(7,vS p point c)] ?_;have hf0:FV1 Tryz.prog I [] (.func (.func 108) ⟨[]⟩ ⟨[]⟩) pE:=by
      refine FV1.intro ?_;intro I1 le1 x0 r u0 hF k0;obtain rfl:=k0;exact (zDM x0 r hF ).mono (by rintro k i hs u ⟨v0,rfl,rfl,h⟩; exact ⟨rfl,h⟩)
    obtain ⟨y,hy,N⟩:=zB hM0;refine xT (sG point pE _ hy h hf0) ?_;rintro I01 hs2 v2 k2 le - ⟨v0,rfl,rfl,rfl⟩ -;have H:=H.trans le;exact yC [] [(2,.bool (!y))]<|yT [(2,.bool (!y))]<|zV (ct N H)
   | false =>
    have hM01:=zL hc ho0
    try rw [hc]
    exact yC [] [(2,vF)]<|yT [(2,vF)]<|zV (ct hM01 H)
 rintro I0 hs2 m2 ⟨t2,heq,le1,rfl,rfl⟩;subst o0;refine zM<|yX ?_;obtain rfl:=zC hMc;exact wN
def mN (s:Str) (substr:Str):Option Bool:=match substr.l with | [c]=>some (decide (0 ≤ Lib.indexByte s.l c)) | _=>none
theorem zBj:∀ (s substr:Str) r,mN s substr=some r→∀ {I:Imm},RT 150 [vT s.l,vT substr.l] I [] (zU r):=by
 intro s substr r N I;unfold mN at N;split at N
 · rename_i c hc;cases N
   rw [hc];exact zIV (fun w g=>(Tryz.strings_Contains_one ⟨⟨s.l⟩⟩ c w).mono fun e w' ⟨h1,h2⟩=>⟨h1,h2 ▸ RowKit.Below.refl _ _⟩) fun k=>⟨_,rfl,rfl,rfl⟩
 cases N
def mA (s:Str):Option (Bool):=do
 let t2←(do
   if ((s.l.length:Int) == 1) then
    let y←mN (⟨[65,66,67,68]⟩:Str) s
    pure (id y)
   else
    pure false
     : Option Bool)
 pure (id t2)
theorem pV:∀ s r,mA s=some r→∀ {I:Imm} ,RT 103 [vT s.l] I [] (zU  r):=by
 intro s r N I;unfold mA at N;refine zY (fn:=Tryz.f103) (c:=(bodyOf Tryz.f103)) Tryz.func103 rfl rfl ?_;rintro B - -;have H:=iS I;refine yF []<|zM<|yG ?_;obtain ⟨o0,ho0,hMc⟩:=zB N;refine yU (fun I' hs' m'=>∃ (t2:Bool),o0=t2∧I.le I'∧hs'=[]∧m'=[(2,.bool t2)]) ?_ ?_
 · have H:=iS I;refine zQ<|yD 4 [] [(6,.bool ((s.l.length:Int) == 1))] ?_;cases hc:((s.l.length:Int) == 1) with
   | true =>
    have hM0:=zP hc ho0
    try rw [hc]
    refine yD 5 [] [(7,vT s.l)] ?_;obtain ⟨y,hy,N⟩:=zB hM0;refine vJ (zBj (⟨[65,66,67,68]⟩:Str) s _ hy ) ?_;intro I01 le;have H:=H.trans le;exact yC [] [(2,.bool y)]<|yT [(2,.bool y)]<|zV (ct N H)
   | false =>
    have hM01:=zL hc ho0
    try rw [hc]
    exact yC [] [(2,vF)]<|yT [(2,vF)]<|zV (ct hM01 H)
 rintro I0 hs2 m2 ⟨t2,heq,le1,rfl,rfl⟩;subst o0;refine zM<|yX ?_;obtain rfl:=zC hMc;exact wN
def uY (n0:Int):Option (Bool):=do
 let y←wD n0 1 6
 pure (!y)
theorem eM:∀ n0 r,uY n0=some r→∀ {I:Imm} ,RT 159 [vI n0] I [] (zU  r):=by
 intro n0 r N I;unfold uY at N;refine zY (fn:=Tryz.f159) (c:=(bodyOf Tryz.f159)) Tryz.func159 rfl rfl ?_;rintro B - -;refine yF []<|xD<|yD 1 [] [(3,vI n0)]<|bE N fun y hy N=>vJ (wF n0 1 6 _ hy ) fun I0 le=>yC [] [(2,.bool (!y))]<|zM<|yX ?_;obtain rfl:=zC N;exact wN
def rK (list:(List zE)) (t7:Int):Option (Out Unit (Bool)):=do
 if (decide (t7 < (list.length:Int))) then
  let x←idx list t7
  let t42←(do
    let y←mA x.Name
    if (!y) then
     pure true
    else
     if (decide (t7 > 0)) then
      let x1←idx list (W (t7 - 1))
      if (!(Op.bytesLess x1.Name.l x.Name.l)) then
       pure true
      else
       let y1←wD (x.Dims.length:Int) 1 2
       if (!y1) then
        pure true
       else
        let y2←xQ x.Dims uY
        pure (id y2)
     else
      let y3←wD (x.Dims.length:Int) 1 2
      if (!y3) then
       pure true
      else
       let y4←xQ x.Dims uY
       pure (id y4)
      : Option Bool)
  if t42 then
   pure (.ret false)
  else
   rK list (W (t7 + 1))
 else
  pure (.done ())
 partial_fixpoint
theorem zBk (list:(List zE)):∀ (t7:Int) (o:Out Unit (Bool)),rK list t7=some o→∀ {B}{I0 I:Imm}{Q p c},I0.le I→(S4 I p list c)→NG Q→NO Q→(∀ (I':Imm) ,o=(.done ())→I0.le I'→T 47 B Q (.exit 0) I' [] [(0,vS p list c)])→(∀ r I' hs' m',o=(.ret r)→I0.le I'→RS Tryz.prog Tryz.f116 B (zU  r) I' hs' m'→T 47 B Q .ret I' hs' m')→J Tryz.prog 47 B (nav (bodyOf Tryz.f116) [1,0,1,0]) Q I [] [(0,vS p list c),(5,vS p list c),(6,vI (list.length:Int)),(7,vI t7)]:=by
 refine rK.partial_correctness list _ fun self ih t7 o N B I0 I Q p c H h hg ho hx hr=>yZ hg ho<|yF [(8,.bool (decide (t7 < (list.length:Int))))]<|yI<|yL N ?_ ?_
 · intro hc N;refine zW<|yI<|yP<|yK<|yD 1 [] [(9,vI t7)]<|bE N fun x hy N=>xS rfl rfl h hy ?_;intro ad ccs hat hrep;obtain ⟨p1,c1,rfl,h1⟩:=wH hrep;refine xM 0 hat (cArr x p1 c1) (vA (cArr x p1 c1)) rfl<|wR [vT ([]),z0] ?_;intro b hb;refine yD 5 [] [(3,vI t7)]<|xE 0 (cArr x p1 c1) [hB b (cArr x p1 c1)] rfl rfl rfl rfl<|yH rfl<|zM<|yG ?_;obtain ⟨o0,ho0,hMc⟩:=zB N;refine yU (fun I' hs' m'=>∃ (t42:Bool),o0=t42∧I.le I'∧hs'=[]∧m'=[(0,vS p list c),(5,vS p list c),(6,vI (list.length:Int)),(7,vI t7),(42,.bool t42)]) ?_ ?_
   · have H:=iS I;obtain ⟨y,hy1,N⟩:=zB ho0;cases hc1:(!y) with
     | true =>
      have hM0:=zP hc1 N;refine wA [.p (vP b 0) [],.p (vT x.Name.l) [0],.q (.bool y),.q vY,.q vY,.p undef [],.p undef [],.p undef [],.p undef [],.p undef [],.p undef [],.p undef [],.p undef [],.p undef [],.p undef [],.p undef [],.p undef [],.p undef [],.p vY [],.p vY [],.p undef [],.p undef [],.p undef [],.p undef [],.p undef [],.p vY [],.p vY [],.p undef [],.p undef [],.p undef [],.p vY []] [[],[(0,false)],[(1,false)],[(2,false)],[(3,false)],[(4,false)],[(4,false),(5,false)],[(4,false),(6,false)],[(7,false)],[(7,false)],[(7,false),(9,false)],[(7,false),(8,false),(10,false)],[(7,false),(11,false)],[(7,false),(12,false)],[(7,false)],[(7,false),(14,false)],[(7,false),(13,false),(15,false)],[(4,false),(7,false),(16,false)],[(4,false),(17,false)],[(18,false)],[(19,false)],[(19,false),(20,false)],[(19,false),(21,false)],[(19,false),(22,false)],[(19,false),(23,false)],[(19,false),(24,false)],[(25,false)],[(26,false)],[(26,false),(27,false)],[(26,false),(28,false)],[(26,false),(29,false)]] [hB b (cArr x p1 c1)] [] [(30,false)] (yB [0]) ?_ ?_
      · refine Op<|Op<|Oq ?_<|Oq ?_<|Oq ?_<|Op<|Op<|Op<|Op<|Op<|Op<|Op<|Op<|Op<|Op<|Op<|Op<|Op<|Op<|Op<|Op<|Op<|Op<|Op<|Op<|Op<|Op<|Op<|Op<|Op<|Op<|On
        · intro I1 hf le1;refine yM [(13,vT x.Name.l)] ?_;have H:=iS I1;refine vJ (pV x.Name _ hy1 ) ?_;intro I01 le;have H:=H.trans le;exact yS H
        · intro I1 hf le1;refine yM [(14,.bool y)]<|uS 4 [(15,.bool (!y))] ?_;rw [hc1];exact yS iR
        intro I1 hf le1;exact yM [(15,vY)]<|uS 5 [(16,vY)]<|yS iR
      intro I02 le1;refine yM [(0,vS p list c),(5,vS p list c),(6,vI (list.length:Int)),(7,vI t7),(42,vY)] ?_;have H:=H.trans le1;exact yH rfl<|xU zR<|yT [(0,vS p list c),(5,vS p list c),(6,vI (list.length:Int)),(7,vI t7),(42,vY)]<|zV (ct hM0 H)
     | false =>
      have hM01:=zL hc1 N;cases hc2:(decide (t7 > 0)) with
      | true =>
       have hM02:=zP hc2 hM01;obtain ⟨x1,hy2,N⟩:=zB hM02;cases hc3:(!(Op.bytesLess x1.Name.l x.Name.l)) with
       | true =>
        have hM03:=zP hc3 N;refine wA [.p (vP b 0) [],.p (vT x.Name.l) [0],.q (.bool y),.q vF,.q vF,.p (vI t7) [],.q vY,.q vY,.p (vS p list c) [],.p (vI t7) [],.p (vI (W (t7 - 1))) [],.x (fun I' v hx=>∃ ad1 p2 c2,v=.pointer (some ad1)∧hx=[]∧(At I' ad1 (cArr x1 p2 c2))∧(S4 I' p2 x1.Dims c2)),.x (fun I' v hx=>∃ ad11 p21 c21,v=.pointer (some ad11)∧hx=[]∧(At I' ad11 (cArr x1 p21 c21))∧(S4 I' p21 x1.Dims c21)),.q (vT x1.Name.l),.p (vP b 0) [],.p (vT x.Name.l) [0],.q vY,.q vY,.q vY,.q vY,.p undef [],.p undef [],.p undef [],.p undef [],.p undef [],.p vY [],.p vY [],.p undef [],.p undef [],.p undef [],.p vY []] [[],[(0,false)],[(1,false)],[(2,false)],[(3,false)],[(4,false)],[(4,false),(5,false)],[(4,false),(6,false)],[(7,false)],[(7,false)],[(7,false),(9,false)],[(7,false),(8,false),(10,false)],[(7,false),(11,false)],[(7,false),(12,false)],[(7,false)],[(7,false),(14,false)],[(7,false),(13,false),(15,false)],[(4,false),(7,false),(16,false)],[(4,false),(17,false)],[(18,false)],[(19,false)],[(19,false),(20,false)],[(19,false),(21,false)],[(19,false),(22,false)],[(19,false),(23,false)],[(19,false),(24,false)],[(25,false)],[(26,false)],[(26,false),(27,false)],[(26,false),(28,false)],[(26,false),(29,false)]] [hB b (cArr x p1 c1)] [] [(30,false)] (yB [0]) ?_ ?_
        · refine Op<|Op<|Oq ?_<|Oq ?_<|Oq ?_<|Op<|Oq ?_<|Oq ?_<|Op<|Op<|Op<|Ox ?_<|Ox ?_<|Oq ?_<|Op<|Op<|Oq ?_<|Oq ?_<|Oq ?_<|Oq ?_<|Op<|Op<|Op<|Op<|Op<|Op<|Op<|Op<|Op<|Op<|Op<|On
          · intro I1 hf le1;refine yM [(13,vT x.Name.l)] ?_;have H:=iS I1;refine vJ (pV x.Name _ hy1 ) ?_;intro I01 le;have H:=H.trans le;exact yS H
          · intro I1 hf le1;refine yM [(14,.bool y)]<|uS 4 [(15,.bool (!y))] ?_;rw [hc1];exact yS iR
          · intro I1 hf le1;exact yM [(15,vF)]<|uS 5 [(16,vF)]<|yS iR
          · intro I1 hf le1;refine yM [(16,vF),(17,vI t7)]<|uS 7 [(18,.bool (decide (t7 > 0)))] ?_;rw [hc2];exact yS iR
          · intro I1 hf le1;exact yM [(16,vF),(18,vY)]<|uS 8 [(19,vY)]<|yS iR
          · intro I1 hf le1;refine yM [(19,vY),(20,vS p list c),(22,vI (W (t7 - 1)))] ?_;have h:=h.mono le1;refine xS rfl rfl h hy2 ?_;intro ad1 ccs1 hat1 hrep1;obtain ⟨p2,c2,rfl,h3⟩:=wH hrep1;exact yO [] iR ⟨_,_,_,rfl,rfl,hat1,h3⟩
          · intro I1 hf le1;refine zF ?_;rintro _ _ ⟨rfl,rfl⟩;refine zF ?_;rintro _ _ ⟨ad1,p2,c2,rfl,rfl,hat1,h3⟩;exact yM [(19,vY),(23,.pointer (some ad1))]<|uS 13 [(24,.pointer (some ad1))]<|yO [] iR ⟨_,_,_,rfl,rfl,hat1,h3⟩
          · intro I1 hf le1;refine zF ?_;rintro _ _ ⟨rfl,rfl⟩;refine zF ?_;rintro _ _ ⟨ad11,p21,c21,rfl,rfl,hat11,h31⟩;exact yM [(19,vY),(24,.pointer (some ad11))]<|xM 0 hat11 [vT x1.Name.l] (vT x1.Name.l) rfl<|yS iR
          · intro I1 hf le1;refine yM [(19,vY),(25,vT x1.Name.l),(27,vT x.Name.l)]<|uS 17 [(28,.bool (!(Op.bytesLess x1.Name.l x.Name.l)))] ?_;rw [hc3];exact yS iR
          · intro I1 hf le1;exact yM [(16,vF),(19,vY),(28,vY)]<|uS 18 [(29,vY)]<|yS iR
          · intro I1 hf le1;exact yM [(16,vF),(29,vY)]<|uS 19 [(30,vY)]<|yS iR
          intro I1 hf le1;exact yM [(30,vY)]<|uS 20 [(31,vY)]<|yS iR
        intro I03 le2;refine yM [(0,vS p list c),(5,vS p list c),(6,vI (list.length:Int)),(7,vI t7),(42,vY)] ?_;have H:=H.trans le2;exact yH rfl<|xU zR<|yT [(0,vS p list c),(5,vS p list c),(6,vI (list.length:Int)),(7,vI t7),(42,vY)]<|zV (ct hM03 H)
       | false =>
        have hM04:=zL hc3 N;obtain ⟨y1,hy3,N⟩:=zB hM04;cases hc4:(!y1) with
        | true =>
         have hM05:=zP hc4 N;refine wA [.p (vP b 0) [],.p (vT x.Name.l) [0],.q (.bool y),.q vF,.q vF,.p (vI t7) [],.q vY,.q vY,.p (vS p list c) [],.p (vI t7) [],.p (vI (W (t7 - 1))) [],.x (fun I' v hx=>∃ ad1 p2 c2,v=.pointer (some ad1)∧hx=[]∧(At I' ad1 (cArr x1 p2 c2))∧(S4 I' p2 x1.Dims c2)),.x (fun I' v hx=>∃ ad11 p21 c21,v=.pointer (some ad11)∧hx=[]∧(At I' ad11 (cArr x1 p21 c21))∧(S4 I' p21 x1.Dims c21)),.q (vT x1.Name.l),.p (vP b 0) [],.p (vT x.Name.l) [0],.q vF,.q vF,.q vF,.q vF,.p (vP b 1) [],.p (vS p1 x.Dims c1) [0],.p (vI (x.Dims.length:Int)) [],.q (.bool y1),.q vY,.q vY,.q vY,.p undef [],.p undef [],.p undef [],.p vY []] [[],[(0,false)],[(1,false)],[(2,false)],[(3,false)],[(4,false)],[(4,false),(5,false)],[(4,false),(6,false)],[(7,false)],[(7,false)],[(7,false),(9,false)],[(7,false),(8,false),(10,false)],[(7,false),(11,false)],[(7,false),(12,false)],[(7,false)],[(7,false),(14,false)],[(7,false),(13,false),(15,false)],[(4,false),(7,false),(16,false)],[(4,false),(17,false)],[(18,false)],[(19,false)],[(19,false),(20,false)],[(19,false),(21,false)],[(19,false),(22,false)],[(19,false),(23,false)],[(19,false),(24,false)],[(25,false)],[(26,false)],[(26,false),(27,false)],[(26,false),(28,false)],[(26,false),(29,false)]] [hB b (cArr x p1 c1)] [] [(30,false)] (yB [0]) ?_ ?_
         · refine Op<|Op<|Oq ?_<|Oq ?_<|Oq ?_<|Op<|Oq ?_<|Oq ?_<|Op<|Op<|Op<|Ox ?_<|Ox ?_<|Oq ?_<|Op<|Op<|Oq ?_<|Oq ?_<|Oq ?_<|Oq ?_<|Op<|Op<|Op<|Oq ?_<|Oq ?_<|Oq ?_<|Oq ?_<|Op<|Op<|Op<|Op<|On
           · intro I1 hf le1;refine yM [(13,vT x.Name.l)] ?_;have H:=iS I1;refine vJ (pV x.Name _ hy1 ) ?_;intro I01 le;have H:=H.trans le;exact yS H
           · intro I1 hf le1;refine yM [(14,.bool y)]<|uS 4 [(15,.bool (!y))] ?_;rw [hc1];exact yS iR
           · intro I1 hf le1;exact yM [(15,vF)]<|uS 5 [(16,vF)]<|yS iR
           · intro I1 hf le1;refine yM [(16,vF),(17,vI t7)]<|uS 7 [(18,.bool (decide (t7 > 0)))] ?_;rw [hc2];exact yS iR
           · intro I1 hf le1;exact yM [(16,vF),(18,vY)]<|uS 8 [(19,vY)]<|yS iR
           · intro I1 hf le1;refine yM [(19,vY),(20,vS p list c),(22,vI (W (t7 - 1)))] ?_;have h:=h.mono le1;refine xS rfl rfl h hy2 ?_;intro ad1 ccs1 hat1 hrep1;obtain ⟨p2,c2,rfl,h3⟩:=wH hrep1;exact yO [] iR ⟨_,_,_,rfl,rfl,hat1,h3⟩
           · intro I1 hf le1;refine zF ?_;rintro _ _ ⟨rfl,rfl⟩;refine zF ?_;rintro _ _ ⟨ad1,p2,c2,rfl,rfl,hat1,h3⟩;exact yM [(19,vY),(23,.pointer (some ad1))]<|uS 13 [(24,.pointer (some ad1))]<|yO [] iR ⟨_,_,_,rfl,rfl,hat1,h3⟩
           · intro I1 hf le1;refine zF ?_;rintro _ _ ⟨rfl,rfl⟩;refine zF ?_;rintro _ _ ⟨ad11,p21,c21,rfl,rfl,hat11,h31⟩;exact yM [(19,vY),(24,.pointer (some ad11))]<|xM 0 hat11 [vT x1.Name.l] (vT x1.Name.l) rfl<|yS iR
           · intro I1 hf le1;refine yM [(19,vY),(25,vT x1.Name.l),(27,vT x.Name.l)]<|uS 17 [(28,.bool (!(Op.bytesLess x1.Name.l x.Name.l)))] ?_;rw [hc3];exact yS iR
           · intro I1 hf le1;exact yM [(16,vF),(19,vY),(28,vF)]<|uS 18 [(29,vF)]<|yS iR
           · intro I1 hf le1;exact yM [(16,vF),(29,vF)]<|uS 19 [(30,vF)]<|yS iR
           · intro I1 hf le1;exact yM [(30,vF)]<|uS 20 [(31,vF)]<|yS iR
           · intro I1 hf le1;refine yM [(31,vF),(34,vI (x.Dims.length:Int))] ?_;have H:=iS I1;refine vJ (wF (x.Dims.length:Int) 1 2 _ hy3 ) ?_;intro I04 le3;have H:=H.trans le3;exact yS H
           · intro I1 hf le1;refine yM [(31,vF),(35,.bool y1)]<|uS 25 [(36,.bool (!y1))] ?_;rw [hc4];exact yS iR
           · intro I1 hf le1;exact yM [(31,vF),(36,vY)]<|uS 26 [(37,vY)]<|yS iR
           intro I1 hf le1;exact yM [(37,vY)]<|uS 27 [(38,vY)]<|yS iR
         intro I05 le4;refine yM [(0,vS p list c),(5,vS p list c),(6,vI (list.length:Int)),(7,vI t7),(42,vY)] ?_;have H:=H.trans le4;exact yH rfl<|xU zR<|yT [(0,vS p list c),(5,vS p list c),(6,vI (list.length:Int)),(7,vI t7),(42,vY)]<|zV (ct hM05 H)
        | false =>
         have hM06:=zL hc4 N;obtain ⟨y2,hy4,N⟩:=zB hM06;refine wA [.p (vP b 0) [],.p (vT x.Name.l) [0],.q (.bool y),.q vF,.q vF,.p (vI t7) [],.q vY,.q vY,.p (vS p list c) [],.p (vI t7) [],.p (vI (W (t7 - 1))) [],.x (fun I' v hx=>∃ ad1 p2 c2,v=.pointer (some ad1)∧hx=[]∧(At I' ad1 (cArr x1 p2 c2))∧(S4 I' p2 x1.Dims c2)),.x (fun I' v hx=>∃ ad11 p21 c21,v=.pointer (some ad11)∧hx=[]∧(At I' ad11 (cArr x1 p21 c21))∧(S4 I' p21 x1.Dims c21)),.q (vT x1.Name.l),.p (vP b 0) [],.p (vT x.Name.l) [0],.q vF,.q vF,.q vF,.q vF,.p (vP b 1) [],.p (vS p1 x.Dims c1) [0],.p (vI (x.Dims.length:Int)) [],.q (.bool y1),.q vF,.q vF,.q vF,.p (vP b 1) [],.p (vS p1 x.Dims c1) [0],.q (.bool y2),.p (.bool y2) []] [[],[(0,false)],[(1,false)],[(2,false)],[(3,false)],[(4,false)],[(4,false),(5,false)],[(4,false),(6,false)],[(7,false)],[(7,false)],[(7,false),(9,false)],[(7,false),(8,false),(10,false)],[(7,false),(11,false)],[(7,false),(12,false)],[(7,false)],[(7,false),(14,false)],[(7,false),(13,false),(15,false)],[(4,false),(7,false),(16,false)],[(4,false),(17,false)],[(18,false)],[(19,false)],[(19,false),(20,false)],[(19,false),(21,false)],[(19,false),(22,false)],[(19,false),(23,false)],[(19,false),(24,false)],[(25,false)],[(26,false)],[(26,false),(27,false)],[(26,false),(28,false)],[(26,false),(29,false)]] [hB b (cArr x p1 c1)] [] [(30,false)] (yB [0]) ?_ ?_
         · refine Op<|Op<|Oq ?_<|Oq ?_<|Oq ?_<|Op<|Oq ?_<|Oq ?_<|Op<|Op<|Op<|Ox ?_<|Ox ?_<|Oq ?_<|Op<|Op<|Oq ?_<|Oq ?_<|Oq ?_<|Oq ?_<|Op<|Op<|Op<|Oq ?_<|Oq ?_<|Oq ?_<|Oq ?_<|Op<|Op<|Oq ?_<|Op<|On
           · intro I1 hf le1;refine yM [(13,vT x.Name.l)] ?_;have H:=iS I1;refine vJ (pV x.Name _ hy1 ) ?_;intro I01 le;have H:=H.trans le;exact yS H
           · intro I1 hf le1;refine yM [(14,.bool y)]<|uS 4 [(15,.bool (!y))] ?_;rw [hc1];exact yS iR
           · intro I1 hf le1;exact yM [(15,vF)]<|uS 5 [(16,vF)]<|yS iR
           · intro I1 hf le1;refine yM [(16,vF),(17,vI t7)]<|uS 7 [(18,.bool (decide (t7 > 0)))] ?_;rw [hc2];exact yS iR
           · intro I1 hf le1;exact yM [(16,vF),(18,vY)]<|uS 8 [(19,vY)]<|yS iR
           · intro I1 hf le1;refine yM [(19,vY),(20,vS p list c),(22,vI (W (t7 - 1)))] ?_;have h:=h.mono le1;refine xS rfl rfl h hy2 ?_;intro ad1 ccs1 hat1 hrep1;obtain ⟨p2,c2,rfl,h3⟩:=wH hrep1;exact yO [] iR ⟨_,_,_,rfl,rfl,hat1,h3⟩
           · intro I1 hf le1;refine zF ?_;rintro _ _ ⟨rfl,rfl⟩;refine zF ?_;rintro _ _ ⟨ad1,p2,c2,rfl,rfl,hat1,h3⟩;exact yM [(19,vY),(23,.pointer (some ad1))]<|uS 13 [(24,.pointer (some ad1))]<|yO [] iR ⟨_,_,_,rfl,rfl,hat1,h3⟩
           · intro I1 hf le1;refine zF ?_;rintro _ _ ⟨rfl,rfl⟩;refine zF ?_;rintro _ _ ⟨ad11,p21,c21,rfl,rfl,hat11,h31⟩;exact yM [(19,vY),(24,.pointer (some ad11))]<|xM 0 hat11 [vT x1.Name.l] (vT x1.Name.l) rfl<|yS iR
           · intro I1 hf le1;refine yM [(19,vY),(25,vT x1.Name.l),(27,vT x.Name.l)]<|uS 17 [(28,.bool (!(Op.bytesLess x1.Name.l x.Name.l)))] ?_;rw [hc3];exact yS iR
           · intro I1 hf le1;exact yM [(16,vF),(19,vY),(28,vF)]<|uS 18 [(29,vF)]<|yS iR
           · intro I1 hf le1;exact yM [(16,vF),(29,vF)]<|uS 19 [(30,vF)]<|yS iR
           · intro I1 hf le1;exact yM [(30,vF)]<|uS 20 [(31,vF)]<|yS iR
           · intro I1 hf le1;refine yM [(31,vF),(34,vI (x.Dims.length:Int))] ?_;have H:=iS I1;refine vJ (wF (x.Dims.length:Int) 1 2 _ hy3 ) ?_;intro I04 le3;have H:=H.trans le3;exact yS H
           · intro I1 hf le1;refine yM [(31,vF),(35,.bool y1)]<|uS 25 [(36,.bool (!y1))] ?_;rw [hc4];exact yS iR
           · intro I1 hf le1;exact yM [(31,vF),(36,vF)]<|uS 26 [(37,vF)]<|yS iR
           · intro I1 hf le1;exact yM [(37,vF)]<|uS 27 [(38,vF)]<|yS iR
           intro I1 hf le1;refine yM [(38,vF),(40,vS p1 x.Dims c1)] ?_;have H:=iS I1;have h:=h.mono le1;have h1:=h1.mono le1;have hf0:FV1 Tryz.prog I1 [] (.func (.func 159) ⟨[]⟩ ⟨[]⟩) uY:=by
             refine FV1.intro ?_;intro I1 le1 x0 r u0 hF k0;obtain rfl:=k0;exact (eM x0 r hF ).mono (by rintro k i hs u ⟨v0,rfl,rfl,h⟩; exact ⟨rfl,h⟩)
           refine xT (sG x.Dims uY _ hy4 h1 hf0) ?_;rintro I06 hs2 v2 k2 le5 - ⟨v04,rfl,rfl,rfl⟩ -;have H:=H.trans le5;exact yS H
         intro I07 le6;refine yM [(0,vS p list c),(5,vS p list c),(6,vI (list.length:Int)),(7,vI t7),(42,.bool y2)] ?_;have H:=H.trans le6;exact yH rfl<|xU zR<|yT [(0,vS p list c),(5,vS p list c),(6,vI (list.length:Int)),(7,vI t7),(42,.bool y2)]<|zV (ct N H)
      | false =>
       have hM07:=zL hc2 hM01;obtain ⟨y3,hy5,N⟩:=zB hM07;cases hc5:(!y3) with
       | true =>
        have hM08:=zP hc5 N;refine wA [.p (vP b 0) [],.p (vT x.Name.l) [0],.q (.bool y),.q vF,.q vF,.p (vI t7) [],.q vF,.q vF,.p undef [],.p undef [],.p undef [],.p undef [],.p undef [],.p undef [],.p undef [],.p undef [],.p undef [],.p vF [],.p vF [],.p vF [],.p (vP b 1) [],.p (vS p1 x.Dims c1) [0],.p (vI (x.Dims.length:Int)) [],.q (.bool y3),.q vY,.q vY,.q vY,.p undef [],.p undef [],.p undef [],.p vY []] [[],[(0,false)],[(1,false)],[(2,false)],[(3,false)],[(4,false)],[(4,false),(5,false)],[(4,false),(6,false)],[(7,false)],[(7,false)],[(7,false),(9,false)],[(7,false),(8,false),(10,false)],[(7,false),(11,false)],[(7,false),(12,false)],[(7,false)],[(7,false),(14,false)],[(7,false),(13,false),(15,false)],[(4,false),(7,false),(16,false)],[(4,false),(17,false)],[(18,false)],[(19,false)],[(19,false),(20,false)],[(19,false),(21,false)],[(19,false),(22,false)],[(19,false),(23,false)],[(19,false),(24,false)],[(25,false)],[(26,false)],[(26,false),(27,false)],[(26,false),(28,false)],[(26,false),(29,false)]] [hB b (cArr x p1 c1)] [] [(30,false)] (yB [0]) ?_ ?_
        · refine Op<|Op<|Oq ?_<|Oq ?_<|Oq ?_<|Op<|Oq ?_<|Oq ?_<|Op<|Op<|Op<|Op<|Op<|Op<|Op<|Op<|Op<|Op<|Op<|Op<|Op<|Op<|Op<|Oq ?_<|Oq ?_<|Oq ?_<|Oq ?_<|Op<|Op<|Op<|Op<|On
          · intro I1 hf le1;refine yM [(13,vT x.Name.l)] ?_;have H:=iS I1;refine vJ (pV x.Name _ hy1 ) ?_;intro I01 le;have H:=H.trans le;exact yS H
          · intro I1 hf le1;refine yM [(14,.bool y)]<|uS 4 [(15,.bool (!y))] ?_;rw [hc1];exact yS iR
          · intro I1 hf le1;exact yM [(15,vF)]<|uS 5 [(16,vF)]<|yS iR
          · intro I1 hf le1;refine yM [(16,vF),(17,vI t7)]<|uS 7 [(18,.bool (decide (t7 > 0)))] ?_;rw [hc2];exact yS iR
          · intro I1 hf le1;exact yM [(16,vF),(18,vF)]<|uS 8 [(19,vF)]<|yS iR
          · intro I1 hf le1;refine yM [(31,vF),(34,vI (x.Dims.length:Int))] ?_;have H:=iS I1;refine vJ (wF (x.Dims.length:Int) 1 2 _ hy5 ) ?_;intro I08 le7;have H:=H.trans le7;exact yS H
          · intro I1 hf le1;refine yM [(31,vF),(35,.bool y3)]<|uS 25 [(36,.bool (!y3))] ?_;rw [hc5];exact yS iR
          · intro I1 hf le1;exact yM [(31,vF),(36,vY)]<|uS 26 [(37,vY)]<|yS iR
          intro I1 hf le1;exact yM [(37,vY)]<|uS 27 [(38,vY)]<|yS iR
        intro I09 le8;refine yM [(0,vS p list c),(5,vS p list c),(6,vI (list.length:Int)),(7,vI t7),(42,vY)] ?_;have H:=H.trans le8;exact yH rfl<|xU zR<|yT [(0,vS p list c),(5,vS p list c),(6,vI (list.length:Int)),(7,vI t7),(42,vY)]<|zV (ct hM08 H)
       | false =>
        have hM09:=zL hc5 N;obtain ⟨y4,hy6,N⟩:=zB hM09;refine wA [.p (vP b 0) [],.p (vT x.Name.l) [0],.q (.bool y),.q vF,.q vF,.p (vI t7) [],.q vF,.q vF,.p undef [],.p undef [],.p undef [],.p undef [],.p undef [],.p undef [],.p undef [],.p undef [],.p undef [],.p vF [],.p vF [],.p vF [],.p (vP b 1) [],.p (vS p1 x.Dims c1) [0],.p (vI (x.Dims.length:Int)) [],.q (.bool y3),.q vF,.q vF,.q vF,.p (vP b 1) [],.p (vS p1 x.Dims c1) [0],.q (.bool y4),.p (.bool y4) []] [[],[(0,false)],[(1,false)],[(2,false)],[(3,false)],[(4,false)],[(4,false),(5,false)],[(4,false),(6,false)],[(7,false)],[(7,false)],[(7,false),(9,false)],[(7,false),(8,false),(10,false)],[(7,false),(11,false)],[(7,false),(12,false)],[(7,false)],[(7,false),(14,false)],[(7,false),(13,false),(15,false)],[(4,false),(7,false),(16,false)],[(4,false),(17,false)],[(18,false)],[(19,false)],[(19,false),(20,false)],[(19,false),(21,false)],[(19,false),(22,false)],[(19,false),(23,false)],[(19,false),(24,false)],[(25,false)],[(26,false)],[(26,false),(27,false)],[(26,false),(28,false)],[(26,false),(29,false)]] [hB b (cArr x p1 c1)] [] [(30,false)] (yB [0]) ?_ ?_
        · refine Op<|Op<|Oq ?_<|Oq ?_<|Oq ?_<|Op<|Oq ?_<|Oq ?_<|Op<|Op<|Op<|Op<|Op<|Op<|Op<|Op<|Op<|Op<|Op<|Op<|Op<|Op<|Op<|Oq ?_<|Oq ?_<|Oq ?_<|Oq ?_<|Op<|Op<|Oq ?_<|Op<|On
          · intro I1 hf le1;refine yM [(13,vT x.Name.l)] ?_;have H:=iS I1;refine vJ (pV x.Name _ hy1 ) ?_;intro I01 le;have H:=H.trans le;exact yS H
          · intro I1 hf le1;refine yM [(14,.bool y)]<|uS 4 [(15,.bool (!y))] ?_;rw [hc1];exact yS iR
          · intro I1 hf le1;exact yM [(15,vF)]<|uS 5 [(16,vF)]<|yS iR
          · intro I1 hf le1;refine yM [(16,vF),(17,vI t7)]<|uS 7 [(18,.bool (decide (t7 > 0)))] ?_;rw [hc2];exact yS iR
          · intro I1 hf le1;exact yM [(16,vF),(18,vF)]<|uS 8 [(19,vF)]<|yS iR
          · intro I1 hf le1;refine yM [(31,vF),(34,vI (x.Dims.length:Int))] ?_;have H:=iS I1;refine vJ (wF (x.Dims.length:Int) 1 2 _ hy5 ) ?_;intro I08 le7;have H:=H.trans le7;exact yS H
          · intro I1 hf le1;refine yM [(31,vF),(35,.bool y3)]<|uS 25 [(36,.bool (!y3))] ?_;rw [hc5];exact yS iR
          · intro I1 hf le1;exact yM [(31,vF),(36,vF)]<|uS 26 [(37,vF)]<|yS iR
          · intro I1 hf le1;exact yM [(37,vF)]<|uS 27 [(38,vF)]<|yS iR
          intro I1 hf le1;refine yM [(38,vF),(40,vS p1 x.Dims c1)] ?_;have H:=iS I1;have h:=h.mono le1;have h1:=h1.mono le1;have hf01:FV1 Tryz.prog I1 [] (.func (.func 159) ⟨[]⟩ ⟨[]⟩) uY:=by
            refine FV1.intro ?_;intro I1 le1 x0 r u0 hF k0;obtain rfl:=k0;exact (eM x0 r hF ).mono (by rintro k i hs u ⟨v0,rfl,rfl,h⟩; exact ⟨rfl,h⟩)
          refine xT (sG x.Dims uY _ hy6 h1 hf01) ?_;rintro I010 hs2 v2 k2 le9 - ⟨v06,rfl,rfl,rfl⟩ -;have H:=H.trans le9;exact yS H
        intro I011 le10;refine yM [(0,vS p list c),(5,vS p list c),(6,vI (list.length:Int)),(7,vI t7),(42,.bool y4)] ?_;have H:=H.trans le10;exact yH rfl<|xU zR<|yT [(0,vS p list c),(5,vS p list c),(6,vI (list.length:Int)),(7,vI t7),(42,.bool y4)]<|zV (ct N H)
   rintro I0 hs2 m2 ⟨t42,heq,le11,rfl,rfl⟩;subst o0;have h:=h.mono le11;have H:=H.trans le11;refine zM<|yL hMc ?_ ?_
   · intro hc6 N;exact yF [(2,vF)]<|xG<|zZ<|zH<|zH<|hr _ _ _ _ (zC N).symm H ⟨_,_,(.tmp rfl ResV.nil),zR,⟨_,rfl,rfl,rfl⟩⟩
   intro hc6 N;exact zW<|zT<|zM<|zQ<|yC [] [(7,vI (W (t7 + 1)))]<|yY<|vE [(0,vS p list c),(5,vS p list c),(6,vI (list.length:Int)),(7,vI (W (t7 + 1)))]<|ih (W (t7 + 1)) _ N H h hg ho hx hr
 intro hc N;exact vW<|yT [(0,vS p list c)]<|hx _  (zC N).symm H
def mT (list:(List zE)):Option (Bool):=do
 match←rK list 0 with
 | .ret r0=>pure r0
 | .done _ =>
  pure (decide ((list.length:Int) ≤ 4))
theorem zDt:∀ list r,mT list=some r→∀ {I:Imm}{p c},(S4 I p list c)→RT 116 [vS p list c] I [] (zU  r):=by
 intro list r N I p c h;unfold mT at N;refine zY (fn:=Tryz.f116) (c:=(bodyOf Tryz.f116)) Tryz.func116 rfl rfl ?_;rintro B - -;refine yF []<|yI<|yF [(5,vS p list c),(6,vI (list.length:Int)),(7,vI 0)]<|wO<|vE [(0,vS p list c),(5,vS p list c),(6,vI (list.length:Int)),(7,vI 0)] ?_;obtain ⟨o01,ho01,hMl⟩:=zB N;refine zBk list 0 o01 ho01 iR h (fun _ _ _ h=>h) (fun _ _ h=>h) ?_ ?_
 · intro I012  heq1 le12;subst o01;refine zX<|vH [(2,.bool (decide ((list.length:Int) ≤ 4)))]<|zM<|yX ?_;obtain rfl:=zC hMl;exact wN
 intro r0 I9 hs9 m9 heq9 le9 hrs9;subst heq9;refine zZ<|zH ?_;obtain rfl:=zC hMl;exact xC hrs9
def rE (hsF:List HA) (r:Int):KT:=fun kk I' hs' v=>
  ∃ v0,hsF=hs'∧v=tupV [v0]∧v0=.int .i64 r
def xA (s:(List zA)) (f0:(zA→Option Bool)) (t8:Int):Option (Out Unit (Int)):=do
 if (decide (t8 < (s.length:Int))) then
  let x←idx s t8
  let y←f0 x
  if y then
   pure (.ret t8)
  else
   xA s f0 (W (t8 + 1))
 else
  pure (.done ())
 partial_fixpoint
theorem nO (s:(List zA)) (f0:(zA→Option Bool)):∀ (t8:Int) (o:Out Unit (Int)),xA s f0 t8=some o→∀ {B}{I0 I:Imm}{Q p c}{fv:Value}{hsF:List HA},I0.le I→(S4 I p s c)→(FV1 Tryz.prog I hsF fv f0)→NG Q→NO Q→(∀ (I':Imm) ,o=(.done ())→I0.le I'→T 19 B Q (.exit 0) I' hsF [])→(∀ r I' hs' m',o=(.ret r)→I0.le I'→RS Tryz.prog Tryz.f151 B (rE hsF r) I' hs' m'→T 19 B Q .ret I' hs' m')→J Tryz.prog 19 B (nav (bodyOf Tryz.f151) [1,0,1,0]) Q I hsF [(0,vS p s c),(1,fv),(7,vI (s.length:Int)),(8,vI t8)]:=by
 refine xA.partial_correctness s f0 _ fun self ih t8 o N B I0 I Q p c fv hsF H h h1 hg ho hx hr=>yZ hg ho<|yF [(9,.bool (decide (t8 < (s.length:Int))))]<|yI<|yL N ?_ ?_
 · intro hc N;refine zW<|yI<|yP<|yF [(5,vI t8)]<|xD<|yD 3 [] [(11,fv),(12,vS p s c),(13,vI t8)]<|bE N fun x hy N=>xS rfl rfl h hy ?_;intro ad ccs hat hrep;obtain ⟨p1,c1,rfl,h2⟩:=yN hrep;refine xM 0 hat (cAff x p1 c1) (vA (cAff x p1 c1)) rfl<|bE N fun y hy1 N=>zID rfl rfl h1 hy1 ⟨_,rfl,(yQ ⟨_,rfl,h2⟩)⟩ (List.append_nil _).symm ?_;rintro I0 v01 le rfl;refine uC (hs':=hsF) (List.append_nil _) ?_;have h:=h.mono le;have h1:=h1.mono le;have H:=H.trans le;refine yH rfl<|zM<|yL N ?_ ?_
   · intro hc1 N;exact yF [(4,vI t8)]<|xG<|zZ<|zH<|zH<|hr _ _ _ _ (zC N).symm H ⟨_,_,(.tmp rfl ResV.nil),(fun _ h=>h),⟨_,rfl,rfl,rfl⟩⟩
   intro hc1 N;exact zW<|zT<|zM<|zQ<|yC [] [(8,vI (W (t8 + 1)))]<|yY<|vE [(0,vS p s c),(1,fv),(7,vI (s.length:Int)),(8,vI (W (t8 + 1)))]<|ih (W (t8 + 1)) _ N H h h1 hg ho hx hr
 intro hc N;exact vW<|yT []<|hx _  (zC N).symm H
def wU (s:(List zA)) (f0:(zA→Option Bool)):Option (Int):=do
 match←xA s f0 0 with
 | .ret r0=>pure r0
 | .done _ =>
  pure (-1)
theorem mH:∀ s f0 r,wU s f0=some r→∀ {I:Imm}{p c}{fv:Value}{hsF:List HA},(S4 I p s c)→(FV1 Tryz.prog I hsF fv f0)→RT 151 [vS p s c,fv] I hsF (rE hsF r):=by
 intro s f0 r N I p c fv hsF h h1;unfold wU at N;refine zY (fn:=Tryz.f151) (c:=(bodyOf Tryz.f151)) Tryz.func151 rfl rfl ?_;rintro B - -;refine yF []<|yI<|yF [(7,vI (s.length:Int)),(8,vI 0)]<|wO<|vE [(0,vS p s c),(1,fv),(7,vI (s.length:Int)),(8,vI 0)] ?_;obtain ⟨o0,ho0,hMl⟩:=zB N;refine nO s f0 0 o0 ho0 iR h h1 (fun _ _ _ h=>h) (fun _ _ h=>h) ?_ ?_
 · intro I01  heq le1;subst o0;refine zX<|vH [(4,vI (-1))]<|zM<|yX ?_;obtain rfl:=zC hMl;exact xC ⟨_,_,(.tmp rfl ResV.nil),(fun _ h=>h),⟨_,rfl,rfl,rfl⟩⟩
 intro r0 I9 hs9 m9 heq9 le9 hrs9;subst heq9;refine zZ<|zH ?_;obtain rfl:=zC hMl;exact xC hrs9
def oO (hsF:List HA) (r:Bool):KT:=fun kk I' hs' v=>
  ∃ v0,hsF=hs'∧v=tupV [v0]∧v0=.bool r
def xN (s:(List zA)) (f0:(zA→Option Bool)):Option (Bool):=do
 let y←wU s f0
 pure (decide (y ≥ 0))
theorem sZ:∀ s f0 r,xN s f0=some r→∀ {I:Imm}{p c}{fv:Value}{hsF:List HA},(S4 I p s c)→(FV1 Tryz.prog I hsF fv f0)→RT 104 [vS p s c,fv] I hsF (oO hsF r):=by
 intro s f0 r N I p c fv hsF h h1;unfold xN at N;refine zY (fn:=Tryz.f104) (c:=(bodyOf Tryz.f104)) Tryz.func104 rfl rfl ?_;rintro B - -;refine yF []<|xD<|yD 2 [] [(5,vS p s c),(6,fv)]<|bE N fun y hy N=>zD1 (hs1:=hsF) (rest:=[]) rfl rfl rfl rfl (by kernel_rfl) rfl (List.append_nil _).symm (mH s f0 _ hy h h1) ?_;rintro I0 hs2 v2 k2 le - ⟨v0,rfl,rfl,rfl⟩ -;refine uC (hs':=hsF) (List.append_nil _) ?_;refine yC [] [(4,.bool (decide (y ≥ 0)))]<|zM<|yX ?_;obtain rfl:=zC N;exact xC ⟨_,_,(.tmp rfl ResV.nil),(fun _ h=>h),⟨_,rfl,rfl,rfl⟩⟩
def gI (n0:Int):Option (Bool):=do
 let y←wD n0 (-99) 99
 pure (id y)
theorem zE1:∀ n0 r,gI n0=some r→∀ {I:Imm} ,RT 60 [vI n0] I [] (zU  r):=by
 intro n0 r N I;unfold gI at N;refine zY (fn:=Tryz.f60) (c:=(bodyOf Tryz.f60)) Tryz.func60 rfl rfl ?_;rintro B - -;refine yF []<|xD<|yD 1 [] [(3,vI n0)]<|bE N fun y hy N=>vJ (wF n0 (-99) 99 _ hy ) fun I0 le=>yC [] [(2,.bool y)]<|zM<|yX ?_;obtain rfl:=zC N;exact wN
def tV (c:Int):Option (Bool):=do
 let y←wD c (-9) 9
 pure (!y)
theorem zAq:∀ c r,tV c=some r→∀ {I:Imm} ,RT 152 [vI c] I [] (zU  r):=by
 intro c r N I;unfold tV at N;refine zY (fn:=Tryz.f152) (c:=(bodyOf Tryz.f152)) Tryz.func152 rfl rfl ?_;rintro B - -;refine yF []<|xD<|yD 1 [] [(3,vI c)]<|bE N fun y hy N=>vJ (wF c (-9) 9 _ hy ) fun I0 le=>yC [] [(2,.bool (!y))]<|zM<|yX ?_;obtain rfl:=zC N;exact wN
def rL (a0:zA):Option (Bool):=do
 let t2←(do
   if ((a0.Coefs.length:Int) == 4) then
    let y←gI a0.Const
    if y then
     let y1←xQ a0.Coefs tV
     pure (!y1)
    else
     pure false
   else
    pure false
     : Option Bool)
 pure (id t2)
theorem pY:∀ a0 r,rL a0=some r→∀ {I:Imm}{p c},(S4 I p a0.Coefs c)→RT 106 [vA (cAff a0 p c)] I [] (zU  r):=by
 intro a0 r N I p c h;unfold rL at N;refine zY (fn:=Tryz.f106) (c:=(bodyOf Tryz.f106)) Tryz.func106 rfl rfl ?_;rintro B - -;have H:=iS I;refine yK<|uD (cAff a0 p c) ?_;intro b hb;refine yC [] []<|zM<|yG ?_;obtain ⟨o0,ho0,hMc⟩:=zB N;refine yU (fun I' hs' m'=>∃ (t2:Bool),o0=t2∧I.le I'∧hs'=[]∧m'=[(2,.bool t2)]) ?_ ?_
 · have H:=iS I;refine zQ<|yD 5 [0] [(7,.bool ((a0.Coefs.length:Int) == 4))] ?_;cases hc:((a0.Coefs.length:Int) == 4) with
   | true =>
    have hM0:=zP hc ho0
    try rw [hc]
    refine yD 7 [0] [(9,vI a0.Const)] ?_;obtain ⟨y,hy,N⟩:=zB hM0;refine vJ (zE1 a0.Const _ hy ) ?_;intro I01 le;have h:=h.mono le;have H:=H.trans le;refine yD 10 [] [(12,.bool y)] ?_;cases hc1:y with
    | true =>
     have hM01:=zP hc1 N
     try rw [hc1]
     refine yD 12 [0] [(14,vS p a0.Coefs c)] ?_;have hf0:FV1 Tryz.prog I01 [] (.func (.func 152) ⟨[]⟩ ⟨[]⟩) tV:=by
       refine FV1.intro ?_;intro I1 le1 x0 r u0 hF k0;obtain rfl:=k0;exact (zAq x0 r hF ).mono (by rintro k i hs u ⟨v0,rfl,rfl,h⟩; exact ⟨rfl,h⟩)
     obtain ⟨y1,hy1,N⟩:=zB hM01;refine xT (sG a0.Coefs tV _ hy1 h hf0) ?_;rintro I02 hs2 v2 k2 le1 - ⟨v01,rfl,rfl,rfl⟩ -;have H:=H.trans le1;exact yC [] [(2,.bool (!y1))]<|xU zR<|yT [(2,.bool (!y1))]<|zV (ct N H)
    | false =>
     have hM02:=zL hc1 N
     try rw [hc1]
     exact yC [] [(2,vF)]<|xU zR<|yT [(2,vF)]<|zV (ct hM02 H)
   | false =>
    have hM03:=zL hc ho0
    try rw [hc]
    exact yC [] [(2,vF)]<|xU zR<|yT [(2,vF)]<|zV (ct hM03 H)
 rintro I0 hs2 m2 ⟨t2,heq,le2,rfl,rfl⟩;subst o0;refine zM<|yX ?_;obtain rfl:=zC hMc;exact wN
def tB (a0:zA) (n0:Int):Option (Int):=do
 let t17←(do
   if (decide (n0 > 0)) then
    let x←idx a0.Coefs (W (n0 - 1))
    pure (x == 0)
   else
    pure false
     : Option Bool)
 if t17 then
  tB a0 (W (n0 - 1))
 else
  pure (id n0)
 partial_fixpoint
theorem zAP (a0:zA):∀ (n0:Int) (o:Int),tB a0 n0=some o→∀ {B}{I0 I:Imm}{Q p c}{b:Nat},I0.le I→(S4 I p a0.Coefs c)→NG Q→NO Q→(∀ (I':Imm) (n01:Int),o=n01→I0.le I'→T 21 B Q (.exit 0) I' [] [(3,vI n01)])→J Tryz.prog 21 B (nav (bodyOf Tryz.f107) [1,1,0,0]) Q I [hB b (cAff a0 p c)] [(1,vP b 0),(3,vI n0)]:=by
 refine tB.partial_correctness a0 _ fun self ih n0 o N B I0 I Q p c b H h hg ho hx=>yZ hg ho<|yG<|yG ?_;obtain ⟨o0,ho0,hMc⟩:=zB N;refine yU (fun I' hs' m'=>∃ (t17:Bool),o0=t17∧I.le I'∧hs'=[hB b (cAff a0 p c)]∧m'=[(1,vP b 0),(3,vI n0),(17,.bool t17)]) ?_ ?_
 · have H:=iS I;refine zQ<|yD 3 [] [(9,.bool (decide (n0 > 0)))] ?_;cases hc:(decide (n0 > 0)) with
   | true =>
    have hM0:=zP hc ho0
    try rw [hc]
    refine yD 7 [0] [(11,vS p a0.Coefs c),(13,vI (W (n0 - 1)))] ?_;obtain ⟨x,hy,N⟩:=zB hM0;refine xS rfl rfl h hy ?_;intro ad ccs hat hrep;obtain rfl:=hrep;exact xM 0 hat [vI x] (vI x) rfl<|yC [] [(17,.bool (x == 0))]<|yT [(1,vP b 0),(3,vI n0),(17,.bool (x == 0))]<|zV (ct N H)
   | false =>
    have hM01:=zL hc ho0
    try rw [hc]
    exact yC [] [(17,vF)]<|yT [(1,vP b 0),(3,vI n0),(17,vF)]<|zV (ct hM01 H)
 rintro I0 hs2 m2 ⟨t17,heq,le,rfl,rfl⟩;subst o0;have h:=h.mono le;have H:=H.trans le;refine zM<|yL hMc ?_ ?_
 · intro hc1 N;exact zW<|wO<|zQ<|yC [] [(3,vI (W (n0 - 1)))]<|zT<|yY<|vE [(1,vP b 0),(3,vI (W (n0 - 1)))]<|ih (W (n0 - 1)) _ N H h hg ho hx
 intro hc1 N;exact vW<|xU zR<|yT [(3,vI n0)]<|hx _ _ (zC N).symm H
def sL (a0:zA):Option (Int):=do
 let n01←tB a0 (a0.Coefs.length:Int)
 pure (id n01)
theorem kX:∀ a0 r,sL a0=some r→∀ {I:Imm}{p c},(S4 I p a0.Coefs c)→RT 107 [vA (cAff a0 p c)] I [] (xJ  r):=by
 intro a0 r N I p c h;unfold sL at N;refine zY (fn:=Tryz.f107) (c:=(bodyOf Tryz.f107)) Tryz.func107 rfl rfl ?_;rintro B - -;refine yK<|uD (cAff a0 p c) ?_;intro b hb;refine yC [] []<|xD<|yC [0] [(3,vI (a0.Coefs.length:Int))]<|yI<|yP<|vE [(1,vP b 0),(3,vI (a0.Coefs.length:Int))] ?_;obtain ⟨o01,ho01,hMl⟩:=zB N;refine zAP a0 (a0.Coefs.length:Int) o01 ho01 iR h (fun _ _ _ h=>h) (fun _ _ h=>h) ?_;intro I01 n01 heq1 le1;subst o01;refine zX<|vH [(2,vI n01)]<|zM<|yX ?_;obtain rfl:=zC hMl;exact wN
def sR (a0:zA) (x:Int):Option (Bool):=do
 let t3←(do
   let y←rL a0
   if (!y) then
    pure true
   else
    let y1←sL a0
    pure (decide (y1 > x))
     : Option Bool)
 pure (id t3)
theorem zCR:∀ a0 x r,sR a0 x=some r→∀ {I:Imm}{p c}{ad:Addr},(S4 I p a0.Coefs c)→(At I ad [vI x])→RT 203 [vA (cAff a0 p c),.pointer (some ad)] I [] (zU  r):=by
 intro a0 x r N I p c ad h hat;unfold sR at N;refine zY (fn:=Tryz.f203) (c:=(bodyOf Tryz.f203)) Tryz.func203 rfl rfl ?_;rintro B - -;have H:=iS I;refine yK<|uD (cAff a0 p c) ?_;intro b hb;refine yC [] []<|zM<|yG ?_;obtain ⟨o0,ho0,hMc⟩:=zB N;refine yU (fun I' hs' m'=>∃ (t3:Bool),o0=t3∧I.le I'∧hs'=[]∧m'=[(3,.bool t3)]) ?_ ?_
 · have H:=iS I;obtain ⟨y,hy,N⟩:=zB ho0;cases hc:(!y) with
   | true =>
    have hM0:=zP hc N;refine wA [.p (vA (cAff a0 p c)) [0],.q (.bool y),.q vY,.q vY,.p undef [],.p undef [],.p undef [],.p undef [],.p vY []] [[],[(0,false)],[(1,false)],[(2,false)],[(3,false)],[(3,false),(4,false)],[(3,false)],[(3,false),(5,false),(6,false)],[(3,false),(7,false)]] [hB b (cAff a0 p c)] [] [(8,false)] (yB [0]) ?_ ?_
    · refine Op<|Oq ?_<|Oq ?_<|Oq ?_<|Op<|Op<|Op<|Op<|Op<|On
      · intro I1 hf le1;refine yM [(4,vA (cAff a0 p c))] ?_;have H:=iS I1;have h:=h.mono le1;refine vJ (pY a0 _ hy h) ?_;intro I01 le;have H:=H.trans le;exact yS H
      · intro I1 hf le1;refine yM [(5,.bool y)]<|uS 3 [(6,.bool (!y))] ?_;rw [hc];exact yS iR
      intro I1 hf le1;exact yM [(6,vY)]<|uS 4 [(7,vY)]<|yS iR
    intro I02 le1;refine yM [(12,vY)] ?_;have H:=H.trans le1;exact yC [] [(3,vY)]<|xU zR<|yT [(3,vY)]<|zV (ct hM0 H)
   | false =>
    have hM01:=zL hc N;obtain ⟨y1,hy1,N⟩:=zB hM01;refine wA [.p (vA (cAff a0 p c)) [0],.q (.bool y),.q vF,.q vF,.p (vA (cAff a0 p c)) [0],.q (vI y1),.q (vI x),.p (.bool (decide (y1 > x))) [],.p (.bool (decide (y1 > x))) []] [[],[(0,false)],[(1,false)],[(2,false)],[(3,false)],[(3,false),(4,false)],[(3,false)],[(3,false),(5,false),(6,false)],[(3,false),(7,false)]] [hB b (cAff a0 p c)] [] [(8,false)] (yB [0]) ?_ ?_
    · refine Op<|Oq ?_<|Oq ?_<|Oq ?_<|Op<|Oq ?_<|Oq ?_<|Op<|Op<|On
      · intro I1 hf le1;refine yM [(4,vA (cAff a0 p c))] ?_;have H:=iS I1;have h:=h.mono le1;refine vJ (pY a0 _ hy h) ?_;intro I01 le;have H:=H.trans le;exact yS H
      · intro I1 hf le1;refine yM [(5,.bool y)]<|uS 3 [(6,.bool (!y))] ?_;rw [hc];exact yS iR
      · intro I1 hf le1;exact yM [(6,vF)]<|uS 4 [(7,vF)]<|yS iR
      · intro I1 hf le1;refine yM [(7,vF),(8,vA (cAff a0 p c))] ?_;have H:=iS I1;have h:=h.mono le1;refine gB (kX a0 _ hy1 h) ?_;intro I03 le2;have H:=H.trans le2;exact yS H
      intro I1 hf le1;refine yM [(1,.pointer (some ad)),(7,vF)] ?_;have hat:=hat.mono le1;exact xM 0 hat [vI x] (vI x) rfl<|yS iR
    intro I04 le3;refine yM [(12,.bool (decide (y1 > x)))] ?_;have H:=H.trans le3;exact yC [] [(3,.bool (decide (y1 > x)))]<|xU zR<|yT [(3,.bool (decide (y1 > x)))]<|zV (ct N H)
 rintro I0 hs2 m2 ⟨t3,heq,le4,rfl,rfl⟩;subst o0;refine zM<|yX ?_;obtain rfl:=zC hMc;exact wN
def oU (list:(List zA)) (depth:Int):Option (Bool):=do
 let t4←(do
   let y←wD (list.length:Int) 1 2
   if y then
    let y1←xN list (fun x0=>sR x0 depth)
    pure (!y1)
   else
    pure false
     : Option Bool)
 pure (id t4)
theorem zAQ:∀ list depth r,oU list depth=some r→∀ {I:Imm}{p c},(S4 I p list c)→RT 177 [vS p list c,vI depth] I [] (zU  r):=by
 intro list depth r N I p c h;unfold oU at N;refine zY (fn:=Tryz.f177) (c:=(bodyOf Tryz.f177)) Tryz.func177 rfl rfl ?_;rintro B - -;have H:=iS I;refine yK<|uD [vI depth] ?_;intro b hb;refine yJ 0 rfl ?_;intro I0 le hl0;have hat:At I0 ⟨b,0,none⟩ [vI depth]:=At.of_blk hl0;have h:=h.mono le;have H:=H.trans le;refine yC [] []<|zM<|yG ?_;obtain ⟨o0,ho0,hMc⟩:=zB N;refine yU (fun I' hs' m'=>∃ (t4:Bool),o0=t4∧I0.le I'∧hs'=[]∧m'=[(4,.bool t4)]) ?_ ?_
 · have H:=iS I0;refine zQ<|yD 2 [] [(6,vI (list.length:Int))] ?_;obtain ⟨y,hy,N⟩:=zB ho0;refine vJ (wF (list.length:Int) 1 2 _ hy ) ?_;intro I02 le1;have h:=h.mono le1;have hat:=hat.mono le1;have H:=H.trans le1;refine yD 4 [] [(8,.bool y)] ?_;cases hc:y with
   | true =>
    have hM0:=zP hc N
    try rw [hc]
    refine yD 6 [] [(9,vS p list c),(10,.func (.func 203) ⟨[]⟩ ⟨[vP b 0]⟩)] ?_;have hf0:FV1 Tryz.prog I02 [] (.func (.func 203) ⟨[]⟩ ⟨[vP b 0]⟩) (fun x0=>sR x0 depth):=by
      refine FV1.intro ?_;intro I1 le1 x0 r u0 hF k0;obtain ⟨_,rfl,k0⟩:=k0;obtain ⟨p1,c1,rfl,h2⟩:=yN k0;exact (zCR x0 depth r hF h2 (hat.mono le1)).mono (by rintro k i hs u ⟨v0,rfl,rfl,h⟩; exact ⟨rfl,h⟩)
    obtain ⟨y1,hy1,N⟩:=zB hM0;refine xT (sZ list (fun x0=>sR x0 depth) _ hy1 h hf0) ?_;rintro I03 hs2 v2 k2 le2 - ⟨v02,rfl,rfl,rfl⟩ -;have H:=H.trans le2;exact yC [] [(4,.bool (!y1))]<|yT [(4,.bool (!y1))]<|zV (ct N H)
   | false =>
    have hM01:=zL hc N
    try rw [hc]
    exact yC [] [(4,vF)]<|yT [(4,vF)]<|zV (ct hM01 H)
 rintro I01 hs2 m2 ⟨t4,heq,le3,rfl,rfl⟩;subst o0;refine zM<|yX ?_;obtain rfl:=zC hMc;exact wN
def sM (nest:(List zD)) (t7:Int):Option (Out Unit (Bool)):=do
 if (decide (t7 < (nest.length:Int))) then
  let x←idx nest t7
  let t23←(do
    let y←oU x.Lo t7
    if (!y) then
     pure true
    else
     let y1←oU x.Hi t7
     pure (!y1)
      : Option Bool)
  if t23 then
   pure (.ret false)
  else
   sM nest (W (t7 + 1))
 else
  pure (.done ())
 partial_fixpoint
theorem zBP (nest:(List zD)):∀ (t7:Int) (o:Out Unit (Bool)),sM nest t7=some o→∀ {B}{I0 I:Imm}{Q p c},I0.le I→(S4 I p nest c)→NG Q→NO Q→(∀ (I':Imm) ,o=(.done ())→I0.le I'→T 28 B Q (.exit 0) I' [] [(0,vS p nest c)])→(∀ r I' hs' m',o=(.ret r)→I0.le I'→RS Tryz.prog Tryz.f141 B (zU  r) I' hs' m'→T 28 B Q .ret I' hs' m')→J Tryz.prog 28 B (nav (bodyOf Tryz.f141) [1,0,1,0]) Q I [] [(0,vS p nest c),(5,vS p nest c),(6,vI (nest.length:Int)),(7,vI t7)]:=by
 refine sM.partial_correctness nest _ fun self ih t7 o N B I0 I Q p c H h hg ho hx hr=>yZ hg ho<|yF [(8,.bool (decide (t7 < (nest.length:Int))))]<|yI<|yL N ?_ ?_
 · intro hc N;refine zW<|yI<|yP<|yK<|yD 1 [] [(9,vI t7)]<|bE N fun x hy N=>xS rfl rfl h hy ?_;intro ad ccs hat hrep;obtain ⟨p1,c1,p2,c2,rfl,h1,h2⟩:=tP hrep;refine xM 0 hat (cLoop x p1 c1 p2 c2) (vA (cLoop x p1 c1 p2 c2)) rfl<|wR zTwo ?_;intro b hb;refine yD 5 [] [(3,vI t7)]<|xE 0 (cLoop x p1 c1 p2 c2) [hB b (cLoop x p1 c1 p2 c2)] rfl rfl rfl rfl<|yH rfl<|zM<|yG ?_;obtain ⟨o0,ho0,hMc⟩:=zB N;refine yU (fun I' hs' m'=>∃ (t23:Bool),o0=t23∧I.le I'∧hs'=[]∧m'=[(0,vS p nest c),(5,vS p nest c),(6,vI (nest.length:Int)),(7,vI t7),(23,.bool t23)]) ?_ ?_
   · have H:=iS I;refine zQ<|yD 3 [0] [(13,vS p1 x.Lo c1),(14,vI t7)] ?_;obtain ⟨y,hy1,N⟩:=zB ho0;refine vJ (zAQ x.Lo t7 _ hy1 h1) ?_;intro I01 le;have h2:=h2.mono le;have H:=H.trans le;refine yD 6 [] [(17,.bool (!y))] ?_;cases hc1:(!y) with
     | true =>
      have hM0:=zP hc1 N
      try rw [hc1]
      exact yC [] [(23,vY)]<|xU zR<|yT [(0,vS p nest c),(5,vS p nest c),(6,vI (nest.length:Int)),(7,vI t7),(23,vY)]<|zV (ct hM0 H)
     | false =>
      have hM01:=zL hc1 N
      try rw [hc1]
      refine yD 9 [0] [(19,vS p2 x.Hi c2),(20,vI t7)] ?_;obtain ⟨y1,hy2,N⟩:=zB hM01;refine vJ (zAQ x.Hi t7 _ hy2 h2) ?_;intro I02 le1;have H:=H.trans le1;exact yC [] [(23,.bool (!y1))]<|xU zR<|yT [(0,vS p nest c),(5,vS p nest c),(6,vI (nest.length:Int)),(7,vI t7),(23,.bool (!y1))]<|zV (ct N H)
   rintro I0 hs2 m2 ⟨t23,heq,le2,rfl,rfl⟩;subst o0;have h:=h.mono le2;have H:=H.trans le2;refine zM<|yL hMc ?_ ?_
   · intro hc2 N;exact yF [(2,vF)]<|xG<|zZ<|zH<|zH<|hr _ _ _ _ (zC N).symm H ⟨_,_,(.tmp rfl ResV.nil),zR,⟨_,rfl,rfl,rfl⟩⟩
   intro hc2 N;exact zW<|zT<|zM<|zQ<|yC [] [(7,vI (W (t7 + 1)))]<|yY<|vE [(0,vS p nest c),(5,vS p nest c),(6,vI (nest.length:Int)),(7,vI (W (t7 + 1)))]<|ih (W (t7 + 1)) _ N H h hg ho hx hr
 intro hc N;exact vW<|yT [(0,vS p nest c)]<|hx _  (zC N).symm H
def mB (nest:(List zD)):Option (Bool):=do
 match←sM nest 0 with
 | .ret r0=>pure r0
 | .done _ =>
  pure (decide ((nest.length:Int) ≤ 4))
theorem zDN:∀ nest r,mB nest=some r→∀ {I:Imm}{p c},(S4 I p nest c)→RT 141 [vS p nest c] I [] (zU  r):=by
 intro nest r N I p c h;unfold mB at N;refine zY (fn:=Tryz.f141) (c:=(bodyOf Tryz.f141)) Tryz.func141 rfl rfl ?_;rintro B - -;refine yF []<|yI<|yF [(5,vS p nest c),(6,vI (nest.length:Int)),(7,vI 0)]<|wO<|vE [(0,vS p nest c),(5,vS p nest c),(6,vI (nest.length:Int)),(7,vI 0)] ?_;obtain ⟨o01,ho01,hMl⟩:=zB N;refine zBP nest 0 o01 ho01 iR h (fun _ _ _ h=>h) (fun _ _ h=>h) ?_ ?_
 · intro I03  heq1 le3;subst o01;refine zX<|vH [(2,.bool (decide ((nest.length:Int) ≤ 4)))]<|zM<|yX ?_;obtain rfl:=zC hMl;exact wN
 intro r0 I9 hs9 m9 heq9 le9 hrs9;subst heq9;refine zZ<|zH ?_;obtain rfl:=zC hMl;exact xC hrs9
def eU (r:List Int):KT:=fun kk I' hs' v=>
  ∃ a0 c0 s0,hs'=[.osl (.slice a0 r.length c0) (Rp.sz Int) s0]∧v=tupV [(.slice a0 r.length c0)]∧RepL (Rp.rep I') (Rp.sz Int) s0 r
def sH (s:List Int):Option (List Int):=app 8 ([]:List Int) s
theorem mC:∀ s r,sH s=some r→∀ {I:Imm}{p c},SL I (vS p s c) s→RT 121 [vS p s c] I [] (eU r):=by
 intro s r N I p c h;unfold sH at N;obtain ⟨ccs,k0,k01⟩:=h;refine zY (fn:=Tryz.f121) (c:=(bodyOf Tryz.f121)) Tryz.func121 rfl rfl ?_;rintro B - -;cases p with
 | none =>
  have hs:s=[]:=by
    rcases k0 with ⟨hv,rfl⟩ | ⟨b0,off,len,cap,cc,hv,k2⟩
    · cases s with
      | nil=>rfl
      | cons _ _=>simp at hv
    simp at hv
  subst hs;obtain ⟨_,rfl⟩:=zAC N;refine yF [(0,vS none ([]:List Int) c),(2,z0)]<|yI<|yK<|yD 1 [] [(3,vS none ([]:List Int) c)]<|zKf true rfl rfl ?_ rfl;exact yC [] [(4,vY)]<|zM<|zAv rfl<|yF [(2,z0)]<|xG<|zH<|xU (vM (Rp.sz Int))<|xC ⟨_,_,(.tmp rfl ResV.nil),(yA [0] rfl (by decide)),⟨none,0,[],rfl,rfl,rfl⟩⟩
 | some ad =>
  refine yF [(0,vS (some ad) s c),(2,z0)]<|yI<|yK<|yD 1 [] [(3,vS (some ad) s c)]<|zKf false rfl rfl ?_ rfl;refine yC [] [(0,vS (some ad) s c),(4,vF)]<|zM<|fT rfl<|zW<|xD<|xY [] Int ?_;intro b2 hb2;have h1:RL I [] ([]:List Int):=rfl;exact yD 2 [] [(6,vS (some ad) s c)]<|pG 3 1 0 rfl rfl rfl h1 (.inl k0) k01 N fun p1 c1 cs h2=>yC [] [(2,vS p1 r c1)]<|xG<|xC ⟨_,_,(.tmp rfl ResV.nil),(yA [0] rfl (by decide)),⟨_,_,_,rfl,rfl,h2⟩⟩
def tO (a0:zA) (point:(List Int)) (sum:Int) (t12:Int):Option (Int):=do
 if (decide (t12 < (point.length:Int))) then
  let x←idx point t12
  let x1←idx a0.Coefs t12
  tO a0 point (W (sum + (W (x1 * x)))) (W (t12 + 1))
 else
  pure (id sum)
 partial_fixpoint
theorem zA8 (a0:zA) (point:(List Int)):∀ (sum:Int) (t12:Int) (o:Int),tO a0 point sum t12=some o→∀ {B}{I0 I:Imm}{Q p c p1 c1}{b:Nat},I0.le I→(S4 I p1 point c1)→(S4 I p a0.Coefs c)→NG Q→NO Q→(∀ (I':Imm) (sum1:Int),o=sum1→I0.le I'→T 28 B Q (.exit 0) I' [] [(5,vI sum1)])→J Tryz.prog 28 B (nav (bodyOf Tryz.f64) [1,1,0,1,0]) Q I [hB b (cAff a0 p c)] [(2,vP b 0),(5,vI sum),(10,vS p1 point c1),(11,vI (point.length:Int)),(12,vI t12)]:=by
 refine tO.partial_correctness a0 point _ fun self ih sum t12 o N B I0 I Q p c p1 c1 b H h1 h hg ho hx=>yZ hg ho<|yF [(13,.bool (decide (t12 < (point.length:Int))))]<|yI<|yL N ?_ ?_
 · intro hc N;refine zW<|yI<|yP<|yK<|yD 1 [] [(14,vI t12)]<|bE N fun x hy N=>xS rfl rfl h1 hy ?_;intro ad ccs hat hrep;obtain rfl:=hrep;refine xM 0 hat [vI x] (vI x) rfl<|yC [] [(6,vI t12),(7,vI x)]<|zM<|zQ<|yD 4 [0] [(17,vI sum),(19,vS p a0.Coefs c),(20,vI t12)]<|bE N fun x1 hy1 N=>xS rfl rfl h hy1 ?_;intro ad1 ccs1 hat1 hrep1;obtain rfl:=hrep1;exact xM 0 hat1 [vI x1] (vI x1) rfl<|yC [] [(5,vI (W (sum + (W (x1 * x)))))]<|zT<|zM<|zQ<|yC [] [(12,vI (W (t12 + 1)))]<|yY<|vE [(2,vP b 0),(5,vI (W (sum + (W (x1 * x))))),(10,vS p1 point c1),(11,vI (point.length:Int)),(12,vI (W (t12 + 1)))]<|ih (W (sum + (W (x1 * x)))) (W (t12 + 1)) _ N H h1 h hg ho hx
 intro hc N;exact vW<|xU zR<|yT [(5,vI sum)]<|hx _ _ (zC N).symm H
def tC (a0:zA) (point:(List Int)):Option (Int):=do
 let sum1←tO a0 point a0.Const 0
 pure (id sum1)
theorem pZ:∀ a0 point r,tC a0 point=some r→∀ {I:Imm}{p c p1 c1},(S4 I p a0.Coefs c)→(S4 I p1 point c1)→RT 64 [vA (cAff a0 p c),vS p1 point c1] I [] (xJ  r):=by
 intro a0 point r N I p c p1 c1 h h1;unfold tC at N;refine zY (fn:=Tryz.f64) (c:=(bodyOf Tryz.f64)) Tryz.func64 rfl rfl ?_;rintro B - -;refine yK<|uD (cAff a0 p c) ?_;intro b hb;refine yC [] []<|xD<|yC [0] [(5,vI a0.Const)]<|yI<|yF [(10,vS p1 point c1),(11,vI (point.length:Int)),(12,vI 0)]<|wO<|vE [(2,vP b 0),(5,vI a0.Const),(10,vS p1 point c1),(11,vI (point.length:Int)),(12,vI 0)] ?_;obtain ⟨o0,ho0,hMl⟩:=zB N;refine zA8 a0 point a0.Const 0 o0 ho0 iR h1 h (fun _ _ _ h=>h) (fun _ _ h=>h) ?_;intro I0 sum1 heq le;subst o0;refine zX<|vH [(4,vI sum1)]<|zM<|yX ?_;obtain rfl:=zC hMl;exact wN
def sN (l:zD) (point:(List Int)) (lo:Int) (t27:Int):Option (Int):=do
 if (decide (t27 < (l.Lo.length:Int))) then
  let x2←idx l.Lo t27
  let y2←tC x2 point
  sN l point (if y2 > lo then y2 else lo) (W (t27 + 1))
 else
  pure (id lo)
 partial_fixpoint
theorem zBQ (l:zD) (point:(List Int)):∀ (lo:Int) (t27:Int) (o:Int),sN l point lo t27=some o→∀ {B}{I0 I:Imm}{Q}{y1:Int}{p c p1 c1 p2 c2}{b:Nat},I0.le I→(S4 I p2 point c2)→(S4 I p l.Lo c)→(S4 I p1 l.Hi c1)→NG Q→NO Q→(∀ (I':Imm) (lo1:Int),o=lo1→I0.le I'→T 52 B Q (.exit 0) I' [hB b (cLoop l p c p1 c1)] [(1,vS p2 point c2),(2,vP b 0),(6,vI lo1),(7,vI y1)])→J Tryz.prog 52 B (nav (bodyOf Tryz.f142) [1,1,0,1,0]) Q I [hB b (cLoop l p c p1 c1)] [(1,vS p2 point c2),(2,vP b 0),(6,vI lo),(7,vI y1),(25,vS p l.Lo c),(26,vI (l.Lo.length:Int)),(27,vI t27)]:=by
 refine sN.partial_correctness l point _ fun self ih lo t27 o N B I0 I Q y1 p c p1 c1 p2 c2 b H h2 h h1 hg ho hx=>yZ hg ho<|yF [(28,.bool (decide (t27 < (l.Lo.length:Int))))]<|yI<|yL N ?_ ?_
 · intro hc N;refine zW<|yI<|yP<|yK<|bE N fun x2 hy4 N=>xS rfl rfl h hy4 ?_;intro ad2 ccs2 hat2 hrep2;obtain ⟨p5,c5,rfl,h7⟩:=yN hrep2;refine xM 0 hat2 (cAff x2 p5 c5) (vA (cAff x2 p5 c5)) rfl<|wR [z0,vI 0] ?_;intro b1 hb1;refine xE 0 (cAff x2 p5 c5) [hB b1 (cAff x2 p5 c5),hB b (cLoop l p c p1 c1)] rfl rfl rfl rfl<|yH rfl<|zM<|zQ<|yD 3 [0] [(31,vI lo),(32,vA (cAff x2 p5 c5)),(33,vS p2 point c2)]<|bE N fun y2 hy5 N=>gB (pZ x2 point _ hy5 h7 h2) ?_;intro I03 le3;have h2:=h2.mono le3;have h:=h.mono le3;have h1:=h1.mono le3;have H:=H.trans le3;exact yC [] [(6,vI (if y2 > lo then y2 else lo))]<|zT<|zM<|zQ<|yC [] [(27,vI (W (t27 + 1)))]<|yY<|pK (yA [1] rfl (by decide))<|vE [(1,vS p2 point c2),(2,vP b 0),(6,vI (if y2 > lo then y2 else lo)),(7,vI y1),(25,vS p l.Lo c),(26,vI (l.Lo.length:Int)),(27,vI (W (t27 + 1)))]<|ih (if y2 > lo then y2 else lo) (W (t27 + 1)) _ N H h2 h h1 hg ho hx
 intro hc N;exact vW<|yT [(1,vS p2 point c2),(2,vP b 0),(6,vI lo),(7,vI y1)]<|hx _ _ (zC N).symm H
def sO (l:zD) (point:(List Int)) (hi:Int) (t40:Int):Option (Int):=do
 if (decide (t40 < (l.Hi.length:Int))) then
  let x3←idx l.Hi t40
  let y3←tC x3 point
  sO l point (if y3 < hi then y3 else hi) (W (t40 + 1))
 else
  pure (id hi)
 partial_fixpoint
theorem zBR (l:zD) (point:(List Int)):∀ (hi:Int) (t40:Int) (o:Int),sO l point hi t40=some o→∀ {B}{I0 I:Imm}{Q}{lo1:Int}{p1 c1 p2 c2},I0.le I→(S4 I p2 point c2)→(S4 I p1 l.Hi c1)→NG Q→NO Q→(∀ (I':Imm) (hi1:Int),o=hi1→I0.le I'→T 52 B Q (.exit 2) I' [] [(6,vI lo1),(7,vI hi1)])→J Tryz.prog 52 B (nav (bodyOf Tryz.f142) [1,1,1,0,1,0]) Q I [] [(1,vS p2 point c2),(6,vI lo1),(7,vI hi),(38,vS p1 l.Hi c1),(39,vI (l.Hi.length:Int)),(40,vI t40)]:=by
 refine sO.partial_correctness l point _ fun self ih hi t40 o N B I0 I Q lo1 p1 c1 p2 c2 H h2 h1 hg ho hx=>yZ hg ho<|yF [(41,.bool (decide (t40 < (l.Hi.length:Int))))]<|yI<|yL N ?_ ?_
 · intro hc1 N;refine zW<|yI<|yP<|yK<|bE N fun x3 hy6 N=>xS rfl rfl h1 hy6 ?_;intro ad3 ccs3 hat3 hrep3;obtain ⟨p6,c6,rfl,h9⟩:=yN hrep3;refine xM 0 hat3 (cAff x3 p6 c6) (vA (cAff x3 p6 c6)) rfl<|wR [z0,vI 0] ?_;intro b2 hb2;refine xE 0 (cAff x3 p6 c6) [hB b2 (cAff x3 p6 c6)] rfl rfl rfl rfl<|yH rfl<|zM<|zQ<|yD 3 [0] [(44,vI hi),(45,vA (cAff x3 p6 c6)),(46,vS p2 point c2)]<|bE N fun y3 hy7 N=>gB (pZ x3 point _ hy7 h9 h2) ?_;intro I05 le5;have h2:=h2.mono le5;have h1:=h1.mono le5;have H:=H.trans le5;exact yC [] [(7,vI (if y3 < hi then y3 else hi))]<|zT<|zM<|zQ<|yC [] [(40,vI (W (t40 + 1)))]<|yY<|pK zR<|vE [(1,vS p2 point c2),(6,vI lo1),(7,vI (if y3 < hi then y3 else hi)),(38,vS p1 l.Hi c1),(39,vI (l.Hi.length:Int)),(40,vI (W (t40 + 1)))]<|ih (if y3 < hi then y3 else hi) (W (t40 + 1)) _ N H h2 h1 hg ho hx
 intro hc1 N;exact vW<|yT [(6,vI lo1),(7,vI hi)]<|hx _ _ (zC N).symm H
def mD (l:zD) (point:(List Int)):Option (Int×Int):=do
 let x←idx l.Lo 0
 let y←tC x point
 let x1←idx l.Hi 0
 let y1←tC x1 point
 let lo1←sN l point y 0
 let hi1←sO l point y1 0
 pure (lo1,hi1)
theorem zDO:∀ l point r,mD l point=some r→∀ {I:Imm}{p c p1 c1 p2 c2},(S4 I p l.Lo c)→(S4 I p1 l.Hi c1)→(S4 I p2 point c2)→RT 142 [vA (cLoop l p c p1 c1),vS p2 point c2] I [] (jT  r):=by
 intro l point r N I p c p1 c1 p2 c2 h h1 h2;unfold mD at N;refine zY (fn:=Tryz.f142) (c:=(bodyOf Tryz.f142)) Tryz.func142 rfl rfl ?_;rintro B - -;have H:=iS I;refine yK<|uD (cLoop l p c p1 c1) ?_;intro b hb;refine yC [] []<|zM<|yG ?_;obtain ⟨x,hy,N⟩:=zB N;obtain ⟨y,hy1,N⟩:=zB N;obtain ⟨x1,hy2,N⟩:=zB N;obtain ⟨y1,hy3,N⟩:=zB N;refine wA [.p (vP b 0) [],.p (vS p l.Lo c) [0],.x (fun I' v hx=>∃ ad p3 c3,v=.pointer (some ad)∧hx=[]∧(At I' ad (cAff x p3 c3))∧(S4 I' p3 x.Coefs c3)),.x (fun I' v hx=>∃ p31 c31,v=vA (cAff x p31 c31)∧hx=[]∧(S4 I' p31 x.Coefs c31)),.p (vS p2 point c2) [],.q (vI y),.p (vP b 1) [],.p (vS p1 l.Hi c1) [0],.x (fun I' v hx=>∃ ad1 p4 c4,v=.pointer (some ad1)∧hx=[]∧(At I' ad1 (cAff x1 p4 c4))∧(S4 I' p4 x1.Coefs c4)),.x (fun I' v hx=>∃ p41 c41,v=vA (cAff x1 p41 c41)∧hx=[]∧(S4 I' p41 x1.Coefs c41)),.p (vS p2 point c2) [],.q (vI y1),.p (vI y) []] [[],[(0,false)],[(1,false)],[(2,false)],[],[(3,false),(4,false)],[],[(6,false)],[(7,false)],[(8,false)],[],[(9,false),(10,false)],[(5,false)]] [hB b (cLoop l p c p1 c1)] [] [(11,false),(12,false)] (yB [0]) ?_ ?_
 · refine Op<|Op<|Ox ?_<|Ox ?_<|Op<|Oq ?_<|Op<|Op<|Ox ?_<|Ox ?_<|Op<|Oq ?_<|Op<|On
   · intro I1 hf le1;refine yM [(13,vS p l.Lo c)] ?_;have h:=h.mono le1;refine xS rfl rfl h hy ?_;intro ad ccs hat hrep;obtain ⟨p3,c3,rfl,h3⟩:=yN hrep;exact yO [] iR ⟨_,_,_,rfl,rfl,hat,h3⟩
   · intro I1 hf le1;refine zF ?_;rintro _ _ ⟨ad,p3,c3,rfl,rfl,hat,h3⟩;exact yM [(14,.pointer (some ad))]<|xM 0 hat (cAff x p3 c3) (vA (cAff x p3 c3)) rfl<|yO [] iR ⟨_,_,rfl,rfl,h3⟩
   · intro I1 hf le1;refine zF ?_;rintro _ _ ⟨p31,c31,rfl,rfl,h31⟩;refine yM [(15,vA (cAff x p31 c31)),(16,vS p2 point c2)] ?_;have H:=iS I1;have h2:=h2.mono le1;refine gB (pZ x point _ hy1 h31 h2) ?_;intro I0 le;have H:=H.trans le;exact yS H
   · intro I1 hf le1;refine yM [(19,vS p1 l.Hi c1)] ?_;have h1:=h1.mono le1;refine xS rfl rfl h1 hy2 ?_;intro ad1 ccs1 hat1 hrep1;obtain ⟨p4,c4,rfl,h5⟩:=yN hrep1;exact yO [] iR ⟨_,_,_,rfl,rfl,hat1,h5⟩
   · intro I1 hf le1;refine zF ?_;rintro _ _ ⟨ad1,p4,c4,rfl,rfl,hat1,h5⟩;exact yM [(20,.pointer (some ad1))]<|xM 0 hat1 (cAff x1 p4 c4) (vA (cAff x1 p4 c4)) rfl<|yO [] iR ⟨_,_,rfl,rfl,h5⟩
   intro I1 hf le1;refine zF ?_;rintro _ _ ⟨p41,c41,rfl,rfl,h51⟩;refine yM [(21,vA (cAff x1 p41 c41)),(22,vS p2 point c2)] ?_;have H:=iS I1;have h2:=h2.mono le1;refine gB (pZ x1 point _ hy3 h51 h2) ?_;intro I01 le1;have H:=H.trans le1;exact yS H
 intro I02 le2;refine yM [(1,vS p2 point c2),(2,vP b 0),(6,vI y),(23,vI y1)] ?_;have h2:=h2.mono le2;have h:=h.mono le2;have h1:=h1.mono le2;refine yC [] [(7,vI y1)]<|yI<|yK<|yC [0] [(25,vS p l.Lo c),(26,vI (l.Lo.length:Int)),(27,vI 0)]<|wO<|vE [(1,vS p2 point c2),(2,vP b 0),(6,vI y),(7,vI y1),(25,vS p l.Lo c),(26,vI (l.Lo.length:Int)),(27,vI 0)] ?_;obtain ⟨o0,ho0,hMl⟩:=zB N;refine zBQ l point y 0 o0 ho0 iR h2 h h1 (fun _ _ _ h=>h) (fun _ _ h=>h) ?_;intro I04 lo1 heq le4;subst o0;have h2:=h2.mono le4;have h:=h.mono le4;have h1:=h1.mono le4;refine zX<|yI<|yK<|yC [0] [(38,vS p1 l.Hi c1),(39,vI (l.Hi.length:Int)),(40,vI 0)]<|wO<|pK (yB [] (hs':=[]))<|vE [(1,vS p2 point c2),(6,vI lo1),(7,vI y1),(38,vS p1 l.Hi c1),(39,vI (l.Hi.length:Int)),(40,vI 0)] ?_;obtain ⟨o01,ho01,hMl1⟩:=zB hMl;refine zBR l point y1 0 o01 ho01 iR h2 h1 (fun _ _ _ h=>h) (fun _ _ h=>h) ?_;intro I06 hi1 heq1 le6;subst o01;refine zX<|vH [(4,vI lo1),(5,vI hi1)]<|zM<|yX ?_;obtain rfl:=zC hMl1;exact xC ⟨_,_,(.tmp rfl (.tmp rfl ResV.nil)),zR,⟨_,_,rfl,rfl,rfl,rfl⟩⟩
end Go.LN
