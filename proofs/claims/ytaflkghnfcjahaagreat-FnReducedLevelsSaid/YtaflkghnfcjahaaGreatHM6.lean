/- Helper of the proof (see the last text). -/
import Derived.Test.YtaflkghnfcjahaaGreatHM5
set_option linter.unusedVariables false
set_option linter.unusedSimpArgs false
namespace Go.LN
open Go.Proofs
set_option maxRecDepth 20000
def zEx (b0:Nat) (r:zD×zL):KT:=fun kk I' hs' v=>
  ∃ v0 k0,hs'=[.blk b0 ⟨k0⟩]∧v=tupV [v0]∧(∃ cs,v0=.agg ⟨cs⟩∧Rp.rep I' cs r.1)∧Rp.rep I' k0 r.2
def fH (r0:zL) (depth:Int):Option (zD×zL):=do
 let (y1,y2)←xB r0 ([0,0,1,0,(-1)]:List Int)
 let y3←wR y1
 let (y5,y6)←xB y2 ([3,4,2,3,1]:List Int)
 let y7←wR y5
 let (t23,x)←(do
   if (decide (depth > 0)) then
    let (y9,y10)←yU y6 4
    pure ((y9 == 0),y10)
   else
    pure (false,y6)
     : Option (Bool×zL))
 let (x1,x2,x3)←(do
   if t23 then
    let (y12,y13)←yU x depth
    let (y15,y16)←yU y13 2
    let (x4,x5)←(do
      if (y15 == 0) then
       let y17←nI y12
       pure (y17,(zA.mk y7.Coefs y7.Const))
      else
       let y18←nI y12
       let y19←wR 1
       let y20←nP y18 1 y19 1
       pure ((zA.mk y3.Coefs y3.Const),y20)
        : Option (zA×zA))
    pure (x4,x5,y16)
   else
    pure ((zA.mk y3.Coefs y3.Const),(zA.mk y7.Coefs y7.Const),x)
     : Option (zA×zA×zL))
 let (y22,y23)←yU x3 12
 let (Lo,Hi,x6)←(do
   if (y22 == 0) then
    let (y25,y26)←xB y23 ([3,2,4]:List Int)
    let y27←wR y25
    let l←app 32 ([x2]:List zA) ([y27]:List zA)
    pure (([x1]:List zA),l,y26)
   else
    let (Lo1,x7)←(do
      if (y22 == 1) then
       let (y29,y30)←xB y23 ([0,1]:List Int)
       let y31←wR y29
       let l1←app 32 ([x1]:List zA) ([y31]:List zA)
       pure (l1,y30)
      else
       pure (([x1]:List zA),y23)
        : Option (List zA×zL))
    pure (Lo1,([x2]:List zA),x7)
     : Option (List zA×List zA×zL))
 pure ((zD.mk Lo Hi),x6)
theorem zGX:∀ r0 depth r,fH r0 depth=some r→∀ {I:Imm}{r01:Nat}{p c},(S4 I p r0.b c)→RT 216 [vP r01 0,vI depth] I [hB r01 (cRd r0 p c)] (zEx r01 r):=by
 intro r0 depth r N I r01 p c h;unfold fH at N;refine yM Tryz.func216 fun B=>?_;have H:=iS I;refine yF<|wH zTwo ?_;intro b hb;refine yA rfl<|yV<|yB 1 [] [9] rfl<|nQ (rI [0,0,1,0,(-1)]) ?_;intro b1 I0 le h2;have ⟨h,H⟩:=m2 le h H;refine sD (zY [1,0] (hs':=[hB r01 (cRd r0 p c),hB b zTwo])) ?_;obtain ⟨⟨y1,y2⟩,hy,N⟩:=zB N;refine sE (xN r0 ([0,0,1,0,(-1)]:List Int) _ hy h h2) rfl ?_;rintro I01 hs2 v2 k2 le1 - ⟨v0,kk,rfl,rfl,rfl,h4⟩ -;have H:=H.trans le1;obtain ⟨p1,c1,rfl,h5⟩:=yD h4;obtain ⟨y3,hy1,N⟩:=zB N;refine xQ (uL y1 _ hy1 ) ?_;rintro I02 hs2 v2 k2 le2 - ⟨p2,c2,cs,rfl,rfl,h6⟩ -;have ⟨h5,H⟩:=m2 le2 h5 H;refine wH [z0,vI 0] ?_;intro b2 hb2;refine xI 0 (cAff y3 p2 c2) rfl<|yA rfl<|yV<|yB 1 [] [13] rfl<|nQ (rI [3,4,2,3,1]) ?_;intro b3 I03 le3 h8;have ⟨h6,h5,H⟩:=m3 le3 h6 h5 H;refine sD (zY [2,0,1,3] (hs':=[hB r01 (cRd y2 p1 c1),hB b2 (cAff y3 p2 c2),hO Int (vS p2 y3.Coefs c2) cs,hB b zTwo])) ?_;obtain ⟨⟨y5,y6⟩,hy2,N⟩:=zB N;refine sE (xN y2 ([3,4,2,3,1]:List Int) _ hy2 h5 h8) rfl ?_;rintro I04 hs2 v2 k2 le4 - ⟨v02,kk1,rfl,rfl,rfl,h10⟩ -;have ⟨h6,H⟩:=m2 le4 h6 H;obtain ⟨p3,c3,rfl,h11⟩:=yD h10;obtain ⟨y7,hy3,N⟩:=zB N;refine xQ (uL y5 _ hy3 ) ?_;rintro I05 hs2 v2 k2 le5 - ⟨p4,c4,cs1,rfl,rfl,h12⟩ -;have ⟨h11,h6,H⟩:=m3 le5 h11 h6 H;refine wH [z0,vI 0] ?_;intro b4 hb4;refine xI 0 (cAff y7 p4 c4) rfl<|yA rfl<|zZ<|yC ?_;obtain ⟨o0,ho0,hMc⟩:=zB N;refine qL (fun I' hs' m'=>∃ (t23:Bool) (x:zL) (p5:Option Addr) (c5:Nat),o0=(t23,x)∧I05.le I'∧(S4 I' p5 x.b c5)∧hs'=[hB b4 (cAff y7 p4 c4),hO Int (vS p4 y7.Coefs c4) cs1,hB r01 (cRd x p5 c5),hB b2 (cAff y3 p2 c2),hO Int (vS p2 y3.Coefs c2) cs,hB b zTwo]∧m'=[(0,vP r01 0),(1,vI depth),(4,vP b 0),(5,vP b2 0),(6,vP b4 0),(23,.bool t23)]) ?_ ?_
 · have H:=iS I05;refine zK<|yB 3 [] [19] rfl<|xW [19] ho0 ?_ ?_
   · intro hc N;refine yB 4 [] [20] rfl<|sD (zY [2,0,1,3,4,5] (hs':=[hB r01 (cRd y6 p3 c3),hB b4 (cAff y7 p4 c4),hO Int (vS p4 y7.Coefs c4) cs1,hB b2 (cAff y3 p2 c2),hO Int (vS p2 y3.Coefs c2) cs,hB b zTwo])) ?_;obtain ⟨⟨y9,y10⟩,hy4,N⟩:=zB N;refine sE (xR y6 4 _ hy4 h11) rfl ?_;rintro I07 hs2 v2 k2 le6 - ⟨v04,kk2,rfl,rfl,rfl,h15⟩ -;have H:=H.trans le6;obtain ⟨p6,c6,rfl,h16⟩:=yD h15;exact yJ [] [23] rfl<|xT (zX [1,2,0,3,4,5] rfl (by decide))<|yQ<|zT ⟨_,_,_,_,(zC N).symm,H,h16,rfl,rfl⟩
   intro hc N;exact wG [] [(23,vF)]<|yQ<|zT ⟨_,_,_,_,(zC N).symm,H,h11,rfl,rfl⟩
 rintro I06 hs2 m2 ⟨t23,x,p5,c5,heq,le7,h13,rfl,rfl⟩;subst o0;have ⟨h12,h6,H⟩:=m3 le7 h12 h6 H;refine zI<|oM 4 rfl ?_;intro I08 le8 hl02;have h17:=SL.of_frozen hl02 le8 h6;have ⟨h12,h13,H⟩:=m3 le8 h12 h13 H;refine oM 1 rfl ?_;intro I09 le9 hl03;have h18:=SL.of_frozen hl03 le9 h12;have ⟨h13,h17,H⟩:=m3 le9 h13 h17 H;obtain ⟨o01,ho01,hMc1⟩:=zB hMc;refine qL (fun I' hs' m'=>∃ (x1:zA) (x2:zA) (x3:zL) (p7:Option Addr) (c7:Nat) (p8:Option Addr) (c8:Nat) (p9:Option Addr) (c9:Nat),o01=(x1,x2,x3)∧I09.le I'∧(S4 I' p7 x1.Coefs c7)∧(S4 I' p8 x2.Coefs c8)∧(S4 I' p9 x3.b c9)∧hs'=[hB b4 (cAff x2 p8 c8),hB r01 (cRd x3 p9 c9),hB b2 (cAff x1 p7 c7),hB b zTwo]∧m'=[(0,vP r01 0),(4,vP b 0),(5,vP b2 0),(6,vP b4 0)]) ?_ ?_
 · have H:=iS I09;refine yE ho01 ?_ ?_
   · intro hc1 N;refine yF<|yB 2 [] [24,25] rfl<|sD (zY [1,0,2,3] (hs':=[hB r01 (cRd x p5 c5),hB b4 (cAff y7 p4 c4),hB b2 (cAff y3 p2 c2),hB b zTwo])) ?_;obtain ⟨⟨y12,y13⟩,hy5,N⟩:=zB N;refine sE (xR x depth _ hy5 h13) rfl ?_;rintro I011 hs2 v2 k2 le10 - ⟨v06,kk3,rfl,rfl,rfl,h23⟩ -;have ⟨h18,h17,H⟩:=m3 le10 h18 h17 H;obtain ⟨p10,c10,rfl,h24⟩:=yD h23;refine yJ [] [7] rfl<|yV<|yB 1 [] [27] rfl ?_;obtain ⟨⟨y15,y16⟩,hy6,N⟩:=zB N;refine sE (xR y13 2 _ hy6 h24) rfl ?_;rintro I012 hs2 v2 k2 le11 - ⟨v08,kk4,rfl,rfl,rfl,h26⟩ -;have ⟨h18,h17,H⟩:=m3 le11 h18 h17 H;obtain ⟨p11,c11,rfl,h27⟩:=yD h26;refine yJ [] [29] rfl<|zI ?_;obtain ⟨o02,ho02,hMc2⟩:=zB N;refine qL (fun I' hs' m'=>∃ (x4:zA) (x5:zA) (p12:Option Addr) (c12:Nat) (p13:Option Addr) (c13:Nat),o02=(x4,x5)∧I012.le I'∧(S4 I' p12 x4.Coefs c12)∧(S4 I' p13 x5.Coefs c13)∧hs'=[hB r01 (cRd y16 p11 c11),hB b4 (cAff x5 p13 c13),hB b2 (cAff x4 p12 c12),hB b zTwo]∧m'=[(0,vP r01 0),(4,vP b 0),(5,vP b2 0),(6,vP b4 0)]) ?_ ?_
     · have H:=iS I012;refine yE ho02 ?_ ?_
       · intro hc2 N;refine zK<|yB 1 [] [30] rfl<|bE N fun y17 hy7 N=>xQ (fC y12 _ hy7 ) ?_;rintro I014 hs2 v2 k2 le12 - ⟨v010,rfl,rfl,⟨cs2,rfl,h30⟩⟩ -;have ⟨h18,H⟩:=m2 le12 h18 H;obtain ⟨p14,c14,rfl,h31⟩:=yL h30;exact xI 2 (cAff y17 p14 c14) rfl<|yA rfl<|yQ<|zT ⟨_,_,_,_,_,_,(zC N).symm,H,h31,h18,rfl,rfl⟩
       intro hc2 N;refine zK<|yB 1 [] [32] rfl<|bE N fun y18 hy8 N=>xQ (fC y12 _ hy8 ) ?_;rintro I015 hs2 v2 k2 le13 - ⟨v012,rfl,rfl,⟨cs3,rfl,h32⟩⟩ -;have ⟨h17,H⟩:=m2 le13 h17 H;obtain ⟨p15,c15,rfl,h33⟩:=yL h32;obtain ⟨y19,hy9,N⟩:=zB N;refine xQ (uL 1 _ hy9 ) ?_;rintro I016 hs2 v2 k2 le14 - ⟨p16,c16,cs4,rfl,rfl,h34⟩ -;have ⟨h33,h17,H⟩:=m3 le14 h33 h17 H;refine xP 0 rfl ?_;intro I017 le15 hl04;have h35:=SL.of_frozen hl04 le15 h34;have ⟨h33,h17,H⟩:=m3 le15 h33 h17 H;obtain ⟨y20,hy10,N⟩:=zB N;refine xQ (zA6 y18 1 y19 1 _ hy10 h33 h35) ?_;rintro I018 hs2 v2 k2 le16 - ⟨v014,rfl,rfl,⟨cs5,rfl,h36⟩⟩ -;have ⟨h17,H⟩:=m2 le16 h17 H;obtain ⟨p17,c17,rfl,h37⟩:=yL h36;exact xI 1 (cAff y20 p17 c17) rfl<|yA rfl<|yQ<|zT ⟨_,_,_,_,_,_,(zC N).symm,H,h17,h37,rfl,rfl⟩
     rintro I013 hs2 m2 ⟨x4,x5,p12,c12,p13,c13,heq1,le17,h28,h29,rfl,rfl⟩;subst o02;have ⟨h27,H⟩:=m2 le17 h27 H;exact xT (zX [1,0,2,3] rfl (by decide))<|yQ<|zT ⟨_,_,_,_,_,_,_,_,_,(zC hMc2).symm,H,h28,h29,h27,rfl,rfl⟩
   intro hc1 N;exact zS<|yQ<|zT ⟨_,_,_,_,_,_,_,_,_,(zC N).symm,H,h17,h18,h13,rfl,rfl⟩
 rintro I010 hs2 m2 ⟨x1,x2,x3,p7,c7,p8,c8,p9,c9,heq2,le18,h19,h20,h21,rfl,rfl⟩;subst o01;have H:=H.trans le18;refine yV<|fW 1 [2] [(36,vA (cAff x1 p7 c7))]<|tH (cAff x1 p7 c7) zA ?_;intro b5 hb5;have h38:RL I010 (cAff x1 p7 c7) ([x1]:List zA):=⟨(cAff x1 p7 c7),_,rfl,rfl,(yO ⟨_,rfl,h19⟩),rfl⟩;refine fW 3 [1] [(38,vA (cAff x2 p8 c8))]<|tH (cAff x2 p8 c8) zA ?_;intro b6 hb6;have h39:RL I010 (cAff x2 p8 c8) ([x2]:List zA):=⟨(cAff x2 p8 c8),_,rfl,rfl,(yO ⟨_,rfl,h20⟩),rfl⟩;refine yB 5 [] [40] rfl<|wH zTwo ?_;intro b7 hb7;refine xI 0 [vS (some ⟨b5,0,none⟩) ([x1]:List zA) 1,vS (some ⟨b6,0,none⟩) ([x2]:List zA) 1] rfl<|yA rfl<|zZ<|yF<|yB 1 [] [41] rfl<|sD (zY [4,0,1,2,3,5,6] (hs':=[hB r01 (cRd x3 p9 c9),hB b7 [vS (some ⟨b5,0,none⟩) ([x1]:List zA) 1,vS (some ⟨b6,0,none⟩) ([x2]:List zA) 1],hO zA (vS (some ⟨b6,0,none⟩) ([x2]:List zA) 1) (cAff x2 p8 c8),hO zA (vS (some ⟨b5,0,none⟩) ([x1]:List zA) 1) (cAff x1 p7 c7),hB b4 (cAff x2 p8 c8),hB b2 (cAff x1 p7 c7),hB b zTwo])) ?_;obtain ⟨⟨y22,y23⟩,hy11,N⟩:=zB hMc1;refine sE (xR x3 12 _ hy11 h21) rfl ?_;rintro I019 hs2 v2 k2 le19 - ⟨v016,kk5,rfl,rfl,rfl,h41⟩ -;have ⟨h38,h39,H⟩:=m3 le19 h38 h39 H;obtain ⟨p18,c18,rfl,h42⟩:=yD h41;refine yA rfl<|xZ<|yG [43] rfl<|zI<|oM 4 rfl ?_;intro I020 le20 hl05;have hat:At I020 ⟨b4,0,none⟩ (cAff x2 p8 c8):=At.of_blk hl05;have ⟨h42,h38,h39,H⟩:=m4 le20 h42 h38 h39 H;refine oM 4 rfl ?_;intro I021 le21 hl06;have hat1:At I021 ⟨b2,0,none⟩ (cAff x1 p7 c7):=At.of_blk hl06;have ⟨h42,h38,h39,H⟩:=m4 le21 h42 h38 h39 H;obtain ⟨o03,ho03,hMc3⟩:=zB N;refine qL (fun I' hs' m'=>∃ (Lo:List zA) (Hi:List zA) (x6:zL) (p19:Option Addr) (c19:Nat) (cs6:List Value) (p20:Option Addr) (c20:Nat) (cs7:List Value) (p21:Option Addr) (c21:Nat),o03=(Lo,Hi,x6)∧I021.le I'∧(RL I' cs6 Lo)∧(RL I' cs7 Hi)∧(S4 I' p21 x6.b c21)∧hs'=[hB r01 (cRd x6 p21 c21),hB b7 [vS p19 Lo c19,vS p20 Hi c20],hO zA (vS p20 Hi c20) cs7,hO zA (vS p19 Lo c19) cs6,hB b zTwo]∧m'=[(4,vP b 0),(8,vP b7 0)]) ?_ ?_
 · have H:=iS I021;refine yE ho03 ?_ ?_
   · intro hc3 N;obtain ⟨⟨y25,y26⟩,hy12,N⟩:=zB N;obtain ⟨y27,hy13,N⟩:=zB N;obtain ⟨l,hy14,N⟩:=zB N;refine wA [.p (vP b7 1) [],.p (vS (some ⟨b6,0,none⟩) ([x2]:List zA) 1) [0],.p (vP r01 0) [],.x (fun I' v hx=>∃ b8,v=vS (some ⟨b8,0,none⟩) ([3,2,4]:List Int) 3∧hx=[]∧(SL I' (vS (some ⟨b8,0,none⟩) ([3,2,4]:List Int) 3) ([3,2,4]:List Int))),.x (fun I' v hx=>∃ p22 c22,v=vI y25∧hx=[hB r01 (cRd y26 p22 c22)]∧(S4 I' p22 y26.b c22)),.x (fun I' v hx=>∃ p23 c23 cs8,v=vA (cAff y27 p23 c23)∧hx=[hO Int (vS p23 y27.Coefs c23) cs8]∧(RL I' cs8 y27.Coefs)),.x (fun I' v hx=>∃ b9,v=vS (some ⟨b9,0,none⟩) ([y27]:List zA) 1∧hx=[]∧(SL I' (vS (some ⟨b9,0,none⟩) ([y27]:List zA) 1) ([y27]:List zA))),.x (fun I' v hx=>∃ p24 c24 cs9,v=vS p24 l c24∧hx=[hO zA (vS p24 l c24) cs9]∧(RL I' cs9 l))] [[],[(0,false)],[],[],[(2,false),(3,false),(10,true)],[(4,false)],[(5,true)],[(1,false),(6,false),(11,true)]] [hB b7 [vS (some ⟨b5,0,none⟩) ([x1]:List zA) 1,vS (some ⟨b6,0,none⟩) ([x2]:List zA) 1],hO zA (vS (some ⟨b5,0,none⟩) ([x1]:List zA) 1) (cAff x1 p7 c7),hB b zTwo] [[hB r01 (cRd y23 p18 c18)],[hO zA (vS (some ⟨b6,0,none⟩) ([x2]:List zA) 1) (cAff x2 p8 c8)]] [(4,true),(7,true)] (zY [1,3,4,0,2]) ?_ ?_
     · refine Op<|Op<|Op<|Ox ?_<|Ox ?_<|Ox ?_<|Ox ?_<|Ox ?_<|On
       · intro I1 hf le1;refine gY [] ?_;have H:=iS I1;refine nQ (rI [3,2,4]) ?_;intro b8 I023 le22 h47;have H:=H.trans le22;exact yI [] H ⟨_,rfl,rfl,h47⟩
       · rintro I1 hf le1 _ _ ⟨rfl,rfl⟩ _ _ ⟨b8,rfl,rfl,h47⟩ _ _ rfl;refine yN [47,48] rfl ?_;have H:=iS I1;have h42:=h42.mono le1;refine sE (xN y23 ([3,2,4]:List Int) _ hy12 h42 h47) rfl ?_;rintro I024 hs2 v2 k2 le23 - ⟨v018,kk6,rfl,rfl,rfl,h49⟩ -;have H:=H.trans le23;obtain ⟨p22,c22,rfl,h50⟩:=yD h49;exact yI [hB r01 (cRd y26 p22 c22)] H ⟨_,_,rfl,rfl,h50⟩
       · rintro I1 hf le1 _ _ ⟨p22,c22,rfl,rfl,h50⟩;refine yN [49] rfl ?_;have H:=iS I1;refine xQ (uL y25 _ hy13 ) ?_;rintro I025 hs2 v2 k2 le24 - ⟨p23,c23,cs8,rfl,rfl,h51⟩ -;have H:=H.trans le24;exact yI [hO Int (vS p23 y27.Coefs c23) cs8] H ⟨_,_,_,rfl,rfl,h51⟩
       · rintro I1 hf le1 _ _ ⟨p23,c23,cs8,rfl,rfl,h51⟩;refine yN [50] rfl ?_;have H:=iS I1;refine xP 0 rfl ?_;intro I026 le25 hl08;have h52:=SL.of_frozen hl08 le25 h51;have H:=H.trans le25;refine nQ (rc y27 (yO ⟨_,rfl,h52⟩) rN) ?_;intro b9 I027 le26 h54;have H:=H.trans le26;exact yI [] H ⟨_,rfl,rfl,h54⟩
       rintro I1 hf le1 _ _ ⟨rfl,rfl⟩ _ _ ⟨b9,rfl,rfl,h54⟩ _ _ rfl;refine yN [46,51] rfl ?_;have h39:=iM le1 h39;obtain ⟨ccs,k0,k01⟩:=h54;have h54:SL I1 (vS (some ⟨b9,0,none⟩) ([y27]:List zA) 1) ([y27]:List zA):=⟨_,k0,k01⟩;exact qI 38 2 0 rfl rfl rfl h39 (.inl k0) k01 hy14 fun p24 c24 cs9 h55=>vH (hs':=(hO zA (vS p24 l c24) cs9::hB b7 [vS (some ⟨b5,0,none⟩) ([x1]:List zA) 1,vS (some ⟨b6,0,none⟩) ([x2]:List zA) 1]::hO zA (vS (some ⟨b5,0,none⟩) ([x1]:List zA) 1) (cAff x1 p7 c7)::hB b zTwo::hf)) rfl<|yI [hO zA (vS p24 l c24) cs9] iR ⟨_,_,_,rfl,rfl,h55⟩
     rintro I028 le27 _ _ ⟨p22,c22,rfl,rfl,h50⟩ _ _ ⟨p24,c24,cs9,rfl,rfl,h55⟩;refine yN [4,8,52] rfl ?_;have ⟨h38,H⟩:=m2 le27 h38 H;exact yB 9 [] [53] rfl<|xI 2 [vS (some ⟨b5,0,none⟩) ([x1]:List zA) 1,vS p24 l c24] rfl<|yA rfl<|xT (zX [1,2,0,3,4] rfl (by decide))<|yQ<|zT ⟨_,_,_,_,_,_,_,_,_,_,_,(zC N).symm,H,h38,h55,h50,rfl,rfl⟩
   intro hc3 N;refine yG [54] rfl<|zI ?_;obtain ⟨o04,ho04,hMc4⟩:=zB N;refine qL (fun I' hs' m'=>∃ (Lo1:List zA) (x7:zL) (p25:Option Addr) (c25:Nat) (cs10:List Value) (p26:Option Addr) (c26:Nat),o04=(Lo1,x7)∧I021.le I'∧(RL I' cs10 Lo1)∧(S4 I' p26 x7.b c26)∧hs'=[hB r01 (cRd x7 p26 c26),hB b7 [vS p25 Lo1 c25,vS (some ⟨b6,0,none⟩) ([x2]:List zA) 1],hO zA (vS (some ⟨b6,0,none⟩) ([x2]:List zA) 1) (cAff x2 p8 c8),hO zA (vS p25 Lo1 c25) cs10,hB b zTwo]∧m'=[(4,vP b 0),(8,vP b7 0)]) ?_ ?_
   · have H:=iS I021;refine yE ho04 ?_ ?_
     · intro hc4 N;obtain ⟨⟨y29,y30⟩,hy15,N⟩:=zB N;obtain ⟨y31,hy16,N⟩:=zB N;obtain ⟨l1,hy17,N⟩:=zB N;refine wA [.p (vP b7 0) [],.p (vS (some ⟨b5,0,none⟩) ([x1]:List zA) 1) [0],.p (vP r01 0) [],.x (fun I' v hx=>∃ b10,v=vS (some ⟨b10,0,none⟩) ([0,1]:List Int) 2∧hx=[]∧(SL I' (vS (some ⟨b10,0,none⟩) ([0,1]:List Int) 2) ([0,1]:List Int))),.x (fun I' v hx=>∃ p27 c27,v=vI y29∧hx=[hB r01 (cRd y30 p27 c27)]∧(S4 I' p27 y30.b c27)),.x (fun I' v hx=>∃ p28 c28 cs11,v=vA (cAff y31 p28 c28)∧hx=[hO Int (vS p28 y31.Coefs c28) cs11]∧(RL I' cs11 y31.Coefs)),.x (fun I' v hx=>∃ b11,v=vS (some ⟨b11,0,none⟩) ([y31]:List zA) 1∧hx=[]∧(SL I' (vS (some ⟨b11,0,none⟩) ([y31]:List zA) 1) ([y31]:List zA))),.x (fun I' v hx=>∃ p29 c29 cs12,v=vS p29 l1 c29∧hx=[hO zA (vS p29 l1 c29) cs12]∧(RL I' cs12 l1))] [[],[(0,false)],[],[],[(2,false),(3,false),(10,true)],[(4,false)],[(5,true)],[(1,false),(6,false),(11,true)]] [hB b7 [vS (some ⟨b5,0,none⟩) ([x1]:List zA) 1,vS (some ⟨b6,0,none⟩) ([x2]:List zA) 1],hO zA (vS (some ⟨b6,0,none⟩) ([x2]:List zA) 1) (cAff x2 p8 c8),hB b zTwo] [[hB r01 (cRd y23 p18 c18)],[hO zA (vS (some ⟨b5,0,none⟩) ([x1]:List zA) 1) (cAff x1 p7 c7)]] [(4,true),(7,true)] (zY [1,2,4,0,3]) ?_ ?_
       · refine Op<|Op<|Op<|Ox ?_<|Ox ?_<|Ox ?_<|Ox ?_<|Ox ?_<|On
         · intro I1 hf le1;refine gY [] ?_;have H:=iS I1;refine nQ (rI [0,1]) ?_;intro b10 I030 le28 h59;have H:=H.trans le28;exact yI [] H ⟨_,rfl,rfl,h59⟩
         · rintro I1 hf le1 _ _ ⟨rfl,rfl⟩ _ _ ⟨b10,rfl,rfl,h59⟩ _ _ rfl;refine yN [58,59] rfl ?_;have H:=iS I1;have h42:=h42.mono le1;refine sE (xN y23 ([0,1]:List Int) _ hy15 h42 h59) rfl ?_;rintro I031 hs2 v2 k2 le29 - ⟨v020,kk7,rfl,rfl,rfl,h61⟩ -;have H:=H.trans le29;obtain ⟨p27,c27,rfl,h62⟩:=yD h61;exact yI [hB r01 (cRd y30 p27 c27)] H ⟨_,_,rfl,rfl,h62⟩
         · rintro I1 hf le1 _ _ ⟨p27,c27,rfl,rfl,h62⟩;refine yN [60] rfl ?_;have H:=iS I1;refine xQ (uL y29 _ hy16 ) ?_;rintro I032 hs2 v2 k2 le30 - ⟨p28,c28,cs11,rfl,rfl,h63⟩ -;have H:=H.trans le30;exact yI [hO Int (vS p28 y31.Coefs c28) cs11] H ⟨_,_,_,rfl,rfl,h63⟩
         · rintro I1 hf le1 _ _ ⟨p28,c28,cs11,rfl,rfl,h63⟩;refine yN [61] rfl ?_;have H:=iS I1;refine xP 0 rfl ?_;intro I033 le31 hl011;have h64:=SL.of_frozen hl011 le31 h63;have H:=H.trans le31;refine nQ (rc y31 (yO ⟨_,rfl,h64⟩) rN) ?_;intro b11 I034 le32 h66;have H:=H.trans le32;exact yI [] H ⟨_,rfl,rfl,h66⟩
         rintro I1 hf le1 _ _ ⟨rfl,rfl⟩ _ _ ⟨b11,rfl,rfl,h66⟩ _ _ rfl;refine yN [57,62] rfl ?_;have h38:=iM le1 h38;obtain ⟨ccs1,k02,k03⟩:=h66;have h66:SL I1 (vS (some ⟨b11,0,none⟩) ([y31]:List zA) 1) ([y31]:List zA):=⟨_,k02,k03⟩;exact qI 38 2 0 rfl rfl rfl h38 (.inl k02) k03 hy17 fun p29 c29 cs12 h67=>vH (hs':=(hO zA (vS p29 l1 c29) cs12::hB b7 [vS (some ⟨b5,0,none⟩) ([x1]:List zA) 1,vS (some ⟨b6,0,none⟩) ([x2]:List zA) 1]::hO zA (vS (some ⟨b6,0,none⟩) ([x2]:List zA) 1) (cAff x2 p8 c8)::hB b zTwo::hf)) rfl<|yI [hO zA (vS p29 l1 c29) cs12] iR ⟨_,_,_,rfl,rfl,h67⟩
       rintro I035 le33 _ _ ⟨p27,c27,rfl,rfl,h62⟩ _ _ ⟨p29,c29,cs12,rfl,rfl,h67⟩;refine yN [4,8,63] rfl ?_;have H:=H.trans le33;exact yB 9 [] [64] rfl<|xI 2 [vS p29 l1 c29,vS (some ⟨b6,0,none⟩) ([x2]:List zA) 1] rfl<|yA rfl<|xT (zX [1,2,3,0,4] rfl (by decide))<|yQ<|zT ⟨_,_,_,_,_,_,_,(zC N).symm,H,h67,h62,rfl,rfl⟩
     intro hc4 N;exact zS<|yQ<|zT ⟨_,_,_,_,_,_,_,(zC N).symm,H,h38,h42,rfl,rfl⟩
   rintro I029 hs2 m2 ⟨Lo1,x7,p25,c25,cs10,p26,c26,heq3,le34,h56,h57,rfl,rfl⟩;subst o04;have ⟨h39,H⟩:=m2 le34 h39 H;exact yQ<|zT ⟨_,_,_,_,_,_,_,_,_,_,_,(zC hMc4).symm,H,h56,h39,h57,rfl,rfl⟩
 rintro I022 hs2 m2 ⟨Lo,Hi,x6,p19,c19,cs6,p20,c20,cs7,p21,c21,heq4,le35,h43,h44,h45,rfl,rfl⟩;subst o03;refine zP<|yV<|fW 1 [1] [(65,vA [vS p19 Lo c19,vS p20 Hi c20])]<|xI 4 [vS p19 Lo c19,vS p20 Hi c20] rfl<|yA rfl<|xG<|yY 3 rfl ?_;intro I036 le36 hl013;have h68:=SL.of_frozen hl013 le36 h43;have ⟨h45,h44⟩:=m2 le36 h45 h44;refine yY 2 rfl ?_;intro I037 le37 hl014;have h69:=SL.of_frozen hl014 le37 h44;have ⟨h45,h68⟩:=m2 le37 h45 h68;obtain rfl:=zC hMc3;exact xA ⟨_,_,(.cell 2 rfl rfl (by kernel_rfl) ResV.nil),(zX [0] rfl (by decide)),⟨_,_,rfl,rfl,⟨_,rfl,(rL ⟨_,_,rfl,h68,h69⟩)⟩,(yR ⟨_,rfl,h45⟩)⟩⟩
def zEy (b0:Nat) (r:(List zD)×zL):KT:=fun kk I' hs' v=>
  ∃ v0 k0,hs'=[.blk b0 ⟨k0⟩]∧v=tupV [v0]∧SL I' v0 r.1∧Rp.rep I' k0 r.2
def pX (out:List zD) (i:Int) (x:zL):Option ((List zD×zL)):=do
 if (decide (i > 0)) then
  let (y4,y5)←fH x (out.length:Int)
  let out2←app 48 out ([y4]:List zD)
  pX out2 (W (i - 1)) y5
 else
  pure (out,x)
 partial_fixpoint
theorem zEK :∀ (out:List zD) (i:Int) (x:zL) (o:(List zD×zL)),pX out i x=some o→∀ {B}{I0 I:Imm}{Q}  {r01:Nat}{p2 c2 cs p3 c3},I0.le I→(RL I cs out)→(S4 I p3 x.b c3)→NG Q→NO Q→(∀ (I':Imm) (out1:List zD) (x1:zL) (p4:Option Addr) (c4:Nat) (cs1:List Value) (p5:Option Addr) (c5:Nat),o=(out1,x1)→I0.le I'→(RL I' cs1 out1)→(S4 I' p5 x1.b c5)→T 21 B Q (.exit 0) I' [hB r01 (cRd x1 p5 c5),hO zD (vS p4 out1 c4) cs1] [(3,vS p4 out1 c4)])→J Tryz.prog 21 B (nav (bodyOf Tryz.f176) [1,1,0,1,0]) Q I [hB r01 (cRd x p3 c3),hO zD (vS p2 out c2) cs] [(0,vP r01 0),(3,vS p2 out c2),(4,vI i)]:=by
 refine pX.partial_correctness  _ fun self ih out i x o N B I0 I Q r01 p2 c2 cs p3 c3 H h7 h8 hg ho hx=>yT hg ho<|yC<|yG [10] rfl<|zI<|yE N ?_ ?_
 · intro hc N;refine zS<|zZ<|yH<|zK<|yB 4 [] [13,14,16] rfl ?_;obtain ⟨⟨y4,y5⟩,hy1,N⟩:=zB N;refine sE (zGX x (out.length:Int) _ hy1 h8) rfl ?_;rintro I02 hs2 v2 k2 le2 - ⟨v02,kk1,rfl,rfl,⟨cs2,rfl,h11⟩,h12⟩ -;have ⟨h7,H⟩:=m2 le2 h7 H;obtain ⟨p6,c6,p7,c7,rfl,h13,h14⟩:=sB h11;obtain ⟨p8,c8,rfl,h15⟩:=yD h12;refine tH (cLoop y4 p6 c6 p7 c7) zD ?_;intro b2 hb2;have h16:RL I02 (cLoop y4 p6 c6 p7 c7) ([y4]:List zD):=⟨(cLoop y4 p6 c6 p7 c7),_,rfl,rfl,(rL ⟨_,_,rfl,h13,h14⟩),rfl⟩;obtain ⟨out2,hy2,N⟩:=zB N;exact qI 170 2 2 rfl rfl rfl h7 (.inr ⟨0,rfl⟩) h16 hy2 fun p9 c9 cs3 h17=>sD (zY [1,2] (hs':=[hB r01 (cRd y5 p8 c8),hO zD (vS p9 out2 c9) cs3]))<|yJ [] [3] rfl<|zP<|zI<|zK<|yJ [] [4] rfl<|yS<|nG<|ih out2 (W (i - 1)) y5 _ N H h17 h15 hg ho hx
 intro hc N;exact wT<|yQ<|hx _ _ _ _ _ _ _ _ (zC N).symm H h7 h8
def fI (r0:zL):Option ((List zD)×zL):=do
 let (y1,y2)←xB r0 ([2,1,2,3]:List Int)
 let (out1,x1)←pX ([]:List zD) y1 y2
 pure (out1,x1)
theorem zGY:∀ r0 r,fI r0=some r→∀ {I:Imm}{r01:Nat}{p c},(S4 I p r0.b c)→RT 176 [vP r01 0] I [hB r01 (cRd r0 p c)] (zEy r01 r):=by
 intro r0 r N I r01 p c h;unfold fI at N;refine yM Tryz.func176 fun B=>vJ []<|yV<|tH [] zD ?_;intro b hb;have h1:RL I [] ([]:List zD):=rfl;refine yJ [] [3] rfl<|zZ<|yF<|yB 1 [] [6] rfl<|nQ (rI [2,1,2,3]) ?_;intro b1 I0 le h3;have ⟨h1,h⟩:=m2 le h1 h;refine sD (zY [1,0] (hs':=[hB r01 (cRd r0 p c),hO zD (vS (some ⟨b,0,none⟩) ([]:List zD) 0) []])) ?_;obtain ⟨⟨y1,y2⟩,hy,N⟩:=zB N;refine sE (xN r0 ([2,1,2,3]:List Int) _ hy h h3) rfl ?_;rintro I01 hs2 v2 k2 le1 - ⟨v0,kk,rfl,rfl,rfl,h5⟩ -;have h1:=iM le1 h1;obtain ⟨p1,c1,rfl,h6⟩:=yD h5;refine yJ [] [4] rfl<|xZ<|pJ [(0,vP r01 0),(3,vS (some ⟨b,0,none⟩) ([]:List zD) 0),(4,vI y1)] ?_;obtain ⟨o0,ho0,hMl⟩:=zB N;refine zEK ([]:List zD) y1 y2 o0 ho0 iR h1 h6 (fun _ _ _ h=>h) (fun _ _ h=>h) ?_;intro I03 out1 x1 p4 c4 cs1 p5 c5 heq le3 h9 h10;subst o0;refine zR<|vG [2] rfl<|xG<|yY 1 rfl ?_;intro I04 le4 hl01;have h18:=SL.of_frozen hl01 le4 h9;have h10:=h10.mono le4;obtain rfl:=zC hMl;exact xA ⟨_,_,(.tmp rfl ResV.nil),(zX [0] rfl (by decide)),⟨_,_,rfl,rfl,h18,(yR ⟨_,rfl,h10⟩)⟩⟩
def zEz (b0:Nat) (r:zJ×zL):KT:=fun kk I' hs' v=>
  ∃ v0 k0,hs'=[.blk b0 ⟨k0⟩]∧v=tupV [v0]∧(∃ cs,v0=.agg ⟨cs⟩∧Rp.rep I' cs r.1)∧Rp.rep I' k0 r.2
def pY (depth:Int) (n0:Int) (i:Int) (Subs:List zA) (x:zL):Option ((List zA×zL)):=do
 if (decide (i < n0)) then
  let (y4,y5)←xB x ([0,1,0,2]:List Int)
  let y6←wR y4
  let (t32,x2)←(do
    if (decide (depth > 0)) then
     let (y8,y9)←yU y5 5
     pure ((decide (y8 > 0)),y9)
    else
     pure (false,y5)
      : Option (Bool×zL))
  let (x3,x4)←(do
    if t32 then
     let (y11,y12)←yU x2 depth
     let y13←nI y11
     let (y15,y16)←xB y12 ([1,1,1,2,(-1)]:List Int)
     let (y18,y19)←xB y16 ([0,1,0,0,2]:List Int)
     let y20←wR y18
     let y21←nP y13 y15 y20 1
     pure (y21,y19)
    else
     pure ((zA.mk y6.Coefs y6.Const),x2)
      : Option (zA×zL))
  let l←app 32 Subs ([x3]:List zA)
  pY depth n0 (W (i + 1)) l x4
 else
  pure (Subs,x)
 partial_fixpoint
theorem zEL (depth:Int) (n0:Int):∀ (i:Int) (Subs:List zA) (x:zL) (o:(List zA×zL)),pY depth n0 i Subs x=some o→∀ {B}{I0 I:Imm}{Q}{y1:Str}{r01:Nat}{b:Nat}{b2:Nat}{p2 c2 cs p3 c3},I0.le I→(RL I cs Subs)→(S4 I p3 x.b c3)→NG Q→NO Q→(∀ (I':Imm) (Subs1:List zA) (x1:zL) (p4:Option Addr) (c4:Nat) (cs1:List Value) (p5:Option Addr) (c5:Nat),o=(Subs1,x1)→I0.le I'→(RL I' cs1 Subs1)→(S4 I' p5 x1.b c5)→T 53 B Q (.exit 0) I' [hO zA (vS p4 Subs1 c4) cs1,hB b2 [vT y1.l,vS p4 Subs1 c4],hB r01 (cRd x1 p5 c5),hB b [vT ([]),z0]] [(4,vP b 0),(5,vP b2 0)])→J Tryz.prog 53 B (nav (bodyOf Tryz.f217) [1,1,1,1,0,1,0]) Q I [hO zA (vS p2 Subs c2) cs,hB b2 [vT y1.l,vS p2 Subs c2],hB r01 (cRd x p3 c3),hB b [vT ([]),z0]] [(0,vP r01 0),(1,vI depth),(4,vP b 0),(5,vP b2 0),(6,vI n0),(7,vI i)]:=by
 refine pY.partial_correctness depth n0 _ fun self ih i Subs x o N B I0 I Q y1 r01 b b2 p2 c2 cs p3 c3 H h7 h8 hg ho hx=>yT hg ho<|yC<|yG [19] rfl<|zI<|yE N ?_ ?_
 · intro hc1 N;refine zS<|zZ<|yH<|yF<|yB 1 [] [22] rfl<|nQ (rI [0,1,0,2]) ?_;intro b3 I03 le3 h12;have ⟨h7,h8,H⟩:=m3 le3 h7 h8 H;refine sD (zY [2,0,1,3] (hs':=[hB r01 (cRd x p3 c3),hO zA (vS p2 Subs c2) cs,hB b2 [vT y1.l,vS p2 Subs c2],hB b [vT ([]),z0]])) ?_;obtain ⟨⟨y4,y5⟩,hy1,N⟩:=zB N;refine sE (xN x ([0,1,0,2]:List Int) _ hy1 h8 h12) rfl ?_;rintro I04 hs2 v2 k2 le4 - ⟨v02,kk1,rfl,rfl,rfl,h14⟩ -;have ⟨h7,H⟩:=m2 le4 h7 H;obtain ⟨p6,c6,rfl,h15⟩:=yD h14;obtain ⟨y6,hy2,N⟩:=zB N;refine xQ (uL y4 _ hy2 ) ?_;rintro I05 hs2 v2 k2 le5 - ⟨p7,c7,cs2,rfl,rfl,h16⟩ -;have ⟨h15,h7,H⟩:=m3 le5 h15 h7 H;refine wH [z0,vI 0] ?_;intro b4 hb4;refine xI 0 (cAff y6 p7 c7) rfl<|yA rfl<|zZ<|yC ?_;obtain ⟨o01,ho01,hMc1⟩:=zB N;refine qL (fun I' hs' m'=>∃ (t32:Bool) (x2:zL) (p8:Option Addr) (c8:Nat),o01=(t32,x2)∧I05.le I'∧(S4 I' p8 x2.b c8)∧hs'=[hB b4 (cAff y6 p7 c7),hO Int (vS p7 y6.Coefs c7) cs2,hB r01 (cRd x2 p8 c8),hO zA (vS p2 Subs c2) cs,hB b2 [vT y1.l,vS p2 Subs c2],hB b [vT ([]),z0]]∧m'=[(0,vP r01 0),(1,vI depth),(4,vP b 0),(5,vP b2 0),(6,vI n0),(7,vI i),(8,vP b4 0),(32,.bool t32)]) ?_ ?_
   · have H:=iS I05;refine zK<|yB 3 [] [28] rfl<|xW [28] ho01 ?_ ?_
     · intro hc2 N;refine yB 4 [] [29] rfl<|sD (zY [2,0,1,3,4,5] (hs':=[hB r01 (cRd y5 p6 c6),hB b4 (cAff y6 p7 c7),hO Int (vS p7 y6.Coefs c7) cs2,hO zA (vS p2 Subs c2) cs,hB b2 [vT y1.l,vS p2 Subs c2],hB b [vT ([]),z0]])) ?_;obtain ⟨⟨y8,y9⟩,hy3,N⟩:=zB N;refine sE (xR y5 5 _ hy3 h15) rfl ?_;rintro I07 hs2 v2 k2 le6 - ⟨v04,kk2,rfl,rfl,rfl,h19⟩ -;have H:=H.trans le6;obtain ⟨p9,c9,rfl,h20⟩:=yD h19;exact yJ [] [32] rfl<|xT (zX [1,2,0,3,4,5] rfl (by decide))<|yQ<|zT ⟨_,_,_,_,(zC N).symm,H,h20,rfl,rfl⟩
     intro hc2 N;exact wG [] [(32,vF)]<|yQ<|zT ⟨_,_,_,_,(zC N).symm,H,h15,rfl,rfl⟩
   rintro I06 hs2 m2 ⟨t32,x2,p8,c8,heq1,le7,h17,rfl,rfl⟩;subst o01;have ⟨h16,h7,H⟩:=m3 le7 h16 h7 H;refine zI<|oM 1 rfl ?_;intro I08 le8 hl02;have h21:=SL.of_frozen hl02 le8 h16;have ⟨h17,h7,H⟩:=m3 le8 h17 h7 H;obtain ⟨o02,ho02,hMc2⟩:=zB hMc1;refine qL (fun I' hs' m'=>∃ (x3:zA) (x4:zL) (p10:Option Addr) (c10:Nat) (p11:Option Addr) (c11:Nat),o02=(x3,x4)∧I08.le I'∧(S4 I' p10 x3.Coefs c10)∧(S4 I' p11 x4.b c11)∧hs'=[hB b4 (cAff x3 p10 c10),hB r01 (cRd x4 p11 c11),hO zA (vS p2 Subs c2) cs,hB b2 [vT y1.l,vS p2 Subs c2],hB b [vT ([]),z0]]∧m'=[(0,vP r01 0),(1,vI depth),(4,vP b 0),(5,vP b2 0),(6,vI n0),(7,vI i),(8,vP b4 0)]) ?_ ?_
   · have H:=iS I08;refine yE ho02 ?_ ?_
     · intro hc3 N;refine yF<|yB 2 [] [33,34] rfl<|sD (zY [1,0,2,3,4] (hs':=[hB r01 (cRd x2 p8 c8),hB b4 (cAff y6 p7 c7),hO zA (vS p2 Subs c2) cs,hB b2 [vT y1.l,vS p2 Subs c2],hB b [vT ([]),z0]])) ?_;obtain ⟨⟨y11,y12⟩,hy4,N⟩:=zB N;refine sE (xR x2 depth _ hy4 h17) rfl ?_;rintro I010 hs2 v2 k2 le9 - ⟨v06,kk3,rfl,rfl,rfl,h25⟩ -;have H:=H.trans le9;obtain ⟨p12,c12,rfl,h26⟩:=yD h25;refine yJ [] [9] rfl<|zI<|zK<|yB 1 [] [36] rfl<|bE N fun y13 hy5 N=>xQ (fC y11 _ hy5 ) ?_;rintro I011 hs2 v2 k2 le10 - ⟨v08,rfl,rfl,⟨cs3,rfl,h27⟩⟩ -;have ⟨h26,H⟩:=m2 le10 h26 H;obtain ⟨p13,c13,rfl,h28⟩:=yL h27;refine yB 3 [] [38] rfl<|nQ (rI [1,1,1,2,(-1)]) ?_;intro b5 I012 le11 h30;have ⟨h28,h26,H⟩:=m3 le11 h28 h26 H;obtain ⟨⟨y15,y16⟩,hy6,N⟩:=zB N;refine sE (xN y12 ([1,1,1,2,(-1)]:List Int) _ hy6 h26 h30) rfl ?_;rintro I013 hs2 v2 k2 le12 - ⟨v010,kk4,rfl,rfl,rfl,h32⟩ -;have ⟨h28,H⟩:=m2 le12 h28 H;obtain ⟨p14,c14,rfl,h33⟩:=yD h32;refine yB 6 [] [41] rfl<|nQ (rI [0,1,0,0,2]) ?_;intro b6 I014 le13 h35;have ⟨h28,h33,H⟩:=m3 le13 h28 h33 H;obtain ⟨⟨y18,y19⟩,hy7,N⟩:=zB N;refine sE (xN y16 ([0,1,0,0,2]:List Int) _ hy7 h33 h35) rfl ?_;rintro I015 hs2 v2 k2 le14 - ⟨v012,kk5,rfl,rfl,rfl,h37⟩ -;have ⟨h28,H⟩:=m2 le14 h28 H;obtain ⟨p15,c15,rfl,h38⟩:=yD h37;obtain ⟨y20,hy8,N⟩:=zB N;refine xQ (uL y18 _ hy8 ) ?_;rintro I016 hs2 v2 k2 le15 - ⟨p16,c16,cs4,rfl,rfl,h39⟩ -;have ⟨h28,h38,H⟩:=m3 le15 h28 h38 H;refine xP 0 rfl ?_;intro I017 le16 hl05;have h40:=SL.of_frozen hl05 le16 h39;have ⟨h28,h38,H⟩:=m3 le16 h28 h38 H;obtain ⟨y21,hy9,N⟩:=zB N;refine xQ (zA6 y13 y15 y20 1 _ hy9 h28 h40) ?_;rintro I018 hs2 v2 k2 le17 - ⟨v014,rfl,rfl,⟨cs5,rfl,h41⟩⟩ -;have ⟨h38,H⟩:=m2 le17 h38 H;obtain ⟨p17,c17,rfl,h42⟩:=yL h41;exact xI 1 (cAff y21 p17 c17) rfl<|yA rfl<|xT (zX [1,0,2,3,4] rfl (by decide))<|yQ<|zT ⟨_,_,_,_,_,_,(zC N).symm,H,h42,h38,rfl,rfl⟩
     intro hc3 N;exact zS<|yQ<|zT ⟨_,_,_,_,_,_,(zC N).symm,H,h21,h17,rfl,rfl⟩
   rintro I09 hs2 m2 ⟨x3,x4,p10,c10,p11,c11,heq2,le18,h22,h23,rfl,rfl⟩;subst o02;have ⟨h7,H⟩:=m2 le18 h7 H;refine zI<|zK<|fW 3 [3,0] [(47,vS p2 Subs c2),(48,vA (cAff x3 p10 c10))]<|tH (cAff x3 p10 c10) zA ?_;intro b7 hb7;have h43:RL I09 (cAff x3 p10 c10) ([x3]:List zA):=⟨(cAff x3 p10 c10),_,rfl,rfl,(yO ⟨_,rfl,h22⟩),rfl⟩;obtain ⟨l,hy10,N⟩:=zB hMc2;refine qI 38 2 3 rfl rfl rfl h7 (.inr ⟨0,rfl⟩) h43 hy10 ?_;intro p18 c18 cs6 h44;exact sD (zY [1,2,3,4,5] (hs':=[hB b4 (cAff x3 p10 c10),hB r01 (cRd x4 p11 c11),hO zA (vS p18 l c18) cs6,hB b2 [vT y1.l,vS p2 Subs c2],hB b [vT ([]),z0]]))<|yB 6 [] [51] rfl<|xI 3 [vT y1.l,vS p18 l c18] rfl<|yA rfl<|zP<|zI<|zK<|yJ [] [7] rfl<|yS<|kX (zX [2,3,1,4] rfl (by decide))<|nG<|ih (W (i + 1)) l x4 _ N H h44 h23 hg ho hx
 intro hc1 N;exact wT<|yQ<|hx _ _ _ _ _ _ _ _ (zC N).symm H h7 h8
def mZ (r0:zL) (depth:Int):Option (zJ×zL):=do
 let (y1,y2)←rW r0 ([(⟨[65]⟩:Str),(⟨[66]⟩:Str),(⟨[65]⟩:Str),(⟨[67]⟩:Str)]:List Str)
 let n0←(do
   if (y1.l == ([66]:List UInt8)) then
    pure (id 2)
   else
    pure (id 1)
     : Option Int)
 let (Subs1,x1)←pY depth n0 0 ([]:List zA) y2
 pure ((zJ.mk y1 Subs1),x1)
theorem zCS:∀ r0 depth r,mZ r0 depth=some r→∀ {I:Imm}{r01:Nat}{p c},(S4 I p r0.b c)→RT 217 [vP r01 0,vI depth] I [hB r01 (cRd r0 p c)] (zEz r01 r):=by
 intro r0 depth r N I r01 p c h;unfold mZ at N;refine yM Tryz.func217 fun B=>?_;have H:=iS I;refine yF<|wH [vT ([]),z0] ?_;intro b hb;refine yA rfl<|yV<|yB 1 [] [10] rfl<|nQ (rT [(⟨[65]⟩:Str),(⟨[66]⟩:Str),(⟨[65]⟩:Str),(⟨[67]⟩:Str)]) ?_;intro b1 I0 le h2;have ⟨h,H⟩:=m2 le h H;refine sD (zY [1,0] (hs':=[hB r01 (cRd r0 p c),hB b [vT ([]),z0]])) ?_;obtain ⟨⟨y1,y2⟩,hy,N⟩:=zB N;refine sE (kQ r0 ([(⟨[65]⟩:Str),(⟨[66]⟩:Str),(⟨[65]⟩:Str),(⟨[67]⟩:Str)]:List Str) _ hy h h2) rfl ?_;rintro I01 hs2 v2 k2 le1 - ⟨v0,kk,rfl,rfl,rfl,h4⟩ -;have H:=H.trans le1;obtain ⟨p1,c1,rfl,h5⟩:=yD h4;refine yB 4 [] [13] rfl<|wH [vT ([]),z0] ?_;intro b2 hb2;refine xI 0 [vT y1.l,z0] rfl<|yA rfl<|vG [6] rfl<|zZ<|yF<|yJ [0] [16] rfl<|zI ?_;refine wE N [hB b2 [vT y1.l,z0],hB r01 (cRd y2 p1 c1),hB b [vT ([]),z0]] (fun n0=>[(0,vP r01 0),(1,vI depth),(4,vP b 0),(5,vP b2 0),(6,vI n0)]) (fun o0 ho0=>?_) ?_
 · have H:=iS I01;refine yE ho0 ?_ ?_
   · intro hc N;exact zK<|yJ [] [6] rfl<|yQ<|zT (ct N H)
   intro hc N;exact zS<|yQ<|zT (ct N H)
 intro n0 I02 le2 hMc;have h5:=h5.mono le2;refine zZ<|yG [7] rfl<|xZ<|pJ [(0,vP r01 0),(1,vI depth),(4,vP b 0),(5,vP b2 0),(6,vI n0),(7,vI 0)]<|zAE zA fun h6=>?_;obtain ⟨o03,ho03,hMl⟩:=zB hMc;refine zEL depth n0 0 ([]:List zA) y2 o03 ho03 iR h6 h5 (fun _ _ _ h=>h) (fun _ _ h=>h) ?_;intro I019 Subs1 x1 p4 c4 cs1 p5 c5 heq3 le19 h9 h10;subst o03;refine zR<|yV<|fW 1 [1] [(52,vA [vT y1.l,vS p4 Subs1 c4])]<|xI 3 [vT y1.l,vS p4 Subs1 c4] rfl<|yA rfl<|xG<|yY 0 rfl ?_;intro I020 le20 hl06;have h45:=SL.of_frozen hl06 le20 h9;have h10:=h10.mono le20;obtain rfl:=zC hMl;exact xA ⟨_,_,(.cell 2 rfl rfl (by kernel_rfl) ResV.nil),(zX [1] rfl (by decide)),⟨_,_,rfl,rfl,⟨_,rfl,(nN ⟨_,rfl,h45⟩)⟩,(yR ⟨_,rfl,h10⟩)⟩⟩
def zFA (b0:Nat) (r:zA×zL):KT:=fun kk I' hs' v=>
  ∃ v0 k0,hs'=[.blk b0 ⟨k0⟩]∧v=tupV [v0]∧(∃ cs,v0=.agg ⟨cs⟩∧Rp.rep I' cs r.1)∧Rp.rep I' k0 r.2
def pZ (depth:Int) (i:Int) (Coefs:List Int) (x:zL):Option ((List Int×zL)):=do
 if (decide (i < depth)) then
  let (y5,y6)←xB x ([0,1,0,(-1),2,0,9]:List Int)
  let x2←idx Coefs i
  let l←pure (Coefs.set i.toNat y5)
  pZ depth (W (i + 1)) l y6
 else
  pure (Coefs,x)
 partial_fixpoint
theorem zEM (depth:Int):∀ (i:Int) (Coefs:List Int) (x:zL) (o:(List Int×zL)),pZ depth i Coefs x=some o→∀ {B}{I0 I:Imm}{Q}{y3:zA}{r01:Nat}{b:Nat}{b2:Nat}{p3 c3 cs1 p4 c4},I0.le I→(RL I cs1 Coefs)→(S4 I p4 x.b c4)→NG Q→NO Q→(∀ (I':Imm) (Coefs1:List Int) (x1:zL) (p5:Option Addr) (c5:Nat) (cs2:List Value) (p6:Option Addr) (c6:Nat),o=(Coefs1,x1)→I0.le I'→(RL I' cs2 Coefs1)→(S4 I' p6 x1.b c6)→T 24 B Q (.exit 0) I' [hB b2 [vS p5 Coefs1 c5,vI y3.Const],hO Int (vS p5 Coefs1 c5) cs2,hB r01 (cRd x1 p6 c6),hB b [z0,vI 0]] [(4,vP b 0),(5,vP b2 0)])→J Tryz.prog 24 B (nav (bodyOf Tryz.f251) [1,1,0,1,0]) Q I [hB b2 [vS p3 Coefs c3,vI y3.Const],hO Int (vS p3 Coefs c3) cs1,hB r01 (cRd x p4 c4),hB b [z0,vI 0]] [(0,vP r01 0),(1,vI depth),(4,vP b 0),(5,vP b2 0),(6,vI i)]:=by
 refine pZ.partial_correctness depth _ fun self ih i Coefs x o N B I0 I Q y3 r01 b b2 p3 c3 cs1 p4 c4 H h7 h8 hg ho hx=>yT hg ho<|yC<|yG [13] rfl<|zI<|yE N ?_ ?_
 · intro hc N;refine zS<|zZ<|yH ?_;obtain ⟨⟨y5,y6⟩,hy2,N⟩:=zB N;refine wA [.p (vP b2 0) [],.p (vS p3 Coefs c3) [0],.p (vI i) [],.p (vP r01 0) [],.x (fun I' v hx=>∃ b3,v=vS (some ⟨b3,0,none⟩) ([0,1,0,(-1),2,0,9]:List Int) 7∧hx=[]∧(SL I' (vS (some ⟨b3,0,none⟩) ([0,1,0,(-1),2,0,9]:List Int) 7) ([0,1,0,(-1),2,0,9]:List Int))),.x (fun I' v hx=>∃ p7 c7,v=vI y5∧hx=[hB r01 (cRd y6 p7 c7)]∧(S4 I' p7 y6.b c7))] [[],[(0,false)],[],[],[],[(3,false),(4,false),(8,true)]] [hB b2 [vS p3 Coefs c3,vI y3.Const],hO Int (vS p3 Coefs c3) cs1,hB b [z0,vI 0]] [[hB r01 (cRd x p4 c4)]] [(1,false),(2,false),(5,true)] (zY [0,1,3,2]) ?_ ?_
   · refine Op<|Op<|Op<|Op<|Ox ?_<|Ox ?_<|On
     · intro I1 hf le1;refine gY [] ?_;have H:=iS I1;refine nQ (rI [0,1,0,(-1),2,0,9]) ?_;intro b3 I03 le3 h12;have H:=H.trans le3;exact yI [] H ⟨_,rfl,rfl,h12⟩
     rintro I1 hf le1 _ _ ⟨rfl,rfl⟩ _ _ ⟨b3,rfl,rfl,h12⟩ _ _ rfl;refine yN [19,20] rfl ?_;have H:=iS I1;have h8:=h8.mono le1;refine sE (xN x ([0,1,0,(-1),2,0,9]:List Int) _ hy2 h8 h12) rfl ?_;rintro I04 hs2 v2 k2 le4 - ⟨v02,kk1,rfl,rfl,rfl,h14⟩ -;have H:=H.trans le4;obtain ⟨p7,c7,rfl,h15⟩:=yD h14;exact yI [hB r01 (cRd y6 p7 c7)] H ⟨_,_,rfl,rfl,h15⟩
   rintro I05 le5 _ _ ⟨rfl,rfl⟩ _ _ ⟨rfl,rfl⟩ _ _ ⟨p7,c7,rfl,rfl,h15⟩;refine yN [0,1,4,5,6,17,18,21] rfl ?_;have ⟨h7,H⟩:=m2 le5 h7 H;obtain ⟨x2,hy3,N⟩:=zB N;refine mF 2 rfl rfl rfl h7 hy3 ?_;intro ad ccs hat hcc hrep;obtain rfl:=hrep;obtain ⟨l,hy4,N⟩:=zB N;refine qM (c:=[vI y5]) (x':=y5) 2 0 rfl rfl rfl hat rfl rfl hcc (by kernel_rfl) (by kernel_rfl) (by kernel_rfl) h7 hy3 (by kernel_rfl) rfl ?_;rw [show Coefs.set i.toNat y5=l from zC hy4];intro cs3 h16 hl02;exact jW (m':=[(0,vP r01 0),(1,vI depth),(4,vP b 0),(5,vP b2 0),(6,vI i),(17,vS p3 Coefs c3),(18,vI i),(21,vI y5)]) ⟨rfl,rfl,rfl,rfl,rfl,rfl,rfl,rfl,trivial⟩<|zBz (hs':=[hB r01 (cRd y6 p7 c7),hB b2 [vS p3 l c3,vI y3.Const],hO Int (vS p3 l c3) cs3,hB b [z0,vI 0]]) (m':=[(0,vP r01 0),(1,vI depth),(4,vP b 0),(5,vP b2 0),(6,vI i),(17,vS p3 l c3),(18,vI i),(21,vI y5)]) (by first | rfl | simp only [vS,hl02,List.nil_append,List.cons_append,List.set_cons_zero,List.set_cons_succ,List.eraseIdx_cons_zero,List.eraseIdx_cons_succ]) (by first | rfl | simp only [vS,hl02])<|yA rfl<|zP<|zI<|zK<|yJ [] [6] rfl<|yS<|kX (zX [1,2,0,3] rfl (by decide))<|nG<|ih (W (i + 1)) l y6 _ N H h16 h15 hg ho hx
 intro hc N;exact wT<|yQ<|hx _ _ _ _ _ _ _ _ (zC N).symm H h7 h8
def jQ (r0:zL) (depth:Int):Option (zA×zL):=do
 let (y1,y2)←xB r0 ([0,1,(-1),2,0,5,(-9),99]:List Int)
 let y3←wR y1
 let (Coefs1,x1)←pZ depth 0 y3.Coefs y2
 pure ((zA.mk Coefs1 y3.Const),x1)
theorem zGZ:∀ r0 depth r,jQ r0 depth=some r→∀ {I:Imm}{r01:Nat}{p c},(S4 I p r0.b c)→RT 251 [vP r01 0,vI depth] I [hB r01 (cRd r0 p c)] (zFA r01 r):=by
 intro r0 depth r N I r01 p c h;unfold jQ at N;refine yM Tryz.func251 fun B=>yF<|wH [z0,vI 0] ?_;intro b hb;refine yA rfl<|yV<|yB 1 [] [7] rfl<|nQ (rI [0,1,(-1),2,0,5,(-9),99]) ?_;intro b1 I0 le h2;have h:=h.mono le;refine sD (zY [1,0] (hs':=[hB r01 (cRd r0 p c),hB b [z0,vI 0]])) ?_;obtain ⟨⟨y1,y2⟩,hy,N⟩:=zB N;refine sE (xN r0 ([0,1,(-1),2,0,5,(-9),99]:List Int) _ hy h h2) rfl ?_;rintro I01 hs2 v2 k2 le1 - ⟨v0,kk,rfl,rfl,rfl,h4⟩ -;obtain ⟨p1,c1,rfl,h5⟩:=yD h4;obtain ⟨y3,hy1,N⟩:=zB N;refine xQ (uL y1 _ hy1 ) ?_;rintro I02 hs2 v2 k2 le2 - ⟨p2,c2,cs,rfl,rfl,h6⟩ -;have h5:=h5.mono le2;refine wH [z0,vI 0] ?_;intro b2 hb2;refine xI 0 (cAff y3 p2 c2) rfl<|yA rfl<|zZ<|yG [6] rfl<|xZ<|pJ [(0,vP r01 0),(1,vI depth),(4,vP b 0),(5,vP b2 0),(6,vI 0)] ?_;obtain ⟨o0,ho0,hMl⟩:=zB N;refine zEM depth 0 y3.Coefs y2 o0 ho0 iR h6 h5 (fun _ _ _ h=>h) (fun _ _ h=>h) ?_;intro I06 Coefs1 x1 p5 c5 cs2 p6 c6 heq le6 h9 h10;subst o0;refine zR<|yV<|fW 1 [0] [(23,vA [vS p5 Coefs1 c5,vI y3.Const])]<|xI 3 [vS p5 Coefs1 c5,vI y3.Const] rfl<|yA rfl<|xG<|yY 1 rfl ?_;intro I07 le7 hl03;have h17:=SL.of_frozen hl03 le7 h9;have h10:=h10.mono le7;obtain rfl:=zC hMl;exact xA ⟨_,_,(.cell 2 rfl rfl (by kernel_rfl) ResV.nil),(zX [1] rfl (by decide)),⟨_,_,rfl,rfl,⟨_,rfl,(yO ⟨_,rfl,h17⟩)⟩,(yR ⟨_,rfl,h10⟩)⟩⟩
def zA7 (b0:Nat) (r:zG×zL):KT:=fun kk I' hs' v=>
  ∃ v0 k0,hs'=[.blk b0 ⟨k0⟩]∧v=tupV [v0]∧(∃ cs,v0=.agg ⟨cs⟩∧Rp.rep I' cs r.1)∧Rp.rep I' k0 r.2
mutual
def qY (r0:zL) (depth:Int) (levels:Int):Option (zG×zL):=do
 let (t15,x)←(do
   if (decide (levels < 2)) then
    pure (true,r0)
   else
    let (y1,y2)←yU r0 4
    pure ((y1 == 0),y2)
     : Option (Bool×zL))
 if t15 then
  let (y4,y5)←yU x 4
  if (y4 == 0) then
   let (y7,y8)←xB y5 ([1,2,0,99,3]:List Int)
   pure ((zG.mk 1 y7 (zA.mk ([]:List Int) 0) (zJ.mk (⟨[]⟩:Str) ([]:List zA)) ([]:List zG)),y8)
  else
   if (y4 == 1) then
    let (y10,y11)←jQ y5 depth
    pure ((zG.mk 2 0 y10 (zJ.mk (⟨[]⟩:Str) ([]:List zA)) ([]:List zG)),y11)
   else
    let (y13,y14)←mZ y5 depth
    pure ((zG.mk 3 0 (zA.mk ([]:List Int) 0) y13 ([]:List zG)),y14)
 else
  let (y16,y17)←xB x ([4,6,5,4]:List Int)
  let (Kids1,x2)←oU (same depth) (same levels) (same 0) ([]:List zG) (same y17)
  pure ((zG.mk y16 0 (zA.mk ([]:List Int) 0) (zJ.mk (⟨[]⟩:Str) ([]:List zA)) Kids1),x2)
 partial_fixpoint
def oU (depth:Int) (levels:Int) (i:Int) (Kids:List zG) (x1:zL):Option ((List zG×zL)):=do
 if (decide (i < 2)) then
  let (y19,y20)←qY (same x1) (same depth) (W (levels - 1))
  let l←app 112 Kids ([y19]:List zG)
  oU (same depth) (same levels) (W (i + 1)) (same l) (same y20)
 else
  pure (Kids,x1)
 partial_fixpoint
end
theorem zFB:(∀ (r0:zL) (depth:Int) (levels:Int) r,qY r0 depth levels=some r→∀ {I:Imm}{r01:Nat}{p c},(S4 I p r0.b c)→RT 218 [vP r01 0,vI depth,vI levels] I [hB r01 (cRd r0 p c)] (zA7 r01 r))∧(∀ (depth:Int) (levels:Int) (i:Int) (Kids:List zG) (x1:zL) o,oU depth levels i Kids x1=some o→∀ {B}{I0 I:Imm}{Q}{y16:Int}{r01:Nat}{b:Nat}{b3:Nat}{p10 c10 cs2 p11 c11},I0.le I→(RL I cs2 Kids)→(S4 I p11 x1.b c11)→NG Q→NO Q→(∀ (I':Imm) (Kids1:List zG) (x2:zL) (p12:Option Addr) (c12:Nat) (cs3:List Value) (p13:Option Addr) (c13:Nat),o=(Kids1,x2)→I0.le I'→(RL I' cs3 Kids1)→(S4 I' p13 x2.b c13)→T 53 B Q (.exit 1) I' [hO zG (vS p12 Kids1 c12) cs3,hB b3 [vI y16,vI 0,z0,vI 0,vT ([]),z0,vS p12 Kids1 c12],hB r01 (cRd x2 p13 c13),hB b zExpr] [(6,vP b 0),(7,vP b3 0)])→J Tryz.prog 53 B (nav (bodyOf Tryz.f218) [1,1,1,0,1,0]) Q I [hO zG (vS p10 Kids c10) cs2,hB b3 [vI y16,vI 0,z0,vI 0,vT ([]),z0,vS p10 Kids c10],hB r01 (cRd x1 p11 c11),hB b zExpr] [(0,vP r01 0),(1,vI depth),(2,vI levels),(6,vP b 0),(7,vP b3 0),(8,vI i)]):=by
  refine qY.mutual_partial_correctness _ _ ?_ ?_
  · intro F_spec_l3Value_l1 ih_spec_l3Value_l1 r0 depth levels r N I r01 p c h;refine yM Tryz.func218 fun B=>?_;have H:=iS I;refine yF<|wH zExpr ?_;intro b hb;refine yA rfl<|zZ<|yC ?_;obtain ⟨o0,ho0,hMc⟩:=zB N;refine qL (fun I' hs' m'=>∃ (t15:Bool) (x:zL) (p1:Option Addr) (c1:Nat),o0=(t15,x)∧I.le I'∧(S4 I' p1 x.b c1)∧hs'=[hB b zExpr,hB r01 (cRd x p1 c1)]∧m'=[(0,vP r01 0),(1,vI depth),(2,vI levels),(6,vP b 0),(15,.bool t15)]) ?_ ?_
    · have H:=iS I;refine zK<|yB 3 [] [11] rfl<|xW [11] ho0 ?_ ?_
      · intro hc N;exact wG [] [(15,vY)]<|yQ<|zT ⟨_,_,_,_,(zC N).symm,H,h,rfl,rfl⟩
      intro hc N;refine yB 4 [] [12] rfl<|sD (zY [1,0] (hs':=[hB r01 (cRd r0 p c),hB b zExpr])) ?_;obtain ⟨⟨y1,y2⟩,hy,N⟩:=zB N;refine sE (xR r0 4 _ hy h) rfl ?_;rintro I01 hs2 v2 k2 le - ⟨v0,kk,rfl,rfl,rfl,h3⟩ -;have H:=H.trans le;obtain ⟨p2,c2,rfl,h4⟩:=yD h3;exact yJ [] [15] rfl<|xT (zX [1,0] rfl (by decide))<|yQ<|zT ⟨_,_,_,_,(zC N).symm,H,h4,rfl,rfl⟩
    rintro I0 hs2 m2 ⟨t15,x,p1,c1,heq,le1,h1,rfl,rfl⟩;subst o0;refine zI<|yE hMc ?_ ?_
    · intro hc1 N;refine yC<|yF<|yB 1 [] [16] rfl<|sD (zY [1,0] (hs':=[hB r01 (cRd x p1 c1),hB b zExpr])) ?_;obtain ⟨⟨y4,y5⟩,hy1,N⟩:=zB N;refine sE (xR x 4 _ hy1 h1) rfl ?_;rintro I02 hs2 v2 k2 le2 - ⟨v02,kk1,rfl,rfl,rfl,h6⟩ -;obtain ⟨p3,c3,rfl,h7⟩:=yD h6;refine yA rfl<|xZ<|yG [18] rfl<|zI<|yE N ?_ ?_
      · intro hc2 N;refine yF<|yB 1 [] [20] rfl<|nQ (rI [1,2,0,99,3]) ?_;intro b1 I03 le3 h9;have h7:=h7.mono le3;obtain ⟨⟨y7,y8⟩,hy2,N⟩:=zB N;refine sE (xN y5 ([1,2,0,99,3]:List Int) _ hy2 h7 h9) rfl ?_;rintro I04 hs2 v2 k2 le4 - ⟨v04,kk2,rfl,rfl,rfl,h11⟩ -;obtain ⟨p4,c4,rfl,h12⟩:=yD h11;refine yB 4 [] [23] rfl<|xI 1 [vI 1,vI y7,z0,vI 0,vT ([]),z0,z0] rfl<|yA rfl<|xG<|zW<|zH<|zH ?_;obtain rfl:=zC N;exact xA ⟨_,_,(.cell 1 rfl rfl (by kernel_rfl) ResV.nil),(zX [0] rfl (by decide)),⟨_,_,rfl,rfl,⟨_,rfl,(xV ⟨_,_,_,rfl,(SL.nil _),(SL.nil _),(SL.nil _)⟩)⟩,(yR ⟨_,rfl,h12⟩)⟩⟩
      intro hc2 N;refine yG [24] rfl<|zI<|yE N ?_ ?_
      · intro hc3 N;refine yF<|yB 2 [] [26,27] rfl ?_;obtain ⟨⟨y10,y11⟩,hy3,N⟩:=zB N;refine sE (zGZ y5 depth _ hy3 h7) rfl ?_;rintro I05 hs2 v2 k2 le5 - ⟨v06,kk3,rfl,rfl,⟨cs,rfl,h13⟩,h14⟩ -;obtain ⟨p5,c5,rfl,h15⟩:=yL h13;obtain ⟨p6,c6,rfl,h16⟩:=yD h14;refine yB 4 [] [29] rfl<|xI 1 [vI 2,vI 0,vS p5 y10.Coefs c5,vI y10.Const,vT ([]),z0,z0] rfl<|yA rfl<|xG<|zW<|zH<|zH ?_;obtain rfl:=zC N;exact xA ⟨_,_,(.cell 1 rfl rfl (by kernel_rfl) ResV.nil),(zX [0] rfl (by decide)),⟨_,_,rfl,rfl,⟨_,rfl,(xV ⟨_,_,_,rfl,h15,(SL.nil _),(SL.nil _)⟩)⟩,(yR ⟨_,rfl,h16⟩)⟩⟩
      intro hc3 N;refine zS<|zP<|yV<|yB 2 [] [30,31] rfl ?_;obtain ⟨⟨y13,y14⟩,hy4,N⟩:=zB N;refine sE (zCS y5 depth _ hy4 h7) rfl ?_;rintro I06 hs2 v2 k2 le6 - ⟨v09,kk4,rfl,rfl,⟨cs1,rfl,h17⟩,h18⟩ -;obtain ⟨p7,c7,rfl,h19⟩:=qN h17;obtain ⟨p8,c8,rfl,h20⟩:=yD h18;refine yB 4 [] [33] rfl<|xI 1 [vI 3,vI 0,z0,vI 0,vT y13.Array.l,vS p7 y13.Subs c7,z0] rfl<|yA rfl<|xG<|zH ?_;obtain rfl:=zC N;exact xA ⟨_,_,(.cell 1 rfl rfl (by kernel_rfl) ResV.nil),(zX [0] rfl (by decide)),⟨_,_,rfl,rfl,⟨_,rfl,(xV ⟨_,_,_,rfl,(SL.nil _),h19,(SL.nil _)⟩)⟩,(yR ⟨_,rfl,h20⟩)⟩⟩
    intro hc1 N;refine zS<|yV<|yB 1 [] [34] rfl<|nQ (rI [4,6,5,4]) ?_;intro b2 I07 le7 h22;have h1:=h1.mono le7;refine sD (zY [1,0] (hs':=[hB r01 (cRd x p1 c1),hB b zExpr])) ?_;obtain ⟨⟨y16,y17⟩,hy5,N⟩:=zB N;refine sE (xN x ([4,6,5,4]:List Int) _ hy5 h1 h22) rfl ?_;rintro I08 hs2 v2 k2 le8 - ⟨v012,kk5,rfl,rfl,rfl,h24⟩ -;obtain ⟨p9,c9,rfl,h25⟩:=yD h24;refine yB 4 [] [37] rfl<|wH zExpr ?_;intro b3 hb3;refine xI 0 [vI y16,vI 0,z0,vI 0,vT ([]),z0,z0] rfl<|yA rfl<|zZ<|yG [8] rfl<|xZ<|pJ [(0,vP r01 0),(1,vI depth),(2,vI levels),(6,vP b 0),(7,vP b3 0),(8,vI 0)]<|zAE zG fun h26=>?_;obtain ⟨o01,ho01,hMl⟩:=zB N;refine ih_spec_l3Value_l1 depth levels 0 ([]:List zG) y17 o01 ho01 iR h26 h25 (fun _ _ _ h=>h) (fun _ _ h=>h) ?_;intro I012 Kids1 x2 p12 c12 cs3 p13 c13 heq1 le12 h29 h30;subst o01;refine zR<|yV<|fW 1 [1] [(52,vA [vI y16,vI 0,z0,vI 0,vT ([]),z0,vS p12 Kids1 c12])]<|xI 3 [vI y16,vI 0,z0,vI 0,vT ([]),z0,vS p12 Kids1 c12] rfl<|yA rfl<|xG<|yY 0 rfl ?_;intro I013 le13 hl03;have h40:=SL.of_frozen hl03 le13 h29;have h30:=h30.mono le13;obtain rfl:=zC hMl;exact xA ⟨_,_,(.cell 2 rfl rfl (by kernel_rfl) ResV.nil),(zX [1] rfl (by decide)),⟨_,_,rfl,rfl,⟨_,rfl,(xV ⟨_,_,_,rfl,(SL.nil _),(SL.nil _),h40⟩)⟩,(yR ⟨_,rfl,h30⟩)⟩⟩
  intro F_spec_l3Value F_spec_l3Value_l1 ih_spec_l3Value ih_spec_l3Value_l1 depth levels i Kids x1 o N B I0 I Q y16 r01 b b3 p10 c10 cs2 p11 c11 H h27 h28 hg ho hx;refine yT hg ho<|yC<|yG [39] rfl<|zI<|yE N ?_ ?_
  · intro hc4 N;refine zS<|zZ<|yH ?_;obtain ⟨⟨y19,y20⟩,hy6,N⟩:=zB N;obtain ⟨l,hy7,N⟩:=zB N;refine wA [.p (vP b3 6) [],.p (vS p10 Kids c10) [0],.p (vP r01 0) [],.p (vI depth) [],.p (vI levels) [],.p (vI (W (levels - 1))) [],.x (fun I' v hx=>∃ p14 c14 p15 c15 p16 c16 p17 c17,v=vA (cExpr y19 p14 c14 p15 c15 p16 c16)∧hx=[hB r01 (cRd y20 p17 c17)]∧(S4 I' p14 y19.Index.Coefs c14)∧(S4 I' p15 y19.Read.Subs c15)∧(S4 I' p16 y19.Kids c16)∧(S4 I' p17 y20.b c17)),.x (fun I' v hx=>∃ b4,v=vS (some ⟨b4,0,none⟩) ([y19]:List zG) 1∧hx=[]∧(SL I' (vS (some ⟨b4,0,none⟩) ([y19]:List zG) 1) ([y19]:List zG))),.x (fun I' v hx=>∃ p18 c18 cs5,v=vS p18 l c18∧hx=[hO zG (vS p18 l c18) cs5]∧(RL I' cs5 l))] [[],[(0,false)],[],[],[],[(4,false)],[(2,false),(3,false),(5,false),(11,true)],[(6,false)],[(1,false),(7,false),(12,true)]] [hB b3 [vI y16,vI 0,z0,vI 0,vT ([]),z0,vS p10 Kids c10],hB b zExpr] [[hB r01 (cRd x1 p11 c11)],[hO zG (vS p10 Kids c10) cs2]] [(6,true),(8,true)] (zY [1,3,2,0]) ?_ ?_
    · refine Op<|Op<|Op<|Op<|Op<|Op<|Ox ?_<|Ox ?_<|Ox ?_<|On
      · rintro I1 hf le1 _ _ ⟨rfl,rfl⟩ _ _ ⟨rfl,rfl⟩ _ _ ⟨rfl,rfl⟩ _ _ rfl;refine yN [44,45,47] rfl ?_;have H:=iS I1;have h28:=h28.mono le1;refine sE (ih_spec_l3Value x1 depth (W (levels - 1)) _ hy6 h28) rfl ?_;rintro I09 hs2 v2 k2 le9 - ⟨v014,kk6,rfl,rfl,⟨cs4,rfl,h31⟩,h32⟩ -;have H:=H.trans le9;obtain ⟨p14,c14,p15,c15,p16,c16,rfl,h33,h34,h35⟩:=xS h31;obtain ⟨p17,c17,rfl,h36⟩:=yD h32;exact yI [hB r01 (cRd y20 p17 c17)] H ⟨_,_,_,_,_,_,_,_,rfl,rfl,h33,h34,h35,h36⟩
      · rintro I1 hf le1 _ _ ⟨p14,c14,p15,c15,p16,c16,p17,c17,rfl,rfl,h33,h34,h35,h36⟩;refine yN [48] rfl ?_;have H:=iS I1;refine nQ (rc y19 (xV ⟨_,_,_,rfl,h33,h34,h35⟩) rN) ?_;intro b4 I010 le10 h38;have H:=H.trans le10;exact yI [] H ⟨_,rfl,rfl,h38⟩
      rintro I1 hf le1 _ _ ⟨rfl,rfl⟩ _ _ ⟨b4,rfl,rfl,h38⟩ _ _ rfl;refine yN [43,49] rfl ?_;have h27:=iM le1 h27;obtain ⟨ccs,k0,k01⟩:=h38;have h38:SL I1 (vS (some ⟨b4,0,none⟩) ([y19]:List zG) 1) ([y19]:List zG):=⟨_,k0,k01⟩;exact qI 41 7 0 rfl rfl rfl h27 (.inl k0) k01 hy7 fun p18 c18 cs5 h39=>vH (hs':=(hO zG (vS p18 l c18) cs5::hB b3 [vI y16,vI 0,z0,vI 0,vT ([]),z0,vS p10 Kids c10]::hB b zExpr::hf)) rfl<|yI [hO zG (vS p18 l c18) cs5] iR ⟨_,_,_,rfl,rfl,h39⟩
    rintro I011 le11 _ _ ⟨p14,c14,p15,c15,p16,c16,p17,c17,rfl,rfl,h33,h34,h35,h36⟩ _ _ ⟨p18,c18,cs5,rfl,rfl,h39⟩;refine yN [0,1,2,6,7,8,50] rfl ?_;have H:=H.trans le11;exact yB 10 [] [51] rfl<|xI 2 [vI y16,vI 0,z0,vI 0,vT ([]),z0,vS p18 l c18] rfl<|yA rfl<|zP<|zI<|zK<|yJ [] [8] rfl<|yS<|kX (zX [0,2,1,3] rfl (by decide))<|nG<|ih_spec_l3Value_l1 depth levels (W (i + 1)) l y20 _ N H h39 h36 hg ho hx
  intro hc4 N;exact wT<|yQ<|hx _ _ _ _ _ _ _ _ (zC N).symm H h27 h28
theorem zFe:∀ r0 depth levels r,qY r0 depth levels=some r→∀ {I:Imm}{r01:Nat}{p c},(S4 I p r0.b c)→RT 218 [vP r01 0,vI depth,vI levels] I [hB r01 (cRd r0 p c)] (zA7 r01 r):=zFB.1
def zFC (b0:Nat) (r:zN×zL):KT:=fun kk I' hs' v=>
  ∃ v0 k0,hs'=[.blk b0 ⟨k0⟩]∧v=tupV [v0]∧(∃ cs,v0=.agg ⟨cs⟩∧Rp.rep I' cs r.1)∧Rp.rep I' k0 r.2
def fJ (r0:zL) (depth:Int):Option (zN×zL):=do
 let (y1,y2)←mZ r0 depth
 let (y4,y5)←xB y2 ([2,3,1,2]:List Int)
 let (y7,y8)←qY y5 depth y4
 let y9←sV (zN.mk y1 y7) depth
 if y9 then
  pure ((zN.mk y1 y7),y8)
 else
  let y10←oJ
  pure ((zN.mk (zJ.mk (⟨[65]⟩:Str) ([y10]:List zA)) (zG.mk 1 1 (zA.mk ([]:List Int) 0) (zJ.mk (⟨[]⟩:Str) ([]:List zA)) ([]:List zG))),y8)
theorem zG0:∀ r0 depth r,fJ r0 depth=some r→∀ {I:Imm}{r01:Nat}{p c},(S4 I p r0.b c)→RT 177 [vP r01 0,vI depth] I [hB r01 (cRd r0 p c)] (zFC r01 r):=by
 intro r0 depth r N I r01 p c h;unfold fJ at N;refine yM Tryz.func177 fun B=>yF<|wH [vT ([]),z0,vI 0,vI 0,z0,vI 0,vT ([]),z0,z0] ?_;intro b hb;refine yA rfl<|yV<|yB 2 [] [6,7] rfl<|sD (zY [1,0] (hs':=[hB r01 (cRd r0 p c),hB b [vT ([]),z0,vI 0,vI 0,z0,vI 0,vT ([]),z0,z0]])) ?_;obtain ⟨⟨y1,y2⟩,hy,N⟩:=zB N;refine sE (zCS r0 depth _ hy h) rfl ?_;rintro I0 hs2 v2 k2 le - ⟨v0,kk,rfl,rfl,⟨cs,rfl,h1⟩,h2⟩ -;obtain ⟨p1,c1,rfl,h3⟩:=qN h1;obtain ⟨p2,c2,rfl,h4⟩:=yD h2;refine yB 6 [] [9,10,11] rfl<|nQ (rI [2,3,1,2]) ?_;intro b1 I01 le1 h6;have ⟨h3,h4⟩:=m2 le1 h3 h4;obtain ⟨⟨y4,y5⟩,hy1,N⟩:=zB N;refine sE (xN y2 ([2,3,1,2]:List Int) _ hy1 h4 h6) rfl ?_;rintro I02 hs2 v2 k2 le2 - ⟨v03,kk1,rfl,rfl,rfl,h8⟩ -;have h3:=h3.mono le2;obtain ⟨p3,c3,rfl,h9⟩:=yD h8;obtain ⟨⟨y7,y8⟩,hy2,N⟩:=zB N;refine sE (zFe y5 depth y4 _ hy2 h9) rfl ?_;rintro I03 hs2 v2 k2 le3 - ⟨v05,kk2,rfl,rfl,⟨cs1,rfl,h10⟩,h11⟩ -;have h3:=h3.mono le3;obtain ⟨p4,c4,p5,c5,p6,c6,rfl,h12,h13,h14⟩:=xS h10;obtain ⟨p7,c7,rfl,h15⟩:=yD h11;refine yB 10 [] [15] rfl<|wH [vT ([]),z0,vI 0,vI 0,z0,vI 0,vT ([]),z0,z0] ?_;intro b2 hb2;refine xI 0 [vT y1.Array.l,vS p1 y1.Subs c1,vI y7.Kind,vI y7.Num,vS p4 y7.Index.Coefs c4,vI y7.Index.Const,vT y7.Read.Array.l,vS p5 y7.Read.Subs c5,vS p6 y7.Kids c6] rfl<|yA rfl<|zZ<|yF<|fW 2 [0] [(16,vA [vT y1.Array.l,vS p1 y1.Subs c1,vI y7.Kind,vI y7.Num,vS p4 y7.Index.Coefs c4,vI y7.Index.Const,vT y7.Read.Array.l,vS p5 y7.Read.Subs c5,vS p6 y7.Kids c6]),(17,vI depth)]<|bE N fun y9 hy3 N=>vZ (eE (zN.mk y1 y7) depth _ hy3 h3 h12 h13 h14) ?_;intro I04 le4;have ⟨h3,h12,h13,h14,h15⟩:=m5 le4 h3 h12 h13 h14 h15;refine yA rfl<|zI<|yE N ?_ ?_
 · intro hc N;refine yF<|fW 1 [0] [(19,vA [vT y1.Array.l,vS p1 y1.Subs c1,vI y7.Kind,vI y7.Num,vS p4 y7.Index.Coefs c4,vI y7.Index.Const,vT y7.Read.Array.l,vS p5 y7.Read.Subs c5,vS p6 y7.Kids c6])]<|xI 2 [vT y1.Array.l,vS p1 y1.Subs c1,vI y7.Kind,vI y7.Num,vS p4 y7.Index.Coefs c4,vI y7.Index.Const,vT y7.Read.Array.l,vS p5 y7.Read.Subs c5,vS p6 y7.Kids c6] rfl<|yA rfl<|xG<|zH ?_;obtain rfl:=zC N;exact xA ⟨_,_,(.cell 2 rfl rfl (by kernel_rfl) ResV.nil),(zX [1] rfl (by decide)),⟨_,_,rfl,rfl,⟨_,rfl,(wQ ⟨_,_,_,_,rfl,h3,h12,h13,h14⟩)⟩,(yR ⟨_,rfl,h15⟩)⟩⟩
 intro hc N;refine zS<|yV<|bE N fun y10 hy4 N=>xQ (kR  _ hy4 ) ?_;rintro I05 hs2 v2 k2 le5 - ⟨p8,c8,cs2,rfl,rfl,h17⟩ -;have h15:=h15.mono le5;refine xP 0 rfl ?_;intro I06 le6 hl01;have h18:=SL.of_frozen hl01 le6 h17;have h15:=h15.mono le6;refine tH (cAff y10 p8 c8) zA ?_;intro b3 hb3;have h19:RL I06 (cAff y10 p8 c8) ([y10]:List zA):=⟨(cAff y10 p8 c8),_,rfl,rfl,(yO ⟨_,rfl,h18⟩),rfl⟩;refine yB 5 [] [24] rfl<|xI 3 [vT ([65]),vS (some ⟨b3,0,none⟩) ([y10]:List zA) 1,vI 1,vI 1,z0,vI 0,vT ([]),z0,z0] rfl<|yA rfl<|xG<|yY 0 rfl ?_;intro I07 le7 hl02;have h20:=SL.of_frozen hl02 le7 h19;have h15:=h15.mono le7;obtain rfl:=zC N;exact xA ⟨_,_,(.cell 2 rfl rfl (by kernel_rfl) ResV.nil),(zX [1] rfl (by decide)),⟨_,_,rfl,rfl,⟨_,rfl,(wQ ⟨_,_,_,_,rfl,h20,(SL.nil _),(SL.nil _),(SL.nil _)⟩)⟩,(yR ⟨_,rfl,h15⟩)⟩⟩
def zA8 (r:(List zD)×Bool):KT:=fun kk I' hs' v=>
  ∃ v0 v1,hs'=[]∧v=tupV [v0,v1]∧SL I' v0 r.1∧v1=.bool r.2
def qZ (sizes:(List Int)) (out:List zD) (i:Int):Option (Out (List zD) ((List zD)×Bool)):=do
 if (decide (i < (sizes.length:Int))) then
  let t28←(do
    let x←idx sizes i
    if (decide (x < 0)) then
     pure true
    else
     let x1←idx sizes i
     pure (decide (x1 > 99))
      : Option Bool)
  if t28 then
   pure (.ret (([]:List zD),false))
  else
   let y←oJ
   let x2←idx sizes i
   let y1←wR x2
   let out2←app 48 out ([(zD.mk ([y]:List zA) ([y1]:List zA))]:List zD)
   qZ sizes out2 (W (i + 1))
 else
  pure (.done out)
 partial_fixpoint
theorem zD0 (sizes:(List Int)):∀ (out:List zD) (i:Int) (o:Out (List zD) ((List zD)×Bool)),qZ sizes out i=some o→∀ {B}{I0 I:Imm}{Q p c p1 c1 cs},I0.le I→(S4 I p sizes c)→(RL I cs out)→NG Q→NO Q→(∀ (I':Imm) (out1:List zD) (p2:Option Addr) (c2:Nat) (cs1:List Value),o=(.done out1)→I0.le I'→(RL I' cs1 out1)→T 43 B Q (.exit 0) I' [hO zD (vS p2 out1 c2) cs1] [(4,vS p2 out1 c2)])→(∀ r I' hs' m',o=(.ret r)→I0.le I'→RS Tryz.prog Tryz.f179 B (zA8  r) I' hs' m'→T 43 B Q .ret I' hs' m')→J Tryz.prog 43 B (nav (bodyOf Tryz.f179) [1,1,1,0,1,0]) Q I [hO zD (vS p1 out c1) cs] [(0,vS p sizes c),(4,vS p1 out c1),(5,vI i)]:=by
 refine qZ.partial_correctness sizes _ fun self ih out i o N B I0 I Q p c p1 c1 cs H h h3 hg ho hx hr=>yT hg ho<|yC<|yG [14] rfl<|zI<|yE N ?_ ?_
 · intro hc1 N;refine zS<|zZ<|yH<|yC<|yC ?_;refine wE N [hO zD (vS p1 out c1) cs] (fun t28=>[(0,vS p sizes c),(4,vS p1 out c1),(5,vI i),(28,.bool t28)]) (fun o0 ho0=>?_) ?_
   · have H:=iS I;refine zK<|yB 2 [] [17,18] rfl ?_;obtain ⟨x,hy,N⟩:=zB ho0;refine xJ rfl rfl h hy ?_;intro ad ccs hat hrep;obtain rfl:=hrep;refine yX 0 hat [vI x] (vI x) rfl<|yB 6 [] [22] rfl<|xW [22] N ?_ ?_
     · intro hc2 N;exact wG [] [(28,vY)]<|yQ<|zT (ct N H)
     intro hc2 N;refine yB 8 [] [23,24] rfl<|bE N fun x1 hy1 N=>xJ rfl rfl h hy1 ?_;intro ad1 ccs1 hat1 hrep1;obtain rfl:=hrep1;exact yX 0 hat1 [vI x1] (vI x1) rfl<|yJ [] [28] rfl<|yQ<|zT (ct N H)
   intro t28 I01 le1 hMc;have ⟨h,h3,H⟩:=m3 le1 h h3 H;refine zI<|yE hMc ?_ ?_
   · intro hc3 N;refine yF<|tH [] zD ?_;intro b1 hb1;have h5:RL I01 [] ([]:List zD):=rfl;refine yJ [] [2,3] rfl<|xG<|zH<|zW<|zH<|zH<|yY 0 rfl ?_;intro I02 le2 hl01;have h6:=SL.of_frozen hl01 le2 h5;have H:=H.trans le2;exact hr _ _ _ _ (zC N).symm H ⟨_,_,(.tmp rfl (.tmp rfl ResV.nil)),zQ,⟨_,_,rfl,rfl,h6,rfl⟩⟩
   intro hc3 N;refine zS<|zI ?_;obtain ⟨y,hy2,N⟩:=zB N;obtain ⟨x2,hy3,N⟩:=zB N;obtain ⟨y1,hy4,N⟩:=zB N;obtain ⟨out2,hy5,N⟩:=zB N;refine wA [.p (vS p1 out c1) [],.x (fun I' v hx=>∃ p3 c3 cs2,v=vA (cAff y p3 c3)∧hx=[hO Int (vS p3 y.Coefs c3) cs2]∧(RL I' cs2 y.Coefs)),.x (fun I' v hx=>∃ b2,v=vS (some ⟨b2,0,none⟩) ([y]:List zA) 1∧hx=[]∧(SL I' (vS (some ⟨b2,0,none⟩) ([y]:List zA) 1) ([y]:List zA))),.p (vS p sizes c) [],.p (vI i) [],.x (fun I' v hx=>∃ ad2,v=.pointer (some ad2)∧hx=[]∧(At I' ad2 [vI x2])),.q (vI x2),.x (fun I' v hx=>∃ p4 c4 cs3,v=vA (cAff y1 p4 c4)∧hx=[hO Int (vS p4 y1.Coefs c4) cs3]∧(RL I' cs3 y1.Coefs)),.x (fun I' v hx=>∃ b3,v=vS (some ⟨b3,0,none⟩) ([y1]:List zA) 1∧hx=[]∧(SL I' (vS (some ⟨b3,0,none⟩) ([y1]:List zA) 1) ([y1]:List zA))),.x (fun I' v hx=>∃ b21 b31,v=vA [vS (some ⟨b21,0,none⟩) ([y]:List zA) 1,vS (some ⟨b31,0,none⟩) ([y1]:List zA) 1]∧hx=[]∧(SL I' (vS (some ⟨b21,0,none⟩) ([y]:List zA) 1) ([y]:List zA))∧(SL I' (vS (some ⟨b31,0,none⟩) ([y1]:List zA) 1) ([y1]:List zA))),.x (fun I' v hx=>∃ b4,v=vS (some ⟨b4,0,none⟩) ([(zD.mk ([y]:List zA) ([y1]:List zA))]:List zD) 1∧hx=[]∧(SL I' (vS (some ⟨b4,0,none⟩) ([(zD.mk ([y]:List zA) ([y1]:List zA))]:List zD) 1) ([(zD.mk ([y]:List zA) ([y1]:List zA))]:List zD))),.x (fun I' v hx=>∃ p5 c5 cs4,v=vS p5 out2 c5∧hx=[hO zD (vS p5 out2 c5) cs4]∧(RL I' cs4 out2))] [[],[],[(1,true)],[],[],[(3,false),(4,false)],[(5,false)],[(6,false)],[(7,true)],[(2,false),(8,false)],[(9,false)],[(0,false),(10,false),(13,true)]] [] [[hO zD (vS p1 out c1) cs]] [(11,true)] (zY [0]) ?_ ?_
   · refine Op<|Ox ?_<|Ox ?_<|Op<|Op<|Ox ?_<|Oq ?_<|Ox ?_<|Ox ?_<|Ox ?_<|Ox ?_<|Ox ?_<|On
     · intro I1 hf le1;refine gY [] ?_;have H:=iS I1;refine xQ (kR  _ hy2 ) ?_;rintro I03 hs2 v2 k2 le3 - ⟨p3,c3,cs2,rfl,rfl,h7⟩ -;have H:=H.trans le3;exact yI [hO Int (vS p3 y.Coefs c3) cs2] H ⟨_,_,_,rfl,rfl,h7⟩
     · rintro I1 hf le1 _ _ ⟨p3,c3,cs2,rfl,rfl,h7⟩;refine yN [31] rfl ?_;have H:=iS I1;refine xP 0 rfl ?_;intro I04 le4 hl02;have h8:=SL.of_frozen hl02 le4 h7;have H:=H.trans le4;refine nQ (rc y (yO ⟨_,rfl,h8⟩) rN) ?_;intro b2 I05 le5 h10;have H:=H.trans le5;exact yI [] H ⟨_,rfl,rfl,h10⟩
     · intro I1 hf le1;refine yN [33,34] rfl ?_;have h:=h.mono le1;refine xJ rfl rfl h hy3 ?_;intro ad2 ccs2 hat2 hrep2;obtain rfl:=hrep2;exact yI [] iR ⟨_,rfl,rfl,hat2⟩
     · rintro I1 hf le1 _ _ ⟨ad2,rfl,rfl,hat2⟩;exact yN [35] rfl<|yX 0 hat2 [vI x2] (vI x2) rfl<|yP iR
     · intro I1 hf le1;refine yN [36] rfl ?_;have H:=iS I1;refine xQ (uL x2 _ hy4 ) ?_;rintro I06 hs2 v2 k2 le6 - ⟨p4,c4,cs3,rfl,rfl,h11⟩ -;have H:=H.trans le6;exact yI [hO Int (vS p4 y1.Coefs c4) cs3] H ⟨_,_,_,rfl,rfl,h11⟩
     · rintro I1 hf le1 _ _ ⟨p4,c4,cs3,rfl,rfl,h11⟩;refine yN [37] rfl ?_;have H:=iS I1;refine xP 0 rfl ?_;intro I07 le7 hl04;have h12:=SL.of_frozen hl04 le7 h11;have H:=H.trans le7;refine nQ (rc y1 (yO ⟨_,rfl,h12⟩) rN) ?_;intro b3 I08 le8 h14;have H:=H.trans le8;exact yI [] H ⟨_,rfl,rfl,h14⟩
     · rintro I1 hf le1 _ _ ⟨b2,rfl,rfl,h10⟩ _ _ ⟨b3,rfl,rfl,h14⟩;exact yN [32,38] rfl<|tM 10 [(39,vA [vS (some ⟨b2,0,none⟩) ([y]:List zA) 1,vS (some ⟨b3,0,none⟩) ([y1]:List zA) 1])]<|yI [] iR ⟨_,_,rfl,rfl,h10,h14⟩
     · rintro I1 hf le1 _ _ ⟨b21,b31,rfl,rfl,h101,h141⟩;refine yN [39] rfl ?_;have H:=iS I1;refine nQ (rc (zD.mk ([y]:List zA) ([y1]:List zA)) (rL ⟨_,_,rfl,h101,h141⟩) rN) ?_;intro b4 I09 le9 h16;have H:=H.trans le9;exact yI [] H ⟨_,rfl,rfl,h16⟩
     rintro I1 hf le1 _ _ ⟨rfl,rfl⟩ _ _ ⟨b4,rfl,rfl,h16⟩ _ _ rfl;refine yN [30,40] rfl ?_;have h3:=iM le1 h3;obtain ⟨ccs3,k0,k01⟩:=h16;have h16:SL I1 (vS (some ⟨b4,0,none⟩) ([(zD.mk ([y]:List zA) ([y1]:List zA))]:List zD) 1) ([(zD.mk ([y]:List zA) ([y1]:List zA))]:List zD):=⟨_,k0,k01⟩;exact qI 170 2 0 rfl rfl rfl h3 (.inl k0) k01 hy5 fun p5 c5 cs4 h17=>vH (hs':=(hO zD (vS p5 out2 c5) cs4::hf)) rfl<|yI [hO zD (vS p5 out2 c5) cs4] iR ⟨_,_,_,rfl,rfl,h17⟩
   rintro I010 le10 _ _ ⟨p5,c5,cs4,rfl,rfl,h17⟩;refine yN [0,5,41] rfl ?_;have ⟨h,H⟩:=m2 le10 h H;exact yJ [] [4] rfl<|zP<|zI<|zK<|yJ [] [5] rfl<|yS<|nG<|ih out2 (W (i + 1)) _ N H h h17 hg ho hx hr
 intro hc1 N;exact wT<|yQ<|hx _ _ _ _ _ (zC N).symm H h3
def gL (sizes:(List Int)):Option ((List zD)×Bool):=do
 if (decide ((sizes.length:Int) > 4)) then
  pure (([]:List zD),false)
 else
  match←qZ sizes ([]:List zD) 0 with
  | .ret r0=>pure r0
  | .done out1 =>
   pure (out1,true)
theorem zFf:∀ sizes r,gL sizes=some r→∀ {I:Imm}{p c},(S4 I p sizes c)→RT 179 [vS p sizes c] I [] (zA8  r):=by
 intro sizes r N I p c h;unfold gL at N;refine yM Tryz.func179 fun B=>vJ []<|yV<|tH [] zD ?_;intro b hb;have h1:RL I [] ([]:List zD):=rfl;refine yJ [] [4] rfl<|zZ<|yG [9] rfl<|zI<|yE N ?_ ?_
 · intro hc N;refine yG [2,3] rfl<|xG<|zH<|yY 0 rfl ?_;intro I0 le hl0;have h2:=SL.of_frozen hl0 le h1;obtain rfl:=zC N;exact xA ⟨_,_,(.tmp rfl (.tmp rfl ResV.nil)),zQ,⟨_,_,rfl,rfl,h2,rfl⟩⟩
 intro hc N;refine zS<|zZ<|yG [5] rfl<|xZ<|pJ [(0,vS p sizes c),(4,vS (some ⟨b,0,none⟩) ([]:List zD) 0),(5,vI 0)] ?_;obtain ⟨o01,ho01,hMl⟩:=zB N;refine zD0 sizes ([]:List zD) 0 o01 ho01 iR h h1 (fun _ _ _ h=>h) (fun _ _ h=>h) ?_ ?_
 · intro I011 out1 p2 c2 cs1 heq1 le11 h4;subst o01;refine zR<|vG [2,3] rfl<|xG<|yY 0 rfl ?_;intro I012 le12 hl07;have h18:=SL.of_frozen hl07 le12 h4;obtain rfl:=zC hMl;exact xA ⟨_,_,(.tmp rfl (.tmp rfl ResV.nil)),zQ,⟨_,_,rfl,rfl,h18,rfl⟩⟩
 intro r0 I9 hs9 m9 heq9 le9 hrs9;subst heq9;refine zW<|zH ?_;obtain rfl:=zC hMl;exact xA hrs9
def zBJ (b0:Nat) (r:zM×zL):KT:=fun kk I' hs' v=>
  ∃ v0 k0,hs'=[.blk b0 ⟨k0⟩]∧v=tupV [v0]∧(∃ cs,v0=.agg ⟨cs⟩∧Rp.rep I' cs r.1)∧Rp.rep I' k0 r.2
def oA (y1:(List zD)) (Body2:List zN) (n0:Int) (x6:zL):Option ((List zN×zL)):=do
 if (decide (n0 < 5)) then
  let (y7,y8)←fJ x6 (y1.length:Int)
  let y9←mY
  let (y11,y12)←oL y9 (zM.mk y1 ([y7]:List zN))
  if y12 then
   let l←app 152 Body2 ([y7]:List zN)
   pure (l,y8)
  else
   oA y1 Body2 (W (n0 + 1)) y8
 else
  pure (Body2,x6)
 partial_fixpoint
theorem zEN (y1:(List zD)) (Body2:List zN):∀ (n0:Int) (x6:zL) (o:(List zN×zL)),oA y1 Body2 n0 x6=some o→∀ {B}{I0 I:Imm}{Q}{i:Int}{x:zM}{k0:Int}{r01:Nat}{b:Nat}{p1 c1 p2 c2 p7 c7}{b1:Nat}{p14 c14 cs2 p15 c15},I0.le I→(S4 I p7 y1 c7)→(S4 I p1 x.Nest c1)→(S4 I p2 x.Body c2)→(RL I cs2 Body2)→(S4 I p15 x6.b c15)→NG Q→NO Q→(∀ (I':Imm) (Body3:List zN) (x7:zL) (p16:Option Addr) (c16:Nat) (cs3:List Value) (p17:Option Addr) (c17:Nat),o=(Body3,x7)→I0.le I'→(RL I' cs3 Body3)→(S4 I' p17 x7.b c17)→T 81 B Q (.exit 4) I' [hO zN (vS p16 Body3 c16) cs3,hB r01 (cRd x7 p17 c17),hB b1 [vS p7 y1 c7,vS p16 Body3 c16],hB b (cPart x p1 c1 p2 c2)] [(0,vP r01 0),(2,vP b 0),(3,vI i),(4,vP b1 0),(5,vI k0)])→J Tryz.prog 81 B (nav (bodyOf Tryz.f131) [1,0,1,0,0,1,0,0,1,0,1,0,0,1,0,0,1,0]) Q I [hO zN (vS p14 Body2 c14) cs2,hB r01 (cRd x6 p15 c15),hB b1 [vS p7 y1 c7,vS p14 Body2 c14],hB b (cPart x p1 c1 p2 c2)] [(0,vP r01 0),(2,vP b 0),(3,vI i),(4,vP b1 0),(5,vI k0),(6,vI n0)]:=by
 refine oA.partial_correctness y1 Body2 _ fun self ih n0 x6 o N B I0 I Q i x k0 r01 b p1 c1 p2 c2 p7 c7 b1 p14 c14 cs2 p15 c15 H h7 h1 h2 h20 h21 hg ho hx=>yT hg ho<|yC<|yG [31] rfl<|zI<|yE N ?_ ?_
 · intro hc2 N;refine zS<|zZ<|yH<|yF<|yB 4 [2] [34,37] rfl<|sD (zY [1,0,2,3] (hs':=[hB r01 (cRd x6 p15 c15),hO zN (vS p14 Body2 c14) cs2,hB b1 [vS p7 y1 c7,vS p14 Body2 c14],hB b (cPart x p1 c1 p2 c2)])) ?_;obtain ⟨⟨y7,y8⟩,hy2,N⟩:=zB N;refine sE (zG0 x6 (y1.length:Int) _ hy2 h21) rfl ?_;rintro I03 hs2 v2 k2 le3 - ⟨v04,kk2,rfl,rfl,⟨cs4,rfl,h24⟩,h25⟩ -;have ⟨h20,h7,h1,h2,H⟩:=m5 le3 h20 h7 h1 h2 H;obtain ⟨p18,c18,p19,c19,p20,c20,p21,c21,rfl,h26,h27,h28,h29⟩:=tG h24;obtain ⟨p22,c22,rfl,h30⟩:=yD h25;refine wH [vT ([]),z0,vI 0,vI 0,z0,vI 0,vT ([]),z0,z0] ?_;intro b3 hb3;refine xI 0 (cStmt y7 p18 c18 p19 c19 p20 c20 p21 c21) rfl<|yA rfl<|zI<|yC ?_;obtain ⟨y9,hy3,N⟩:=zB N;obtain ⟨⟨y11,y12⟩,hy4,N⟩:=zB N;refine wA [.x (eS y9),.p (vP b1 0) [],.p (vS p7 y1 c7) [3],.p (vA (cStmt y7 p18 c18 p19 c19 p20 c20 p21 c21)) [0],.x (fun I' v hx=>∃ b4,v=vS (some ⟨b4,0,none⟩) ([y7]:List zN) 1∧hx=[]∧(SL I' (vS (some ⟨b4,0,none⟩) ([y7]:List zN) 1) ([y7]:List zN))),.x (fun I' v hx=>∃ b41,v=vA [vS p7 y1 c7,vS (some ⟨b41,0,none⟩) ([y7]:List zN) 1]∧hx=[]∧(SL I' (vS (some ⟨b41,0,none⟩) ([y7]:List zN) 1) ([y7]:List zN))),.q (.tuple ⟨[vI y11,.bool y12]⟩),.p (.tuple ⟨[vI y11,.bool y12]⟩) [],.p (vI y11) [],.p (.bool y12) [],.p (vI y11) []] [[],[],[(1,false)],[],[(3,false)],[(2,false),(4,false)],[(0,false),(5,false)],[(6,false)],[(7,false)],[(7,false)],[(8,false)]] [hB b3 (cStmt y7 p18 c18 p19 c19 p20 c20 p21 c21),hB r01 (cRd y8 p22 c22),hO zN (vS p14 Body2 c14) cs2,hB b1 [vS p7 y1 c7,vS p14 Body2 c14],hB b (cPart x p1 c1 p2 c2)] [] [(9,false)] (zY [0,1,2,3,4]) ?_ ?_
   · refine Ox ?_<|Op<|Op<|Op<|Ox ?_<|Ox ?_<|Oq ?_<|Op<|Op<|Op<|Op<|On
     · intro I1 hf le1;refine gY [] ?_;have H:=iS I1;refine xQ (eF  _ hy3 ) ?_;rintro I04 hs2 v2 k2 le4 - ⟨v010,rfl,rfl,h31⟩ -;have H:=H.trans le4;obtain ⟨p23,c23,rfl⟩:=h31.form;exact yI [] H ⟨_,_,rfl,rfl,h31⟩
     · intro I1 hf le1;refine yN [43] rfl ?_;have H:=iS I1;have ⟨h26,h27,h28,h29⟩:=m4 le1 h26 h27 h28 h29;refine nQ (rc y7 (wQ ⟨_,_,_,_,rfl,h26,h27,h28,h29⟩) rN) ?_;intro b4 I05 le5 h33;have H:=H.trans le5;exact yI [] H ⟨_,rfl,rfl,h33⟩
     · rintro I1 hf le1 _ _ ⟨rfl,rfl⟩ _ _ ⟨b4,rfl,rfl,h33⟩;refine yN [42,44] rfl ?_;exact tM 6 [(45,vA [vS p7 y1 c7,vS (some ⟨b4,0,none⟩) ([y7]:List zN) 1])]<|yI [] iR ⟨_,rfl,rfl,h33⟩
     rintro I1 hf le1 _ _ ⟨p23,c23,rfl,rfl,h31⟩ _ _ ⟨b41,rfl,rfl,h331⟩;refine yN [40,45] rfl ?_;have H:=iS I1;have h7:=h7.mono le1;refine xQ (zAN y9 (zM.mk y1 ([y7]:List zN)) _ hy4 h31 h7 h331) ?_;rintro I06 hs2 v2 k2 le6 - ⟨v011,v012,rfl,rfl,rfl,rfl⟩ -;have H:=H.trans le6;exact yP H
   intro I07 le7;refine yN [0,2,3,4,5,6,7,48] rfl ?_;have ⟨h26,h27,h28,h29,h30,h20⟩:=m6 le7 h26 h27 h28 h29 h30 h20;have ⟨h7,h1,h2,H⟩:=m4 le7 h7 h1 h2 H;refine yJ [] [9] rfl<|vG [49] rfl<|zI<|yE N ?_ ?_
   · intro hc3 N;refine yF<|fW 3 [3,0] [(51,vS p14 Body2 c14),(52,vA (cStmt y7 p18 c18 p19 c19 p20 c20 p21 c21))]<|tH (cStmt y7 p18 c18 p19 c19 p20 c20 p21 c21) zN ?_;intro b5 hb5;have h36:RL I07 (cStmt y7 p18 c18 p19 c19 p20 c20 p21 c21) ([y7]:List zN):=⟨(cStmt y7 p18 c18 p19 c19 p20 c20 p21 c21),_,rfl,rfl,(wQ ⟨_,_,_,_,rfl,h26,h27,h28,h29⟩),rfl⟩;obtain ⟨l,hy5,N⟩:=zB N;refine qI 43 9 3 rfl rfl rfl h20 (.inr ⟨0,rfl⟩) h36 hy5 ?_;intro p24 c24 cs5 h37;exact sD (zY [1,2,3,4,5] (hs':=[hB b3 (cStmt y7 p18 c18 p19 c19 p20 c20 p21 c21),hB r01 (cRd y8 p22 c22),hO zN (vS p24 l c24) cs5,hB b1 [vS p7 y1 c7,vS p14 Body2 c14],hB b (cPart x p1 c1 p2 c2)]))<|yB 6 [] [55] rfl<|xI 3 [vS p7 y1 c7,vS p24 l c24] rfl<|yA rfl<|zI<|zGB<|zGv rfl<|jV<|jV<|xT (zX [2,1,3,4] rfl (by decide))<|yQ<|hx _ _ _ _ _ _ _ _ (zC N).symm H h37 h30
   intro hc3 N;exact zS<|zP<|zI<|zK<|yJ [] [6] rfl<|yS<|kX (zX [2,1,3,4] rfl (by decide))<|nG<|ih (W (n0 + 1)) y8 _ N H h7 h1 h2 h20 h30 hg ho hx
 intro hc2 N;exact wT<|yQ<|hx _ _ _ _ _ _ _ _ (zC N).symm H h20 h21
def oC (y1:(List zD)) (k0:Int) (Body:List zN) (x4:zL):Option ((List zN×zL)):=do
 if (decide (k0 > 0)) then
  let (Body3,x7)←oA y1 Body 0 x4
  oC y1 (W (k0 - 1)) Body3 x7
 else
  pure (Body,x4)
 partial_fixpoint
theorem zEO (y1:(List zD)):∀ (k0:Int) (Body:List zN) (x4:zL) (o:(List zN×zL)),oC y1 k0 Body x4=some o→∀ {B}{I0 I:Imm}{Q}{i:Int}{x:zM}{r01:Nat}{b:Nat}{p1 c1 p2 c2 p7 c7}{b1:Nat}{p10 c10 cs p11 c11},I0.le I→(S4 I p7 y1 c7)→(S4 I p1 x.Nest c1)→(S4 I p2 x.Body c2)→(RL I cs Body)→(S4 I p11 x4.b c11)→NG Q→NO Q→(∀ (I':Imm) (Body1:List zN) (x5:zL) (p12:Option Addr) (c12:Nat) (cs1:List Value) (p13:Option Addr) (c13:Nat),o=(Body1,x5)→I0.le I'→(RL I' cs1 Body1)→(S4 I' p13 x5.b c13)→T 81 B Q (.exit 2) I' [hO zN (vS p12 Body1 c12) cs1,hB r01 (cRd x5 p13 c13),hB b1 [vS p7 y1 c7,vS p12 Body1 c12],hB b (cPart x p1 c1 p2 c2)] [(0,vP r01 0),(2,vP b 0),(3,vI i),(4,vP b1 0)])→J Tryz.prog 81 B (nav (bodyOf Tryz.f131) [1,0,1,0,0,1,0,0,1,0,1,0]) Q I [hO zN (vS p10 Body c10) cs,hB r01 (cRd x4 p11 c11),hB b1 [vS p7 y1 c7,vS p10 Body c10],hB b (cPart x p1 c1 p2 c2)] [(0,vP r01 0),(2,vP b 0),(3,vI i),(4,vP b1 0),(5,vI k0)]:=by
 refine oC.partial_correctness y1 _ fun self ih k0 Body x4 o N B I0 I Q i x r01 b p1 c1 p2 c2 p7 c7 b1 p10 c10 cs p11 c11 H h7 h1 h2 h16 h17 hg ho hx=>yT hg ho<|yC<|yG [27] rfl<|zI<|yE N ?_ ?_
 · intro hc1 N;refine zS<|zZ<|yH<|yG [6] rfl<|xZ<|pJ [(0,vP r01 0),(2,vP b 0),(3,vI i),(4,vP b1 0),(5,vI k0),(6,vI 0)] ?_;obtain ⟨o0,ho0,hMl⟩:=zB N;refine zEN y1 Body 0 x4 o0 ho0 iR h7 h1 h2 h16 h17 (fun _ _ _ h=>hg _ _ _ h) (fun _ _ h=>ho _ _ h) ?_;intro I08 Body3 x7 p16 c16 cs3 p17 c17 heq le8 h22 h23;subst o0;have ⟨h7,h1,h2,H⟩:=m4 le8 h7 h1 h2 H;exact zR<|zP<|zI<|zK<|yJ [] [5] rfl<|yS<|nG<|ih (W (k0 - 1)) Body3 x7 _ hMl H h7 h1 h2 h22 h23 hg ho hx
 intro hc1 N;exact wT<|yQ<|hx _ _ _ _ _ _ _ _ (zC N).symm H h16 h17
def oD (x:zM) (i:Int) (x1:zL):Option (Out (zM×zL) (zM×zL)):=do
 if (decide (i < 4)) then
  let (y1,y2)←fI x1
  let (y4,y5)←xB y2 ([1,2,1,3]:List Int)
  let (Body1,x5)←oC y1 y4 ([]:List zN) y5
  let y13←mY
  let (y15,y16)←oL y13 (zM.mk y1 Body1)
  let t66←(do
    if y16 then
     pure (decide (y15 ≤ 40))
    else
     pure false
      : Option Bool)
  if t66 then
   pure (.ret ((zM.mk y1 Body1),x5))
  else
   oD x (W (i + 1)) x5
 else
  pure (.done (x,x1))
 partial_fixpoint
theorem zEP (x:zM):∀ (i:Int) (x1:zL) (o:Out (zM×zL) (zM×zL)),oD x i x1=some o→∀ {B}{I0 I:Imm}{Q}  {r01:Nat}{b:Nat}{p1 c1 p2 c2 p3 c3},I0.le I→(S4 I p1 x.Nest c1)→(S4 I p2 x.Body c2)→(S4 I p3 x1.b c3)→NG Q→NO Q→(∀ (I':Imm) (x2:zM) (x3:zL) (p4:Option Addr) (c4:Nat) (p5:Option Addr) (c5:Nat) (p6:Option Addr) (c6:Nat),o=(.done (x2,x3))→I0.le I'→(S4 I' p4 x2.Nest c4)→(S4 I' p5 x2.Body c5)→(S4 I' p6 x3.b c6)→T 81 B Q (.exit 0) I' [hB b (cPart x2 p4 c4 p5 c5),hB r01 (cRd x3 p6 c6)] [(2,vP b 0)])→(∀ r I' hs' m',o=(.ret r)→I0.le I'→RS Tryz.prog Tryz.f131 B (zBJ r01 r) I' hs' m'→T 81 B Q .ret I' hs' m')→J Tryz.prog 81 B (nav (bodyOf Tryz.f131) [1,0,1,0]) Q I [hB b (cPart x p1 c1 p2 c2),hB r01 (cRd x1 p3 c3)] [(0,vP r01 0),(2,vP b 0),(3,vI i)]:=by
 refine oD.partial_correctness x _ fun self ih i x1 o N B I0 I Q r01 b p1 c1 p2 c2 p3 c3 H h1 h2 h3 hg ho hx hr=>yT hg ho<|yC<|yG [17] rfl<|zI<|yE N ?_ ?_
 · intro hc N;refine zS<|zZ<|yH<|yF<|yB 1 [] [20] rfl<|sD (zY [1,0] (hs':=[hB r01 (cRd x1 p3 c3),hB b (cPart x p1 c1 p2 c2)])) ?_;obtain ⟨⟨y1,y2⟩,hy,N⟩:=zB N;refine sE (zGY x1 _ hy h3) rfl ?_;rintro I0 hs2 v2 k2 le - ⟨v0,kk,rfl,rfl,h7,h8⟩ -;have ⟨h1,h2,H⟩:=m3 le h1 h2 H;obtain ⟨p7,c7,rfl⟩:=h7.form;obtain ⟨p8,c8,rfl,h9⟩:=yD h8;refine yB 3 [] [22] rfl<|wH zTwo ?_;intro b1 hb1;refine xI 0 [vS p7 y1 c7,z0] rfl<|yA rfl<|zZ<|yF<|yB 1 [] [23] rfl<|nQ (rI [1,2,1,3]) ?_;intro b2 I01 le1 h11;have ⟨h7,h9,h1,h2,H⟩:=m5 le1 h7 h9 h1 h2 H;refine sD (zY [1,0,2] (hs':=[hB r01 (cRd y2 p8 c8),hB b1 [vS p7 y1 c7,z0],hB b (cPart x p1 c1 p2 c2)])) ?_;obtain ⟨⟨y4,y5⟩,hy1,N⟩:=zB N;refine sE (xN y2 ([1,2,1,3]:List Int) _ hy1 h9 h11) rfl ?_;rintro I02 hs2 v2 k2 le2 - ⟨v02,kk1,rfl,rfl,rfl,h13⟩ -;have ⟨h7,h1,h2,H⟩:=m4 le2 h7 h1 h2 H;obtain ⟨p9,c9,rfl,h14⟩:=yD h13;refine yJ [] [5] rfl<|xZ<|pJ [(0,vP r01 0),(2,vP b 0),(3,vI i),(4,vP b1 0),(5,vI y4)]<|zAE zN fun h15=>?_;obtain ⟨o01,ho01,hMl1⟩:=zB N;refine zEO y1 y4 ([]:List zN) y5 o01 ho01 iR h7 h1 h2 h15 h14 (fun _ _ _ h=>hg _ _ _ h) (fun _ _ h=>ho _ _ h) ?_;intro I09 Body1 x5 p12 c12 cs1 p13 c13 heq1 le9 h18 h19;subst o01;have ⟨h7,h1,h2,H⟩:=m4 le9 h7 h1 h2 H;refine zR<|zZ<|oM 0 rfl ?_;intro I010 le10 hl02;have h38:=SL.of_frozen hl02 le10 h18;have ⟨h19,h7,h1,h2,H⟩:=m5 le10 h19 h7 h1 h2 H;obtain ⟨y13,hy6,N⟩:=zB hMl1;obtain ⟨⟨y15,y16⟩,hy7,N⟩:=zB N;refine wA [.x (eS y13),.p (vA [vS p7 y1 c7,vS p12 Body1 c12]) [1],.q (.tuple ⟨[vI y15,.bool y16]⟩),.p (.tuple ⟨[vI y15,.bool y16]⟩) [],.p (vI y15) [],.p (.bool y16) [],.p (vI y15) []] [[],[],[(0,false),(1,false)],[(2,false)],[(3,false)],[(3,false)],[(4,false)]] [hB r01 (cRd x5 p13 c13),hB b1 [vS p7 y1 c7,vS p12 Body1 c12],hB b (cPart x p1 c1 p2 c2)] [] [(5,false),(6,false)] (zY [0,1,2]) ?_ ?_
   · refine Ox ?_<|Op<|Oq ?_<|Op<|Op<|Op<|Op<|On
     · intro I1 hf le1;refine gY [] ?_;have H:=iS I1;refine xQ (eF  _ hy6 ) ?_;rintro I011 hs2 v2 k2 le11 - ⟨v013,rfl,rfl,h39⟩ -;have H:=H.trans le11;obtain ⟨p25,c25,rfl⟩:=h39.form;exact yI [] H ⟨_,_,rfl,rfl,h39⟩
     rintro I1 hf le1 _ _ ⟨p25,c25,rfl,rfl,h39⟩;refine yN [57,58] rfl ?_;have H:=iS I1;have ⟨h7,h38⟩:=m2 le1 h7 h38;refine xQ (zAN y13 (zM.mk y1 Body1) _ hy7 h39 h7 h38) ?_;rintro I012 hs2 v2 k2 le12 - ⟨v014,v015,rfl,rfl,rfl,rfl⟩ -;have H:=H.trans le12;exact yP H
   intro I013 le13;refine yN [0,2,3,4,10,61] rfl ?_;have ⟨h19,h7,h38,h1,h2,H⟩:=m6 le13 h19 h7 h38 h1 h2 H;refine yJ [] [11] rfl<|zI<|yC ?_;refine wE N [hB r01 (cRd x5 p13 c13),hB b1 [vS p7 y1 c7,vS p12 Body1 c12],hB b (cPart x p1 c1 p2 c2)] (fun t66=>[(0,vP r01 0),(2,vP b 0),(3,vI i),(4,vP b1 0),(66,.bool t66)]) (fun o02 ho02=>?_) ?_
   · have H:=iS I013;refine zK<|yB 2 [] [63] rfl<|xW [63] ho02 ?_ ?_
     · intro hc4 N;exact yJ [] [66] rfl<|yQ<|zT (ct N H)
     intro hc4 N;exact wG [] [(66,vF)]<|yQ<|zT (ct N H)
   intro t66 I014 le14 hMc;have ⟨h19,h7,h38,h1,h2,H⟩:=m6 le14 h19 h7 h38 h1 h2 H;refine zI<|yE hMc ?_ ?_
   · intro hc5 N;exact yF<|fW 1 [1] [(67,vA [vS p7 y1 c7,vS p12 Body1 c12])]<|xI 2 [vS p7 y1 c7,vS p12 Body1 c12] rfl<|yA rfl<|xG<|zW<|zH<|zH<|hr _ _ _ _ (zC N).symm H ⟨_,_,(.cell 2 rfl rfl (by kernel_rfl) ResV.nil),(zX [0] rfl (by decide)),⟨_,_,rfl,rfl,⟨_,rfl,(qO ⟨_,_,rfl,h7,h38⟩)⟩,(yR ⟨_,rfl,h19⟩)⟩⟩
   intro hc5 N;exact zS<|zP<|zI<|zK<|yJ [] [3] rfl<|yS<|kX (zX [2,0] rfl (by decide))<|nG<|ih (W (i + 1)) x5 _ N H h1 h2 h19 hg ho hx hr
 intro hc N;exact wT<|yQ<|hx _ _ _ _ _ _ _ _ _ (zC N).symm H h1 h2 h3
def fK (r0:zL):Option (zM×zL):=do
 match←oD (zM.mk ([]:List zD) ([]:List zN)) 0 r0 with
 | .ret r0=>pure r0
 | .done (x2,x3) =>
  let (y18,y19)←nO (⟨[65,91,105,93,61,40,65,91,105,93,43,123,105,125,41]⟩:Str)
  let (y21,y22)←gL ([4]:List Int)
  pure ((zM.mk y21 ([y18]:List zN)),x3)
theorem zG1:∀ r0 r,fK r0=some r→∀ {I:Imm}{r01:Nat}{p c},(S4 I p r0.b c)→RT 131 [vP r01 0] I [hB r01 (cRd r0 p c)] (zBJ r01 r):=by
 intro r0 r N I r01 p c h;unfold fK at N;refine yM Tryz.func131 fun B=>yF<|wH zTwo ?_;intro b hb;refine yA rfl<|zZ<|yG [3] rfl<|xZ<|pJ [(0,vP r01 0),(2,vP b 0),(3,vI 0)] ?_;obtain ⟨o03,ho03,hMl2⟩:=zB N;refine zEP (zM.mk ([]:List zD) ([]:List zN)) 0 r0 o03 ho03 iR (SL.nil _) (SL.nil _) h (fun _ _ _ h=>h) (fun _ _ h=>h) ?_ ?_
 · intro I015 x2 x3 p4 c4 p5 c5 p6 c6 heq3 le15 h4 h5 h6;subst o03;refine zR<|zZ<|zK ?_;obtain ⟨⟨y18,y19⟩,hy8,N⟩:=zB hMl2;refine xQ (zA3 (⟨[65,91,105,93,61,40,65,91,105,93,43,123,105,125,41]⟩:Str) _ hy8 ) ?_;rintro I016 hs2 v2 k2 le16 - ⟨v016,v017,rfl,rfl,⟨cs6,rfl,h42⟩,rfl⟩ -;have h6:=h6.mono le16;obtain ⟨p26,c26,p27,c27,p28,c28,p29,c29,rfl,h44,h45,h46,h47⟩:=tG h42;refine yB 4 [] [70,71] rfl<|wH [vT ([]),z0,vI 0,vI 0,z0,vI 0,vT ([]),z0,z0] ?_;intro b6 hb6;refine xI 0 (cStmt y18 p26 c26 p27 c27 p28 c28 p29 c29) rfl<|wG [] []<|yV<|nQ (rI [4]) ?_;intro b7 I017 le17 h49;have ⟨h44,h45,h46,h47,h6⟩:=m5 le17 h44 h45 h46 h47 h6;obtain ⟨⟨y21,y22⟩,hy9,N⟩:=zB N;refine xQ (zFf ([4]:List Int) _ hy9 h49) ?_;rintro I018 hs2 v2 k2 le18 - ⟨v022,v023,rfl,rfl,h50,rfl⟩ -;have ⟨h44,h45,h46,h47,h6⟩:=m5 le18 h44 h45 h46 h47 h6;obtain ⟨p30,c30,rfl⟩:=h50.form;refine yJ [] [14] rfl<|yV<|fW 2 [0] [(77,vS p30 y21 c30),(78,vA (cStmt y18 p26 c26 p27 c27 p28 c28 p29 c29))]<|tH (cStmt y18 p26 c26 p27 c27 p28 c28 p29 c29) zN ?_;intro b8 hb8;have h52:RL I018 (cStmt y18 p26 c26 p27 c27 p28 c28 p29 c29) ([y18]:List zN):=⟨(cStmt y18 p26 c26 p27 c27 p28 c28 p29 c29),_,rfl,rfl,(wQ ⟨_,_,_,_,rfl,h44,h45,h46,h47⟩),rfl⟩;refine yB 4 [] [80] rfl<|xI 2 [vS p30 y21 c30,vS (some ⟨b8,0,none⟩) ([y18]:List zN) 1] rfl<|yA rfl<|xG<|yY 0 rfl ?_;intro I019 le19 hl04;have h53:=SL.of_frozen hl04 le19 h52;have ⟨h50,h6⟩:=m2 le19 h50 h6;obtain rfl:=zC N;exact xA ⟨_,_,(.cell 1 rfl rfl (by kernel_rfl) ResV.nil),(zX [2] rfl (by decide)),⟨_,_,rfl,rfl,⟨_,rfl,(qO ⟨_,_,rfl,h50,h53⟩)⟩,(yR ⟨_,rfl,h6⟩)⟩⟩
 intro r0 I9 hs9 m9 heq9 le9 hrs9;subst heq9;refine zW<|zH ?_;obtain rfl:=zC hMl2;exact xA hrs9
def zFD (b0:Nat) (r:zE×zL):KT:=fun kk I' hs' v=>
  ∃ v0 k0,hs'=[.blk b0 ⟨k0⟩]∧v=tupV [v0]∧(∃ cs,v0=.agg ⟨cs⟩∧Rp.rep I' cs r.1)∧Rp.rep I' k0 r.2
def oE (i:Int) (Parts:List zM) (x:zL):Option ((List zM×zL)):=do
 if (decide (i > 0)) then
  let (y5,y6)←fK x
  let l←app 48 Parts ([y5]:List zM)
  oE (W (i - 1)) l y6
 else
  pure (Parts,x)
 partial_fixpoint
theorem zEQ :∀ (i:Int) (Parts:List zM) (x:zL) (o:(List zM×zL)),oE i Parts x=some o→∀ {B}{I0 I:Imm}{Q}{y:(List zF)}{r01:Nat}{b:Nat}{p1 c1}{b1:Nat}{p3 c3 cs p4 c4},I0.le I→(S4 I p1 y c1)→(RL I cs Parts)→(S4 I p4 x.b c4)→NG Q→NO Q→(∀ (I':Imm) (Parts1:List zM) (x1:zL) (p5:Option Addr) (c5:Nat) (cs1:List Value) (p6:Option Addr) (c6:Nat),o=(Parts1,x1)→I0.le I'→(RL I' cs1 Parts1)→(S4 I' p6 x1.b c6)→T 29 B Q (.exit 0) I' [hO zM (vS p5 Parts1 c5) cs1,hB r01 (cRd x1 p6 c6),hB b1 [vS p1 y c1,vS p5 Parts1 c5],hB b zTwo] [(2,vP b 0),(3,vP b1 0)])→J Tryz.prog 29 B (nav (bodyOf Tryz.f84) [1,1,0,1,0]) Q I [hO zM (vS p3 Parts c3) cs,hB r01 (cRd x p4 c4),hB b1 [vS p1 y c1,vS p3 Parts c3],hB b zTwo] [(0,vP r01 0),(2,vP b 0),(3,vP b1 0),(4,vI i)]:=by
 refine oE.partial_correctness  _ fun self ih i Parts x o N B I0 I Q y r01 b p1 c1 b1 p3 c3 cs p4 c4 H h1 h8 h9 hg ho hx=>yT hg ho<|yC<|yG [11] rfl<|zI<|yE N ?_ ?_
 · intro hc N;refine zS<|zZ<|yH ?_;obtain ⟨⟨y5,y6⟩,hy2,N⟩:=zB N;obtain ⟨l,hy3,N⟩:=zB N;refine wA [.p (vP b1 1) [],.p (vS p3 Parts c3) [0],.p (vP r01 0) [],.x (fun I' v hx=>∃ p7 c7 p8 c8 p9 c9,v=vA (cPart y5 p7 c7 p8 c8)∧hx=[hB r01 (cRd y6 p9 c9)]∧(S4 I' p7 y5.Nest c7)∧(S4 I' p8 y5.Body c8)∧(S4 I' p9 y6.b c9)),.x (fun I' v hx=>∃ b3,v=vS (some ⟨b3,0,none⟩) ([y5]:List zM) 1∧hx=[]∧(SL I' (vS (some ⟨b3,0,none⟩) ([y5]:List zM) 1) ([y5]:List zM))),.x (fun I' v hx=>∃ p10 c10 cs3,v=vS p10 l c10∧hx=[hO zM (vS p10 l c10) cs3]∧(RL I' cs3 l))] [[],[(0,false)],[],[(2,false),(8,true)],[(3,false)],[(1,false),(4,false),(9,true)]] [hB b1 [vS p1 y c1,vS p3 Parts c3],hB b zTwo] [[hB r01 (cRd x p4 c4)],[hO zM (vS p3 Parts c3) cs]] [(3,true),(5,true)] (zY [2,3,1,0]) ?_ ?_
   · refine Op<|Op<|Op<|Ox ?_<|Ox ?_<|Ox ?_<|On
     · rintro I1 hf le1 _ _ ⟨rfl,rfl⟩ _ _ rfl;refine yN [16] rfl ?_;have H:=iS I1;have h9:=h9.mono le1;refine sE (zG1 x _ hy2 h9) rfl ?_;rintro I03 hs2 v2 k2 le3 - ⟨v03,kk1,rfl,rfl,⟨cs2,rfl,h12⟩,h13⟩ -;have H:=H.trans le3;obtain ⟨p7,c7,p8,c8,rfl,h14,h15⟩:=wW h12;obtain ⟨p9,c9,rfl,h16⟩:=yD h13;exact yI [hB r01 (cRd y6 p9 c9)] H ⟨_,_,_,_,_,_,rfl,rfl,h14,h15,h16⟩
     · rintro I1 hf le1 _ _ ⟨p7,c7,p8,c8,p9,c9,rfl,rfl,h14,h15,h16⟩;refine yN [17] rfl ?_;have H:=iS I1;refine nQ (rc y5 (qO ⟨_,_,rfl,h14,h15⟩) rN) ?_;intro b3 I04 le4 h18;have H:=H.trans le4;exact yI [] H ⟨_,rfl,rfl,h18⟩
     rintro I1 hf le1 _ _ ⟨rfl,rfl⟩ _ _ ⟨b3,rfl,rfl,h18⟩ _ _ rfl;refine yN [15,18] rfl ?_;have h8:=iM le1 h8;obtain ⟨ccs,k0,k01⟩:=h18;have h18:SL I1 (vS (some ⟨b3,0,none⟩) ([y5]:List zM) 1) ([y5]:List zM):=⟨_,k0,k01⟩;exact qI 47 2 0 rfl rfl rfl h8 (.inl k0) k01 hy3 fun p10 c10 cs3 h19=>vH (hs':=(hO zM (vS p10 l c10) cs3::hB b1 [vS p1 y c1,vS p3 Parts c3]::hB b zTwo::hf)) rfl<|yI [hO zM (vS p10 l c10) cs3] iR ⟨_,_,_,rfl,rfl,h19⟩
   rintro I05 le5 _ _ ⟨p7,c7,p8,c8,p9,c9,rfl,rfl,h14,h15,h16⟩ _ _ ⟨p10,c10,cs3,rfl,rfl,h19⟩;refine yN [0,2,3,4,19] rfl ?_;have ⟨h1,H⟩:=m2 le5 h1 H;exact yB 7 [] [20] rfl<|xI 2 [vS p1 y c1,vS p10 l c10] rfl<|yA rfl<|zP<|zI<|zK<|yJ [] [4] rfl<|yS<|nG<|ih (W (i - 1)) l y6 _ N H h1 h19 h16 hg ho hx
 intro hc N;exact wT<|yQ<|hx _ _ _ _ _ _ _ _ (zC N).symm H h8 h9
def fL (r0:zL):Option (zE×zL):=do
 let y←mY
 let (y2,y3)←xB r0 ([1,2,1,3]:List Int)
 let (Parts1,x1)←oE y2 ([]:List zM) y3
 let y7←uJ (zE.mk y Parts1)
 if y7 then
  pure ((zE.mk y Parts1),x1)
 else
  let y8←mY
  let l1←slc Parts1 0 1
  pure ((zE.mk y8 l1),x1)
theorem zG2:∀ r0 r,fL r0=some r→∀ {I:Imm}{r01:Nat}{p c},(S4 I p r0.b c)→RT 84 [vP r01 0] I [hB r01 (cRd r0 p c)] (zFD r01 r):=by
 intro r0 r N I r01 p c h;unfold fL at N;refine yM Tryz.func84 fun B=>?_;have H:=iS I;refine yF<|wH zTwo ?_;intro b hb;refine yA rfl<|yV<|bE N fun y hy N=>xQ (eF  _ hy ) ?_;rintro I0 hs2 v2 k2 le - ⟨v0,rfl,rfl,h1⟩ -;have ⟨h,H⟩:=m2 le h H;obtain ⟨p1,c1,rfl⟩:=h1.form;refine yB 2 [] [6] rfl<|wH zTwo ?_;intro b1 hb1;refine xI 0 [vS p1 y c1,z0] rfl<|yA rfl<|zZ<|yF<|yB 1 [] [7] rfl<|nQ (rI [1,2,1,3]) ?_;intro b2 I01 le1 h3;have ⟨h1,h,H⟩:=m3 le1 h1 h H;refine sD (zY [2,0,1] (hs':=[hB r01 (cRd r0 p c),hB b1 [vS p1 y c1,z0],hB b zTwo])) ?_;obtain ⟨⟨y2,y3⟩,hy1,N⟩:=zB N;refine sE (xN r0 ([1,2,1,3]:List Int) _ hy1 h h3) rfl ?_;rintro I02 hs2 v2 k2 le2 - ⟨v01,kk,rfl,rfl,rfl,h5⟩ -;have ⟨h1,H⟩:=m2 le2 h1 H;obtain ⟨p2,c2,rfl,h6⟩:=yD h5;refine yJ [] [4] rfl<|xZ<|pJ [(0,vP r01 0),(2,vP b 0),(3,vP b1 0),(4,vI y2)]<|zAE zM fun h7=>?_;obtain ⟨o0,ho0,hMl⟩:=zB N;refine zEQ y2 ([]:List zM) y3 o0 ho0 iR h1 h7 h6 (fun _ _ _ h=>h) (fun _ _ h=>h) ?_;intro I06 Parts1 x1 p5 c5 cs1 p6 c6 heq le6 h10 h11;subst o0;have ⟨h1,H⟩:=m2 le6 h1 H;refine zR<|zZ<|yF<|fW 1 [2] [(21,vA [vS p1 y c1,vS p5 Parts1 c5])]<|xP 0 rfl ?_;intro I07 le7 hl02;have h20:=SL.of_frozen hl02 le7 h10;have ⟨h1,h11,H⟩:=m3 le7 h1 h11 H;obtain ⟨y7,hy4,N⟩:=zB hMl;refine vZ (gK (zE.mk y Parts1) _ hy4 h1 h20) ?_;intro I08 le8;have ⟨h11,h1,h20,H⟩:=m4 le8 h11 h1 h20 H;refine yA rfl<|zI<|yE N ?_ ?_
 · intro hc1 N;refine yF<|fW 1 [1] [(23,vA [vS p1 y c1,vS p5 Parts1 c5])]<|xI 2 [vS p1 y c1,vS p5 Parts1 c5] rfl<|yA rfl<|xG<|zH ?_;obtain rfl:=zC N;exact xA ⟨_,_,(.cell 2 rfl rfl (by kernel_rfl) ResV.nil),(zX [0] rfl (by decide)),⟨_,_,rfl,rfl,⟨_,rfl,(vE ⟨_,_,rfl,h1,h20⟩)⟩,(yR ⟨_,rfl,h11⟩)⟩⟩
 intro hc1 N;refine zS<|zI<|yC ?_;obtain ⟨y8,hy5,N⟩:=zB N;obtain ⟨l1,hy6,N⟩:=zB N;refine wA [.x (eS y8),.p (vP b1 1) [],.p (vS p5 Parts1 c5) [1],.x (eS l1),.x (fun I' v hx=>∃ p111 c111 p121 c121,v=vA [vS p111 y8 c111,vS p121 l1 c121]∧hx=[]∧(S4 I' p111 y8 c111)∧(S4 I' p121 l1 c121))] [[],[],[(1,false)],[(2,false)],[(0,false),(3,false)]] [hB r01 (cRd x1 p6 c6),hB b1 [vS p1 y c1,vS p5 Parts1 c5],hB b zTwo] [] [(4,false)] (zY [0,1,2]) ?_ ?_
 · refine Ox ?_<|Op<|Op<|Ox ?_<|Ox ?_<|On
   · intro I1 hf le1;refine gY [] ?_;have H:=iS I1;refine xQ (eF  _ hy5 ) ?_;rintro I09 hs2 v2 k2 le9 - ⟨v08,rfl,rfl,h22⟩ -;have H:=H.trans le9;obtain ⟨p11,c11,rfl⟩:=h22.form;exact yI [] H ⟨_,_,rfl,rfl,h22⟩
   · intro I1 hf le1;refine yN [26] rfl ?_;have h20:=h20.mono le1;refine zM6 rfl h20 hy6 ?_;intro v09 h23;obtain ⟨p12,c12,rfl⟩:=h23.form;exact yI [] iR ⟨_,_,rfl,rfl,h23⟩
   rintro I1 hf le1 _ _ ⟨p11,c11,rfl,rfl,h22⟩ _ _ ⟨p12,c12,rfl,rfl,h23⟩;exact yN [24,27] rfl<|tM 5 [(28,vA [vS p11 y8 c11,vS p12 l1 c12])]<|yI [] iR ⟨_,_,_,_,rfl,rfl,h22,h23⟩
 rintro I010 le10 _ _ ⟨p111,c111,p121,c121,rfl,rfl,h221,h231⟩;refine yN [2,28] rfl ?_;have h11:=h11.mono le10;refine xI 2 [vS p111 y8 c111,vS p121 l1 c121] rfl<|yA rfl<|zI<|yW ?_;obtain rfl:=zC N;exact xA ⟨_,_,(.cell 2 rfl rfl (by kernel_rfl) ResV.nil),(zX [0] rfl (by decide)),⟨_,_,rfl,rfl,⟨_,rfl,(vE ⟨_,_,rfl,h221,h231⟩)⟩,(yR ⟨_,rfl,h11⟩)⟩⟩
def zFE (b0:Nat) (r:zE×zL):KT:=fun kk I' hs' v=>
  ∃ v0 k0,hs'=[.blk b0 ⟨k0⟩]∧v=tupV [v0]∧(∃ cs,v0=.agg ⟨cs⟩∧Rp.rep I' cs r.1)∧Rp.rep I' k0 r.2
def fM (r0:zL):Option (zE×zL):=do
 let (y1,y2)←rW r0 ([(⟨[112,97,114,116,10,102,111,114,32,48,32,51,10,102,111,114,32,48,32,52,10,66,91,105,44,106,93,61,40,66,91,105,44,106,93,43,123,50,42,105,43,106,125,41,10]⟩:Str),(⟨[112,97,114,116,10,102,111,114,32,48,32,51,10,102,111,114,32,48,32,52,10,66,91,105,44,106,43,49,93,61,40,66,91,105,44,106,93,43,49,41,10]⟩:Str),(⟨[112,97,114,116,10,102,111,114,32,48,32,51,10,102,111,114,32,49,32,52,10,66,91,105,43,49,44,106,45,49,93,61,40,66,91,105,44,106,93,42,50,41,10]⟩:Str),(⟨[112,97,114,116,10,102,111,114,32,48,32,51,10,102,111,114,32,49,32,53,10,66,91,105,43,49,44,106,93,61,40,66,91,105,44,106,45,49,93,43,66,91,105,44,106,93,41,10,65,91,105,93,61,123,106,125,10]⟩:Str),(⟨[112,97,114,116,10,102,111,114,32,48,32,52,10,65,91,105,93,61,40,123,105,125,42,50,41,10,112,97,114,116,10,102,111,114,32,48,32,52,10,65,91,105,43,49,93,61,40,65,91,105,93,43,67,91,48,93,41,10]⟩:Str),(⟨[112,97,114,116,10,102,111,114,32,48,32,53,10,65,91,105,93,61,40,65,91,105,93,43,51,41,10,66,91,48,44,105,93,61,65,91,105,93,10]⟩:Str),(⟨[112,97,114,116,10,102,111,114,32,48,32,51,10,102,111,114,32,48,32,51,10,67,91,105,93,61,40,67,91,105,93,43,66,91,105,44,106,93,41,10,112,97,114,116,10,102,111,114,32,48,32,51,10,102,111,114,32,48,32,51,10,65,91,106,93,61,40,65,91,106,93,45,66,91,106,44,105,93,41,10]⟩:Str),(⟨[112,97,114,116,10,102,111,114,32,48,32,52,10,102,111,114,32,48,32,105,43,49,10,66,91,105,44,106,93,61,40,65,91,106,93,42,67,91,48,93,41,10]⟩:Str)]:List Str)
 let s←cat (⟨[112,114,111,103,114,97,109,10,97,114,114,97,121,32,65,32,54,10,97,114,114,97,121,32,66,32,52,32,53,10,97,114,114,97,121,32,67,32,51,10]⟩:Str) y1
 let (y4,y5)←pD s
 let (t20,x)←(do
   if y5 then
    let (y7,y8)←yU y2 3
    pure ((decide (y7 > 0)),y8)
   else
    pure (false,y2)
     : Option (Bool×zL))
 if t20 then
  pure (y4,x)
 else
  let (y10,y11)←fL x
  pure (y10,y11)
theorem zG3:∀ r0 r,fM r0=some r→∀ {I:Imm}{r01:Nat}{p c},(S4 I p r0.b c)→RT 100 [vP r01 0] I [hB r01 (cRd r0 p c)] (zFE r01 r):=by
 intro r0 r N I r01 p c h;unfold fM at N;refine yM Tryz.func100 fun B=>?_;have H:=iS I;refine yF<|wH zTwo ?_;intro b hb;refine yA rfl<|yV<|yB 1 [] [6] rfl<|nQ (rT [(⟨[112,97,114,116,10,102,111,114,32,48,32,51,10,102,111,114,32,48,32,52,10,66,91,105,44,106,93,61,40,66,91,105,44,106,93,43,123,50,42,105,43,106,125,41,10]⟩:Str),(⟨[112,97,114,116,10,102,111,114,32,48,32,51,10,102,111,114,32,48,32,52,10,66,91,105,44,106,43,49,93,61,40,66,91,105,44,106,93,43,49,41,10]⟩:Str),(⟨[112,97,114,116,10,102,111,114,32,48,32,51,10,102,111,114,32,49,32,52,10,66,91,105,43,49,44,106,45,49,93,61,40,66,91,105,44,106,93,42,50,41,10]⟩:Str),(⟨[112,97,114,116,10,102,111,114,32,48,32,51,10,102,111,114,32,49,32,53,10,66,91,105,43,49,44,106,93,61,40,66,91,105,44,106,45,49,93,43,66,91,105,44,106,93,41,10,65,91,105,93,61,123,106,125,10]⟩:Str),(⟨[112,97,114,116,10,102,111,114,32,48,32,52,10,65,91,105,93,61,40,123,105,125,42,50,41,10,112,97,114,116,10,102,111,114,32,48,32,52,10,65,91,105,43,49,93,61,40,65,91,105,93,43,67,91,48,93,41,10]⟩:Str),(⟨[112,97,114,116,10,102,111,114,32,48,32,53,10,65,91,105,93,61,40,65,91,105,93,43,51,41,10,66,91,48,44,105,93,61,65,91,105,93,10]⟩:Str),(⟨[112,97,114,116,10,102,111,114,32,48,32,51,10,102,111,114,32,48,32,51,10,67,91,105,93,61,40,67,91,105,93,43,66,91,105,44,106,93,41,10,112,97,114,116,10,102,111,114,32,48,32,51,10,102,111,114,32,48,32,51,10,65,91,106,93,61,40,65,91,106,93,45,66,91,106,44,105,93,41,10]⟩:Str),(⟨[112,97,114,116,10,102,111,114,32,48,32,52,10,102,111,114,32,48,32,105,43,49,10,66,91,105,44,106,93,61,40,65,91,106,93,42,67,91,48,93,41,10]⟩:Str)]) ?_;intro b1 I0 le h2;have ⟨h,H⟩:=m2 le h H;refine sD (zY [1,0] (hs':=[hB r01 (cRd r0 p c),hB b zTwo])) ?_;obtain ⟨⟨y1,y2⟩,hy,N⟩:=zB N;refine sE (kQ r0 ([(⟨[112,97,114,116,10,102,111,114,32,48,32,51,10,102,111,114,32,48,32,52,10,66,91,105,44,106,93,61,40,66,91,105,44,106,93,43,123,50,42,105,43,106,125,41,10]⟩:Str),(⟨[112,97,114,116,10,102,111,114,32,48,32,51,10,102,111,114,32,48,32,52,10,66,91,105,44,106,43,49,93,61,40,66,91,105,44,106,93,43,49,41,10]⟩:Str),(⟨[112,97,114,116,10,102,111,114,32,48,32,51,10,102,111,114,32,49,32,52,10,66,91,105,43,49,44,106,45,49,93,61,40,66,91,105,44,106,93,42,50,41,10]⟩:Str),(⟨[112,97,114,116,10,102,111,114,32,48,32,51,10,102,111,114,32,49,32,53,10,66,91,105,43,49,44,106,93,61,40,66,91,105,44,106,45,49,93,43,66,91,105,44,106,93,41,10,65,91,105,93,61,123,106,125,10]⟩:Str),(⟨[112,97,114,116,10,102,111,114,32,48,32,52,10,65,91,105,93,61,40,123,105,125,42,50,41,10,112,97,114,116,10,102,111,114,32,48,32,52,10,65,91,105,43,49,93,61,40,65,91,105,93,43,67,91,48,93,41,10]⟩:Str),(⟨[112,97,114,116,10,102,111,114,32,48,32,53,10,65,91,105,93,61,40,65,91,105,93,43,51,41,10,66,91,48,44,105,93,61,65,91,105,93,10]⟩:Str),(⟨[112,97,114,116,10,102,111,114,32,48,32,51,10,102,111,114,32,48,32,51,10,67,91,105,93,61,40,67,91,105,93,43,66,91,105,44,106,93,41,10,112,97,114,116,10,102,111,114,32,48,32,51,10,102,111,114,32,48,32,51,10,65,91,106,93,61,40,65,91,106,93,45,66,91,106,44,105,93,41,10]⟩:Str),(⟨[112,97,114,116,10,102,111,114,32,48,32,52,10,102,111,114,32,48,32,105,43,49,10,66,91,105,44,106,93,61,40,65,91,106,93,42,67,91,48,93,41,10]⟩:Str)]:List Str) _ hy h h2) rfl ?_;rintro I01 hs2 v2 k2 le1 - ⟨v0,kk,rfl,rfl,rfl,h4⟩ -;have H:=H.trans le1;obtain ⟨p1,c1,rfl,h5⟩:=yD h4;refine yJ [] [3] rfl<|yV<|yB 1 [] [10] rfl<|bE N fun s hy1 N=>kG rfl hy1 ?_;obtain ⟨⟨y4,y5⟩,hy2,N⟩:=zB N;refine xQ (dG s _ hy2 ) ?_;rintro I02 hs2 v2 k2 le2 - ⟨v02,v03,rfl,rfl,⟨cs,rfl,h6⟩,rfl⟩ -;have ⟨h5,H⟩:=m2 le2 h5 H;obtain ⟨p2,c2,p3,c3,rfl,h8,h9⟩:=nW h6;refine yB 6 [] [13,14] rfl<|wH zTwo ?_;intro b2 hb2;refine xI 0 (cProg y4 p2 c2 p3 c3) rfl<|yJ [] [5] rfl<|zZ<|yC ?_;obtain ⟨o0,ho0,hMc⟩:=zB N;refine qL (fun I' hs' m'=>∃ (t20:Bool) (x:zL) (p4:Option Addr) (c4:Nat),o0=(t20,x)∧I02.le I'∧(S4 I' p4 x.b c4)∧hs'=[hB b2 (cProg y4 p2 c2 p3 c3),hB r01 (cRd x p4 c4),hB b zTwo]∧m'=[(0,vP r01 0),(2,vP b 0),(4,vP b2 0),(20,.bool t20)]) ?_ ?_
 · have H:=iS I02;refine zK<|yB 2 [] [16] rfl<|xW [16] ho0 ?_ ?_
   · intro hc N;refine yB 3 [] [17] rfl<|sD (zY [1,0,2] (hs':=[hB r01 (cRd y2 p1 c1),hB b2 (cProg y4 p2 c2 p3 c3),hB b zTwo])) ?_;obtain ⟨⟨y7,y8⟩,hy3,N⟩:=zB N;refine sE (xR y2 3 _ hy3 h5) rfl ?_;rintro I04 hs2 v2 k2 le3 - ⟨v06,kk1,rfl,rfl,rfl,h12⟩ -;have H:=H.trans le3;obtain ⟨p5,c5,rfl,h13⟩:=yD h12;exact yJ [] [20] rfl<|xT (zX [1,0,2] rfl (by decide))<|yQ<|zT ⟨_,_,_,_,(zC N).symm,H,h13,rfl,rfl⟩
   intro hc N;exact wG [] [(20,vF)]<|yQ<|zT ⟨_,_,_,_,(zC N).symm,H,h5,rfl,rfl⟩
 rintro I03 hs2 m2 ⟨t20,x,p4,c4,heq,le4,h10,rfl,rfl⟩;subst o0;have ⟨h8,h9⟩:=m2 le4 h8 h9;refine zI<|yE hMc ?_ ?_
 · intro hc1 N;refine yF<|fW 1 [0] [(21,vA (cProg y4 p2 c2 p3 c3))]<|xI 2 (cProg y4 p2 c2 p3 c3) rfl<|yA rfl<|xG<|zH ?_;obtain rfl:=zC N;exact xA ⟨_,_,(.cell 2 rfl rfl (by kernel_rfl) ResV.nil),(zX [1] rfl (by decide)),⟨_,_,rfl,rfl,⟨_,rfl,(vE ⟨_,_,rfl,h8,h9⟩)⟩,(yR ⟨_,rfl,h10⟩)⟩⟩
 intro hc1 N;refine zS<|yV<|yB 1 [] [22] rfl<|sD (zY [1,0,2] (hs':=[hB r01 (cRd x p4 c4),hB b2 (cProg y4 p2 c2 p3 c3),hB b zTwo])) ?_;obtain ⟨⟨y10,y11⟩,hy4,N⟩:=zB N;refine sE (zG2 x _ hy4 h10) rfl ?_;rintro I05 hs2 v2 k2 le5 - ⟨v08,kk2,rfl,rfl,⟨cs1,rfl,h14⟩,h15⟩ -;obtain ⟨p6,c6,p7,c7,rfl,h16,h17⟩:=nW h14;obtain ⟨p8,c8,rfl,h18⟩:=yD h15;refine xI 2 (cProg y10 p6 c6 p7 c7) rfl<|yA rfl<|zI<|yW ?_;obtain rfl:=zC N;exact xA ⟨_,_,(.cell 2 rfl rfl (by kernel_rfl) ResV.nil),(zX [0] rfl (by decide)),⟨_,_,rfl,rfl,⟨_,rfl,(vE ⟨_,_,rfl,h16,h17⟩)⟩,(yR ⟨_,rfl,h18⟩)⟩⟩
def zER (b0:Nat) (r:zE×zL):KT:=fun kk I' hs' v=>
  ∃ v0 k0,hs'=[.blk b0 ⟨k0⟩]∧v=tupV [v0]∧(∃ cs,v0=.agg ⟨cs⟩∧Rp.rep I' cs r.1)∧Rp.rep I' k0 r.2
def zAO (r0:zL):Option (zE×zL):=do
 let (y1,y2)←rW r0 ([(⟨[112,97,114,116,10,102,111,114,32,48,32,51,10,102,111,114,32,48,32,52,10,67,91,105,93,61,40,67,91,105,93,43,66,91,105,44,106,93,41,10]⟩:Str),(⟨[112,97,114,116,10,102,111,114,32,48,32,52,10,65,91,48,93,61,40,65,91,48,93,45,123,105,125,41,10,67,91,48,93,61,65,91,48,93,10]⟩:Str),(⟨[112,97,114,116,10,102,111,114,32,48,32,51,10,102,111,114,32,48,32,51,10,65,91,105,43,106,93,61,40,65,91,105,43,106,93,43,123,50,42,105,43,106,125,41,10,112,97,114,116,10,102,111,114,32,48,32,53,10,65,91,105,93,61,40,65,91,105,93,45,67,91,48,93,41,10]⟩:Str),(⟨[112,97,114,116,10,102,111,114,32,48,32,52,10,65,91,49,93,61,40,65,91,49,93,42,123,105,43,50,125,41,10,65,91,50,93,61,40,65,91,50,93,43,65,91,49,93,41,10]⟩:Str)]:List Str)
 let s←cat (⟨[112,114,111,103,114,97,109,10,97,114,114,97,121,32,65,32,54,10,97,114,114,97,121,32,66,32,52,32,53,10,97,114,114,97,121,32,67,32,51,10]⟩:Str) y1
 let (y4,y5)←pD s
 let (t20,x)←(do
   if y5 then
    let (y7,y8)←yU y2 3
    pure ((decide (y7 > 0)),y8)
   else
    pure (false,y2)
     : Option (Bool×zL))
 if t20 then
  pure (y4,x)
 else
  let (y10,y11)←fM x
  pure (y10,y11)
theorem zFg:∀ r0 r,zAO r0=some r→∀ {I:Imm}{r01:Nat}{p c},(S4 I p r0.b c)→RT 48 [vP r01 0] I [hB r01 (cRd r0 p c)] (zER r01 r):=by
 intro r0 r N I r01 p c h;unfold zAO at N;refine yM Tryz.func48 fun B=>?_;have H:=iS I;refine yF<|wH zTwo ?_;intro b hb;refine yA rfl<|yV<|yB 1 [] [6] rfl<|nQ (rT [(⟨[112,97,114,116,10,102,111,114,32,48,32,51,10,102,111,114,32,48,32,52,10,67,91,105,93,61,40,67,91,105,93,43,66,91,105,44,106,93,41,10]⟩:Str),(⟨[112,97,114,116,10,102,111,114,32,48,32,52,10,65,91,48,93,61,40,65,91,48,93,45,123,105,125,41,10,67,91,48,93,61,65,91,48,93,10]⟩:Str),(⟨[112,97,114,116,10,102,111,114,32,48,32,51,10,102,111,114,32,48,32,51,10,65,91,105,43,106,93,61,40,65,91,105,43,106,93,43,123,50,42,105,43,106,125,41,10,112,97,114,116,10,102,111,114,32,48,32,53,10,65,91,105,93,61,40,65,91,105,93,45,67,91,48,93,41,10]⟩:Str),(⟨[112,97,114,116,10,102,111,114,32,48,32,52,10,65,91,49,93,61,40,65,91,49,93,42,123,105,43,50,125,41,10,65,91,50,93,61,40,65,91,50,93,43,65,91,49,93,41,10]⟩:Str)]) ?_;intro b1 I0 le h2;have ⟨h,H⟩:=m2 le h H;refine sD (zY [1,0] (hs':=[hB r01 (cRd r0 p c),hB b zTwo])) ?_;obtain ⟨⟨y1,y2⟩,hy,N⟩:=zB N;refine sE (kQ r0 ([(⟨[112,97,114,116,10,102,111,114,32,48,32,51,10,102,111,114,32,48,32,52,10,67,91,105,93,61,40,67,91,105,93,43,66,91,105,44,106,93,41,10]⟩:Str),(⟨[112,97,114,116,10,102,111,114,32,48,32,52,10,65,91,48,93,61,40,65,91,48,93,45,123,105,125,41,10,67,91,48,93,61,65,91,48,93,10]⟩:Str),(⟨[112,97,114,116,10,102,111,114,32,48,32,51,10,102,111,114,32,48,32,51,10,65,91,105,43,106,93,61,40,65,91,105,43,106,93,43,123,50,42,105,43,106,125,41,10,112,97,114,116,10,102,111,114,32,48,32,53,10,65,91,105,93,61,40,65,91,105,93,45,67,91,48,93,41,10]⟩:Str),(⟨[112,97,114,116,10,102,111,114,32,48,32,52,10,65,91,49,93,61,40,65,91,49,93,42,123,105,43,50,125,41,10,65,91,50,93,61,40,65,91,50,93,43,65,91,49,93,41,10]⟩:Str)]:List Str) _ hy h h2) rfl ?_;rintro I01 hs2 v2 k2 le1 - ⟨v0,kk,rfl,rfl,rfl,h4⟩ -;have H:=H.trans le1;obtain ⟨p1,c1,rfl,h5⟩:=yD h4;refine yJ [] [3] rfl<|yV<|yB 1 [] [10] rfl<|bE N fun s hy1 N=>kG rfl hy1 ?_;obtain ⟨⟨y4,y5⟩,hy2,N⟩:=zB N;refine xQ (dG s _ hy2 ) ?_;rintro I02 hs2 v2 k2 le2 - ⟨v02,v03,rfl,rfl,⟨cs,rfl,h6⟩,rfl⟩ -;have ⟨h5,H⟩:=m2 le2 h5 H;obtain ⟨p2,c2,p3,c3,rfl,h8,h9⟩:=nW h6;refine yB 6 [] [13,14] rfl<|wH zTwo ?_;intro b2 hb2;refine xI 0 (cProg y4 p2 c2 p3 c3) rfl<|yJ [] [5] rfl<|zZ<|yC ?_;obtain ⟨o0,ho0,hMc⟩:=zB N;refine qL (fun I' hs' m'=>∃ (t20:Bool) (x:zL) (p4:Option Addr) (c4:Nat),o0=(t20,x)∧I02.le I'∧(S4 I' p4 x.b c4)∧hs'=[hB b2 (cProg y4 p2 c2 p3 c3),hB r01 (cRd x p4 c4),hB b zTwo]∧m'=[(0,vP r01 0),(2,vP b 0),(4,vP b2 0),(20,.bool t20)]) ?_ ?_
 · have H:=iS I02;refine zK<|yB 2 [] [16] rfl<|xW [16] ho0 ?_ ?_
   · intro hc N;refine yB 3 [] [17] rfl<|sD (zY [1,0,2] (hs':=[hB r01 (cRd y2 p1 c1),hB b2 (cProg y4 p2 c2 p3 c3),hB b zTwo])) ?_;obtain ⟨⟨y7,y8⟩,hy3,N⟩:=zB N;refine sE (xR y2 3 _ hy3 h5) rfl ?_;rintro I04 hs2 v2 k2 le3 - ⟨v06,kk1,rfl,rfl,rfl,h12⟩ -;have H:=H.trans le3;obtain ⟨p5,c5,rfl,h13⟩:=yD h12;exact yJ [] [20] rfl<|xT (zX [1,0,2] rfl (by decide))<|yQ<|zT ⟨_,_,_,_,(zC N).symm,H,h13,rfl,rfl⟩
   intro hc N;exact wG [] [(20,vF)]<|yQ<|zT ⟨_,_,_,_,(zC N).symm,H,h5,rfl,rfl⟩
 rintro I03 hs2 m2 ⟨t20,x,p4,c4,heq,le4,h10,rfl,rfl⟩;subst o0;have ⟨h8,h9⟩:=m2 le4 h8 h9;refine zI<|yE hMc ?_ ?_
 · intro hc1 N;refine yF<|fW 1 [0] [(21,vA (cProg y4 p2 c2 p3 c3))]<|xI 2 (cProg y4 p2 c2 p3 c3) rfl<|yA rfl<|xG<|zH ?_;obtain rfl:=zC N;exact xA ⟨_,_,(.cell 2 rfl rfl (by kernel_rfl) ResV.nil),(zX [1] rfl (by decide)),⟨_,_,rfl,rfl,⟨_,rfl,(vE ⟨_,_,rfl,h8,h9⟩)⟩,(yR ⟨_,rfl,h10⟩)⟩⟩
 intro hc1 N;refine zS<|yV<|yB 1 [] [22] rfl<|sD (zY [1,0,2] (hs':=[hB r01 (cRd x p4 c4),hB b2 (cProg y4 p2 c2 p3 c3),hB b zTwo])) ?_;obtain ⟨⟨y10,y11⟩,hy4,N⟩:=zB N;refine sE (zG3 x _ hy4 h10) rfl ?_;rintro I05 hs2 v2 k2 le5 - ⟨v08,kk2,rfl,rfl,⟨cs1,rfl,h14⟩,h15⟩ -;obtain ⟨p6,c6,p7,c7,rfl,h16,h17⟩:=nW h14;obtain ⟨p8,c8,rfl,h18⟩:=yD h15;refine xI 2 (cProg y10 p6 c6 p7 c7) rfl<|yA rfl<|zI<|yW ?_;obtain rfl:=zC N;exact xA ⟨_,_,(.cell 2 rfl rfl (by kernel_rfl) ResV.nil),(zX [0] rfl (by decide)),⟨_,_,rfl,rfl,⟨_,rfl,(vE ⟨_,_,rfl,h16,h17⟩)⟩,(yR ⟨_,rfl,h18⟩)⟩⟩
def zAm (r:zE):KT:=fun kk I' hs' v=>
  ∃ v0,hs'=[]∧v=tupV [v0]∧(∃ cs,v0=.agg ⟨cs⟩∧Rp.rep I' cs r)
def eN (code:(List UInt8)):Option (zE):=do
 let y←gD code
 let (y2,y3)←zAO y
 let (y5,y6)←pH y3 y2
 pure (id y5)
theorem zHq:∀ code r,eN code=some r→∀ {I:Imm}{p c},(S4 I p code c)→RT 27 [vS p code c] I [] (zAm  r):=by
 intro code r N I p c h;unfold eN at N;refine yM Tryz.func27 fun B=>yF<|wH zTwo ?_;intro b hb;refine yA rfl<|yV<|yB 1 [] [4] rfl<|bE N fun y hy N=>xQ (zF3 code _ hy h) ?_;rintro I0 hs2 v2 k2 le - ⟨b1,p1,c1,rfl,rfl,h1⟩ -;refine yJ [] [3] rfl<|yV<|yB 2 [] [6,7] rfl ?_;obtain ⟨⟨y2,y3⟩,hy1,N⟩:=zB N;refine sE (zFg y _ hy1 h1) rfl ?_;rintro I01 hs2 v2 k2 le1 - ⟨v0,kk,rfl,rfl,⟨cs,rfl,h2⟩,h3⟩ -;obtain ⟨p2,c2,p3,c3,rfl,h4,h5⟩:=nW h2;obtain ⟨p4,c4,rfl,h6⟩:=yD h3;obtain ⟨⟨y5,y6⟩,hy2,N⟩:=zB N;refine sE (zEo y3 y2 _ hy2 h6 h4 h5) rfl ?_;rintro I02 hs2 v2 k2 le2 - ⟨v04,kk1,rfl,rfl,⟨cs1,rfl,h7⟩,h8⟩ -;obtain ⟨p5,c5,p6,c6,rfl,h9,h10⟩:=nW h7;obtain ⟨p7,c7,rfl,h11⟩:=yD h8;refine xI 1 (cProg y5 p5 c5 p6 c6) rfl<|yA rfl<|zI<|yW ?_;obtain rfl:=zC N;exact xA ⟨_,_,(.cell 1 rfl rfl (by kernel_rfl) ResV.nil),zQ,⟨_,rfl,rfl,⟨_,rfl,(vE ⟨_,_,rfl,h9,h10⟩)⟩⟩⟩
def zAU (r:(List Int)×Int):KT:=fun kk I' hs' v=>
  ∃ v0 v1,hs'=[]∧v=tupV [v0,v1]∧SL I' v0 r.1∧v1=.int .i64 r.2
def vR (p:zE) (x:zO) (y1:(List zJ)) (out:List Int) (t17:Int):Option (List Int):=do
 if (decide (t17 < (y1.length:Int))) then
  let x1←idx y1 t17
  let y2←tV p x1 x.Point
  let out2←app 8 out ([y2]:List Int)
  vR p x y1 out2 (W (t17 + 1))
 else
  pure (id out)
 partial_fixpoint
theorem zAP (p:zE) (x:zO) (y1:(List zJ)):∀ (out:List Int) (t17:Int) (o:List Int),vR p x y1 out t17=some o→∀ {B}{I0 I:Imm}{Q}{y:zN}{p1 c p2 c1 p3 c2}{b:Nat}{b1:Nat}{p4 c3 p5 c4 p6 c5 p7 c6}{b2:Nat}{p8 c7 p9 c8 cs1},I0.le I→(S4 I p8 y1 c7)→(S4 I p4 y.Write.Subs c3)→(S4 I p5 y.Value.Index.Coefs c4)→(S4 I p6 y.Value.Read.Subs c5)→(S4 I p7 y.Value.Kids c6)→(S4 I p3 x.Point c2)→(S4 I p1 p.Arrays c)→(S4 I p2 p.Parts c1)→(RL I cs1 out)→NG Q→NO Q→(∀ (I':Imm) (out1:List Int) (p10:Option Addr) (c9:Nat) (cs2:List Value),o=out1→I0.le I'→(RL I' cs2 out1)→T 37 B Q (.exit 0) I' [hO Int (vS p10 out1 c9) cs2,hB b2 (cStmt y p4 c3 p5 c4 p6 c5 p7 c6),hB b1 (cInst x p3 c2),hB b (cProg p p1 c p2 c1)] [(2,vP b 0),(3,vP b1 0),(6,vP b2 0),(7,vS p10 out1 c9)])→J Tryz.prog 37 B (nav (bodyOf Tryz.f123) [1,1,1,0,1,0]) Q I [hO Int (vS p9 out c8) cs1,hB b2 (cStmt y p4 c3 p5 c4 p6 c5 p7 c6),hB b1 (cInst x p3 c2),hB b (cProg p p1 c p2 c1)] [(2,vP b 0),(3,vP b1 0),(6,vP b2 0),(7,vS p9 out c8),(15,vS p8 y1 c7),(16,vI (y1.length:Int)),(17,vI t17)]:=by
 refine vR.partial_correctness p x y1 _ fun self ih out t17 o N B I0 I Q y p1 c p2 c1 p3 c2 b b1 p4 c3 p5 c4 p6 c5 p7 c6 b2 p8 c7 p9 c8 cs1 H h8 h4 h5 h6 h7 h2 h h1 h10 hg ho hx=>yT hg ho<|yG [18] rfl<|zZ<|yE N ?_ ?_
 · intro hc N;refine zS<|zZ<|yH<|yF<|bE N fun x1 hy2 N=>xJ rfl rfl h8 hy2 ?_;intro ad ccs hat hrep;obtain ⟨p11,c10,rfl,h12⟩:=qN hrep;refine yX 0 hat (cAccess x1 p11 c10) (vA (cAccess x1 p11 c10)) rfl<|wH [vT ([]),z0] ?_;intro b3 hb3;refine xI 0 (cAccess x1 p11 c10) rfl<|yA rfl<|zI<|zK<|fW 5 [4,0,3] [(21,vS p9 out c8),(22,vA (cProg p p1 c p2 c1)),(23,vA (cAccess x1 p11 c10)),(25,vS p3 x.Point c2)]<|bE N fun y2 hy3 N=>gS (mI p x1 x.Point _ hy3 h h1 h12 h2) ?_;intro I02 le2;have ⟨h8,h10,h4,h5,h6,h7⟩:=m6 le2 h8 h10 h4 h5 h6 h7;have ⟨h2,h,h1,H⟩:=m4 le2 h2 h h1 H;refine tH [vI y2] Int ?_;intro b4 hb4;have h14:RL I02 [vI y2] ([y2]:List Int):=rI [y2];obtain ⟨out2,hy4,N⟩:=zB N;exact qI 3 1 2 rfl rfl rfl h10 (.inr ⟨0,rfl⟩) h14 hy4 fun p12 c11 cs3 h15=>sD (zY [1,2,3,4,5] (hs':=[hB b3 (cAccess x1 p11 c10),hO Int (vS p12 out2 c11) cs3,hB b2 (cStmt y p4 c3 p5 c4 p6 c5 p7 c6),hB b1 (cInst x p3 c2),hB b (cProg p p1 c p2 c1)]))<|yJ [] [7] rfl<|zP<|zI<|zK<|yJ [] [17] rfl<|yS<|kX (zX [1,2,3,4] rfl (by decide))<|nG<|ih out2 (W (t17 + 1)) _ N H h8 h4 h5 h6 h7 h2 h h1 h15 hg ho hx
 intro hc N;exact wT<|yQ<|hx _ _ _ _ _ (zC N).symm H h10
def pA (p:zE) (x:zO):Option ((List Int)×Int):=do
 let y←pC p x
 let y1←nH y.Value
 let out1←vR p x y1 ([]:List Int) 0
 let y3←tV p y.Write x.Point
 pure (out1,y3)
theorem zBK:∀ p x r,pA p x=some r→∀ {I:Imm}{p1 c p2 c1 p3 c2},(S4 I p1 p.Arrays c)→(S4 I p2 p.Parts c1)→(S4 I p3 x.Point c2)→RT 123 [vA (cProg p p1 c p2 c1),vA (cInst x p3 c2)] I [] (zAU  r):=by
 intro p x r N I p1 c p2 c1 p3 c2 h h1 h2;unfold pA at N;refine yM Tryz.func123 fun B=>yF<|vX (cProg p p1 c p2 c1) ?_;intro b hb;refine vX (cInst x p3 c2) ?_;intro b1 hb1;refine wG [] []<|yV<|fW 2 [1,0] [(10,vA (cProg p p1 c p2 c1)),(11,vA (cInst x p3 c2))]<|bE N fun y hy N=>xQ (gB p x _ hy h h1 h2) ?_;rintro I0 hs2 v2 k2 le - ⟨v0,rfl,rfl,⟨cs,rfl,h3⟩⟩ -;have ⟨h2,h,h1⟩:=m3 le h2 h h1;obtain ⟨p4,c3,p5,c4,p6,c5,p7,c6,rfl,h4,h5,h6,h7⟩:=tG h3;refine wH [vT ([]),z0,vI 0,vI 0,z0,vI 0,vT ([]),z0,z0] ?_;intro b2 hb2;refine xI 0 (cStmt y p4 c3 p5 c4 p6 c5 p7 c6) rfl<|yA rfl<|zF0 [(7,z0)]<|zZ<|yF<|fW 2 [0] [(14,vA (cExpr y.Value p5 c4 p6 c5 p7 c6))]<|bE N fun y1 hy1 N=>xQ (zAg y.Value _ hy1 h5 h6 h7) ?_;rintro I01 hs2 v2 k2 le1 - ⟨v05,rfl,rfl,h8⟩ -;have ⟨h4,h5,h6,h7,h2,h⟩:=m6 le1 h4 h5 h6 h7 h2 h;have h1:=h1.mono le1;obtain ⟨p8,c7,rfl⟩:=h8.form;refine yJ [] [16,17] rfl<|xZ<|pJ [(2,vP b 0),(3,vP b1 0),(6,vP b2 0),(7,z0),(15,vS p8 y1 c7),(16,vI (y1.length:Int)),(17,vI 0)]<|zAE Int fun h9=>?_;obtain ⟨o0,ho0,hMl⟩:=zB N;refine zAP p x y1 ([]:List Int) 0 o0 ho0 iR h8 h4 h5 h6 h7 h2 h h1 h9 (fun _ _ _ h=>h) (fun _ _ h=>h) ?_;intro I03 out1 p10 c9 cs2 heq le3 h11;subst o0;have ⟨h4,h2,h,h1⟩:=m4 le3 h4 h2 h h1;refine zR<|yV<|fW 6 [3,1,2] [(30,vS p10 out1 c9),(31,vA (cProg p p1 c p2 c1)),(33,vA (cAccess y.Write p4 c3)),(35,vS p3 x.Point c2)] ?_;obtain ⟨y3,hy5,N⟩:=zB hMl;refine gS (mI p y.Write x.Point _ hy5 h h1 h4 h2) ?_;intro I04 le4;have h11:=iM le4 h11;refine yJ [] [4,5] rfl<|xG<|yY 0 rfl ?_;intro I05 le5 hl0;have h17:=SL.of_frozen hl0 le5 h11;obtain rfl:=zC N;exact xA ⟨_,_,(.tmp rfl (.tmp rfl ResV.nil)),zQ,⟨_,_,rfl,rfl,h17,rfl⟩⟩
def zFh (r:(Option tT)×Bool):KT:=fun kk I' hs' v=>
  ∃ v0 v1,hs'=[]∧v=tupV [v0,v1]∧FP I' v0 r.1∧v1=.bool r.2
def nA (p:zE) (y1:(List zO)) (t24:Int) (reads:List (List Int)) (writes:List Int):Option ((List (List Int)×List Int)):=do
 if (decide (t24 < (y1.length:Int))) then
  let x←idx y1 t24
  let (y4,y5)←pA p x
  let l←app 24 reads ([y4]:List (List Int))
  let l1←app 8 writes ([y5]:List Int)
  nA p y1 (W (t24 + 1)) l l1
 else
  pure (reads,writes)
 partial_fixpoint
theorem zFF (p:zE) (y1:(List zO)):∀ (t24:Int) (reads:List (List Int)) (writes:List Int) (o:(List (List Int)×List Int)),nA p y1 t24 reads writes=some o→∀ {B}{I0 I:Imm}{Q p1 c p2 c1}{b:Nat}{p3 c2}{b1:Nat}{p4 c3 cs p5 c4 cs1},I0.le I→(S4 I p3 y1 c2)→(S4 I p1 p.Arrays c)→(S4 I p2 p.Parts c1)→(RL I cs reads)→(RL I cs1 writes)→NG Q→NO Q→(∀ (I':Imm) (reads1:List (List Int)) (writes1:List Int) (p6:Option Addr) (c5:Nat) (cs2:List Value) (p7:Option Addr) (c6:Nat) (cs3:List Value),o=(reads1,writes1)→I0.le I'→(RL I' cs2 reads1)→(RL I' cs3 writes1)→T 56 B Q (.exit 0) I' [hO Int (vS p7 writes1 c6) cs3,hO (List Int) (vS p6 reads1 c5) cs2,hB b1 [vS p1 p.Arrays c,vS p2 p.Parts c1,vS p3 y1 c2,vS p6 reads1 c5,vS p7 writes1 c6]] [(6,vP b1 0)])→J Tryz.prog 56 B (nav (bodyOf Tryz.f76) [1,1,1,1,0,1,0]) Q I [hO Int (vS p5 writes c4) cs1,hO (List Int) (vS p4 reads c3) cs,hB b1 [vS p1 p.Arrays c,vS p2 p.Parts c1,vS p3 y1 c2,vS p4 reads c3,vS p5 writes c4],hB b (cProg p p1 c p2 c1)] [(1,vP b 0),(6,vP b1 0),(22,vS p3 y1 c2),(23,vI (y1.length:Int)),(24,vI t24)]:=by
 refine nA.partial_correctness p y1 _ fun self ih t24 reads writes o N B I0 I Q p1 c p2 c1 b p3 c2 b1 p4 c3 cs p5 c4 cs1 H h2 h h1 h6 h7 hg ho hx=>yT hg ho<|yG [25] rfl<|zZ<|yE N ?_ ?_
 · intro hc1 N;refine zS<|zZ<|yH<|yF<|bE N fun x hy1 N=>xJ rfl rfl h2 hy1 ?_;intro ad ccs hat hrep;obtain ⟨p8,c7,rfl,h10⟩:=qF hrep;refine yX 0 hat (cInst x p8 c7) (vA (cInst x p8 c7)) rfl<|wH [vI 0,vI 0,z0] ?_;intro b2 hb2;refine xI 0 (cInst x p8 c7) rfl<|yA rfl<|yV<|fW 2 [4,0] [(29,vA (cProg p p1 c p2 c1)),(30,vA (cInst x p8 c7))] ?_;obtain ⟨⟨y4,y5⟩,hy2,N⟩:=zB N;refine xQ (zBK p x _ hy2 h h1 h10) ?_;rintro I01 hs2 v2 k2 le1 - ⟨v03,v04,rfl,rfl,h11,rfl⟩ -;have ⟨h2,h7,h6,h,h1,H⟩:=m6 le1 h2 h7 h6 h h1 H;obtain ⟨p9,c8,rfl⟩:=h11.form;refine yJ [] [9,10] rfl<|zI ?_;obtain ⟨l,hy3,N⟩:=zB N;obtain ⟨l1,hy4,N⟩:=zB N;refine wA [.p (vP b1 0) [],.p (vP b1 0) [],.p (vP b1 0) [],.p (vP b1 0) [],.p (vP b1 3) [],.q (vS p4 reads c3),.p (vS p9 y4 c8) [],.x (fun I' v hx=>∃ b3,v=vS (some ⟨b3,0,none⟩) ([y4]:List (List Int)) 1∧hx=[]∧(SL I' (vS (some ⟨b3,0,none⟩) ([y4]:List (List Int)) 1) ([y4]:List (List Int)))),.x (fun I' v hx=>∃ p10 c9 cs4,v=vS p10 l c9∧hx=[hO (List Int) (vS p10 l c9) cs4]∧(RL I' cs4 l)),.p (vP b1 0) [],.p (vP b1 0) [],.p (vP b1 4) [],.q (vS p5 writes c4),.p (vI y5) [],.x (fun I' v hx=>∃ b4,v=vS (some ⟨b4,0,none⟩) ([y5]:List Int) 1∧hx=[]∧(SL I' (vS (some ⟨b4,0,none⟩) ([y5]:List Int) 1) ([y5]:List Int))),.x (fun I' v hx=>∃ p11 c10 cs5,v=vS p11 l1 c10∧hx=[hO Int (vS p11 l1 c10) cs5]∧(RL I' cs5 l1)),.p (vP b1 0) [],.p (vP b1 3) [],.x (fun I' v hx=>∃ p101 c91 cs41,hx=[hB b1 [vS p1 p.Arrays c,vS p2 p.Parts c1,vS p3 y1 c2,vS p101 l c91,vS p5 writes c4],hO (List Int) (vS p101 l c91) cs41]∧(RL I' cs41 l))] [[],[],[],[(2,false)],[(3,false)],[(4,false),(24,false)],[],[(6,false)],[(5,false),(7,false),(22,true)],[],[(9,false)],[(10,false)],[(11,false),(24,false)],[],[(13,false)],[(12,false),(14,false),(23,true)],[(0,false)],[(16,false)],[(8,true),(17,false),(24,true)]] [hB b2 (cInst x p8 c7),hB b (cProg p p1 c p2 c1)] [[hO (List Int) (vS p4 reads c3) cs],[hO Int (vS p5 writes c4) cs1],[hB b1 [vS p1 p.Arrays c,vS p2 p.Parts c1,vS p3 y1 c2,vS p4 reads c3,vS p5 writes c4]]] [(1,false),(15,true),(18,true)] (zY [0,4,2,1,3]) ?_ ?_
   · refine Op<|Op<|Op<|Op<|Op<|Ob ?_<|Op<|Ox ?_<|Ox ?_<|Op<|Op<|Op<|Ob ?_<|Op<|Ox ?_<|Ox ?_<|Op<|Op<|Ox ?_<|On
     · intro I1 hf le1 hbo;obtain ⟨hf2,hbp⟩:=hbo.at (j:=24) (g:=[hB b1 [vS p1 p.Arrays c,vS p2 p.Parts c1,vS p3 y1 c2,vS p4 reads c3,vS p5 writes c4]]) (by decide) (by kernel_rfl) rfl;refine xX ?_;rintro _ _ ⟨rfl,rfl⟩;refine xX ?_;rintro _ _ rfl;refine nT<|zLl hbp<|zBh [(38,vP b1 3)] ?_;exact zCz (cs:=[vS p4 reads c3]) (v:=vS p4 reads c3) 2 rfl rfl rfl rfl rfl (by kernel_rfl) (by kernel_rfl) (by kernel_rfl)<|yP iR
     · intro I1 hf le1;refine yN [40] rfl ?_;have H:=iS I1;have h11:=h11.mono le1;refine nQ (rc y4 ⟨_,rfl,h11⟩ rN) ?_;intro b3 I02 le2 h14;have H:=H.trans le2;exact yI [] H ⟨_,rfl,rfl,h14⟩
     · rintro I1 hf le1 _ _ ⟨rfl,rfl⟩ _ _ ⟨b3,rfl,rfl,h14⟩ _ _ rfl;refine yN [39,41] rfl ?_;have h6:=iM le1 h6;obtain ⟨ccs1,k0,k01⟩:=h14;have h14:SL I1 (vS (some ⟨b3,0,none⟩) ([y4]:List (List Int)) 1) ([y4]:List (List Int)):=⟨_,k0,k01⟩;exact qI 36 1 0 rfl rfl rfl h6 (.inl k0) k01 hy3 fun p10 c9 cs4 h15=>vH (hs':=(hO (List Int) (vS p10 l c9) cs4::hB b2 (cInst x p8 c7)::hB b (cProg p p1 c p2 c1)::hf)) rfl<|yI [hO (List Int) (vS p10 l c9) cs4] iR ⟨_,_,_,rfl,rfl,h15⟩
     · intro I1 hf le1 hbo;obtain ⟨hf2,hbp⟩:=hbo.at (j:=24) (g:=[hB b1 [vS p1 p.Arrays c,vS p2 p.Parts c1,vS p3 y1 c2,vS p4 reads c3,vS p5 writes c4]]) (by decide) (by kernel_rfl) rfl;refine xX ?_;rintro _ _ ⟨rfl,rfl⟩;refine xX ?_;rintro _ _ rfl;refine nT<|zLl hbp<|zBh [(45,vP b1 4)] ?_;exact zCz (cs:=[vS p5 writes c4]) (v:=vS p5 writes c4) 2 rfl rfl rfl rfl rfl (by kernel_rfl) (by kernel_rfl) (by kernel_rfl)<|yP iR
     · intro I1 hf le1;refine yN [47] rfl ?_;have H:=iS I1;refine nQ (rI [y5]) ?_;intro b4 I03 le3 h17;have H:=H.trans le3;exact yI [] H ⟨_,rfl,rfl,h17⟩
     · rintro I1 hf le1 _ _ ⟨rfl,rfl⟩ _ _ ⟨b4,rfl,rfl,h17⟩ _ _ rfl;refine yN [46,48] rfl ?_;have h7:=iM le1 h7;obtain ⟨ccs2,k02,k03⟩:=h17;have h17:SL I1 (vS (some ⟨b4,0,none⟩) ([y5]:List Int) 1) ([y5]:List Int):=⟨_,k02,k03⟩;exact qI 3 1 0 rfl rfl rfl h7 (.inl k02) k03 hy4 fun p11 c10 cs5 h18=>vH (hs':=(hO Int (vS p11 l1 c10) cs5::hB b2 (cInst x p8 c7)::hB b (cProg p p1 c p2 c1)::hf)) rfl<|yI [hO Int (vS p11 l1 c10) cs5] iR ⟨_,_,_,rfl,rfl,h18⟩
     rintro I1 hf le1 _ _ ⟨p10,c9,cs4,rfl,rfl,h15⟩ _ _ ⟨rfl,rfl⟩ _ _ rfl;refine yN [42,51] rfl ?_;have H:=iS I1;exact zAf 0 [vS p1 p.Arrays c,vS p2 p.Parts c1,vS p3 y1 c2,vS p10 l c9,vS p5 writes c4] (hB b1 [vS p1 p.Arrays c,vS p2 p.Parts c1,vS p3 y1 c2,vS p10 l c9,vS p5 writes c4]::hO (List Int) (vS p10 l c9) cs4::hB b2 (cInst x p8 c7)::hB b (cProg p p1 c p2 c1)::hf) rfl rfl rfl rfl<|zGF (hx:=[hB b1 [vS p1 p.Arrays c,vS p2 p.Parts c1,vS p3 y1 c2,vS p10 l c9,vS p5 writes c4],hO (List Int) (vS p10 l c9) cs4]) rfl H rfl (zIR (v:=undef)) ⟨_,_,_,rfl,h15⟩
   rintro I04 le4 _ _ ⟨rfl,rfl⟩ _ _ ⟨p11,c10,cs5,rfl,rfl,h18⟩ _ _ ⟨p101,c91,cs41,rfl,h151⟩;refine yN [1,6,22,23,24,35,49] rfl ?_;have ⟨h2,h,h1,H⟩:=m4 le4 h2 h h1 H;exact yB 21 [] [53] rfl<|xI 0 [vS p1 p.Arrays c,vS p2 p.Parts c1,vS p3 y1 c2,vS p101 l c91,vS p11 l1 c10] rfl<|yA rfl<|zP<|zI<|zK<|yJ [] [24] rfl<|yS<|kX (zX [2,1,0,4] rfl (by decide))<|nG<|ih (W (t24 + 1)) l l1 _ N H h2 h h1 h151 h18 hg ho hx
 intro hc1 N;exact wT<|xT (zX [0,1,2] rfl (by decide))<|yQ<|hx _ _ _ _ _ _ _ _ _ (zC N).symm H h6 h7
def gU (p:zE):Option ((Option tT)×Bool):=do
 let (y1,y2)←rP p
 if (!y2) then
  pure (none,false)
 else
  let (reads1,writes1)←nA p y1 0 ([]:List (List Int)) ([]:List Int)
  pure ((some (tT.mk p y1 reads1 writes1)),true)
theorem zCv:∀ p r,gU p=some r→∀ {I:Imm}{p1 c p2 c1},(S4 I p1 p.Arrays c)→(S4 I p2 p.Parts c1)→RT 76 [vA (cProg p p1 c p2 c1)] I [] (zFh  r):=by
 intro p r N I p1 c p2 c1 h h1;unfold gU at N;refine yM Tryz.func76 fun B=>yF<|vX (cProg p p1 c p2 c1) ?_;intro b hb;refine wG [] []<|yV<|fW 1 [0] [(12,vA (cProg p p1 c p2 c1))] ?_;obtain ⟨⟨y1,y2⟩,hy,N⟩:=zB N;refine xQ (zAT p _ hy h h1) ?_;rintro I0 hs2 v2 k2 le - ⟨v0,v01,rfl,rfl,h2,rfl⟩ -;have ⟨h,h1⟩:=m2 le h h1;obtain ⟨p3,c2,rfl⟩:=h2.form;refine yJ [] [4,5] rfl<|zZ<|yG [17] rfl<|zI<|yE N ?_ ?_
 · intro hc N;refine yG [2,3] rfl<|xG<|zH ?_;obtain rfl:=zC N;exact xA ⟨_,_,(.tmp rfl (.tmp rfl ResV.nil)),zQ,⟨_,_,rfl,rfl,zMF,rfl⟩⟩
 intro hc N;refine zS<|yV<|fW 3 [0] [(20,vA [vS p1 p.Arrays c,vS p2 p.Parts c1,vS p3 y1 c2,z0,z0])]<|vX [vS p1 p.Arrays c,vS p2 p.Parts c1,vS p3 y1 c2,z0,z0] ?_;intro b1 hb1;refine yJ [] [6] rfl<|zZ<|yG [22,23,24] rfl<|xZ<|pJ [(1,vP b 0),(6,vP b1 0),(22,vS p3 y1 c2),(23,vI (y1.length:Int)),(24,vI 0)]<|zAE (List Int) fun h4=>?_;refine zAE Int fun h5=>?_;obtain ⟨o0,ho0,hMl⟩:=zB N;refine zFF p y1 0 ([]:List (List Int)) ([]:List Int) o0 ho0 iR h2 h h1 h4 h5 (fun _ _ _ h=>h) (fun _ _ h=>h) ?_;intro I05 reads1 writes1 p6 c5 cs2 p7 c6 cs3 heq le5 h8 h9;subst o0;have ⟨h,h1,h2⟩:=m3 le5 h h1 h2;refine zR<|vG [2,3] rfl<|xG<|yY 1 rfl ?_;intro I06 le6 hl02;have h19:=SL.of_frozen hl02 le6 h8;have ⟨h9,h,h1,h2⟩:=m4 le6 h9 h h1 h2;refine yY 0 rfl ?_;intro I07 le7 hl03;have h20:=SL.of_frozen hl03 le7 h9;have ⟨h,h1,h2,h19⟩:=m4 le7 h h1 h2 h19;refine yY 0 rfl ?_;intro I08 le8 hl04;have hat1:At I08 ⟨b1,0,none⟩ [vS p1 p.Arrays c,vS p2 p.Parts c1,vS p3 y1 c2,vS p6 reads1 c5,vS p7 writes1 c6]:=At.of_blk hl04;have ⟨h,h1,h2,h19,h20⟩:=m5 le8 h h1 h2 h19 h20;obtain rfl:=zC hMl;exact xA ⟨_,_,(.tmp rfl (.tmp rfl ResV.nil)),zQ,⟨_,_,rfl,rfl,(zM5 hat1 (zEh ⟨_,_,_,_,_,rfl,h,h1,h2,h19,h20⟩)),rfl⟩⟩
end Go.LN
