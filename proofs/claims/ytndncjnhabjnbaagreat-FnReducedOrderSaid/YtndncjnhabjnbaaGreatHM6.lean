/- Helper of the proof (see the last text). -/
import Derived.Test.YtndncjnhabjnbaaGreatHM5
set_option linter.unusedVariables false
set_option linter.unusedSimpArgs false
namespace Go.LN
open Go.Proofs Go.Proofs.Tryz
set_option maxRecDepth 20000
def zHC(b0:Nat)(r:zE×zO):KT:=λkk I' ag v=>
 ∃v0 k0,ag=[.blk b0 ⟨k0⟩]/\v=tupV [v0]/\(∃cs,v0=.agg ⟨cs⟩/\Rp.rep I' cs r.1)/\Rp.rep I' k0 r.2
def zAK(r0:zO)(ae:Int):Option (zE×zO):=do
 let (y1,y2)<-xB r0 ([0,0,1,0,(-1)]:List Int);let y3<-vO y1;let (y5,y6)<-xB y2 ([3,4,2,3,1]:List Int);let y7<-vO y5;let (t23,x)<-(do
  if(decide (ae>0)) then
   let (y9,y10)<-xC y6 4;pure ((y9==0),y10)
  else
   pure (false,y6)
    : Option (Bool×zO))
 let (x1,x2,x3)<-(do
  if t23 then
   let (y12,y13)<-xC x ae;let (y15,y16)<-xC y13 2;let (x4,x5)<-(do
    if(y15==0) then
     let y17<-kR y12;pure (y17,(zA.mk y7.Coefs y7.Const))
    else
     let y18<-kR y12;let y19<-vO 1;let y20<-kX y18 1 y19 1;pure ((zA.mk y3.Coefs y3.Const),y20)
      : Option (zA×zA))
   pure (x4,x5,y16)
  else
   pure ((zA.mk y3.Coefs y3.Const),(zA.mk y7.Coefs y7.Const),x)
    : Option (zA×zA×zO))
 let (y22,y23)<-xC x3 12;let (Lo,Hi,x6)<-(do
  if(y22==0) then
   let (y25,y26)<-xB y23 ([3,2,4]:List Int);let y27<-vO y25;let l<-app 32 ([x2]:List zA) ([y27]:List zA);pure (([x1]:List zA),l,y26)
  else
   let (Lo1,x7)<-(do
    if(y22==1) then
     let (y29,y30)<-xB y23 ([0,1]:List Int);let y31<-vO y29;let l1<-app 32 ([x1]:List zA) ([y31]:List zA);pure (l1,y30)
    else
     pure (([x1]:List zA),y23)
      : Option (List zA×zO))
   pure (Lo1,([x2]:List zA),x7)
    : Option (List zA×List zA×zO))
 pure ((zE.mk Lo Hi),x6)
theorem zIf:∀r0 ae r,zAK r0 ae=some r->∀{I:Imm}{aw}{p c},(S4 I p r0.b c)->RT 146 [vP aw 0,vI ae] I [hB aw (cRd r0 p c)] (zHC aw r):=by
 intro r0 ae r N I aw p c h;unfold zAK at N;refine yL func146 λB=>?_;have H:=iS I;refine yF<|wI zTwo ?_;intro b hb;refine yA rfl<|yW<|yG 1 [] [9] rfl<|kM (rI [0,0,1,0,(-1)]) ?_;intro b1 I0 le h2;have ⟨h,H⟩:=m2 le h H;refine tX (zY [1,0] (ag:=[hB aw (cRd r0 p c),hB b zTwo])) ?_;obtain⟨⟨y1,y2⟩,hy,N⟩:=zB N;refine sG (xJ r0 ([0,0,1,0,(-1)]:List Int) _ hy h h2) rfl ?_;rintro aT av v2 k2 aa - ⟨v0,kk,rfl,rfl,rfl,h4⟩ -;have H:=H.trans aa;obtain⟨p1,c1,rfl,h5⟩:=yD h4;obtain⟨y3,ay,N⟩:=zB N;refine xF (tC y1 _ ay ) ?_;rintro aP av v2 k2 aD - ⟨p2,c2,cs,rfl,rfl,h6⟩ -;have ⟨h5,H⟩:=m2 aD h5 H;refine wI [z0,vI 0] ?_;intro b2 hb2;refine xI 0 (cAff y3 p2 c2) rfl<|yA rfl<|yW<|yG 1 [] [13] rfl<|kM (rI [3,4,2,3,1]) ?_;intro b3 bx aH h8;have ⟨h6,h5,H⟩:=m3 aH h6 h5 H;refine tX (zY [2,0,1,3] (ag:=[hB aw (cRd y2 p1 c1),hB b2 (cAff y3 p2 c2),hO Int (vS p2 y3.Coefs c2) cs,hB b zTwo])) ?_;obtain⟨⟨y5,y6⟩,aF,N⟩:=zB N;refine sG (xJ y2 ([3,4,2,3,1]:List Int) _ aF h5 h8) rfl ?_;rintro bI av v2 k2 bf - ⟨v02,kk1,rfl,rfl,rfl,h10⟩ -;have ⟨h6,H⟩:=m2 bf h6 H;obtain⟨p3,c3,rfl,h11⟩:=yD h10;obtain⟨y7,aX,N⟩:=zB N;refine xF (tC y5 _ aX ) ?_;rintro bL av v2 k2 bu - ⟨p4,c4,az,rfl,rfl,h12⟩ -;have ⟨h11,h6,H⟩:=m3 bu h11 h6 H;refine wI [z0,vI 0] ?_;intro b4 hb4;refine xI 0 (cAff y7 p4 c4) rfl<|yA rfl<|zZ<|yB ?_;obtain⟨o0,aA,aQ⟩:=zB N;refine qQ (λI' ag m'=>∃(t23:Bool) (x:zO) (p5:Option Addr) (c5:Nat),o0=(t23,x)/\bL.le I'/\(S4 I' p5 x.b c5)/\ag=[hB b4 (cAff y7 p4 c4),hO Int (vS p4 y7.Coefs c4) az,hB aw (cRd x p5 c5),hB b2 (cAff y3 p2 c2),hO Int (vS p2 y3.Coefs c2) cs,hB b zTwo]/\m'=[(0,vP aw 0),(1,vI ae),(4,vP b 0),(5,vP b2 0),(6,vP b4 0),(23,.bool t23)]) ?_ ?_
 ·have H:=iS bL;refine zJ<|yG 3 [] [19] rfl<|xZ [19] aA ?_ ?_
  ·intro hc N;refine yG 4 [] [20] rfl<|tX (zY [2,0,1,3,4,5] (ag:=[hB aw (cRd y6 p3 c3),hB b4 (cAff y7 p4 c4),hO Int (vS p4 y7.Coefs c4) az,hB b2 (cAff y3 p2 c2),hO Int (vS p2 y3.Coefs c2) cs,hB b zTwo])) ?_;obtain⟨⟨y9,y10⟩,bk,N⟩:=zB N;refine sG (xV y6 4 _ bk h11) rfl ?_;rintro I07 av v2 k2 bG - ⟨v04,kk2,rfl,rfl,rfl,h15⟩ -;have H:=H.trans bG;obtain⟨p6,c6,rfl,h16⟩:=yD h15;exact yK [] [23] rfl<|xW (zX [1,2,0,3,4,5] rfl (by decide))<|yS<|zV ⟨_,_,_,_,(zD N).symm,H,h16,rfl,rfl⟩
  intro hc N;exact wB [] [(23,vF)]<|yS<|zV ⟨_,_,_,_,(zD N).symm,H,h11,rfl,rfl⟩
 rintro I06 av m2 ⟨t23,x,p5,c5,heq,le7,h13,rfl,rfl⟩;subst o0;have ⟨h12,h6,H⟩:=m3 le7 h12 h6 H;refine zG<|mM 4 rfl ?_;intro I08 le8 hl02;have h17:=SL.of_frozen hl02 le8 h6;have ⟨h12,h13,H⟩:=m3 le8 h12 h13 H;refine mM 1 rfl ?_;intro I09 le9 hl03;have h18:=SL.of_frozen hl03 le9 h12;have ⟨h13,h17,H⟩:=m3 le9 h13 h17 H;obtain⟨aO,aB,hMc1⟩:=zB aQ;refine qQ (λI' ag m'=>∃(x1:zA) (x2:zA) (x3:zO) (p7:Option Addr) (c7:Nat) (p8:Option Addr) (c8:Nat) (p9:Option Addr) (c9:Nat),aO=(x1,x2,x3)/\I09.le I'/\(S4 I' p7 x1.Coefs c7)/\(S4 I' p8 x2.Coefs c8)/\(S4 I' p9 x3.b c9)/\ag=[hB b4 (cAff x2 p8 c8),hB aw (cRd x3 p9 c9),hB b2 (cAff x1 p7 c7),hB b zTwo]/\m'=[(0,vP aw 0),(4,vP b 0),(5,vP b2 0),(6,vP b4 0)]) ?_ ?_
 ·have H:=iS I09;refine yE aB ?_ ?_
  ·intro aE N;refine yF<|yG 2 [] [24,25] rfl<|tX (zY [1,0,2,3] (ag:=[hB aw (cRd x p5 c5),hB b4 (cAff y7 p4 c4),hB b2 (cAff y3 p2 c2),hB b zTwo])) ?_;obtain⟨⟨y12,y13⟩,bC,N⟩:=zB N;refine sG (xV x ae _ bC h13) rfl ?_;rintro bV av v2 k2 le10 - ⟨v06,kk3,rfl,rfl,rfl,h23⟩ -;have ⟨h18,h17,H⟩:=m3 le10 h18 h17 H;obtain⟨bb,bd,rfl,h24⟩:=yD h23;refine yK [] [7] rfl<|yW<|yG 1 [] [27] rfl ?_;obtain⟨⟨y15,y16⟩,hy6,N⟩:=zB N;refine sG (xV y13 2 _ hy6 h24) rfl ?_;rintro bW av v2 k2 le11 - ⟨v08,kk4,rfl,rfl,rfl,h26⟩ -;have ⟨h18,h17,H⟩:=m3 le11 h18 h17 H;obtain⟨aR,bh,rfl,h27⟩:=yD h26;refine yK [] [29] rfl<|zG ?_;obtain⟨o02,ho02,hMc2⟩:=zB N;refine qQ (λI' ag m'=>∃(x4:zA) (x5:zA) (bz:Option Addr) (bo:Nat) (bj:Option Addr) (bw:Nat),o02=(x4,x5)/\bW.le I'/\(S4 I' bz x4.Coefs bo)/\(S4 I' bj x5.Coefs bw)/\ag=[hB aw (cRd y16 aR bh),hB b4 (cAff x5 bj bw),hB b2 (cAff x4 bz bo),hB b zTwo]/\m'=[(0,vP aw 0),(4,vP b 0),(5,vP b2 0),(6,vP b4 0)]) ?_ ?_
   ·have H:=iS bW;refine yE ho02 ?_ ?_
    ·intro aV N;refine zJ<|yG 1 [] [30] rfl<|bE N λy17 hy7 N=>xF (zAF y12 _ hy7 ) ?_;rintro I014 av v2 k2 le12 - ⟨v010,rfl,rfl,⟨aM,rfl,h30⟩⟩ -;have ⟨h18,H⟩:=m2 le12 h18 H;obtain⟨p14,c14,rfl,h31⟩:=yQ h30;exact xI 2 (cAff y17 p14 c14) rfl<|yA rfl<|yS<|zV ⟨_,_,_,_,_,_,(zD N).symm,H,h31,h18,rfl,rfl⟩
    intro aV N;refine zJ<|yG 1 [] [32] rfl<|bE N λy18 hy8 N=>xF (zAF y12 _ hy8 ) ?_;rintro I015 av v2 k2 le13 - ⟨v012,rfl,rfl,⟨aU,rfl,h32⟩⟩ -;have ⟨h17,H⟩:=m2 le13 h17 H;obtain⟨p15,c15,rfl,h33⟩:=yQ h32;obtain⟨y19,hy9,N⟩:=zB N;refine xF (tC 1 _ hy9 ) ?_;rintro I016 av v2 k2 le14 - ⟨p16,c16,bv,rfl,rfl,h34⟩ -;have ⟨h33,h17,H⟩:=m3 le14 h33 h17 H;refine xM 0 rfl ?_;intro I017 le15 hl04;have h35:=SL.of_frozen hl04 le15 h34;have ⟨h33,h17,H⟩:=m3 le15 h33 h17 H;obtain⟨y20,hy10,N⟩:=zB N;refine xF (zBn y18 1 y19 1 _ hy10 h33 h35) ?_;rintro I018 av v2 k2 le16 - ⟨v014,rfl,rfl,⟨bH,rfl,h36⟩⟩ -;have ⟨h17,H⟩:=m2 le16 h17 H;obtain⟨p17,c17,rfl,h37⟩:=yQ h36;exact xI 1 (cAff y20 p17 c17) rfl<|yA rfl<|yS<|zV ⟨_,_,_,_,_,_,(zD N).symm,H,h17,h37,rfl,rfl⟩
   rintro I013 av m2 ⟨x4,x5,bz,bo,bj,bw,heq1,le17,h28,h29,rfl,rfl⟩;subst o02;have ⟨h27,H⟩:=m2 le17 h27 H;exact xW (zX [1,0,2,3] rfl (by decide))<|yS<|zV ⟨_,_,_,_,_,_,_,_,_,(zD hMc2).symm,H,h28,h29,h27,rfl,rfl⟩
  intro aE N;exact zT<|yS<|zV ⟨_,_,_,_,_,_,_,_,_,(zD N).symm,H,h17,h18,h13,rfl,rfl⟩
 rintro bP av m2 ⟨x1,x2,x3,p7,c7,p8,c8,p9,c9,heq2,le18,h19,h20,h21,rfl,rfl⟩;subst aO;have H:=H.trans le18;refine yW<|sW 1 [2] [(36,vA (cAff x1 p7 c7))]<|uP (cAff x1 p7 c7) zA ?_;intro b5 hb5;have h38:RL bP (cAff x1 p7 c7) ([x1]:List zA):=⟨(cAff x1 p7 c7),_,rfl,rfl,(yT ⟨_,rfl,h19⟩),rfl⟩;refine sW 3 [1] [(38,vA (cAff x2 p8 c8))]<|uP (cAff x2 p8 c8) zA ?_;intro b6 hb6;have h39:RL bP (cAff x2 p8 c8) ([x2]:List zA):=⟨(cAff x2 p8 c8),_,rfl,rfl,(yT ⟨_,rfl,h20⟩),rfl⟩;refine yG 5 [] [40] rfl<|wI zTwo ?_;intro b7 hb7;refine xI 0 [vS (some ⟨b5,0,none⟩) ([x1]:List zA) 1,vS (some ⟨b6,0,none⟩) ([x2]:List zA) 1] rfl<|yA rfl<|zZ<|yF<|yG 1 [] [41] rfl<|tX (zY [4,0,1,2,3,5,6] (ag:=[hB aw (cRd x3 p9 c9),hB b7 [vS (some ⟨b5,0,none⟩) ([x1]:List zA) 1,vS (some ⟨b6,0,none⟩) ([x2]:List zA) 1],hO zA (vS (some ⟨b6,0,none⟩) ([x2]:List zA) 1) (cAff x2 p8 c8),hO zA (vS (some ⟨b5,0,none⟩) ([x1]:List zA) 1) (cAff x1 p7 c7),hB b4 (cAff x2 p8 c8),hB b2 (cAff x1 p7 c7),hB b zTwo])) ?_;obtain⟨⟨y22,y23⟩,hy11,N⟩:=zB hMc1;refine sG (xV x3 12 _ hy11 h21) rfl ?_;rintro I019 av v2 k2 le19 - ⟨v016,kk5,rfl,rfl,rfl,h41⟩ -;have ⟨h38,h39,H⟩:=m3 le19 h38 h39 H;obtain⟨p18,c18,rfl,h42⟩:=yD h41;refine yA rfl<|xY<|yH [43] rfl<|zG<|mM 4 rfl ?_;intro I020 le20 hl05;have ap:At I020 ⟨b4,0,none⟩ (cAff x2 p8 c8):=At.of_blk hl05;have ⟨h42,h38,h39,H⟩:=m4 le20 h42 h38 h39 H;refine mM 4 rfl ?_;intro I021 le21 hl06;have ar:At I021 ⟨b2,0,none⟩ (cAff x1 p7 c7):=At.of_blk hl06;have ⟨h42,h38,h39,H⟩:=m4 le21 h42 h38 h39 H;obtain⟨o03,ho03,hMc3⟩:=zB N;refine qQ (λI' ag m'=>∃(Lo:List zA) (Hi:List zA) (x6:zO) (p19:Option Addr) (c19:Nat) (cs6:List Value) (p20:Option Addr) (c20:Nat) (cs7:List Value) (p21:Option Addr) (c21:Nat),o03=(Lo,Hi,x6)/\I021.le I'/\(RL I' cs6 Lo)/\(RL I' cs7 Hi)/\(S4 I' p21 x6.b c21)/\ag=[hB aw (cRd x6 p21 c21),hB b7 [vS p19 Lo c19,vS p20 Hi c20],hO zA (vS p20 Hi c20) cs7,hO zA (vS p19 Lo c19) cs6,hB b zTwo]/\m'=[(4,vP b 0),(8,vP b7 0)]) ?_ ?_
 ·have H:=iS I021;refine yE ho03 ?_ ?_
  ·intro bD N;obtain⟨⟨y25,y26⟩,hy12,N⟩:=zB N;obtain⟨y27,hy13,N⟩:=zB N;obtain⟨l,hy14,N⟩:=zB N;refine wA [.p (vP b7 1) [],.p (vS (some ⟨b6,0,none⟩) ([x2]:List zA) 1) [0],.p (vP aw 0) [],.x (λI' v hx=>∃b8,v=vS (some ⟨b8,0,none⟩) ([3,2,4]:List Int) 3/\hx=[]/\(SL I' (vS (some ⟨b8,0,none⟩) ([3,2,4]:List Int) 3) ([3,2,4]:List Int))),.x (λI' v hx=>∃p22 c22,v=vI y25/\hx=[hB aw (cRd y26 p22 c22)]/\(S4 I' p22 y26.b c22)),.x (λI' v hx=>∃p23 c23 cs8,v=vA (cAff y27 p23 c23)/\hx=[hO Int (vS p23 y27.Coefs c23) cs8]/\(RL I' cs8 y27.Coefs)),.x (λI' v hx=>∃b9,v=vS (some ⟨b9,0,none⟩) ([y27]:List zA) 1/\hx=[]/\(SL I' (vS (some ⟨b9,0,none⟩) ([y27]:List zA) 1) ([y27]:List zA))),.x (λI' v hx=>∃p24 c24 cs9,v=vS p24 l c24/\hx=[hO zA (vS p24 l c24) cs9]/\(RL I' cs9 l))] [[],[(0,false)],[],[],[(2,false),(3,false),(10,true)],[(4,false)],[(5,true)],[(1,false),(6,false),(11,true)]] [hB b7 [vS (some ⟨b5,0,none⟩) ([x1]:List zA) 1,vS (some ⟨b6,0,none⟩) ([x2]:List zA) 1],hO zA (vS (some ⟨b5,0,none⟩) ([x1]:List zA) 1) (cAff x1 p7 c7),hB b zTwo] [[hB aw (cRd y23 p18 c18)],[hO zA (vS (some ⟨b6,0,none⟩) ([x2]:List zA) 1) (cAff x2 p8 c8)]] [(4,true),(7,true)] (zY [1,3,4,0,2]) ?_ ?_
   ·refine O3<|Ox ?_<|Ox ?_<|Ox ?_<|Ox ?_<|Ox ?_<|On
    ·intro I1 hf aa;refine eN [] ?_;have H:=iS I1;refine kM (rI [3,2,4]) ?_;intro b8 I023 le22 h47;have H:=H.trans le22;exact yM [] H ⟨_,rfl,rfl,h47⟩
    ·rintro I1 hf aa _ _ ⟨rfl,rfl⟩ _ _ ⟨b8,rfl,rfl,h47⟩ _ _ rfl;refine yP [47,48] rfl ?_;have H:=iS I1;have h42:=h42.mono aa;refine sG (xJ y23 ([3,2,4]:List Int) _ hy12 h42 h47) rfl ?_;rintro I024 av v2 k2 le23 - ⟨v018,kk6,rfl,rfl,rfl,h49⟩ -;have H:=H.trans le23;obtain⟨p22,c22,rfl,h50⟩:=yD h49;exact yM [hB aw (cRd y26 p22 c22)] H ⟨_,_,rfl,rfl,h50⟩
    ·rintro I1 hf aa _ _ ⟨p22,c22,rfl,rfl,h50⟩;refine yP [49] rfl ?_;have H:=iS I1;refine xF (tC y25 _ hy13 ) ?_;rintro I025 av v2 k2 le24 - ⟨p23,c23,cs8,rfl,rfl,h51⟩ -;have H:=H.trans le24;exact yM [hO Int (vS p23 y27.Coefs c23) cs8] H ⟨_,_,_,rfl,rfl,h51⟩
    ·rintro I1 hf aa _ _ ⟨p23,c23,cs8,rfl,rfl,h51⟩;refine yP [50] rfl ?_;have H:=iS I1;refine xM 0 rfl ?_;intro I026 le25 hl08;have h52:=SL.of_frozen hl08 le25 h51;have H:=H.trans le25;refine kM (rc y27 (yT ⟨_,rfl,h52⟩) rN) ?_;intro b9 I027 le26 h54;have H:=H.trans le26;exact yM [] H ⟨_,rfl,rfl,h54⟩
    rintro I1 hf aa _ _ ⟨rfl,rfl⟩ _ _ ⟨b9,rfl,rfl,h54⟩ _ _ rfl;refine yP [46,51] rfl ?_;have h39:=iM aa h39;obtain⟨aN,k0,k01⟩:=h54;have h54:SL I1 (vS (some ⟨b9,0,none⟩) ([y27]:List zA) 1) ([y27]:List zA):=⟨_,k0,k01⟩;exact qA 78 2 0 rfl rfl rfl h39 (.inl k0) k01 hy14 λp24 c24 cs9 h55=>uD (ag:=(hO zA (vS p24 l c24) cs9::hB b7 [vS (some ⟨b5,0,none⟩) ([x1]:List zA) 1,vS (some ⟨b6,0,none⟩) ([x2]:List zA) 1]::hO zA (vS (some ⟨b5,0,none⟩) ([x1]:List zA) 1) (cAff x1 p7 c7)::hB b zTwo::hf)) rfl<|yM [hO zA (vS p24 l c24) cs9] iR ⟨_,_,_,rfl,rfl,h55⟩
   rintro I028 le27 _ _ ⟨p22,c22,rfl,rfl,h50⟩ _ _ ⟨p24,c24,cs9,rfl,rfl,h55⟩;refine yP [4,8,52] rfl ?_;have ⟨h38,H⟩:=m2 le27 h38 H;exact yG 9 [] [53] rfl<|xI 2 [vS (some ⟨b5,0,none⟩) ([x1]:List zA) 1,vS p24 l c24] rfl<|yA rfl<|xW (zX [1,2,0,3,4] rfl (by decide))<|yS<|zV ⟨_,_,_,_,_,_,_,_,_,_,_,(zD N).symm,H,h38,h55,h50,rfl,rfl⟩
  intro bD N;refine yH [54] rfl<|zG ?_;obtain⟨o04,ho04,hMc4⟩:=zB N;refine qQ (λI' ag m'=>∃(Lo1:List zA) (x7:zO) (p25:Option Addr) (c25:Nat) (cs10:List Value) (p26:Option Addr) (c26:Nat),o04=(Lo1,x7)/\I021.le I'/\(RL I' cs10 Lo1)/\(S4 I' p26 x7.b c26)/\ag=[hB aw (cRd x7 p26 c26),hB b7 [vS p25 Lo1 c25,vS (some ⟨b6,0,none⟩) ([x2]:List zA) 1],hO zA (vS (some ⟨b6,0,none⟩) ([x2]:List zA) 1) (cAff x2 p8 c8),hO zA (vS p25 Lo1 c25) cs10,hB b zTwo]/\m'=[(4,vP b 0),(8,vP b7 0)]) ?_ ?_
  ·have H:=iS I021;refine yE ho04 ?_ ?_
   ·intro bM N;obtain⟨⟨y29,y30⟩,hy15,N⟩:=zB N;obtain⟨y31,hy16,N⟩:=zB N;obtain⟨l1,hy17,N⟩:=zB N;refine wA [.p (vP b7 0) [],.p (vS (some ⟨b5,0,none⟩) ([x1]:List zA) 1) [0],.p (vP aw 0) [],.x (λI' v hx=>∃b10,v=vS (some ⟨b10,0,none⟩) ([0,1]:List Int) 2/\hx=[]/\(SL I' (vS (some ⟨b10,0,none⟩) ([0,1]:List Int) 2) ([0,1]:List Int))),.x (λI' v hx=>∃p27 c27,v=vI y29/\hx=[hB aw (cRd y30 p27 c27)]/\(S4 I' p27 y30.b c27)),.x (λI' v hx=>∃p28 c28 cs11,v=vA (cAff y31 p28 c28)/\hx=[hO Int (vS p28 y31.Coefs c28) cs11]/\(RL I' cs11 y31.Coefs)),.x (λI' v hx=>∃b11,v=vS (some ⟨b11,0,none⟩) ([y31]:List zA) 1/\hx=[]/\(SL I' (vS (some ⟨b11,0,none⟩) ([y31]:List zA) 1) ([y31]:List zA))),.x (λI' v hx=>∃p29 c29 cs12,v=vS p29 l1 c29/\hx=[hO zA (vS p29 l1 c29) cs12]/\(RL I' cs12 l1))] [[],[(0,false)],[],[],[(2,false),(3,false),(10,true)],[(4,false)],[(5,true)],[(1,false),(6,false),(11,true)]] [hB b7 [vS (some ⟨b5,0,none⟩) ([x1]:List zA) 1,vS (some ⟨b6,0,none⟩) ([x2]:List zA) 1],hO zA (vS (some ⟨b6,0,none⟩) ([x2]:List zA) 1) (cAff x2 p8 c8),hB b zTwo] [[hB aw (cRd y23 p18 c18)],[hO zA (vS (some ⟨b5,0,none⟩) ([x1]:List zA) 1) (cAff x1 p7 c7)]] [(4,true),(7,true)] (zY [1,2,4,0,3]) ?_ ?_
    ·refine O3<|Ox ?_<|Ox ?_<|Ox ?_<|Ox ?_<|Ox ?_<|On
     ·intro I1 hf aa;refine eN [] ?_;have H:=iS I1;refine kM (rI [0,1]) ?_;intro b10 I030 le28 h59;have H:=H.trans le28;exact yM [] H ⟨_,rfl,rfl,h59⟩
     ·rintro I1 hf aa _ _ ⟨rfl,rfl⟩ _ _ ⟨b10,rfl,rfl,h59⟩ _ _ rfl;refine yP [58,59] rfl ?_;have H:=iS I1;have h42:=h42.mono aa;refine sG (xJ y23 ([0,1]:List Int) _ hy15 h42 h59) rfl ?_;rintro I031 av v2 k2 le29 - ⟨v020,kk7,rfl,rfl,rfl,h61⟩ -;have H:=H.trans le29;obtain⟨p27,c27,rfl,h62⟩:=yD h61;exact yM [hB aw (cRd y30 p27 c27)] H ⟨_,_,rfl,rfl,h62⟩
     ·rintro I1 hf aa _ _ ⟨p27,c27,rfl,rfl,h62⟩;refine yP [60] rfl ?_;have H:=iS I1;refine xF (tC y29 _ hy16 ) ?_;rintro I032 av v2 k2 le30 - ⟨p28,c28,cs11,rfl,rfl,h63⟩ -;have H:=H.trans le30;exact yM [hO Int (vS p28 y31.Coefs c28) cs11] H ⟨_,_,_,rfl,rfl,h63⟩
     ·rintro I1 hf aa _ _ ⟨p28,c28,cs11,rfl,rfl,h63⟩;refine yP [61] rfl ?_;have H:=iS I1;refine xM 0 rfl ?_;intro I033 le31 hl011;have h64:=SL.of_frozen hl011 le31 h63;have H:=H.trans le31;refine kM (rc y31 (yT ⟨_,rfl,h64⟩) rN) ?_;intro b11 I034 le32 h66;have H:=H.trans le32;exact yM [] H ⟨_,rfl,rfl,h66⟩
     rintro I1 hf aa _ _ ⟨rfl,rfl⟩ _ _ ⟨b11,rfl,rfl,h66⟩ _ _ rfl;refine yP [57,62] rfl ?_;have h38:=iM aa h38;obtain⟨bm,k02,k03⟩:=h66;have h66:SL I1 (vS (some ⟨b11,0,none⟩) ([y31]:List zA) 1) ([y31]:List zA):=⟨_,k02,k03⟩;exact qA 78 2 0 rfl rfl rfl h38 (.inl k02) k03 hy17 λp29 c29 cs12 h67=>uD (ag:=(hO zA (vS p29 l1 c29) cs12::hB b7 [vS (some ⟨b5,0,none⟩) ([x1]:List zA) 1,vS (some ⟨b6,0,none⟩) ([x2]:List zA) 1]::hO zA (vS (some ⟨b6,0,none⟩) ([x2]:List zA) 1) (cAff x2 p8 c8)::hB b zTwo::hf)) rfl<|yM [hO zA (vS p29 l1 c29) cs12] iR ⟨_,_,_,rfl,rfl,h67⟩
    rintro I035 le33 _ _ ⟨p27,c27,rfl,rfl,h62⟩ _ _ ⟨p29,c29,cs12,rfl,rfl,h67⟩;refine yP [4,8,63] rfl ?_;have H:=H.trans le33;exact yG 9 [] [64] rfl<|xI 2 [vS p29 l1 c29,vS (some ⟨b6,0,none⟩) ([x2]:List zA) 1] rfl<|yA rfl<|xW (zX [1,2,3,0,4] rfl (by decide))<|yS<|zV ⟨_,_,_,_,_,_,_,(zD N).symm,H,h67,h62,rfl,rfl⟩
   intro bM N;exact zT<|yS<|zV ⟨_,_,_,_,_,_,_,(zD N).symm,H,h38,h42,rfl,rfl⟩
  rintro I029 av m2 ⟨Lo1,x7,p25,c25,cs10,p26,c26,heq3,le34,h56,h57,rfl,rfl⟩;subst o04;have ⟨h39,H⟩:=m2 le34 h39 H;exact yS<|zV ⟨_,_,_,_,_,_,_,_,_,_,_,(zD hMc4).symm,H,h56,h39,h57,rfl,rfl⟩
 rintro I022 av m2 ⟨Lo,Hi,x6,p19,c19,cs6,p20,c20,cs7,p21,c21,heq4,le35,h43,h44,h45,rfl,rfl⟩;subst o03;refine zL<|yW<|sW 1 [1] [(65,vA [vS p19 Lo c19,vS p20 Hi c20])]<|xI 4 [vS p19 Lo c19,vS p20 Hi c20] rfl<|yA rfl<|xD<|yZ 3 rfl ?_;intro I036 le36 hl013;have h68:=SL.of_frozen hl013 le36 h43;have ⟨h45,h44⟩:=m2 le36 h45 h44;refine yZ 2 rfl ?_;intro I037 le37 hl014;have h69:=SL.of_frozen hl014 le37 h44;have ⟨h45,h68⟩:=m2 le37 h45 h68;exact xU hMc3 (resC 2 rfl rfl) (zX [0] rfl (by decide)) ⟨_,_,rfl,rfl,⟨_,rfl,(qR ⟨_,_,rfl,h68,h69⟩)⟩,(yY ⟨_,rfl,h45⟩)⟩
def zHD(b0:Nat)(r:(List zE)×zO):KT:=λkk I' ag v=>
 ∃v0 k0,ag=[.blk b0 ⟨k0⟩]/\v=tupV [v0]/\SL I' v0 r.1/\Rp.rep I' k0 r.2
def nV(out:List zE)(i:Int)(x:zO):Option ((List zE×zO)):=do
 if(decide (i>0)) then
  let (y4,y5)<-zAK x (out.length:Int);let aq<-app 48 out ([y4]:List zE);nV aq (W (i - 1)) y5
 else pure (out,x)
 partial_fixpoint
theorem zGA :∀(out:List zE) (i:Int) (x:zO) (o:(List zE×zO)),nV out i x=some o->∀{B}{I0 I:Imm}{Q}  {aw}{p2 c2 cs p3 c3},I0.le I->(RL I cs out)->(S4 I p3 x.b c3)->NG Q->NO Q->(∀I' aj x1 p4 c4 az p5 c5,o=(aj,x1)->I0.le I'->(RL I' az aj)->(S4 I' p5 x1.b c5)->T 21 B Q (.exit 0) I' [hB aw (cRd x1 p5 c5),hO zE (vS p4 aj c4) az] [(3,vS p4 aj c4)])->J Tryz.prog 21 B (nav (bodyOf f112) [1,1,0,1,0]) Q I [hB aw (cRd x p3 c3),hO zE (vS p2 out c2) cs] [(0,vP aw 0),(3,vS p2 out c2),(4,vI i)]:=by
 refine nV.partial_correctness  _ λaI ih out i x o N B I0 I Q aw p2 c2 cs p3 c3 H h7 h8 hg ho hx=>yV hg ho<|yB<|yH [10] rfl<|zG<|yE N ?_ ?_
 ·intro hc N;refine zT<|zZ<|yI<|zJ<|yG 4 [] [13,14,16] rfl ?_;obtain⟨⟨y4,y5⟩,ay,N⟩:=zB N;refine sG (zIf x (out.length:Int) _ ay h8) rfl ?_;rintro aP av v2 k2 aD - ⟨v02,kk1,rfl,rfl,⟨aM,rfl,h11⟩,h12⟩ -;have ⟨h7,H⟩:=m2 aD h7 H;obtain⟨p6,c6,p7,c7,rfl,h13,h14⟩:=sX h11;obtain⟨p8,c8,rfl,h15⟩:=yD h12;refine uP (cLoop y4 p6 c6 p7 c7) zE ?_;intro b2 hb2;have h16:RL aP (cLoop y4 p6 c6 p7 c7) ([y4]:List zE):=⟨(cLoop y4 p6 c6 p7 c7),_,rfl,rfl,(qR ⟨_,_,rfl,h13,h14⟩),rfl⟩;obtain⟨aq,aF,N⟩:=zB N;exact qA 150 2 2 rfl rfl rfl h7 (.inr ⟨0,rfl⟩) h16 aF λp9 c9 aU h17=>tX (zY [1,2] (ag:=[hB aw (cRd y5 p8 c8),hO zE (vS p9 aq c9) aU]))<|yK [] [3] rfl<|zL<|zG<|zJ<|yK [] [4] rfl<|yU<|nD<|ih aq (W (i - 1)) y5 _ N H h17 h15 hg ho hx
 intro hc N;exact wM<|yS<|hx _ _ _ _ _ _ _ _ (zD N).symm H h7 h8
def zAL(r0:zO):Option ((List zE)×zO):=do
 let (y1,y2)<-xB r0 ([2,1,2,3]:List Int);let (aj,x1)<-nV ([]:List zE) y1 y2;pure (aj,x1)
theorem zIg:∀r0 r,zAL r0=some r->∀{I:Imm}{aw}{p c},(S4 I p r0.b c)->RT 112 [vP aw 0] I [hB aw (cRd r0 p c)] (zHD aw r):=by
 intro r0 r N I aw p c h;unfold zAL at N;refine yL func112 λB=>wL []<|yW<|uP [] zE ?_;intro b hb;have h1:RL I [] ([]:List zE):=rfl;refine yK [] [3] rfl<|zZ<|yF<|yG 1 [] [6] rfl<|kM (rI [2,1,2,3]) ?_;intro b1 I0 le h3;have ⟨h1,h⟩:=m2 le h1 h;refine tX (zY [1,0] (ag:=[hB aw (cRd r0 p c),hO zE (vS (some ⟨b,0,none⟩) ([]:List zE) 0) []])) ?_;obtain⟨⟨y1,y2⟩,hy,N⟩:=zB N;refine sG (xJ r0 ([2,1,2,3]:List Int) _ hy h h3) rfl ?_;rintro aT av v2 k2 aa - ⟨v0,kk,rfl,rfl,rfl,h5⟩ -;have h1:=iM aa h1;obtain⟨p1,c1,rfl,h6⟩:=yD h5;refine yK [] [4] rfl<|xY<|pE [(0,vP aw 0),(3,vS (some ⟨b,0,none⟩) ([]:List zE) 0),(4,vI y1)] ?_;obtain⟨o0,aA,aG⟩:=zB N;refine zGA ([]:List zE) y1 y2 o0 aA iR h1 h6 nG nO ?_;intro bx aj x1 p4 c4 az p5 c5 heq aH h9 h10;subst o0;refine zS<|wV [2] rfl<|xD<|yZ 1 rfl ?_;intro bI bf hl01;have h18:=SL.of_frozen hl01 bf h9;have h10:=h10.mono bf;exact xU aG (resT rfl) (zX [0] rfl (by decide)) ⟨_,_,rfl,rfl,h18,(yY ⟨_,rfl,h10⟩)⟩
def zHE(b0:Nat)(r:zK×zO):KT:=λkk I' ag v=>
 ∃v0 k0,ag=[.blk b0 ⟨k0⟩]/\v=tupV [v0]/\(∃cs,v0=.agg ⟨cs⟩/\Rp.rep I' cs r.1)/\Rp.rep I' k0 r.2
def nW(ae:Int)(n0:Int)(i:Int)(Subs:List zA)(x:zO):Option ((List zA×zO)):=do
 if(decide (i<n0)) then
  let (y4,y5)<-xB x ([0,1,0,2]:List Int);let y6<-vO y4;let (t32,x2)<-(do
   if(decide (ae>0)) then
    let (y8,y9)<-xC y5 5;pure ((decide (y8>0)),y9)
   else
    pure (false,y5)
     : Option (Bool×zO))
  let (x3,x4)<-(do
   if t32 then
    let (y11,y12)<-xC x2 ae;let y13<-kR y11;let (y15,y16)<-xB y12 ([1,1,1,2,(-1)]:List Int);let (y18,y19)<-xB y16 ([0,1,0,0,2]:List Int);let y20<-vO y18;let y21<-kX y13 y15 y20 1;pure (y21,y19)
   else
    pure ((zA.mk y6.Coefs y6.Const),x2)
     : Option (zA×zO))
  let l<-app 32 Subs ([x3]:List zA);nW ae n0 (W (i+1)) l x4
 else pure (Subs,x)
 partial_fixpoint
theorem zGB(ae:Int)(n0:Int):∀(i:Int) (Subs:List zA) (x:zO) (o:(List zA×zO)),nW ae n0 i Subs x=some o->∀{B}{I0 I:Imm}{Q}{y1:Str}{aw b b2}{p2 c2 cs p3 c3},I0.le I->(RL I cs Subs)->(S4 I p3 x.b c3)->NG Q->NO Q->(∀I' Subs1 x1 p4 c4 az p5 c5,o=(Subs1,x1)->I0.le I'->(RL I' az Subs1)->(S4 I' p5 x1.b c5)->T 53 B Q (.exit 0) I' [hO zA (vS p4 Subs1 c4) az,hB b2 [vT y1.l,vS p4 Subs1 c4],hB aw (cRd x1 p5 c5),hB b [vT ([]),z0]] [(4,vP b 0),(5,vP b2 0)])->J Tryz.prog 53 B (nav (bodyOf f147) [1,1,1,1,0,1,0]) Q I [hO zA (vS p2 Subs c2) cs,hB b2 [vT y1.l,vS p2 Subs c2],hB aw (cRd x p3 c3),hB b [vT ([]),z0]] [(0,vP aw 0),(1,vI ae),(4,vP b 0),(5,vP b2 0),(6,vI n0),(7,vI i)]:=by
 refine nW.partial_correctness ae n0 _ λaI ih i Subs x o N B I0 I Q y1 aw b b2 p2 c2 cs p3 c3 H h7 h8 hg ho hx=>yV hg ho<|yB<|yH [19] rfl<|zG<|yE N ?_ ?_
 ·intro aE N;refine zT<|zZ<|yI<|yF<|yG 1 [] [22] rfl<|kM (rI [0,1,0,2]) ?_;intro b3 bx aH h12;have ⟨h7,h8,H⟩:=m3 aH h7 h8 H;refine tX (zY [2,0,1,3] (ag:=[hB aw (cRd x p3 c3),hO zA (vS p2 Subs c2) cs,hB b2 [vT y1.l,vS p2 Subs c2],hB b [vT ([]),z0]])) ?_;obtain⟨⟨y4,y5⟩,ay,N⟩:=zB N;refine sG (xJ x ([0,1,0,2]:List Int) _ ay h8 h12) rfl ?_;rintro bI av v2 k2 bf - ⟨v02,kk1,rfl,rfl,rfl,h14⟩ -;have ⟨h7,H⟩:=m2 bf h7 H;obtain⟨p6,c6,rfl,h15⟩:=yD h14;obtain⟨y6,aF,N⟩:=zB N;refine xF (tC y4 _ aF ) ?_;rintro bL av v2 k2 bu - ⟨p7,c7,aM,rfl,rfl,h16⟩ -;have ⟨h15,h7,H⟩:=m3 bu h15 h7 H;refine wI [z0,vI 0] ?_;intro b4 hb4;refine xI 0 (cAff y6 p7 c7) rfl<|yA rfl<|zZ<|yB ?_;obtain⟨aO,aB,hMc1⟩:=zB N;refine qQ (λI' ag m'=>∃(t32:Bool) (x2:zO) (p8:Option Addr) (c8:Nat),aO=(t32,x2)/\bL.le I'/\(S4 I' p8 x2.b c8)/\ag=[hB b4 (cAff y6 p7 c7),hO Int (vS p7 y6.Coefs c7) aM,hB aw (cRd x2 p8 c8),hO zA (vS p2 Subs c2) cs,hB b2 [vT y1.l,vS p2 Subs c2],hB b [vT ([]),z0]]/\m'=[(0,vP aw 0),(1,vI ae),(4,vP b 0),(5,vP b2 0),(6,vI n0),(7,vI i),(8,vP b4 0),(32,.bool t32)]) ?_ ?_
  ·have H:=iS bL;refine zJ<|yG 3 [] [28] rfl<|xZ [28] aB ?_ ?_
   ·intro aV N;refine yG 4 [] [29] rfl<|tX (zY [2,0,1,3,4,5] (ag:=[hB aw (cRd y5 p6 c6),hB b4 (cAff y6 p7 c7),hO Int (vS p7 y6.Coefs c7) aM,hO zA (vS p2 Subs c2) cs,hB b2 [vT y1.l,vS p2 Subs c2],hB b [vT ([]),z0]])) ?_;obtain⟨⟨y8,y9⟩,aX,N⟩:=zB N;refine sG (xV y5 5 _ aX h15) rfl ?_;rintro I07 av v2 k2 bG - ⟨v04,kk2,rfl,rfl,rfl,h19⟩ -;have H:=H.trans bG;obtain⟨p9,c9,rfl,h20⟩:=yD h19;exact yK [] [32] rfl<|xW (zX [1,2,0,3,4,5] rfl (by decide))<|yS<|zV ⟨_,_,_,_,(zD N).symm,H,h20,rfl,rfl⟩
   intro aV N;exact wB [] [(32,vF)]<|yS<|zV ⟨_,_,_,_,(zD N).symm,H,h15,rfl,rfl⟩
  rintro I06 av m2 ⟨t32,x2,p8,c8,heq1,le7,h17,rfl,rfl⟩;subst aO;have ⟨h16,h7,H⟩:=m3 le7 h16 h7 H;refine zG<|mM 1 rfl ?_;intro I08 le8 hl02;have h21:=SL.of_frozen hl02 le8 h16;have ⟨h17,h7,H⟩:=m3 le8 h17 h7 H;obtain⟨o02,ho02,hMc2⟩:=zB hMc1;refine qQ (λI' ag m'=>∃(x3:zA) (x4:zO) (bb:Option Addr) (bd:Nat) (aR:Option Addr) (bh:Nat),o02=(x3,x4)/\I08.le I'/\(S4 I' bb x3.Coefs bd)/\(S4 I' aR x4.b bh)/\ag=[hB b4 (cAff x3 bb bd),hB aw (cRd x4 aR bh),hO zA (vS p2 Subs c2) cs,hB b2 [vT y1.l,vS p2 Subs c2],hB b [vT ([]),z0]]/\m'=[(0,vP aw 0),(1,vI ae),(4,vP b 0),(5,vP b2 0),(6,vI n0),(7,vI i),(8,vP b4 0)]) ?_ ?_
  ·have H:=iS I08;refine yE ho02 ?_ ?_
   ·intro bD N;refine yF<|yG 2 [] [33,34] rfl<|tX (zY [1,0,2,3,4] (ag:=[hB aw (cRd x2 p8 c8),hB b4 (cAff y6 p7 c7),hO zA (vS p2 Subs c2) cs,hB b2 [vT y1.l,vS p2 Subs c2],hB b [vT ([]),z0]])) ?_;obtain⟨⟨y11,y12⟩,bk,N⟩:=zB N;refine sG (xV x2 ae _ bk h17) rfl ?_;rintro bP av v2 k2 le9 - ⟨v06,kk3,rfl,rfl,rfl,h25⟩ -;have H:=H.trans le9;obtain⟨bz,bo,rfl,h26⟩:=yD h25;refine yK [] [9] rfl<|zG<|zJ<|yG 1 [] [36] rfl<|bE N λy13 bC N=>xF (zAF y11 _ bC ) ?_;rintro bV av v2 k2 le10 - ⟨v08,rfl,rfl,⟨aU,rfl,h27⟩⟩ -;have ⟨h26,H⟩:=m2 le10 h26 H;obtain⟨bj,bw,rfl,h28⟩:=yQ h27;refine yG 3 [] [38] rfl<|kM (rI [1,1,1,2,(-1)]) ?_;intro b5 bW le11 h30;have ⟨h28,h26,H⟩:=m3 le11 h28 h26 H;obtain⟨⟨y15,y16⟩,hy6,N⟩:=zB N;refine sG (xJ y12 ([1,1,1,2,(-1)]:List Int) _ hy6 h26 h30) rfl ?_;rintro I013 av v2 k2 le12 - ⟨v010,kk4,rfl,rfl,rfl,h32⟩ -;have ⟨h28,H⟩:=m2 le12 h28 H;obtain⟨p14,c14,rfl,h33⟩:=yD h32;refine yG 6 [] [41] rfl<|kM (rI [0,1,0,0,2]) ?_;intro b6 I014 le13 h35;have ⟨h28,h33,H⟩:=m3 le13 h28 h33 H;obtain⟨⟨y18,y19⟩,hy7,N⟩:=zB N;refine sG (xJ y16 ([0,1,0,0,2]:List Int) _ hy7 h33 h35) rfl ?_;rintro I015 av v2 k2 le14 - ⟨v012,kk5,rfl,rfl,rfl,h37⟩ -;have ⟨h28,H⟩:=m2 le14 h28 H;obtain⟨p15,c15,rfl,h38⟩:=yD h37;obtain⟨y20,hy8,N⟩:=zB N;refine xF (tC y18 _ hy8 ) ?_;rintro I016 av v2 k2 le15 - ⟨p16,c16,bv,rfl,rfl,h39⟩ -;have ⟨h28,h38,H⟩:=m3 le15 h28 h38 H;refine xM 0 rfl ?_;intro I017 le16 hl05;have h40:=SL.of_frozen hl05 le16 h39;have ⟨h28,h38,H⟩:=m3 le16 h28 h38 H;obtain⟨y21,hy9,N⟩:=zB N;refine xF (zBn y13 y15 y20 1 _ hy9 h28 h40) ?_;rintro I018 av v2 k2 le17 - ⟨v014,rfl,rfl,⟨bH,rfl,h41⟩⟩ -;have ⟨h38,H⟩:=m2 le17 h38 H;obtain⟨p17,c17,rfl,h42⟩:=yQ h41;exact xI 1 (cAff y21 p17 c17) rfl<|yA rfl<|xW (zX [1,0,2,3,4] rfl (by decide))<|yS<|zV ⟨_,_,_,_,_,_,(zD N).symm,H,h42,h38,rfl,rfl⟩
   intro bD N;exact zT<|yS<|zV ⟨_,_,_,_,_,_,(zD N).symm,H,h21,h17,rfl,rfl⟩
  rintro I09 av m2 ⟨x3,x4,bb,bd,aR,bh,heq2,le18,h22,h23,rfl,rfl⟩;subst o02;have ⟨h7,H⟩:=m2 le18 h7 H;refine zG<|zJ<|sW 3 [3,0] [(47,vS p2 Subs c2),(48,vA (cAff x3 bb bd))]<|uP (cAff x3 bb bd) zA ?_;intro b7 hb7;have h43:RL I09 (cAff x3 bb bd) ([x3]:List zA):=⟨(cAff x3 bb bd),_,rfl,rfl,(yT ⟨_,rfl,h22⟩),rfl⟩;obtain⟨l,hy10,N⟩:=zB hMc2;refine qA 78 2 3 rfl rfl rfl h7 (.inr ⟨0,rfl⟩) h43 hy10 ?_;intro p18 c18 cs6 h44;exact tX (zY [1,2,3,4,5] (ag:=[hB b4 (cAff x3 bb bd),hB aw (cRd x4 aR bh),hO zA (vS p18 l c18) cs6,hB b2 [vT y1.l,vS p2 Subs c2],hB b [vT ([]),z0]]))<|yG 6 [] [51] rfl<|xI 3 [vT y1.l,vS p18 l c18] rfl<|yA rfl<|zL<|zG<|zJ<|yK [] [7] rfl<|yU<|jS (zX [2,3,1,4] rfl (by decide))<|nD<|ih (W (i+1)) l x4 _ N H h44 h23 hg ho hx
 intro aE N;exact wM<|yS<|hx _ _ _ _ _ _ _ _ (zD N).symm H h7 h8
def gQ(r0:zO)(ae:Int):Option (zK×zO):=do
 let (y1,y2)<-qZ r0 ([(⟨[65]⟩:Str),(⟨[66]⟩:Str),(⟨[65]⟩:Str),(⟨[67]⟩:Str)]:List Str);let n0<-(do
  if(y1.l==([66]:List UInt8)) then pure (id 2)
  else
   pure (id 1)
    : Option Int)
 let (Subs1,x1)<-nW ae n0 0 ([]:List zA) y2;pure ((zK.mk y1 Subs1),x1)
theorem zDl:∀r0 ae r,gQ r0 ae=some r->∀{I:Imm}{aw}{p c},(S4 I p r0.b c)->RT 147 [vP aw 0,vI ae] I [hB aw (cRd r0 p c)] (zHE aw r):=by
 intro r0 ae r N I aw p c h;unfold gQ at N;refine yL func147 λB=>?_;have H:=iS I;refine yF<|wI [vT ([]),z0] ?_;intro b hb;refine yA rfl<|yW<|yG 1 [] [10] rfl<|kM (rT [(⟨[65]⟩:Str),(⟨[66]⟩:Str),(⟨[65]⟩:Str),(⟨[67]⟩:Str)]) ?_;intro b1 I0 le h2;have ⟨h,H⟩:=m2 le h H;refine tX (zY [1,0] (ag:=[hB aw (cRd r0 p c),hB b [vT ([]),z0]])) ?_;obtain⟨⟨y1,y2⟩,hy,N⟩:=zB N;refine sG (fF r0 ([(⟨[65]⟩:Str),(⟨[66]⟩:Str),(⟨[65]⟩:Str),(⟨[67]⟩:Str)]:List Str) _ hy h h2) rfl ?_;rintro aT av v2 k2 aa - ⟨v0,kk,rfl,rfl,rfl,h4⟩ -;have H:=H.trans aa;obtain⟨p1,c1,rfl,h5⟩:=yD h4;refine yG 4 [] [13] rfl<|wI [vT ([]),z0] ?_;intro b2 hb2;refine xI 0 [vT y1.l,z0] rfl<|yA rfl<|wV [6] rfl<|zZ<|yF<|yK [0] [16] rfl<|zG ?_;refine wK N [hB b2 [vT y1.l,z0],hB aw (cRd y2 p1 c1),hB b [vT ([]),z0]] (λn0=>[(0,vP aw 0),(1,vI ae),(4,vP b 0),(5,vP b2 0),(6,vI n0)]) (λo0 aA=>?_) ?_
 ·have H:=iS aT;refine yE aA ?_ ?_
  ·intro hc N;exact zJ<|yK [] [6] rfl<|yS<|zV (ct N H)
  intro hc N;exact zT<|yS<|zV (ct N H)
 intro n0 aP aD aQ;have h5:=h5.mono aD;refine zZ<|yH [7] rfl<|xY<|pE [(0,vP aw 0),(1,vI ae),(4,vP b 0),(5,vP b2 0),(6,vI n0),(7,vI 0)]<|zAm zA λh6=>?_;obtain⟨o03,ho03,aG⟩:=zB aQ;refine zGB ae n0 0 ([]:List zA) y2 o03 ho03 iR h6 h5 nG nO ?_;intro I019 Subs1 x1 p4 c4 az p5 c5 heq3 le19 h9 h10;subst o03;refine zS<|yW<|sW 1 [1] [(52,vA [vT y1.l,vS p4 Subs1 c4])]<|xI 3 [vT y1.l,vS p4 Subs1 c4] rfl<|yA rfl<|xD<|yZ 0 rfl ?_;intro I020 le20 hl06;have h45:=SL.of_frozen hl06 le20 h9;have h10:=h10.mono le20;exact xU aG (resC 2 rfl rfl) (zX [1] rfl (by decide)) ⟨_,_,rfl,rfl,⟨_,rfl,(kV ⟨_,rfl,h45⟩)⟩,(yY ⟨_,rfl,h10⟩)⟩
def zHF(b0:Nat)(r:zA×zO):KT:=λkk I' ag v=>
 ∃v0 k0,ag=[.blk b0 ⟨k0⟩]/\v=tupV [v0]/\(∃cs,v0=.agg ⟨cs⟩/\Rp.rep I' cs r.1)/\Rp.rep I' k0 r.2
def nX(ae:Int)(i:Int)(Coefs:List Int)(x:zO):Option ((List Int×zO)):=do
 if(decide (i<ae)) then
  let (y5,y6)<-xB x ([0,1,0,(-1),2,0,9]:List Int);let x2<-idx Coefs i;let l<-pure (Coefs.set i.toNat y5);nX ae (W (i+1)) l y6
 else pure (Coefs,x)
 partial_fixpoint
theorem zGC(ae:Int):∀(i:Int) (Coefs:List Int) (x:zO) (o:(List Int×zO)),nX ae i Coefs x=some o->∀{B}{I0 I:Imm}{Q}{y3:zA}{aw b b2}{p3 c3 az p4 c4},I0.le I->(RL I az Coefs)->(S4 I p4 x.b c4)->NG Q->NO Q->(∀I' Coefs1 x1 p5 c5 aM p6 c6,o=(Coefs1,x1)->I0.le I'->(RL I' aM Coefs1)->(S4 I' p6 x1.b c6)->T 24 B Q (.exit 0) I' [hB b2 [vS p5 Coefs1 c5,vI y3.Const],hO Int (vS p5 Coefs1 c5) aM,hB aw (cRd x1 p6 c6),hB b [z0,vI 0]] [(4,vP b 0),(5,vP b2 0)])->J Tryz.prog 24 B (nav (bodyOf f178) [1,1,0,1,0]) Q I [hB b2 [vS p3 Coefs c3,vI y3.Const],hO Int (vS p3 Coefs c3) az,hB aw (cRd x p4 c4),hB b [z0,vI 0]] [(0,vP aw 0),(1,vI ae),(4,vP b 0),(5,vP b2 0),(6,vI i)]:=by
 refine nX.partial_correctness ae _ λaI ih i Coefs x o N B I0 I Q y3 aw b b2 p3 c3 az p4 c4 H h7 h8 hg ho hx=>yV hg ho<|yB<|yH [13] rfl<|zG<|yE N ?_ ?_
 ·intro hc N;refine zT<|zZ<|yI ?_;obtain⟨⟨y5,y6⟩,aF,N⟩:=zB N;refine wA [.p (vP b2 0) [],.p (vS p3 Coefs c3) [0],.p (vI i) [],.p (vP aw 0) [],.x (λI' v hx=>∃b3,v=vS (some ⟨b3,0,none⟩) ([0,1,0,(-1),2,0,9]:List Int) 7/\hx=[]/\(SL I' (vS (some ⟨b3,0,none⟩) ([0,1,0,(-1),2,0,9]:List Int) 7) ([0,1,0,(-1),2,0,9]:List Int))),.x (λI' v hx=>∃p7 c7,v=vI y5/\hx=[hB aw (cRd y6 p7 c7)]/\(S4 I' p7 y6.b c7))] [[],[(0,false)],[],[],[],[(3,false),(4,false),(8,true)]] [hB b2 [vS p3 Coefs c3,vI y3.Const],hO Int (vS p3 Coefs c3) az,hB b [z0,vI 0]] [[hB aw (cRd x p4 c4)]] [(1,false),(2,false),(5,true)] (zY [0,1,3,2]) ?_ ?_
  ·refine O4<|Ox ?_<|Ox ?_<|On
   ·intro I1 hf aa;refine eN [] ?_;have H:=iS I1;refine kM (rI [0,1,0,(-1),2,0,9]) ?_;intro b3 bx aH h12;have H:=H.trans aH;exact yM [] H ⟨_,rfl,rfl,h12⟩
   rintro I1 hf aa _ _ ⟨rfl,rfl⟩ _ _ ⟨b3,rfl,rfl,h12⟩ _ _ rfl;refine yP [19,20] rfl ?_;have H:=iS I1;have h8:=h8.mono aa;refine sG (xJ x ([0,1,0,(-1),2,0,9]:List Int) _ aF h8 h12) rfl ?_;rintro bI av v2 k2 bf - ⟨v02,kk1,rfl,rfl,rfl,h14⟩ -;have H:=H.trans bf;obtain⟨p7,c7,rfl,h15⟩:=yD h14;exact yM [hB aw (cRd y6 p7 c7)] H ⟨_,_,rfl,rfl,h15⟩
  rintro bL bu _ _ ⟨rfl,rfl⟩ _ _ ⟨rfl,rfl⟩ _ _ ⟨p7,c7,rfl,rfl,h15⟩;refine yP [0,1,4,5,6,17,18,21] rfl ?_;have ⟨h7,H⟩:=m2 bu h7 H;obtain⟨x2,aX,N⟩:=zB N;refine pF 2 rfl rfl rfl h7 aX ?_;intro ad aN ap bJ ak;obtain rfl:=ak;obtain⟨l,bk,N⟩:=zB N;refine zGm 2 0 ap bJ h7 aX bk rfl ?_;intro aU h16 hl02;rw[vE hl02];exact yA rfl<|zL<|zG<|zJ<|yK [] [6] rfl<|yU<|jS (zX [1,2,0,3] rfl (by decide))<|nD<|ih (W (i+1)) l y6 _ N H h16 h15 hg ho hx
 intro hc N;exact wM<|yS<|hx _ _ _ _ _ _ _ _ (zD N).symm H h7 h8
def eI(r0:zO)(ae:Int):Option (zA×zO):=do
 let (y1,y2)<-xB r0 ([0,1,(-1),2,0,5,(-9),99]:List Int);let y3<-vO y1;let (Coefs1,x1)<-nX ae 0 y3.Coefs y2;pure ((zA.mk Coefs1 y3.Const),x1)
theorem zIh:∀r0 ae r,eI r0 ae=some r->∀{I:Imm}{aw}{p c},(S4 I p r0.b c)->RT 178 [vP aw 0,vI ae] I [hB aw (cRd r0 p c)] (zHF aw r):=by
 intro r0 ae r N I aw p c h;unfold eI at N;refine yL func178 λB=>yF<|wI [z0,vI 0] ?_;intro b hb;refine yA rfl<|yW<|yG 1 [] [7] rfl<|kM (rI [0,1,(-1),2,0,5,(-9),99]) ?_;intro b1 I0 le h2;have h:=h.mono le;refine tX (zY [1,0] (ag:=[hB aw (cRd r0 p c),hB b [z0,vI 0]])) ?_;obtain⟨⟨y1,y2⟩,hy,N⟩:=zB N;refine sG (xJ r0 ([0,1,(-1),2,0,5,(-9),99]:List Int) _ hy h h2) rfl ?_;rintro aT av v2 k2 aa - ⟨v0,kk,rfl,rfl,rfl,h4⟩ -;obtain⟨p1,c1,rfl,h5⟩:=yD h4;obtain⟨y3,ay,N⟩:=zB N;refine xF (tC y1 _ ay ) ?_;rintro aP av v2 k2 aD - ⟨p2,c2,cs,rfl,rfl,h6⟩ -;have h5:=h5.mono aD;refine wI [z0,vI 0] ?_;intro b2 hb2;refine xI 0 (cAff y3 p2 c2) rfl<|yA rfl<|zZ<|yH [6] rfl<|xY<|pE [(0,vP aw 0),(1,vI ae),(4,vP b 0),(5,vP b2 0),(6,vI 0)] ?_;obtain⟨o0,aA,aG⟩:=zB N;refine zGC ae 0 y3.Coefs y2 o0 aA iR h6 h5 nG nO ?_;intro I06 Coefs1 x1 p5 c5 aM p6 c6 heq bG h9 h10;subst o0;refine zS<|yW<|sW 1 [0] [(23,vA [vS p5 Coefs1 c5,vI y3.Const])]<|xI 3 [vS p5 Coefs1 c5,vI y3.Const] rfl<|yA rfl<|xD<|yZ 1 rfl ?_;intro I07 le7 hl03;have h17:=SL.of_frozen hl03 le7 h9;have h10:=h10.mono le7;exact xU aG (resC 2 rfl rfl) (zX [1] rfl (by decide)) ⟨_,_,rfl,rfl,⟨_,rfl,(yT ⟨_,rfl,h17⟩)⟩,(yY ⟨_,rfl,h10⟩)⟩
def zBo(b0:Nat)(r:zI×zO):KT:=λkk I' ag v=>
 ∃v0 k0,ag=[.blk b0 ⟨k0⟩]/\v=tupV [v0]/\(∃cs,v0=.agg ⟨cs⟩/\Rp.rep I' cs r.1)/\Rp.rep I' k0 r.2
mutual
def oM(r0:zO)(ae:Int)(ai:Int):Option (zI×zO):=do
 let (t15,x)<-(do
  if(decide (ai<2)) then pure (true,r0)
  else
   let (y1,y2)<-xC r0 4;pure ((y1==0),y2)
    : Option (Bool×zO))
 if t15 then
  let (y4,y5)<-xC x 4;if(y4==0) then
   let (y7,y8)<-xB y5 ([1,2,0,99,3]:List Int);pure ((zI.mk 1 y7 (zA.mk ([]:List Int) 0) (zK.mk (⟨[]⟩:Str) ([]:List zA)) ([]:List zI)),y8)
  else
   if(y4==1) then
    let (y10,y11)<-eI y5 ae;pure ((zI.mk 2 0 y10 (zK.mk (⟨[]⟩:Str) ([]:List zA)) ([]:List zI)),y11)
   else
    let (y13,y14)<-gQ y5 ae;pure ((zI.mk 3 0 (zA.mk ([]:List Int) 0) y13 ([]:List zI)),y14)
 else
  let (y16,y17)<-xB x ([4,6,5,4]:List Int);let (Kids1,x2)<-mR (same ae) (same ai) (same 0) ([]:List zI) (same y17);pure ((zI.mk y16 0 (zA.mk ([]:List Int) 0) (zK.mk (⟨[]⟩:Str) ([]:List zA)) Kids1),x2)
 partial_fixpoint
def mR(ae:Int)(ai:Int)(i:Int)(Kids:List zI)(x1:zO):Option ((List zI×zO)):=do
 if(decide (i<2)) then
  let (y19,y20)<-oM (same x1) (same ae) (W (ai - 1));let l<-app 112 Kids ([y19]:List zI);mR (same ae) (same ai) (W (i+1)) (same l) (same y20)
 else pure (Kids,x1)
 partial_fixpoint
end
theorem zHG:(∀(r0:zO) (ae:Int) (ai:Int) r,oM r0 ae ai=some r->∀{I:Imm}{aw}{p c},(S4 I p r0.b c)->RT 148 [vP aw 0,vI ae,vI ai] I [hB aw (cRd r0 p c)] (zBo aw r))/\(∀(ae:Int) (ai:Int) (i:Int) (Kids:List zI) (x1:zO) o,mR ae ai i Kids x1=some o->∀{B}{I0 I:Imm}{Q}{y16:Int}{aw b b3}{bb bd aM aR bh},I0.le I->(RL I aM Kids)->(S4 I aR x1.b bh)->NG Q->NO Q->(∀I' Kids1 x2 bz bo aU bj bw,o=(Kids1,x2)->I0.le I'->(RL I' aU Kids1)->(S4 I' bj x2.b bw)->T 53 B Q (.exit 1) I' [hO zI (vS bz Kids1 bo) aU,hB b3 [vI y16,vI 0,z0,vI 0,vT ([]),z0,vS bz Kids1 bo],hB aw (cRd x2 bj bw),hB b zExpr] [(6,vP b 0),(7,vP b3 0)])->J Tryz.prog 53 B (nav (bodyOf f148) [1,1,1,0,1,0]) Q I [hO zI (vS bb Kids bd) aM,hB b3 [vI y16,vI 0,z0,vI 0,vT ([]),z0,vS bb Kids bd],hB aw (cRd x1 aR bh),hB b zExpr] [(0,vP aw 0),(1,vI ae),(2,vI ai),(6,vP b 0),(7,vP b3 0),(8,vI i)]):=by
 refine oM.mutual_partial_correctness _ _ ?_ ?_
 ·intro F_spec_l3Value_l1 ih_spec_l3Value_l1 r0 ae ai r N I aw p c h;refine yL func148 λB=>?_;have H:=iS I;refine yF<|wI zExpr ?_;intro b hb;refine yA rfl<|zZ<|yB ?_;obtain⟨o0,aA,aQ⟩:=zB N;refine qQ (λI' ag m'=>∃(t15:Bool) (x:zO) (p1:Option Addr) (c1:Nat),o0=(t15,x)/\I.le I'/\(S4 I' p1 x.b c1)/\ag=[hB b zExpr,hB aw (cRd x p1 c1)]/\m'=[(0,vP aw 0),(1,vI ae),(2,vI ai),(6,vP b 0),(15,.bool t15)]) ?_ ?_
  ·have H:=iS I;refine zJ<|yG 3 [] [11] rfl<|xZ [11] aA ?_ ?_
   ·intro hc N;exact wB [] [(15,vY)]<|yS<|zV ⟨_,_,_,_,(zD N).symm,H,h,rfl,rfl⟩
   intro hc N;refine yG 4 [] [12] rfl<|tX (zY [1,0] (ag:=[hB aw (cRd r0 p c),hB b zExpr])) ?_;obtain⟨⟨y1,y2⟩,hy,N⟩:=zB N;refine sG (xV r0 4 _ hy h) rfl ?_;rintro aT av v2 k2 le - ⟨v0,kk,rfl,rfl,rfl,h3⟩ -;have H:=H.trans le;obtain⟨p2,c2,rfl,h4⟩:=yD h3;exact yK [] [15] rfl<|xW (zX [1,0] rfl (by decide))<|yS<|zV ⟨_,_,_,_,(zD N).symm,H,h4,rfl,rfl⟩
  rintro I0 av m2 ⟨t15,x,p1,c1,heq,aa,h1,rfl,rfl⟩;subst o0;refine zG<|yE aQ ?_ ?_
  ·intro aE N;refine yB<|yF<|yG 1 [] [16] rfl<|tX (zY [1,0] (ag:=[hB aw (cRd x p1 c1),hB b zExpr])) ?_;obtain⟨⟨y4,y5⟩,ay,N⟩:=zB N;refine sG (xV x 4 _ ay h1) rfl ?_;rintro aP av v2 k2 aD - ⟨v02,kk1,rfl,rfl,rfl,h6⟩ -;obtain⟨p3,c3,rfl,h7⟩:=yD h6;refine yA rfl<|xY<|yH [18] rfl<|zG<|yE N ?_ ?_
   ·intro aV N;refine yF<|yG 1 [] [20] rfl<|kM (rI [1,2,0,99,3]) ?_;intro b1 bx aH h9;have h7:=h7.mono aH;obtain⟨⟨y7,y8⟩,aF,N⟩:=zB N;refine sG (xJ y5 ([1,2,0,99,3]:List Int) _ aF h7 h9) rfl ?_;rintro bI av v2 k2 bf - ⟨v04,kk2,rfl,rfl,rfl,h11⟩ -;obtain⟨p4,c4,rfl,h12⟩:=yD h11;refine yG 4 [] [23] rfl<|xI 1 [vI 1,vI y7,z0,vI 0,vT ([]),z0,z0] rfl<|yA rfl<|xD<|zW<|zH<|zH ?_;exact xU N (resC 1 rfl rfl) (zX [0] rfl (by decide)) ⟨_,_,rfl,rfl,⟨_,rfl,(wF ⟨_,_,_,rfl,(SL.nil _),(SL.nil _),(SL.nil _)⟩)⟩,(yY ⟨_,rfl,h12⟩)⟩
   intro aV N;refine yH [24] rfl<|zG<|yE N ?_ ?_
   ·intro bD N;refine yF<|yG 2 [] [26,27] rfl ?_;obtain⟨⟨y10,y11⟩,aX,N⟩:=zB N;refine sG (zIh y5 ae _ aX h7) rfl ?_;rintro bL av v2 k2 bu - ⟨v06,kk3,rfl,rfl,⟨cs,rfl,h13⟩,h14⟩ -;obtain⟨p5,c5,rfl,h15⟩:=yQ h13;obtain⟨p6,c6,rfl,h16⟩:=yD h14;refine yG 4 [] [29] rfl<|xI 1 [vI 2,vI 0,vS p5 y10.Coefs c5,vI y10.Const,vT ([]),z0,z0] rfl<|yA rfl<|xD<|zW<|zH<|zH ?_;exact xU N (resC 1 rfl rfl) (zX [0] rfl (by decide)) ⟨_,_,rfl,rfl,⟨_,rfl,(wF ⟨_,_,_,rfl,h15,(SL.nil _),(SL.nil _)⟩)⟩,(yY ⟨_,rfl,h16⟩)⟩
   intro bD N;refine zT<|zL<|yW<|yG 2 [] [30,31] rfl ?_;obtain⟨⟨y13,y14⟩,bk,N⟩:=zB N;refine sG (zDl y5 ae _ bk h7) rfl ?_;rintro I06 av v2 k2 bG - ⟨v09,kk4,rfl,rfl,⟨az,rfl,h17⟩,h18⟩ -;obtain⟨p7,c7,rfl,h19⟩:=oA h17;obtain⟨p8,c8,rfl,h20⟩:=yD h18;refine yG 4 [] [33] rfl<|xI 1 [vI 3,vI 0,z0,vI 0,vT y13.Array.l,vS p7 y13.Subs c7,z0] rfl<|yA rfl<|xD<|zH ?_;exact xU N (resC 1 rfl rfl) (zX [0] rfl (by decide)) ⟨_,_,rfl,rfl,⟨_,rfl,(wF ⟨_,_,_,rfl,(SL.nil _),h19,(SL.nil _)⟩)⟩,(yY ⟨_,rfl,h20⟩)⟩
  intro aE N;refine zT<|yW<|yG 1 [] [34] rfl<|kM (rI [4,6,5,4]) ?_;intro b2 I07 le7 h22;have h1:=h1.mono le7;refine tX (zY [1,0] (ag:=[hB aw (cRd x p1 c1),hB b zExpr])) ?_;obtain⟨⟨y16,y17⟩,bC,N⟩:=zB N;refine sG (xJ x ([4,6,5,4]:List Int) _ bC h1 h22) rfl ?_;rintro I08 av v2 k2 le8 - ⟨v012,kk5,rfl,rfl,rfl,h24⟩ -;obtain⟨p9,c9,rfl,h25⟩:=yD h24;refine yG 4 [] [37] rfl<|wI zExpr ?_;intro b3 hb3;refine xI 0 [vI y16,vI 0,z0,vI 0,vT ([]),z0,z0] rfl<|yA rfl<|zZ<|yH [8] rfl<|xY<|pE [(0,vP aw 0),(1,vI ae),(2,vI ai),(6,vP b 0),(7,vP b3 0),(8,vI 0)]<|zAm zI λh26=>?_;obtain⟨aO,aB,aG⟩:=zB N;refine ih_spec_l3Value_l1 ae ai 0 ([]:List zI) y17 aO aB iR h26 h25 nG nO ?_;intro bW Kids1 x2 bz bo aU bj bw heq1 le12 h29 h30;subst aO;refine zS<|yW<|sW 1 [1] [(52,vA [vI y16,vI 0,z0,vI 0,vT ([]),z0,vS bz Kids1 bo])]<|xI 3 [vI y16,vI 0,z0,vI 0,vT ([]),z0,vS bz Kids1 bo] rfl<|yA rfl<|xD<|yZ 0 rfl ?_;intro I013 le13 hl03;have h40:=SL.of_frozen hl03 le13 h29;have h30:=h30.mono le13;exact xU aG (resC 2 rfl rfl) (zX [1] rfl (by decide)) ⟨_,_,rfl,rfl,⟨_,rfl,(wF ⟨_,_,_,rfl,(SL.nil _),(SL.nil _),h40⟩)⟩,(yY ⟨_,rfl,h30⟩)⟩
 intro F_spec_l3Value F_spec_l3Value_l1 ih_spec_l3Value ih_spec_l3Value_l1 ae ai i Kids x1 o N B I0 I Q y16 aw b b3 bb bd aM aR bh H h27 h28 hg ho hx;refine yV hg ho<|yB<|yH [39] rfl<|zG<|yE N ?_ ?_
 ·intro bM N;refine zT<|zZ<|yI ?_;obtain⟨⟨y19,y20⟩,hy6,N⟩:=zB N;obtain⟨l,hy7,N⟩:=zB N;refine wA [.p (vP b3 6) [],.p (vS bb Kids bd) [0],.p (vP aw 0) [],.p (vI ae) [],.p (vI ai) [],.p (vI (W (ai - 1))) [],.x (λI' v hx=>∃p14 c14 p15 c15 p16 c16 p17 c17,v=vA (cExpr y19 p14 c14 p15 c15 p16 c16)/\hx=[hB aw (cRd y20 p17 c17)]/\(S4 I' p14 y19.Index.Coefs c14)/\(S4 I' p15 y19.Read.Subs c15)/\(S4 I' p16 y19.Kids c16)/\(S4 I' p17 y20.b c17)),.x (λI' v hx=>∃b4,v=vS (some ⟨b4,0,none⟩) ([y19]:List zI) 1/\hx=[]/\(SL I' (vS (some ⟨b4,0,none⟩) ([y19]:List zI) 1) ([y19]:List zI))),.x (λI' v hx=>∃p18 c18 bH,v=vS p18 l c18/\hx=[hO zI (vS p18 l c18) bH]/\(RL I' bH l))] [[],[(0,false)],[],[],[],[(4,false)],[(2,false),(3,false),(5,false),(11,true)],[(6,false)],[(1,false),(7,false),(12,true)]] [hB b3 [vI y16,vI 0,z0,vI 0,vT ([]),z0,vS bb Kids bd],hB b zExpr] [[hB aw (cRd x1 aR bh)],[hO zI (vS bb Kids bd) aM]] [(6,true),(8,true)] (zY [1,3,2,0]) ?_ ?_
  ·refine O4<|O2<|Ox ?_<|Ox ?_<|Ox ?_<|On
   ·rintro I1 hf aa _ _ ⟨rfl,rfl⟩ _ _ ⟨rfl,rfl⟩ _ _ ⟨rfl,rfl⟩ _ _ rfl;refine yP [44,45,47] rfl ?_;have H:=iS I1;have h28:=h28.mono aa;refine sG (ih_spec_l3Value x1 ae (W (ai - 1)) _ hy6 h28) rfl ?_;rintro I09 av v2 k2 le9 - ⟨v014,kk6,rfl,rfl,⟨bv,rfl,h31⟩,h32⟩ -;have H:=H.trans le9;obtain⟨p14,c14,p15,c15,p16,c16,rfl,h33,h34,h35⟩:=xX h31;obtain⟨p17,c17,rfl,h36⟩:=yD h32;exact yM [hB aw (cRd y20 p17 c17)] H ⟨_,_,_,_,_,_,_,_,rfl,rfl,h33,h34,h35,h36⟩
   ·rintro I1 hf aa _ _ ⟨p14,c14,p15,c15,p16,c16,p17,c17,rfl,rfl,h33,h34,h35,h36⟩;refine yP [48] rfl ?_;have H:=iS I1;refine kM (rc y19 (wF ⟨_,_,_,rfl,h33,h34,h35⟩) rN) ?_;intro b4 bP le10 h38;have H:=H.trans le10;exact yM [] H ⟨_,rfl,rfl,h38⟩
   rintro I1 hf aa _ _ ⟨rfl,rfl⟩ _ _ ⟨b4,rfl,rfl,h38⟩ _ _ rfl;refine yP [43,49] rfl ?_;have h27:=iM aa h27;obtain⟨aN,k0,k01⟩:=h38;have h38:SL I1 (vS (some ⟨b4,0,none⟩) ([y19]:List zI) 1) ([y19]:List zI):=⟨_,k0,k01⟩;exact qA 81 7 0 rfl rfl rfl h27 (.inl k0) k01 hy7 λp18 c18 bH h39=>uD (ag:=(hO zI (vS p18 l c18) bH::hB b3 [vI y16,vI 0,z0,vI 0,vT ([]),z0,vS bb Kids bd]::hB b zExpr::hf)) rfl<|yM [hO zI (vS p18 l c18) bH] iR ⟨_,_,_,rfl,rfl,h39⟩
  rintro bV le11 _ _ ⟨p14,c14,p15,c15,p16,c16,p17,c17,rfl,rfl,h33,h34,h35,h36⟩ _ _ ⟨p18,c18,bH,rfl,rfl,h39⟩;refine yP [0,1,2,6,7,8,50] rfl ?_;have H:=H.trans le11;exact yG 10 [] [51] rfl<|xI 2 [vI y16,vI 0,z0,vI 0,vT ([]),z0,vS p18 l c18] rfl<|yA rfl<|zL<|zG<|zJ<|yK [] [8] rfl<|yU<|jS (zX [0,2,1,3] rfl (by decide))<|nD<|ih_spec_l3Value_l1 ae ai (W (i+1)) l y20 _ N H h39 h36 hg ho hx
 intro bM N;exact wM<|yS<|hx _ _ _ _ _ _ _ _ (zD N).symm H h27 h28
theorem zHm:∀r0 ae ai r,oM r0 ae ai=some r->∀{I:Imm}{aw}{p c},(S4 I p r0.b c)->RT 148 [vP aw 0,vI ae,vI ai] I [hB aw (cRd r0 p c)] (zBo aw r):=zHG.1
def zHH(b0:Nat)(r:zP×zO):KT:=λkk I' ag v=>
 ∃v0 k0,ag=[.blk b0 ⟨k0⟩]/\v=tupV [v0]/\(∃cs,v0=.agg ⟨cs⟩/\Rp.rep I' cs r.1)/\Rp.rep I' k0 r.2
def zAM(r0:zO)(ae:Int):Option (zP×zO):=do
 let (y1,y2)<-gQ r0 ae;let (y4,y5)<-xB y2 ([2,3,1,2]:List Int);let (y7,y8)<-oM y5 ae y4;let y9<-rW (zP.mk y1 y7) ae;if y9 then pure ((zP.mk y1 y7),y8)
 else
  let y10<-mJ;pure ((zP.mk (zK.mk (⟨[65]⟩:Str) ([y10]:List zA)) (zI.mk 1 1 (zA.mk ([]:List Int) 0) (zK.mk (⟨[]⟩:Str) ([]:List zA)) ([]:List zI))),y8)
theorem zIi:∀r0 ae r,zAM r0 ae=some r->∀{I:Imm}{aw}{p c},(S4 I p r0.b c)->RT 113 [vP aw 0,vI ae] I [hB aw (cRd r0 p c)] (zHH aw r):=by
 intro r0 ae r N I aw p c h;unfold zAM at N;refine yL func113 λB=>yF<|wI [vT ([]),z0,vI 0,vI 0,z0,vI 0,vT ([]),z0,z0] ?_;intro b hb;refine yA rfl<|yW<|yG 2 [] [6,7] rfl<|tX (zY [1,0] (ag:=[hB aw (cRd r0 p c),hB b [vT ([]),z0,vI 0,vI 0,z0,vI 0,vT ([]),z0,z0]])) ?_;obtain⟨⟨y1,y2⟩,hy,N⟩:=zB N;refine sG (zDl r0 ae _ hy h) rfl ?_;rintro I0 av v2 k2 le - ⟨v0,kk,rfl,rfl,⟨cs,rfl,h1⟩,h2⟩ -;obtain⟨p1,c1,rfl,h3⟩:=oA h1;obtain⟨p2,c2,rfl,h4⟩:=yD h2;refine yG 6 [] [9,10,11] rfl<|kM (rI [2,3,1,2]) ?_;intro b1 aT aa h6;have ⟨h3,h4⟩:=m2 aa h3 h4;obtain⟨⟨y4,y5⟩,ay,N⟩:=zB N;refine sG (xJ y2 ([2,3,1,2]:List Int) _ ay h4 h6) rfl ?_;rintro aP av v2 k2 aD - ⟨v03,kk1,rfl,rfl,rfl,h8⟩ -;have h3:=h3.mono aD;obtain⟨p3,c3,rfl,h9⟩:=yD h8;obtain⟨⟨y7,y8⟩,aF,N⟩:=zB N;refine sG (zHm y5 ae y4 _ aF h9) rfl ?_;rintro bx av v2 k2 aH - ⟨v05,kk2,rfl,rfl,⟨az,rfl,h10⟩,h11⟩ -;have h3:=h3.mono aH;obtain⟨p4,c4,p5,c5,p6,c6,rfl,h12,h13,h14⟩:=xX h10;obtain⟨p7,c7,rfl,h15⟩:=yD h11;refine yG 10 [] [15] rfl<|wI [vT ([]),z0,vI 0,vI 0,z0,vI 0,vT ([]),z0,z0] ?_;intro b2 hb2;refine xI 0 [vT y1.Array.l,vS p1 y1.Subs c1,vI y7.Kind,vI y7.Num,vS p4 y7.Index.Coefs c4,vI y7.Index.Const,vT y7.Read.Array.l,vS p5 y7.Read.Subs c5,vS p6 y7.Kids c6] rfl<|yA rfl<|zZ<|yF<|sW 2 [0] [(16,vA [vT y1.Array.l,vS p1 y1.Subs c1,vI y7.Kind,vI y7.Num,vS p4 y7.Index.Coefs c4,vI y7.Index.Const,vT y7.Read.Array.l,vS p5 y7.Read.Subs c5,vS p6 y7.Kids c6]),(17,vI ae)]<|bE N λy9 aX N=>vJ (zA5 (zP.mk y1 y7) ae _ aX h3 h12 h13 h14) ?_;intro bI bf;have ⟨h3,h12,h13,h14,h15⟩:=m5 bf h3 h12 h13 h14 h15;refine yA rfl<|zG<|yE N ?_ ?_
 ·intro hc N;refine yF<|sW 1 [0] [(19,vA [vT y1.Array.l,vS p1 y1.Subs c1,vI y7.Kind,vI y7.Num,vS p4 y7.Index.Coefs c4,vI y7.Index.Const,vT y7.Read.Array.l,vS p5 y7.Read.Subs c5,vS p6 y7.Kids c6])]<|xI 2 [vT y1.Array.l,vS p1 y1.Subs c1,vI y7.Kind,vI y7.Num,vS p4 y7.Index.Coefs c4,vI y7.Index.Const,vT y7.Read.Array.l,vS p5 y7.Read.Subs c5,vS p6 y7.Kids c6] rfl<|yA rfl<|xD<|zH ?_;exact xU N (resC 2 rfl rfl) (zX [1] rfl (by decide)) ⟨_,_,rfl,rfl,⟨_,rfl,(vL ⟨_,_,_,_,rfl,h3,h12,h13,h14⟩)⟩,(yY ⟨_,rfl,h15⟩)⟩
 intro hc N;refine zT<|yW<|bE N λy10 bk N=>xF (fG  _ bk ) ?_;rintro bL av v2 k2 bu - ⟨p8,c8,aM,rfl,rfl,h17⟩ -;have h15:=h15.mono bu;refine xM 0 rfl ?_;intro I06 bG hl01;have h18:=SL.of_frozen hl01 bG h17;have h15:=h15.mono bG;refine uP (cAff y10 p8 c8) zA ?_;intro b3 hb3;have h19:RL I06 (cAff y10 p8 c8) ([y10]:List zA):=⟨(cAff y10 p8 c8),_,rfl,rfl,(yT ⟨_,rfl,h18⟩),rfl⟩;refine yG 5 [] [24] rfl<|xI 3 [vT ([65]),vS (some ⟨b3,0,none⟩) ([y10]:List zA) 1,vI 1,vI 1,z0,vI 0,vT ([]),z0,z0] rfl<|yA rfl<|xD<|yZ 0 rfl ?_;intro I07 le7 hl02;have h20:=SL.of_frozen hl02 le7 h19;have h15:=h15.mono le7;exact xU N (resC 2 rfl rfl) (zX [1] rfl (by decide)) ⟨_,_,rfl,rfl,⟨_,rfl,(vL ⟨_,_,_,_,rfl,h20,(SL.nil _),(SL.nil _),(SL.nil _)⟩)⟩,(yY ⟨_,rfl,h15⟩)⟩
def zBp(r:(List zE)×Bool):KT:=λkk I' ag v=>
 ∃v0 v1,ag=[]/\v=tupV [v0,v1]/\SL I' v0 r.1/\v1=.bool r.2
def oN(sizes:(List Int))(out:List zE)(i:Int):Option (Out (List zE) ((List zE)×Bool)):=do
 if(decide (i<(sizes.length:Int))) then
  let t28<-(do
   let x<-idx sizes i;if(decide (x<0)) then pure true
   else
    let x1<-idx sizes i;pure (decide (x1>99))
     : Option Bool)
  if t28 then pure (.ret (([]:List zE),false))
  else
   let y<-mJ;let x2<-idx sizes i;let y1<-vO x2;let aq<-app 48 out ([(zE.mk ([y]:List zA) ([y1]:List zA))]:List zE);oN sizes aq (W (i+1))
 else pure (.done out)
 partial_fixpoint
theorem zFG(sizes:(List Int)):∀(out:List zE) (i:Int) (o:Out (List zE) ((List zE)×Bool)),oN sizes out i=some o->∀{B}{I0 I:Imm}{Q p c p1 c1 cs},I0.le I->(S4 I p sizes c)->(RL I cs out)->NG Q->NO Q->(∀I' aj p2 c2 az,o=(.done aj)->I0.le I'->(RL I' az aj)->T 43 B Q (.exit 0) I' [hO zE (vS p2 aj c2) az] [(4,vS p2 aj c2)])->(∀r I' ag m',o=(.ret r)->I0.le I'->RS Tryz.prog f115 B (zBp  r) I' ag m'->T 43 B Q .ret I' ag m')->J Tryz.prog 43 B (nav (bodyOf f115) [1,1,1,0,1,0]) Q I [hO zE (vS p1 out c1) cs] [(0,vS p sizes c),(4,vS p1 out c1),(5,vI i)]:=by
 refine oN.partial_correctness sizes _ λaI ih out i o N B I0 I Q p c p1 c1 cs H h h3 hg ho hx hr=>yV hg ho<|yB<|yH [14] rfl<|zG<|yE N ?_ ?_
 ·intro aE N;refine zT<|zZ<|yI<|yB<|yB ?_;refine wK N [hO zE (vS p1 out c1) cs] (λt28=>[(0,vS p sizes c),(4,vS p1 out c1),(5,vI i),(28,.bool t28)]) (λo0 aA=>?_) ?_
  ·have H:=iS I;refine zJ<|yG 2 [] [17,18] rfl ?_;obtain⟨x,hy,N⟩:=zB aA;refine xK rfl rfl h hy ?_;intro ad aN ap ak;obtain rfl:=ak;refine xA 0 ap [vI x] (vI x) rfl<|yG 6 [] [22] rfl<|xZ [22] N ?_ ?_
   ·intro aV N;exact wB [] [(28,vY)]<|yS<|zV (ct N H)
   intro aV N;refine yG 8 [] [23,24] rfl<|bE N λx1 ay N=>xK rfl rfl h ay ?_;intro ad1 bm ar au;obtain rfl:=au;exact xA 0 ar [vI x1] (vI x1) rfl<|yK [] [28] rfl<|yS<|zV (ct N H)
  intro t28 aT aa aQ;have ⟨h,h3,H⟩:=m3 aa h h3 H;refine zG<|yE aQ ?_ ?_
  ·intro bD N;refine yF<|uP [] zE ?_;intro b1 hb1;have h5:RL aT [] ([]:List zE):=rfl;refine yK [] [2,3] rfl<|xD<|zH<|zW<|zH<|zH<|yZ 0 rfl ?_;intro aP aD hl01;have h6:=SL.of_frozen hl01 aD h5;have H:=H.trans aD;exact hr _ _ _ _ (zD N).symm H ⟨_,_,(resU rfl rfl),zM,⟨_,_,rfl,rfl,h6,rfl⟩⟩
  intro bD N;refine zT<|zG ?_;obtain⟨y,aF,N⟩:=zB N;obtain⟨x2,aX,N⟩:=zB N;obtain⟨y1,bk,N⟩:=zB N;obtain⟨aq,bC,N⟩:=zB N;refine wA [.p (vS p1 out c1) [],.x (λI' v hx=>∃p3 c3 aM,v=vA (cAff y p3 c3)/\hx=[hO Int (vS p3 y.Coefs c3) aM]/\(RL I' aM y.Coefs)),.x (λI' v hx=>∃b2,v=vS (some ⟨b2,0,none⟩) ([y]:List zA) 1/\hx=[]/\(SL I' (vS (some ⟨b2,0,none⟩) ([y]:List zA) 1) ([y]:List zA))),.p (vS p sizes c) [],.p (vI i) [],.x (λI' v hx=>∃ad2,v=.pointer (some ad2)/\hx=[]/\(At I' ad2 [vI x2])),.q (vI x2),.x (λI' v hx=>∃p4 c4 aU,v=vA (cAff y1 p4 c4)/\hx=[hO Int (vS p4 y1.Coefs c4) aU]/\(RL I' aU y1.Coefs)),.x (λI' v hx=>∃b3,v=vS (some ⟨b3,0,none⟩) ([y1]:List zA) 1/\hx=[]/\(SL I' (vS (some ⟨b3,0,none⟩) ([y1]:List zA) 1) ([y1]:List zA))),.x (λI' v hx=>∃b21 b31,v=vA [vS (some ⟨b21,0,none⟩) ([y]:List zA) 1,vS (some ⟨b31,0,none⟩) ([y1]:List zA) 1]/\hx=[]/\(SL I' (vS (some ⟨b21,0,none⟩) ([y]:List zA) 1) ([y]:List zA))/\(SL I' (vS (some ⟨b31,0,none⟩) ([y1]:List zA) 1) ([y1]:List zA))),.x (λI' v hx=>∃b4,v=vS (some ⟨b4,0,none⟩) ([(zE.mk ([y]:List zA) ([y1]:List zA))]:List zE) 1/\hx=[]/\(SL I' (vS (some ⟨b4,0,none⟩) ([(zE.mk ([y]:List zA) ([y1]:List zA))]:List zE) 1) ([(zE.mk ([y]:List zA) ([y1]:List zA))]:List zE))),.x (λI' v hx=>∃p5 c5 bv,v=vS p5 aq c5/\hx=[hO zE (vS p5 aq c5) bv]/\(RL I' bv aq))] [[],[],[(1,true)],[],[],[(3,false),(4,false)],[(5,false)],[(6,false)],[(7,true)],[(2,false),(8,false)],[(9,false)],[(0,false),(10,false),(13,true)]] [] [[hO zE (vS p1 out c1) cs]] [(11,true)] (zY [0]) ?_ ?_
  ·refine Op<|Ox ?_<|Ox ?_<|O2<|Ox ?_<|Oq ?_<|Ox ?_<|Ox ?_<|Ox ?_<|Ox ?_<|Ox ?_<|On
   ·intro I1 hf aa;refine eN [] ?_;have H:=iS I1;refine xF (fG  _ aF ) ?_;rintro bx av v2 k2 aH - ⟨p3,c3,aM,rfl,rfl,h7⟩ -;have H:=H.trans aH;exact yM [hO Int (vS p3 y.Coefs c3) aM] H ⟨_,_,_,rfl,rfl,h7⟩
   ·rintro I1 hf aa _ _ ⟨p3,c3,aM,rfl,rfl,h7⟩;refine yP [31] rfl ?_;have H:=iS I1;refine xM 0 rfl ?_;intro bI bf hl02;have h8:=SL.of_frozen hl02 bf h7;have H:=H.trans bf;refine kM (rc y (yT ⟨_,rfl,h8⟩) rN) ?_;intro b2 bL bu h10;have H:=H.trans bu;exact yM [] H ⟨_,rfl,rfl,h10⟩
   ·intro I1 hf aa;refine yP [33,34] rfl ?_;have h:=h.mono aa;refine xK rfl rfl h aX ?_;intro ad2 bO aS aZ;obtain rfl:=aZ;exact yM [] iR ⟨_,rfl,rfl,aS⟩
   ·rintro I1 hf aa _ _ ⟨ad2,rfl,rfl,aS⟩;exact yP [35] rfl<|xA 0 aS [vI x2] (vI x2) rfl<|yR iR
   ·intro I1 hf aa;refine yP [36] rfl ?_;have H:=iS I1;refine xF (tC x2 _ bk ) ?_;rintro I06 av v2 k2 bG - ⟨p4,c4,aU,rfl,rfl,h11⟩ -;have H:=H.trans bG;exact yM [hO Int (vS p4 y1.Coefs c4) aU] H ⟨_,_,_,rfl,rfl,h11⟩
   ·rintro I1 hf aa _ _ ⟨p4,c4,aU,rfl,rfl,h11⟩;refine yP [37] rfl ?_;have H:=iS I1;refine xM 0 rfl ?_;intro I07 le7 hl04;have h12:=SL.of_frozen hl04 le7 h11;have H:=H.trans le7;refine kM (rc y1 (yT ⟨_,rfl,h12⟩) rN) ?_;intro b3 I08 le8 h14;have H:=H.trans le8;exact yM [] H ⟨_,rfl,rfl,h14⟩
   ·rintro I1 hf aa _ _ ⟨b2,rfl,rfl,h10⟩ _ _ ⟨b3,rfl,rfl,h14⟩;exact yP [32,38] rfl<|tD 10 [(39,vA [vS (some ⟨b2,0,none⟩) ([y]:List zA) 1,vS (some ⟨b3,0,none⟩) ([y1]:List zA) 1])]<|yM [] iR ⟨_,_,rfl,rfl,h10,h14⟩
   ·rintro I1 hf aa _ _ ⟨b21,b31,rfl,rfl,h101,h141⟩;refine yP [39] rfl ?_;have H:=iS I1;refine kM (rc (zE.mk ([y]:List zA) ([y1]:List zA)) (qR ⟨_,_,rfl,h101,h141⟩) rN) ?_;intro b4 I09 le9 h16;have H:=H.trans le9;exact yM [] H ⟨_,rfl,rfl,h16⟩
   rintro I1 hf aa _ _ ⟨rfl,rfl⟩ _ _ ⟨b4,rfl,rfl,h16⟩ _ _ rfl;refine yP [30,40] rfl ?_;have h3:=iM aa h3;obtain⟨ccs3,k0,k01⟩:=h16;have h16:SL I1 (vS (some ⟨b4,0,none⟩) ([(zE.mk ([y]:List zA) ([y1]:List zA))]:List zE) 1) ([(zE.mk ([y]:List zA) ([y1]:List zA))]:List zE):=⟨_,k0,k01⟩;exact qA 150 2 0 rfl rfl rfl h3 (.inl k0) k01 bC λp5 c5 bv h17=>uD (ag:=(hO zE (vS p5 aq c5) bv::hf)) rfl<|yM [hO zE (vS p5 aq c5) bv] iR ⟨_,_,_,rfl,rfl,h17⟩
  rintro bP le10 _ _ ⟨p5,c5,bv,rfl,rfl,h17⟩;refine yP [0,5,41] rfl ?_;have ⟨h,H⟩:=m2 le10 h H;exact yK [] [4] rfl<|zL<|zG<|zJ<|yK [] [5] rfl<|yU<|nD<|ih aq (W (i+1)) _ N H h h17 hg ho hx hr
 intro aE N;exact wM<|yS<|hx _ _ _ _ _ (zD N).symm H h3
def dO(sizes:(List Int)):Option ((List zE)×Bool):=do
 if(decide ((sizes.length:Int)>4)) then pure (([]:List zE),false)
 else
  match<-oN sizes ([]:List zE) 0 with
  | .ret r0=>pure r0
  | .done aj=>
   pure (aj,true)
theorem zHn:∀sizes r,dO sizes=some r->∀{I:Imm}{p c},(S4 I p sizes c)->RT 115 [vS p sizes c] I [] (zBp  r):=by
 intro sizes r N I p c h;unfold dO at N;refine yL func115 λB=>wL []<|yW<|uP [] zE ?_;intro b hb;have h1:RL I [] ([]:List zE):=rfl;refine yK [] [4] rfl<|zZ<|yH [9] rfl<|zG<|yE N ?_ ?_
 ·intro hc N;refine yH [2,3] rfl<|xD<|zH<|yZ 0 rfl ?_;intro I0 le hl0;have h2:=SL.of_frozen hl0 le h1;exact xU N (resU rfl rfl) zM ⟨_,_,rfl,rfl,h2,rfl⟩
 intro hc N;refine zT<|zZ<|yH [5] rfl<|xY<|pE [(0,vS p sizes c),(4,vS (some ⟨b,0,none⟩) ([]:List zE) 0),(5,vI 0)] ?_;obtain⟨aO,aB,aG⟩:=zB N;refine zFG sizes ([]:List zE) 0 aO aB iR h h1 nG nO ?_ ?_
 ·intro bV aj p2 c2 az heq1 le11 h4;subst aO;refine zS<|wV [2,3] rfl<|xD<|yZ 0 rfl ?_;intro bW le12 hl07;have h18:=SL.of_frozen hl07 le12 h4;exact xU aG (resU rfl rfl) zM ⟨_,_,rfl,rfl,h18,rfl⟩
 intro r0 I9 hs9 m9 aW le9 aY;subst aW;refine zW<|zH ?_;obtain rfl:=zD aG;exact fO aY
def zC2(b0:Nat)(r:zQ×zO):KT:=λkk I' ag v=>
 ∃v0 k0,ag=[.blk b0 ⟨k0⟩]/\v=tupV [v0]/\(∃cs,v0=.agg ⟨cs⟩/\Rp.rep I' cs r.1)/\Rp.rep I' k0 r.2
def nY(y1:(List zE))(Body2:List zP)(n0:Int)(x6:zO):Option ((List zP×zO)):=do
 if(decide (n0<5)) then
  let (y7,y8)<-zAM x6 (y1.length:Int);let y9<-gO;let (y11,y12)<-mL y9 (zQ.mk y1 ([y7]:List zP));if y12 then
   let l<-app 152 Body2 ([y7]:List zP);pure (l,y8)
  else nY y1 Body2 (W (n0+1)) y8
 else pure (Body2,x6)
 partial_fixpoint
theorem zGD(y1:(List zE))(Body2:List zP):∀(n0:Int) (x6:zO) (o:(List zP×zO)),nY y1 Body2 n0 x6=some o->∀{B}{I0 I:Imm}{Q}{i:Int}{x:zQ}{k0:Int}{aw b}{p1 c1 p2 c2 p7 c7}{b1}{p14 c14 aM p15 c15},I0.le I->(S4 I p7 y1 c7)->(S4 I p1 x.Nest c1)->(S4 I p2 x.Body c2)->(RL I aM Body2)->(S4 I p15 x6.b c15)->NG Q->NO Q->(∀I' Body3 x7 p16 c16 aU p17 c17,o=(Body3,x7)->I0.le I'->(RL I' aU Body3)->(S4 I' p17 x7.b c17)->T 81 B Q (.exit 4) I' [hO zP (vS p16 Body3 c16) aU,hB aw (cRd x7 p17 c17),hB b1 [vS p7 y1 c7,vS p16 Body3 c16],hB b (cPart x p1 c1 p2 c2)] [(0,vP aw 0),(2,vP b 0),(3,vI i),(4,vP b1 0),(5,vI k0)])->J Tryz.prog 81 B (nav (bodyOf f77) [1,0,1,0,0,1,0,0,1,0,1,0,0,1,0,0,1,0]) Q I [hO zP (vS p14 Body2 c14) aM,hB aw (cRd x6 p15 c15),hB b1 [vS p7 y1 c7,vS p14 Body2 c14],hB b (cPart x p1 c1 p2 c2)] [(0,vP aw 0),(2,vP b 0),(3,vI i),(4,vP b1 0),(5,vI k0),(6,vI n0)]:=by
 refine nY.partial_correctness y1 Body2 _ λaI ih n0 x6 o N B I0 I Q i x k0 aw b p1 c1 p2 c2 p7 c7 b1 p14 c14 aM p15 c15 H h7 h1 h2 h20 h21 hg ho hx=>yV hg ho<|yB<|yH [31] rfl<|zG<|yE N ?_ ?_
 ·intro aV N;refine zT<|zZ<|yI<|yF<|yG 4 [2] [34,37] rfl<|tX (zY [1,0,2,3] (ag:=[hB aw (cRd x6 p15 c15),hO zP (vS p14 Body2 c14) aM,hB b1 [vS p7 y1 c7,vS p14 Body2 c14],hB b (cPart x p1 c1 p2 c2)])) ?_;obtain⟨⟨y7,y8⟩,aF,N⟩:=zB N;refine sG (zIi x6 (y1.length:Int) _ aF h21) rfl ?_;rintro bx av v2 k2 aH - ⟨v04,kk2,rfl,rfl,⟨bv,rfl,h24⟩,h25⟩ -;have ⟨h20,h7,h1,h2,H⟩:=m5 aH h20 h7 h1 h2 H;obtain⟨p18,c18,p19,c19,p20,c20,p21,c21,rfl,h26,h27,h28,h29⟩:=sA h24;obtain⟨p22,c22,rfl,h30⟩:=yD h25;refine wI [vT ([]),z0,vI 0,vI 0,z0,vI 0,vT ([]),z0,z0] ?_;intro b3 hb3;refine xI 0 (cStmt y7 p18 c18 p19 c19 p20 c20 p21 c21) rfl<|yA rfl<|zG<|yB ?_;obtain⟨y9,aX,N⟩:=zB N;obtain⟨⟨y11,y12⟩,bk,N⟩:=zB N;refine wA [.x (eS y9),.p (vP b1 0) [],.p (vS p7 y1 c7) [3],.p (vA (cStmt y7 p18 c18 p19 c19 p20 c20 p21 c21)) [0],.x (λI' v hx=>∃b4,v=vS (some ⟨b4,0,none⟩) ([y7]:List zP) 1/\hx=[]/\(SL I' (vS (some ⟨b4,0,none⟩) ([y7]:List zP) 1) ([y7]:List zP))),.x (λI' v hx=>∃b41,v=vA [vS p7 y1 c7,vS (some ⟨b41,0,none⟩) ([y7]:List zP) 1]/\hx=[]/\(SL I' (vS (some ⟨b41,0,none⟩) ([y7]:List zP) 1) ([y7]:List zP))),.q (.tuple ⟨[vI y11,.bool y12]⟩),.p (.tuple ⟨[vI y11,.bool y12]⟩) [],.p (vI y11) [],.p (.bool y12) [],.p (vI y11) []] [[],[],[(1,false)],[],[(3,false)],[(2,false),(4,false)],[(0,false),(5,false)],[(6,false)],[(7,false)],[(7,false)],[(8,false)]] [hB b3 (cStmt y7 p18 c18 p19 c19 p20 c20 p21 c21),hB aw (cRd y8 p22 c22),hO zP (vS p14 Body2 c14) aM,hB b1 [vS p7 y1 c7,vS p14 Body2 c14],hB b (cPart x p1 c1 p2 c2)] [] [(9,false)] (zY [0,1,2,3,4]) ?_ ?_
  ·refine Ox ?_<|O3<|Ox ?_<|Ox ?_<|Oq ?_<|O4<|On
   ·intro I1 hf aa;refine eN [] ?_;have H:=iS I1;refine xF (zA6  _ aX ) ?_;rintro bI av v2 k2 bf - ⟨v010,rfl,rfl,h31⟩ -;have H:=H.trans bf;obtain⟨p23,c23,rfl⟩:=h31.form;exact yM [] H ⟨_,_,rfl,rfl,h31⟩
   ·intro I1 hf aa;refine yP [43] rfl ?_;have H:=iS I1;have ⟨h26,h27,h28,h29⟩:=m4 aa h26 h27 h28 h29;refine kM (rc y7 (vL ⟨_,_,_,_,rfl,h26,h27,h28,h29⟩) rN) ?_;intro b4 bL bu h33;have H:=H.trans bu;exact yM [] H ⟨_,rfl,rfl,h33⟩
   ·rintro I1 hf aa _ _ ⟨rfl,rfl⟩ _ _ ⟨b4,rfl,rfl,h33⟩;refine yP [42,44] rfl ?_;exact tD 6 [(45,vA [vS p7 y1 c7,vS (some ⟨b4,0,none⟩) ([y7]:List zP) 1])]<|yM [] iR ⟨_,rfl,rfl,h33⟩
   rintro I1 hf aa _ _ ⟨p23,c23,rfl,rfl,h31⟩ _ _ ⟨b41,rfl,rfl,h331⟩;refine yP [40,45] rfl ?_;have H:=iS I1;have h7:=h7.mono aa;refine xF (zB0 y9 (zQ.mk y1 ([y7]:List zP)) _ bk h31 h7 h331) ?_;rintro I06 av v2 k2 bG - ⟨v011,v012,rfl,rfl,rfl,rfl⟩ -;have H:=H.trans bG;exact yR H
  intro I07 le7;refine yP [0,2,3,4,5,6,7,48] rfl ?_;have ⟨h26,h27,h28,h29,h30,h20⟩:=m6 le7 h26 h27 h28 h29 h30 h20;have ⟨h7,h1,h2,H⟩:=m4 le7 h7 h1 h2 H;refine yK [] [9] rfl<|wV [49] rfl<|zG<|yE N ?_ ?_
  ·intro bD N;refine yF<|sW 3 [3,0] [(51,vS p14 Body2 c14),(52,vA (cStmt y7 p18 c18 p19 c19 p20 c20 p21 c21))]<|uP (cStmt y7 p18 c18 p19 c19 p20 c20 p21 c21) zP ?_;intro b5 hb5;have h36:RL I07 (cStmt y7 p18 c18 p19 c19 p20 c20 p21 c21) ([y7]:List zP):=⟨(cStmt y7 p18 c18 p19 c19 p20 c20 p21 c21),_,rfl,rfl,(vL ⟨_,_,_,_,rfl,h26,h27,h28,h29⟩),rfl⟩;obtain⟨l,bC,N⟩:=zB N;refine qA 83 9 3 rfl rfl rfl h20 (.inr ⟨0,rfl⟩) h36 bC ?_;intro p24 c24 bH h37;exact tX (zY [1,2,3,4,5] (ag:=[hB b3 (cStmt y7 p18 c18 p19 c19 p20 c20 p21 c21),hB aw (cRd y8 p22 c22),hO zP (vS p24 l c24) bH,hB b1 [vS p7 y1 c7,vS p14 Body2 c14],hB b (cPart x p1 c1 p2 c2)]))<|yG 6 [] [55] rfl<|xI 3 [vS p7 y1 c7,vS p24 l c24] rfl<|yA rfl<|zG<|zIN<|zJ0 rfl<|eZ<|eZ<|xW (zX [2,1,3,4] rfl (by decide))<|yS<|hx _ _ _ _ _ _ _ _ (zD N).symm H h37 h30
  intro bD N;exact zT<|zL<|zG<|zJ<|yK [] [6] rfl<|yU<|jS (zX [2,1,3,4] rfl (by decide))<|nD<|ih (W (n0+1)) y8 _ N H h7 h1 h2 h20 h30 hg ho hx
 intro aV N;exact wM<|yS<|hx _ _ _ _ _ _ _ _ (zD N).symm H h20 h21
def mA(y1:(List zE))(k0:Int)(Body:List zP)(x4:zO):Option ((List zP×zO)):=do
 if(decide (k0>0)) then
  let (Body3,x7)<-nY y1 Body 0 x4;mA y1 (W (k0 - 1)) Body3 x7
 else pure (Body,x4)
 partial_fixpoint
theorem zGE(y1:(List zE)):∀(k0:Int) (Body:List zP) (x4:zO) (o:(List zP×zO)),mA y1 k0 Body x4=some o->∀{B}{I0 I:Imm}{Q}{i:Int}{x:zQ}{aw b}{p1 c1 p2 c2 p7 c7}{b1}{bb bd cs aR bh},I0.le I->(S4 I p7 y1 c7)->(S4 I p1 x.Nest c1)->(S4 I p2 x.Body c2)->(RL I cs Body)->(S4 I aR x4.b bh)->NG Q->NO Q->(∀I' bt x5 bz bo az bj bw,o=(bt,x5)->I0.le I'->(RL I' az bt)->(S4 I' bj x5.b bw)->T 81 B Q (.exit 2) I' [hO zP (vS bz bt bo) az,hB aw (cRd x5 bj bw),hB b1 [vS p7 y1 c7,vS bz bt bo],hB b (cPart x p1 c1 p2 c2)] [(0,vP aw 0),(2,vP b 0),(3,vI i),(4,vP b1 0)])->J Tryz.prog 81 B (nav (bodyOf f77) [1,0,1,0,0,1,0,0,1,0,1,0]) Q I [hO zP (vS bb Body bd) cs,hB aw (cRd x4 aR bh),hB b1 [vS p7 y1 c7,vS bb Body bd],hB b (cPart x p1 c1 p2 c2)] [(0,vP aw 0),(2,vP b 0),(3,vI i),(4,vP b1 0),(5,vI k0)]:=by
 refine mA.partial_correctness y1 _ λaI ih k0 Body x4 o N B I0 I Q i x aw b p1 c1 p2 c2 p7 c7 b1 bb bd cs aR bh H h7 h1 h2 h16 h17 hg ho hx=>yV hg ho<|yB<|yH [27] rfl<|zG<|yE N ?_ ?_
 ·intro aE N;refine zT<|zZ<|yI<|yH [6] rfl<|xY<|pE [(0,vP aw 0),(2,vP b 0),(3,vI i),(4,vP b1 0),(5,vI k0),(6,vI 0)] ?_;obtain⟨o0,aA,aG⟩:=zB N;refine zGD y1 Body 0 x4 o0 aA iR h7 h1 h2 h16 h17 (λ_ _ _ h=>hg _ _ _ h) (λ_ _ h=>ho _ _ h) ?_;intro I08 Body3 x7 p16 c16 aU p17 c17 heq le8 h22 h23;subst o0;have ⟨h7,h1,h2,H⟩:=m4 le8 h7 h1 h2 H;exact zS<|zL<|zG<|zJ<|yK [] [5] rfl<|yU<|nD<|ih (W (k0 - 1)) Body3 x7 _ aG H h7 h1 h2 h22 h23 hg ho hx
 intro aE N;exact wM<|yS<|hx _ _ _ _ _ _ _ _ (zD N).symm H h16 h17
def mB(x:zQ)(i:Int)(x1:zO):Option (Out (zQ×zO) (zQ×zO)):=do
 if(decide (i<4)) then
  let (y1,y2)<-zAL x1;let (y4,y5)<-xB y2 ([1,2,1,3]:List Int);let (bt,x5)<-mA y1 y4 ([]:List zP) y5;let y13<-gO;let (y15,y16)<-mL y13 (zQ.mk y1 bt);let t66<-(do
   if y16 then pure (decide (y15<=40))
   else
    pure false
     : Option Bool)
  if t66 then pure (.ret ((zQ.mk y1 bt),x5))
  else mB x (W (i+1)) x5
 else pure (.done (x,x1))
 partial_fixpoint
theorem zGF(x:zQ):∀(i:Int) (x1:zO) (o:Out (zQ×zO) (zQ×zO)),mB x i x1=some o->∀{B}{I0 I:Imm}{Q}  {aw b}{p1 c1 p2 c2 p3 c3},I0.le I->(S4 I p1 x.Nest c1)->(S4 I p2 x.Body c2)->(S4 I p3 x1.b c3)->NG Q->NO Q->(∀I' x2 x3 p4 c4 p5 c5 p6 c6,o=(.done (x2,x3))->I0.le I'->(S4 I' p4 x2.Nest c4)->(S4 I' p5 x2.Body c5)->(S4 I' p6 x3.b c6)->T 81 B Q (.exit 0) I' [hB b (cPart x2 p4 c4 p5 c5),hB aw (cRd x3 p6 c6)] [(2,vP b 0)])->(∀r I' ag m',o=(.ret r)->I0.le I'->RS Tryz.prog f77 B (zC2 aw r) I' ag m'->T 81 B Q .ret I' ag m')->J Tryz.prog 81 B (nav (bodyOf f77) [1,0,1,0]) Q I [hB b (cPart x p1 c1 p2 c2),hB aw (cRd x1 p3 c3)] [(0,vP aw 0),(2,vP b 0),(3,vI i)]:=by
 refine mB.partial_correctness x _ λaI ih i x1 o N B I0 I Q aw b p1 c1 p2 c2 p3 c3 H h1 h2 h3 hg ho hx hr=>yV hg ho<|yB<|yH [17] rfl<|zG<|yE N ?_ ?_
 ·intro hc N;refine zT<|zZ<|yI<|yF<|yG 1 [] [20] rfl<|tX (zY [1,0] (ag:=[hB aw (cRd x1 p3 c3),hB b (cPart x p1 c1 p2 c2)])) ?_;obtain⟨⟨y1,y2⟩,hy,N⟩:=zB N;refine sG (zIg x1 _ hy h3) rfl ?_;rintro I0 av v2 k2 le - ⟨v0,kk,rfl,rfl,h7,h8⟩ -;have ⟨h1,h2,H⟩:=m3 le h1 h2 H;obtain⟨p7,c7,rfl⟩:=h7.form;obtain⟨p8,c8,rfl,h9⟩:=yD h8;refine yG 3 [] [22] rfl<|wI zTwo ?_;intro b1 hb1;refine xI 0 [vS p7 y1 c7,z0] rfl<|yA rfl<|zZ<|yF<|yG 1 [] [23] rfl<|kM (rI [1,2,1,3]) ?_;intro b2 aT aa h11;have ⟨h7,h9,h1,h2,H⟩:=m5 aa h7 h9 h1 h2 H;refine tX (zY [1,0,2] (ag:=[hB aw (cRd y2 p8 c8),hB b1 [vS p7 y1 c7,z0],hB b (cPart x p1 c1 p2 c2)])) ?_;obtain⟨⟨y4,y5⟩,ay,N⟩:=zB N;refine sG (xJ y2 ([1,2,1,3]:List Int) _ ay h9 h11) rfl ?_;rintro aP av v2 k2 aD - ⟨v02,kk1,rfl,rfl,rfl,h13⟩ -;have ⟨h7,h1,h2,H⟩:=m4 aD h7 h1 h2 H;obtain⟨p9,c9,rfl,h14⟩:=yD h13;refine yK [] [5] rfl<|xY<|pE [(0,vP aw 0),(2,vP b 0),(3,vI i),(4,vP b1 0),(5,vI y4)]<|zAm zP λh15=>?_;obtain⟨aO,aB,hMl1⟩:=zB N;refine zGE y1 y4 ([]:List zP) y5 aO aB iR h7 h1 h2 h15 h14 (λ_ _ _ h=>hg _ _ _ h) (λ_ _ h=>ho _ _ h) ?_;intro I09 bt x5 bz bo az bj bw heq1 le9 h18 h19;subst aO;have ⟨h7,h1,h2,H⟩:=m4 le9 h7 h1 h2 H;refine zS<|zZ<|mM 0 rfl ?_;intro bP le10 hl02;have h38:=SL.of_frozen hl02 le10 h18;have ⟨h19,h7,h1,h2,H⟩:=m5 le10 h19 h7 h1 h2 H;obtain⟨y13,hy6,N⟩:=zB hMl1;obtain⟨⟨y15,y16⟩,hy7,N⟩:=zB N;refine wA [.x (eS y13),.p (vA [vS p7 y1 c7,vS bz bt bo]) [1],.q (.tuple ⟨[vI y15,.bool y16]⟩),.p (.tuple ⟨[vI y15,.bool y16]⟩) [],.p (vI y15) [],.p (.bool y16) [],.p (vI y15) []] [[],[],[(0,false),(1,false)],[(2,false)],[(3,false)],[(3,false)],[(4,false)]] [hB aw (cRd x5 bj bw),hB b1 [vS p7 y1 c7,vS bz bt bo],hB b (cPart x p1 c1 p2 c2)] [] [(5,false),(6,false)] (zY [0,1,2]) ?_ ?_
  ·refine Ox ?_<|Op<|Oq ?_<|O4<|On
   ·intro I1 hf aa;refine eN [] ?_;have H:=iS I1;refine xF (zA6  _ hy6 ) ?_;rintro bV av v2 k2 le11 - ⟨v013,rfl,rfl,h39⟩ -;have H:=H.trans le11;obtain⟨p25,c25,rfl⟩:=h39.form;exact yM [] H ⟨_,_,rfl,rfl,h39⟩
   rintro I1 hf aa _ _ ⟨p25,c25,rfl,rfl,h39⟩;refine yP [57,58] rfl ?_;have H:=iS I1;have ⟨h7,h38⟩:=m2 aa h7 h38;refine xF (zB0 y13 (zQ.mk y1 bt) _ hy7 h39 h7 h38) ?_;rintro bW av v2 k2 le12 - ⟨v014,v015,rfl,rfl,rfl,rfl⟩ -;have H:=H.trans le12;exact yR H
  intro I013 le13;refine yP [0,2,3,4,10,61] rfl ?_;have ⟨h19,h7,h38,h1,h2,H⟩:=m6 le13 h19 h7 h38 h1 h2 H;refine yK [] [11] rfl<|zG<|yB ?_;refine wK N [hB aw (cRd x5 bj bw),hB b1 [vS p7 y1 c7,vS bz bt bo],hB b (cPart x p1 c1 p2 c2)] (λt66=>[(0,vP aw 0),(2,vP b 0),(3,vI i),(4,vP b1 0),(66,.bool t66)]) (λo02 ho02=>?_) ?_
  ·have H:=iS I013;refine zJ<|yG 2 [] [63] rfl<|xZ [63] ho02 ?_ ?_
   ·intro bM N;exact yK [] [66] rfl<|yS<|zV (ct N H)
   intro bM N;exact wB [] [(66,vF)]<|yS<|zV (ct N H)
  intro t66 I014 le14 aQ;have ⟨h19,h7,h38,h1,h2,H⟩:=m6 le14 h19 h7 h38 h1 h2 H;refine zG<|yE aQ ?_ ?_
  ·intro hc5 N;exact yF<|sW 1 [1] [(67,vA [vS p7 y1 c7,vS bz bt bo])]<|xI 2 [vS p7 y1 c7,vS bz bt bo] rfl<|yA rfl<|xD<|zW<|zH<|zH<|hr _ _ _ _ (zD N).symm H ⟨_,_,(resC 2 rfl rfl),(zX [0] rfl (by decide)),⟨_,_,rfl,rfl,⟨_,rfl,(qS ⟨_,_,rfl,h7,h38⟩)⟩,(yY ⟨_,rfl,h19⟩)⟩⟩
  intro hc5 N;exact zT<|zL<|zG<|zJ<|yK [] [3] rfl<|yU<|jS (zX [2,0] rfl (by decide))<|nD<|ih (W (i+1)) x5 _ N H h1 h2 h19 hg ho hx hr
 intro hc N;exact wM<|yS<|hx _ _ _ _ _ _ _ _ _ (zD N).symm H h1 h2 h3
def zAN(r0:zO):Option (zQ×zO):=do
 match<-mB (zQ.mk ([]:List zE) ([]:List zP)) 0 r0 with
 | .ret r0=>pure r0
 | .done (x2,x3)=>
  let (y18,y19)<-kW (⟨qL1⟩:Str);let (y21,y22)<-dO ([4]:List Int);pure ((zQ.mk y21 ([y18]:List zP)),x3)
theorem zIj:∀r0 r,zAN r0=some r->∀{I:Imm}{aw}{p c},(S4 I p r0.b c)->RT 77 [vP aw 0] I [hB aw (cRd r0 p c)] (zC2 aw r):=by
 intro r0 r N I aw p c h;unfold zAN at N;refine yL func77 λB=>yF<|wI zTwo ?_;intro b hb;refine yA rfl<|zZ<|yH [3] rfl<|xY<|pE [(0,vP aw 0),(2,vP b 0),(3,vI 0)] ?_;obtain⟨o03,ho03,hMl2⟩:=zB N;refine zGF (zQ.mk ([]:List zE) ([]:List zP)) 0 r0 o03 ho03 iR (SL.nil _) (SL.nil _) h nG nO ?_ ?_
 ·intro I015 x2 x3 p4 c4 p5 c5 p6 c6 heq3 le15 h4 h5 h6;subst o03;refine zS<|zZ<|zJ ?_;obtain⟨⟨y18,y19⟩,hy8,N⟩:=zB hMl2;refine xF (zBk (⟨qL1⟩:Str) _ hy8 ) ?_;rintro I016 av v2 k2 le16 - ⟨v016,v017,rfl,rfl,⟨cs6,rfl,h42⟩,rfl⟩ -;have h6:=h6.mono le16;obtain⟨p26,c26,p27,c27,p28,c28,p29,c29,rfl,h44,h45,h46,h47⟩:=sA h42;refine yG 4 [] [70,71] rfl<|wI [vT ([]),z0,vI 0,vI 0,z0,vI 0,vT ([]),z0,z0] ?_;intro b6 hb6;refine xI 0 (cStmt y18 p26 c26 p27 c27 p28 c28 p29 c29) rfl<|wB [] []<|yW<|kM (rI [4]) ?_;intro b7 I017 le17 h49;have ⟨h44,h45,h46,h47,h6⟩:=m5 le17 h44 h45 h46 h47 h6;obtain⟨⟨y21,y22⟩,hy9,N⟩:=zB N;refine xF (zHn ([4]:List Int) _ hy9 h49) ?_;rintro I018 av v2 k2 le18 - ⟨v022,v023,rfl,rfl,h50,rfl⟩ -;have ⟨h44,h45,h46,h47,h6⟩:=m5 le18 h44 h45 h46 h47 h6;obtain⟨p30,c30,rfl⟩:=h50.form;refine yK [] [14] rfl<|yW<|sW 2 [0] [(77,vS p30 y21 c30),(78,vA (cStmt y18 p26 c26 p27 c27 p28 c28 p29 c29))]<|uP (cStmt y18 p26 c26 p27 c27 p28 c28 p29 c29) zP ?_;intro b8 hb8;have h52:RL I018 (cStmt y18 p26 c26 p27 c27 p28 c28 p29 c29) ([y18]:List zP):=⟨(cStmt y18 p26 c26 p27 c27 p28 c28 p29 c29),_,rfl,rfl,(vL ⟨_,_,_,_,rfl,h44,h45,h46,h47⟩),rfl⟩;refine yG 4 [] [80] rfl<|xI 2 [vS p30 y21 c30,vS (some ⟨b8,0,none⟩) ([y18]:List zP) 1] rfl<|yA rfl<|xD<|yZ 0 rfl ?_;intro I019 le19 hl04;have h53:=SL.of_frozen hl04 le19 h52;have ⟨h50,h6⟩:=m2 le19 h50 h6;exact xU N (resC 1 rfl rfl) (zX [2] rfl (by decide)) ⟨_,_,rfl,rfl,⟨_,rfl,(qS ⟨_,_,rfl,h50,h53⟩)⟩,(yY ⟨_,rfl,h6⟩)⟩
 intro r0 I9 hs9 m9 aW le9 aY;subst aW;refine zW<|zH ?_;obtain rfl:=zD hMl2;exact fO aY
def zHI(b0:Nat)(r:zC×zO):KT:=λkk I' ag v=>
 ∃v0 k0,ag=[.blk b0 ⟨k0⟩]/\v=tupV [v0]/\(∃cs,v0=.agg ⟨cs⟩/\Rp.rep I' cs r.1)/\Rp.rep I' k0 r.2
def mC(i:Int)(Parts:List zQ)(x:zO):Option ((List zQ×zO)):=do
 if(decide (i>0)) then
  let (y5,y6)<-zAN x;let l<-app 48 Parts ([y5]:List zQ);mC (W (i - 1)) l y6
 else pure (Parts,x)
 partial_fixpoint
theorem zGG :∀(i:Int) (Parts:List zQ) (x:zO) (o:(List zQ×zO)),mC i Parts x=some o->∀{B}{I0 I:Imm}{Q}{y:(List zF)}{aw b}{p1 c1}{b1}{p3 c3 cs p4 c4},I0.le I->(S4 I p1 y c1)->(RL I cs Parts)->(S4 I p4 x.b c4)->NG Q->NO Q->(∀I' bi x1 p5 c5 az p6 c6,o=(bi,x1)->I0.le I'->(RL I' az bi)->(S4 I' p6 x1.b c6)->T 29 B Q (.exit 0) I' [hO zQ (vS p5 bi c5) az,hB aw (cRd x1 p6 c6),hB b1 [vS p1 y c1,vS p5 bi c5],hB b zTwo] [(2,vP b 0),(3,vP b1 0)])->J Tryz.prog 29 B (nav (bodyOf f41) [1,1,0,1,0]) Q I [hO zQ (vS p3 Parts c3) cs,hB aw (cRd x p4 c4),hB b1 [vS p1 y c1,vS p3 Parts c3],hB b zTwo] [(0,vP aw 0),(2,vP b 0),(3,vP b1 0),(4,vI i)]:=by
 refine mC.partial_correctness  _ λaI ih i Parts x o N B I0 I Q y aw b p1 c1 b1 p3 c3 cs p4 c4 H h1 h8 h9 hg ho hx=>yV hg ho<|yB<|yH [11] rfl<|zG<|yE N ?_ ?_
 ·intro hc N;refine zT<|zZ<|yI ?_;obtain⟨⟨y5,y6⟩,aF,N⟩:=zB N;obtain⟨l,aX,N⟩:=zB N;refine wA [.p (vP b1 1) [],.p (vS p3 Parts c3) [0],.p (vP aw 0) [],.x (λI' v hx=>∃p7 c7 p8 c8 p9 c9,v=vA (cPart y5 p7 c7 p8 c8)/\hx=[hB aw (cRd y6 p9 c9)]/\(S4 I' p7 y5.Nest c7)/\(S4 I' p8 y5.Body c8)/\(S4 I' p9 y6.b c9)),.x (λI' v hx=>∃b3,v=vS (some ⟨b3,0,none⟩) ([y5]:List zQ) 1/\hx=[]/\(SL I' (vS (some ⟨b3,0,none⟩) ([y5]:List zQ) 1) ([y5]:List zQ))),.x (λI' v hx=>∃bb bd aU,v=vS bb l bd/\hx=[hO zQ (vS bb l bd) aU]/\(RL I' aU l))] [[],[(0,false)],[],[(2,false),(8,true)],[(3,false)],[(1,false),(4,false),(9,true)]] [hB b1 [vS p1 y c1,vS p3 Parts c3],hB b zTwo] [[hB aw (cRd x p4 c4)],[hO zQ (vS p3 Parts c3) cs]] [(3,true),(5,true)] (zY [2,3,1,0]) ?_ ?_
  ·refine O3<|Ox ?_<|Ox ?_<|Ox ?_<|On
   ·rintro I1 hf aa _ _ ⟨rfl,rfl⟩ _ _ rfl;refine yP [16] rfl ?_;have H:=iS I1;have h9:=h9.mono aa;refine sG (zIj x _ aF h9) rfl ?_;rintro bx av v2 k2 aH - ⟨v03,kk1,rfl,rfl,⟨aM,rfl,h12⟩,h13⟩ -;have H:=H.trans aH;obtain⟨p7,c7,p8,c8,rfl,h14,h15⟩:=vU h12;obtain⟨p9,c9,rfl,h16⟩:=yD h13;exact yM [hB aw (cRd y6 p9 c9)] H ⟨_,_,_,_,_,_,rfl,rfl,h14,h15,h16⟩
   ·rintro I1 hf aa _ _ ⟨p7,c7,p8,c8,p9,c9,rfl,rfl,h14,h15,h16⟩;refine yP [17] rfl ?_;have H:=iS I1;refine kM (rc y5 (qS ⟨_,_,rfl,h14,h15⟩) rN) ?_;intro b3 bI bf h18;have H:=H.trans bf;exact yM [] H ⟨_,rfl,rfl,h18⟩
   rintro I1 hf aa _ _ ⟨rfl,rfl⟩ _ _ ⟨b3,rfl,rfl,h18⟩ _ _ rfl;refine yP [15,18] rfl ?_;have h8:=iM aa h8;obtain⟨aN,k0,k01⟩:=h18;have h18:SL I1 (vS (some ⟨b3,0,none⟩) ([y5]:List zQ) 1) ([y5]:List zQ):=⟨_,k0,k01⟩;exact qA 70 2 0 rfl rfl rfl h8 (.inl k0) k01 aX λbb bd aU h19=>uD (ag:=(hO zQ (vS bb l bd) aU::hB b1 [vS p1 y c1,vS p3 Parts c3]::hB b zTwo::hf)) rfl<|yM [hO zQ (vS bb l bd) aU] iR ⟨_,_,_,rfl,rfl,h19⟩
  rintro bL bu _ _ ⟨p7,c7,p8,c8,p9,c9,rfl,rfl,h14,h15,h16⟩ _ _ ⟨bb,bd,aU,rfl,rfl,h19⟩;refine yP [0,2,3,4,19] rfl ?_;have ⟨h1,H⟩:=m2 bu h1 H;exact yG 7 [] [20] rfl<|xI 2 [vS p1 y c1,vS bb l bd] rfl<|yA rfl<|zL<|zG<|zJ<|yK [] [4] rfl<|yU<|nD<|ih (W (i - 1)) l y6 _ N H h1 h19 h16 hg ho hx
 intro hc N;exact wM<|yS<|hx _ _ _ _ _ _ _ _ (zD N).symm H h8 h9
def eJ(r0:zO):Option (zC×zO):=do
 let y<-gO;let (y2,y3)<-xB r0 ([1,2,1,3]:List Int);let (bi,x1)<-mC y2 ([]:List zQ) y3;let y7<-uG (zC.mk y bi);if y7 then pure ((zC.mk y bi),x1)
 else
  let y8<-gO;let l1<-slc bi 0 1;pure ((zC.mk y8 l1),x1)
theorem zDm:∀r0 r,eJ r0=some r->∀{I:Imm}{aw}{p c},(S4 I p r0.b c)->RT 41 [vP aw 0] I [hB aw (cRd r0 p c)] (zHI aw r):=by
 intro r0 r N I aw p c h;unfold eJ at N;refine yL func41 λB=>?_;have H:=iS I;refine yF<|wI zTwo ?_;intro b hb;refine yA rfl<|yW<|bE N λy hy N=>xF (zA6  _ hy ) ?_;rintro I0 av v2 k2 le - ⟨v0,rfl,rfl,h1⟩ -;have ⟨h,H⟩:=m2 le h H;obtain⟨p1,c1,rfl⟩:=h1.form;refine yG 2 [] [6] rfl<|wI zTwo ?_;intro b1 hb1;refine xI 0 [vS p1 y c1,z0] rfl<|yA rfl<|zZ<|yF<|yG 1 [] [7] rfl<|kM (rI [1,2,1,3]) ?_;intro b2 aT aa h3;have ⟨h1,h,H⟩:=m3 aa h1 h H;refine tX (zY [2,0,1] (ag:=[hB aw (cRd r0 p c),hB b1 [vS p1 y c1,z0],hB b zTwo])) ?_;obtain⟨⟨y2,y3⟩,ay,N⟩:=zB N;refine sG (xJ r0 ([1,2,1,3]:List Int) _ ay h h3) rfl ?_;rintro aP av v2 k2 aD - ⟨v01,kk,rfl,rfl,rfl,h5⟩ -;have ⟨h1,H⟩:=m2 aD h1 H;obtain⟨p2,c2,rfl,h6⟩:=yD h5;refine yK [] [4] rfl<|xY<|pE [(0,vP aw 0),(2,vP b 0),(3,vP b1 0),(4,vI y2)]<|zAm zQ λh7=>?_;obtain⟨o0,aA,aG⟩:=zB N;refine zGG y2 ([]:List zQ) y3 o0 aA iR h1 h7 h6 nG nO ?_;intro I06 bi x1 p5 c5 az p6 c6 heq bG h10 h11;subst o0;have ⟨h1,H⟩:=m2 bG h1 H;refine zS<|zZ<|yF<|sW 1 [2] [(21,vA [vS p1 y c1,vS p5 bi c5])]<|xM 0 rfl ?_;intro I07 le7 hl02;have h20:=SL.of_frozen hl02 le7 h10;have ⟨h1,h11,H⟩:=m3 le7 h1 h11 H;obtain⟨y7,bk,N⟩:=zB aG;refine vJ (jY (zC.mk y bi) _ bk h1 h20) ?_;intro I08 le8;have ⟨h11,h1,h20,H⟩:=m4 le8 h11 h1 h20 H;refine yA rfl<|zG<|yE N ?_ ?_
 ·intro aE N;refine yF<|sW 1 [1] [(23,vA [vS p1 y c1,vS p5 bi c5])]<|xI 2 [vS p1 y c1,vS p5 bi c5] rfl<|yA rfl<|xD<|zH ?_;exact xU N (resC 2 rfl rfl) (zX [0] rfl (by decide)) ⟨_,_,rfl,rfl,⟨_,rfl,(wN ⟨_,_,rfl,h1,h20⟩)⟩,(yY ⟨_,rfl,h11⟩)⟩
 intro aE N;refine zT<|zG<|yB ?_;obtain⟨y8,bC,N⟩:=zB N;obtain⟨l1,hy6,N⟩:=zB N;refine wA [.x (eS y8),.p (vP b1 1) [],.p (vS p5 bi c5) [1],.x (eS l1),.x (λI' v hx=>∃p111 c111 p121 c121,v=vA [vS p111 y8 c111,vS p121 l1 c121]/\hx=[]/\(S4 I' p111 y8 c111)/\(S4 I' p121 l1 c121))] [[],[],[(1,false)],[(2,false)],[(0,false),(3,false)]] [hB aw (cRd x1 p6 c6),hB b1 [vS p1 y c1,vS p5 bi c5],hB b zTwo] [] [(4,false)] (zY [0,1,2]) ?_ ?_
 ·refine Ox ?_<|O2<|Ox ?_<|Ox ?_<|On
  ·intro I1 hf aa;refine eN [] ?_;have H:=iS I1;refine xF (zA6  _ bC ) ?_;rintro I09 av v2 k2 le9 - ⟨v08,rfl,rfl,h22⟩ -;have H:=H.trans le9;obtain⟨aR,bh,rfl⟩:=h22.form;exact yM [] H ⟨_,_,rfl,rfl,h22⟩
  ·intro I1 hf aa;refine yP [26] rfl ?_;have h20:=h20.mono aa;refine zQo rfl h20 hy6 ?_;intro v09 h23;obtain⟨bz,bo,rfl⟩:=h23.form;exact yM [] iR ⟨_,_,rfl,rfl,h23⟩
  rintro I1 hf aa _ _ ⟨aR,bh,rfl,rfl,h22⟩ _ _ ⟨bz,bo,rfl,rfl,h23⟩;exact yP [24,27] rfl<|tD 5 [(28,vA [vS aR y8 bh,vS bz l1 bo])]<|yM [] iR ⟨_,_,_,_,rfl,rfl,h22,h23⟩
 rintro bP le10 _ _ ⟨p111,c111,p121,c121,rfl,rfl,h221,h231⟩;refine yP [2,28] rfl ?_;have h11:=h11.mono le10;refine xI 2 [vS p111 y8 c111,vS p121 l1 c121] rfl<|yA rfl<|zG<|yX ?_;exact xU N (resC 2 rfl rfl) (zX [0] rfl (by decide)) ⟨_,_,rfl,rfl,⟨_,rfl,(wN ⟨_,_,rfl,h221,h231⟩)⟩,(yY ⟨_,rfl,h11⟩)⟩
def zHJ(b0:Nat)(r:zC×zO):KT:=λkk I' ag v=>
 ∃v0 k0,ag=[.blk b0 ⟨k0⟩]/\v=tupV [v0]/\(∃cs,v0=.agg ⟨cs⟩/\Rp.rep I' cs r.1)/\Rp.rep I' k0 r.2
def zAO(r0:zO):Option (zC×zO):=do
 let (y1,y2)<-qZ r0 ([(⟨qL2⟩:Str),(⟨qL3⟩:Str),(⟨qL4⟩:Str),(⟨qL5⟩:Str),(⟨qL6⟩:Str),(⟨qL7⟩:Str),(⟨qL8⟩:Str),(⟨qL9⟩:Str)]:List Str);let s<-cat (⟨qL10⟩:Str) y1;let (y4,y5)<-oW s;let (t20,x)<-(do
  if y5 then
   let (y7,y8)<-xC y2 3;pure ((decide (y7>0)),y8)
  else
   pure (false,y2)
    : Option (Bool×zO))
 if t20 then pure (y4,x)
 else
  let (y10,y11)<-eJ x;pure (y10,y11)
theorem zIk:∀r0 r,zAO r0=some r->∀{I:Imm}{aw}{p c},(S4 I p r0.b c)->RT 100 [vP aw 0] I [hB aw (cRd r0 p c)] (zHJ aw r):=by
 intro r0 r N I aw p c h;unfold zAO at N;refine yL func100 λB=>?_;have H:=iS I;refine yF<|wI zTwo ?_;intro b hb;refine yA rfl<|yW<|yG 1 [] [6] rfl<|kM (rT [(⟨qL2⟩:Str),(⟨qL3⟩:Str),(⟨qL4⟩:Str),(⟨qL5⟩:Str),(⟨qL6⟩:Str),(⟨qL7⟩:Str),(⟨qL8⟩:Str),(⟨qL9⟩:Str)]) ?_;intro b1 I0 le h2;have ⟨h,H⟩:=m2 le h H;refine tX (zY [1,0] (ag:=[hB aw (cRd r0 p c),hB b zTwo])) ?_;obtain⟨⟨y1,y2⟩,hy,N⟩:=zB N;refine sG (fF r0 ([(⟨qL2⟩:Str),(⟨qL3⟩:Str),(⟨qL4⟩:Str),(⟨qL5⟩:Str),(⟨qL6⟩:Str),(⟨qL7⟩:Str),(⟨qL8⟩:Str),(⟨qL9⟩:Str)]:List Str) _ hy h h2) rfl ?_;rintro aT av v2 k2 aa - ⟨v0,kk,rfl,rfl,rfl,h4⟩ -;have H:=H.trans aa;obtain⟨p1,c1,rfl,h5⟩:=yD h4;refine yK [] [3] rfl<|yW<|yG 1 [] [10] rfl<|bE N λs ay N=>gW rfl ay ?_;obtain⟨⟨y4,y5⟩,aF,N⟩:=zB N;refine xF (zAr s _ aF ) ?_;rintro aP av v2 k2 aD - ⟨v02,v03,rfl,rfl,⟨cs,rfl,h6⟩,rfl⟩ -;have ⟨h5,H⟩:=m2 aD h5 H;obtain⟨p2,c2,p3,c3,rfl,h8,h9⟩:=sF h6;refine yG 6 [] [13,14] rfl<|wI zTwo ?_;intro b2 hb2;refine xI 0 (cProg y4 p2 c2 p3 c3) rfl<|yK [] [5] rfl<|zZ<|yB ?_;obtain⟨o0,aA,aQ⟩:=zB N;refine qQ (λI' ag m'=>∃(t20:Bool) (x:zO) (p4:Option Addr) (c4:Nat),o0=(t20,x)/\aP.le I'/\(S4 I' p4 x.b c4)/\ag=[hB b2 (cProg y4 p2 c2 p3 c3),hB aw (cRd x p4 c4),hB b zTwo]/\m'=[(0,vP aw 0),(2,vP b 0),(4,vP b2 0),(20,.bool t20)]) ?_ ?_
 ·have H:=iS aP;refine zJ<|yG 2 [] [16] rfl<|xZ [16] aA ?_ ?_
  ·intro hc N;refine yG 3 [] [17] rfl<|tX (zY [1,0,2] (ag:=[hB aw (cRd y2 p1 c1),hB b2 (cProg y4 p2 c2 p3 c3),hB b zTwo])) ?_;obtain⟨⟨y7,y8⟩,aX,N⟩:=zB N;refine sG (xV y2 3 _ aX h5) rfl ?_;rintro bI av v2 k2 aH - ⟨v06,kk1,rfl,rfl,rfl,h12⟩ -;have H:=H.trans aH;obtain⟨p5,c5,rfl,h13⟩:=yD h12;exact yK [] [20] rfl<|xW (zX [1,0,2] rfl (by decide))<|yS<|zV ⟨_,_,_,_,(zD N).symm,H,h13,rfl,rfl⟩
  intro hc N;exact wB [] [(20,vF)]<|yS<|zV ⟨_,_,_,_,(zD N).symm,H,h5,rfl,rfl⟩
 rintro bx av m2 ⟨t20,x,p4,c4,heq,bf,h10,rfl,rfl⟩;subst o0;have ⟨h8,h9⟩:=m2 bf h8 h9;refine zG<|yE aQ ?_ ?_
 ·intro aE N;refine yF<|sW 1 [0] [(21,vA (cProg y4 p2 c2 p3 c3))]<|xI 2 (cProg y4 p2 c2 p3 c3) rfl<|yA rfl<|xD<|zH ?_;exact xU N (resC 2 rfl rfl) (zX [1] rfl (by decide)) ⟨_,_,rfl,rfl,⟨_,rfl,(wN ⟨_,_,rfl,h8,h9⟩)⟩,(yY ⟨_,rfl,h10⟩)⟩
 intro aE N;refine zT<|yW<|yG 1 [] [22] rfl<|tX (zY [1,0,2] (ag:=[hB aw (cRd x p4 c4),hB b2 (cProg y4 p2 c2 p3 c3),hB b zTwo])) ?_;obtain⟨⟨y10,y11⟩,bk,N⟩:=zB N;refine sG (zDm x _ bk h10) rfl ?_;rintro bL av v2 k2 bu - ⟨v08,kk2,rfl,rfl,⟨az,rfl,h14⟩,h15⟩ -;obtain⟨p6,c6,p7,c7,rfl,h16,h17⟩:=sF h14;obtain⟨p8,c8,rfl,h18⟩:=yD h15;refine xI 2 (cProg y10 p6 c6 p7 c7) rfl<|yA rfl<|zG<|yX ?_;exact xU N (resC 2 rfl rfl) (zX [0] rfl (by decide)) ⟨_,_,rfl,rfl,⟨_,rfl,(wN ⟨_,_,rfl,h16,h17⟩)⟩,(yY ⟨_,rfl,h18⟩)⟩
def zGH(b0:Nat)(r:zC×zO):KT:=λkk I' ag v=>
 ∃v0 k0,ag=[.blk b0 ⟨k0⟩]/\v=tupV [v0]/\(∃cs,v0=.agg ⟨cs⟩/\Rp.rep I' cs r.1)/\Rp.rep I' k0 r.2
def dP(r0:zO):Option (zC×zO):=do
 let (y1,y2)<-qZ r0 ([(⟨qL11⟩:Str),(⟨qL12⟩:Str),(⟨qL13⟩:Str),(⟨qL14⟩:Str)]:List Str);let s<-cat (⟨qL10⟩:Str) y1;let (y4,y5)<-oW s;let (t20,x)<-(do
  if y5 then
   let (y7,y8)<-xC y2 3;pure ((decide (y7>0)),y8)
  else
   pure (false,y2)
    : Option (Bool×zO))
 if t20 then pure (y4,x)
 else
  let (y10,y11)<-zAO x;pure (y10,y11)
theorem zHo:∀r0 r,dP r0=some r->∀{I:Imm}{aw}{p c},(S4 I p r0.b c)->RT 58 [vP aw 0] I [hB aw (cRd r0 p c)] (zGH aw r):=by
 intro r0 r N I aw p c h;unfold dP at N;refine yL func58 λB=>?_;have H:=iS I;refine yF<|wI zTwo ?_;intro b hb;refine yA rfl<|yW<|yG 1 [] [6] rfl<|kM (rT [(⟨qL11⟩:Str),(⟨qL12⟩:Str),(⟨qL13⟩:Str),(⟨qL14⟩:Str)]) ?_;intro b1 I0 le h2;have ⟨h,H⟩:=m2 le h H;refine tX (zY [1,0] (ag:=[hB aw (cRd r0 p c),hB b zTwo])) ?_;obtain⟨⟨y1,y2⟩,hy,N⟩:=zB N;refine sG (fF r0 ([(⟨qL11⟩:Str),(⟨qL12⟩:Str),(⟨qL13⟩:Str),(⟨qL14⟩:Str)]:List Str) _ hy h h2) rfl ?_;rintro aT av v2 k2 aa - ⟨v0,kk,rfl,rfl,rfl,h4⟩ -;have H:=H.trans aa;obtain⟨p1,c1,rfl,h5⟩:=yD h4;refine yK [] [3] rfl<|yW<|yG 1 [] [10] rfl<|bE N λs ay N=>gW rfl ay ?_;obtain⟨⟨y4,y5⟩,aF,N⟩:=zB N;refine xF (zAr s _ aF ) ?_;rintro aP av v2 k2 aD - ⟨v02,v03,rfl,rfl,⟨cs,rfl,h6⟩,rfl⟩ -;have ⟨h5,H⟩:=m2 aD h5 H;obtain⟨p2,c2,p3,c3,rfl,h8,h9⟩:=sF h6;refine yG 6 [] [13,14] rfl<|wI zTwo ?_;intro b2 hb2;refine xI 0 (cProg y4 p2 c2 p3 c3) rfl<|yK [] [5] rfl<|zZ<|yB ?_;obtain⟨o0,aA,aQ⟩:=zB N;refine qQ (λI' ag m'=>∃(t20:Bool) (x:zO) (p4:Option Addr) (c4:Nat),o0=(t20,x)/\aP.le I'/\(S4 I' p4 x.b c4)/\ag=[hB b2 (cProg y4 p2 c2 p3 c3),hB aw (cRd x p4 c4),hB b zTwo]/\m'=[(0,vP aw 0),(2,vP b 0),(4,vP b2 0),(20,.bool t20)]) ?_ ?_
 ·have H:=iS aP;refine zJ<|yG 2 [] [16] rfl<|xZ [16] aA ?_ ?_
  ·intro hc N;refine yG 3 [] [17] rfl<|tX (zY [1,0,2] (ag:=[hB aw (cRd y2 p1 c1),hB b2 (cProg y4 p2 c2 p3 c3),hB b zTwo])) ?_;obtain⟨⟨y7,y8⟩,aX,N⟩:=zB N;refine sG (xV y2 3 _ aX h5) rfl ?_;rintro bI av v2 k2 aH - ⟨v06,kk1,rfl,rfl,rfl,h12⟩ -;have H:=H.trans aH;obtain⟨p5,c5,rfl,h13⟩:=yD h12;exact yK [] [20] rfl<|xW (zX [1,0,2] rfl (by decide))<|yS<|zV ⟨_,_,_,_,(zD N).symm,H,h13,rfl,rfl⟩
  intro hc N;exact wB [] [(20,vF)]<|yS<|zV ⟨_,_,_,_,(zD N).symm,H,h5,rfl,rfl⟩
 rintro bx av m2 ⟨t20,x,p4,c4,heq,bf,h10,rfl,rfl⟩;subst o0;have ⟨h8,h9⟩:=m2 bf h8 h9;refine zG<|yE aQ ?_ ?_
 ·intro aE N;refine yF<|sW 1 [0] [(21,vA (cProg y4 p2 c2 p3 c3))]<|xI 2 (cProg y4 p2 c2 p3 c3) rfl<|yA rfl<|xD<|zH ?_;exact xU N (resC 2 rfl rfl) (zX [1] rfl (by decide)) ⟨_,_,rfl,rfl,⟨_,rfl,(wN ⟨_,_,rfl,h8,h9⟩)⟩,(yY ⟨_,rfl,h10⟩)⟩
 intro aE N;refine zT<|yW<|yG 1 [] [22] rfl<|tX (zY [1,0,2] (ag:=[hB aw (cRd x p4 c4),hB b2 (cProg y4 p2 c2 p3 c3),hB b zTwo])) ?_;obtain⟨⟨y10,y11⟩,bk,N⟩:=zB N;refine sG (zIk x _ bk h10) rfl ?_;rintro bL av v2 k2 bu - ⟨v08,kk2,rfl,rfl,⟨az,rfl,h14⟩,h15⟩ -;obtain⟨p6,c6,p7,c7,rfl,h16,h17⟩:=sF h14;obtain⟨p8,c8,rfl,h18⟩:=yD h15;refine xI 2 (cProg y10 p6 c6 p7 c7) rfl<|yA rfl<|zG<|yX ?_;exact xU N (resC 2 rfl rfl) (zX [0] rfl (by decide)) ⟨_,_,rfl,rfl,⟨_,rfl,(wN ⟨_,_,rfl,h16,h17⟩)⟩,(yY ⟨_,rfl,h18⟩)⟩
def zCB(r:zC):KT:=λkk I' ag v=>
 ∃v0,ag=[]/\v=tupV [v0]/\(∃cs,v0=.agg ⟨cs⟩/\Rp.rep I' cs r)
def nH(code:(List UInt8)):Option (zC):=do
 let y<-fE code;let (y2,y3)<-dP y;let (y5,y6)<-pA y3 y2;pure (id y5)
theorem zCn:∀code r,nH code=some r->∀{I:Imm}{p c},(S4 I p code c)->RT 31 [vS p code c] I [] (zCB  r):=by
 intro code r N I p c h;unfold nH at N;refine yL func31 λB=>yF<|wI zTwo ?_;intro b hb;refine yA rfl<|yW<|yG 1 [] [4] rfl<|bE N λy hy N=>xF (zDA code _ hy h) ?_;rintro I0 av v2 k2 le - ⟨b1,p1,c1,rfl,rfl,h1⟩ -;refine yK [] [3] rfl<|yW<|yG 2 [] [6,7] rfl ?_;obtain⟨⟨y2,y3⟩,ay,N⟩:=zB N;refine sG (zHo y _ ay h1) rfl ?_;rintro aT av v2 k2 aa - ⟨v0,kk,rfl,rfl,⟨cs,rfl,h2⟩,h3⟩ -;obtain⟨p2,c2,p3,c3,rfl,h4,h5⟩:=sF h2;obtain⟨p4,c4,rfl,h6⟩:=yD h3;obtain⟨⟨y5,y6⟩,aF,N⟩:=zB N;refine sG (zCU y3 y2 _ aF h6 h4 h5) rfl ?_;rintro aP av v2 k2 aD - ⟨v04,kk1,rfl,rfl,⟨az,rfl,h7⟩,h8⟩ -;obtain⟨p5,c5,p6,c6,rfl,h9,h10⟩:=sF h7;obtain⟨p7,c7,rfl,h11⟩:=yD h8;refine xI 1 (cProg y5 p5 c5 p6 c6) rfl<|yA rfl<|zG<|yX ?_;exact xU N (resC 1 rfl rfl) zM ⟨_,rfl,rfl,⟨_,rfl,(wN ⟨_,_,rfl,h9,h10⟩)⟩⟩
def zAA(r:zC×(List Int)):KT:=λkk I' ag v=>
 ∃v0 v1,ag=[]/\v=tupV [v0,v1]/\(∃cs,v0=.agg ⟨cs⟩/\Rp.rep I' cs r.1)/\SL I' v1 r.2
def uL(out:List Int)(i:Int)(x:zO):Option (List Int):=do
 if(decide (i>0)) then
  let (y11,y12)<-xB x ([0,1,2,5,(-1),9223372036854775807]:List Int);let aq<-app 8 out ([y11]:List Int);uL aq (W (i - 1)) y12
 else pure (id out)
 partial_fixpoint
theorem zB1 :∀(out:List Int) (i:Int) (x:zO) (o:List Int),uL out i x=some o->∀{B}{I0 I:Imm}{Q}{y5:zC}{b b1}{p5 c5 p6 c6}{b2}{p9 c9 aM bb bd},I0.le I->(S4 I p5 y5.Arrays c5)->(S4 I p6 y5.Parts c6)->(RL I aM out)->(S4 I bb x.b bd)->NG Q->NO Q->(∀I' aj aR bh aU,o=aj->I0.le I'->(RL I' aU aj)->T 30 B Q (.exit 0) I' [hO Int (vS aR aj bh) aU,hB b2 (cProg y5 p5 c5 p6 c6),hB b zTwo] [(2,vP b 0),(5,vP b2 0),(6,vS aR aj bh)])->J Tryz.prog 30 B (nav (bodyOf f32) [1,1,1,1,0,1,0]) Q I [hB b1 (cRd x bb bd),hO Int (vS p9 out c9) aM,hB b2 (cProg y5 p5 c5 p6 c6),hB b zTwo] [(2,vP b 0),(4,vP b1 0),(5,vP b2 0),(6,vS p9 out c9),(7,vI i)]:=by
 refine uL.partial_correctness  _ λaI ih out i x o N B I0 I Q y5 b b1 p5 c5 p6 c6 b2 p9 c9 aM bb bd H h9 h10 h18 h19 hg ho hx=>yV hg ho<|yB<|yH [19] rfl<|zG<|yE N ?_ ?_
 ·intro hc N;refine zT<|zZ<|yI<|zJ<|yG 2 [] [22,23] rfl<|kM (rI [0,1,2,5,(-1),9223372036854775807]) ?_;intro b5 bL bu h22;have ⟨h18,h19,h9,h10,H⟩:=m5 bu h18 h19 h9 h10 H;obtain⟨⟨y11,y12⟩,bk,N⟩:=zB N;refine sG (xJ x ([0,1,2,5,(-1),9223372036854775807]:List Int) _ bk h19 h22) rfl ?_;rintro I06 av v2 k2 bG - ⟨v010,kk3,rfl,rfl,rfl,h24⟩ -;have ⟨h18,h9,h10,H⟩:=m4 bG h18 h9 h10 H;obtain⟨bz,bo,rfl,h25⟩:=yD h24;refine uP [vI y11] Int ?_;intro b6 hb5;have h26:RL I06 [vI y11] ([y11]:List Int):=rI [y11];obtain⟨aq,bC,N⟩:=zB N;exact qA 3 1 2 rfl rfl rfl h18 (.inr ⟨0,rfl⟩) h26 bC λbj bw bv h27=>tX (zY [1,2,3,4] (ag:=[hB b1 (cRd y12 bz bo),hO Int (vS bj aq bw) bv,hB b2 (cProg y5 p5 c5 p6 c6),hB b zTwo]))<|yK [] [6] rfl<|zL<|zG<|zJ<|yK [] [7] rfl<|yU<|nD<|ih aq (W (i - 1)) y12 _ N H h9 h10 h27 h25 hg ho hx
 intro hc N;exact wM<|xW (zX [1,2,3] rfl (by decide))<|yS<|hx _ _ _ _ _ (zD N).symm H h18
def oO(code:(List UInt8)):Option (zC×(List Int)):=do
 let y<-fE code;let (y2,y3)<-eJ y;let (y5,y6)<-pA y3 y2;let (y8,y9)<-xB y6 ([3,1,0,5]:List Int);let aj<-uL ([]:List Int) y8 y9;pure (y5,aj)
theorem zC3:∀code r,oO code=some r->∀{I:Imm}{p c},(S4 I p code c)->RT 32 [vS p code c] I [] (zAA  r):=by
 intro code r N I p c h;unfold oO at N;refine yL func32 λB=>yF<|wI zTwo ?_;intro b hb;refine wB [] []<|yW<|yG 1 [] [8] rfl<|bE N λy hy N=>xF (zDA code _ hy h) ?_;rintro I0 av v2 k2 le - ⟨b1,p1,c1,rfl,rfl,h1⟩ -;refine yK [] [4] rfl<|yW<|yG 2 [] [10,11] rfl ?_;obtain⟨⟨y2,y3⟩,ay,N⟩:=zB N;refine sG (zDm y _ ay h1) rfl ?_;rintro aT av v2 k2 aa - ⟨v0,kk,rfl,rfl,⟨cs,rfl,h2⟩,h3⟩ -;obtain⟨p2,c2,p3,c3,rfl,h4,h5⟩:=sF h2;obtain⟨p4,c4,rfl,h6⟩:=yD h3;obtain⟨⟨y5,y6⟩,aF,N⟩:=zB N;refine sG (zCU y3 y2 _ aF h6 h4 h5) rfl ?_;rintro aP av v2 k2 aD - ⟨v04,kk1,rfl,rfl,⟨az,rfl,h7⟩,h8⟩ -;obtain⟨p5,c5,p6,c6,rfl,h9,h10⟩:=sF h7;obtain⟨p7,c7,rfl,h11⟩:=yD h8;refine wI zTwo ?_;intro b2 hb1;refine xI 0 (cProg y5 p5 c5 p6 c6) rfl<|yA rfl<|yW<|uP [] Int ?_;intro b3 hb2;have h12:RL aP [] ([]:List Int):=rfl;refine yK [] [6] rfl<|zZ<|yF<|yG 1 [] [15] rfl<|kM (rI [3,1,0,5]) ?_;intro b4 bx aH h14;have ⟨h12,h9,h10,h11⟩:=m4 aH h12 h9 h10 h11;refine tX (zY [2,0,1,3] (ag:=[hB b1 (cRd y6 p7 c7),hO Int (vS (some ⟨b3,0,none⟩) ([]:List Int) 0) [],hB b2 (cProg y5 p5 c5 p6 c6),hB b zTwo])) ?_;obtain⟨⟨y8,y9⟩,aX,N⟩:=zB N;refine sG (xJ y6 ([3,1,0,5]:List Int) _ aX h11 h14) rfl ?_;rintro bI av v2 k2 bf - ⟨v08,kk2,rfl,rfl,rfl,h16⟩ -;have ⟨h12,h9,h10⟩:=m3 bf h12 h9 h10;obtain⟨p8,c8,rfl,h17⟩:=yD h16;refine yK [] [7] rfl<|xY<|pE [(2,vP b 0),(4,vP b1 0),(5,vP b2 0),(6,vS (some ⟨b3,0,none⟩) ([]:List Int) 0),(7,vI y8)] ?_;obtain⟨o0,aA,aG⟩:=zB N;refine zB1 ([]:List Int) y8 y9 o0 aA iR h9 h10 h12 h17 nG nO ?_;intro I07 aj aR bh aU heq le7 h20;subst o0;have ⟨h9,h10⟩:=m2 le7 h9 h10;refine zS<|yW<|sW 2 [1] [(28,vA (cProg y5 p5 c5 p6 c6)),(29,vS aR aj bh)]<|xI 2 (cProg y5 p5 c5 p6 c6) rfl<|yK [] [3] rfl<|xD<|yZ 0 rfl ?_;intro I08 le8 hl02;have h28:=SL.of_frozen hl02 le8 h20;have ⟨h9,h10⟩:=m2 le8 h9 h10;exact xU aG (resE 1 rfl rfl rfl) zM ⟨_,_,rfl,rfl,⟨_,rfl,(wN ⟨_,_,rfl,h9,h10⟩)⟩,h28⟩
def pT(code:(List UInt8)):Option (zC×(List Int)):=do
 let y<-nH code;let (y2,y3)<-oO code;pure (y,y3)
theorem zCC:∀code r,pT code=some r->∀{I:Imm}{p c},(S4 I p code c)->RT 13 [vS p code c] I [] (zAA  r):=by
 intro code r N I p c h;unfold pT at N;refine yL func13 λB=>yF<|wI zTwo ?_;intro b hb;refine wB [] []<|yW<|yG 1 [] [7] rfl<|bE N λy hy N=>xF (zCn code _ hy h) ?_;rintro I0 av v2 k2 le - ⟨v0,rfl,rfl,⟨cs,rfl,h1⟩⟩ -;have h:=h.mono le;obtain⟨p1,c1,p2,c2,rfl,h2,h3⟩:=sF h1;refine wI zTwo ?_;intro b1 hb1;refine xI 0 (cProg y p1 c1 p2 c2) rfl<|yA rfl<|yW<|yG 1 [] [10] rfl ?_;obtain⟨⟨y2,y3⟩,ay,N⟩:=zB N;refine xF (zC3 code _ ay h) ?_;rintro aT av v2 k2 aa - ⟨v03,v04,rfl,rfl,⟨az,rfl,h4⟩,h5⟩ -;have ⟨h2,h3⟩:=m2 aa h2 h3;obtain⟨p3,c3,p4,c4,rfl,h6,h7⟩:=sF h4;obtain⟨p5,c5,rfl⟩:=h5.form;refine yG 5 [] [12,13] rfl<|wI zTwo ?_;intro b2 hb2;refine xI 0 (cProg y2 p3 c3 p4 c4) rfl<|yK [] [6] rfl<|yW<|sW 2 [1] [(14,vA (cProg y p1 c1 p2 c2)),(15,vS p5 y3 c5)]<|xI 2 (cProg y p1 c1 p2 c2) rfl<|yK [] [3] rfl<|zG<|yX ?_;exact xU N (resE 2 rfl rfl rfl) zM ⟨_,_,rfl,rfl,⟨_,rfl,(wN ⟨_,_,rfl,h2,h3⟩)⟩,h5⟩
def mH(aK:List HA)(r:Int):KT:=λkk I' ag v=>
 ∃v0,aK=ag/\v=tupV [v0]/\v0=.int .i64 r
def yC(s:(List zR))(f0:(zR->Option Bool))(t8:Int):Option (Out Unit (Int)):=do
 if(decide (t8<(s.length:Int))) then
  let x<-idx s t8;let y<-f0 x;if y then pure (.ret t8)
  else yC s f0 (W (t8+1))
 else pure (.done ())
 partial_fixpoint
theorem eQ(s:(List zR))(f0:(zR->Option Bool)):∀(t8:Int) (o:Out Unit (Int)),yC s f0 t8=some o->∀{B}{I0 I:Imm}{Q p c}{fv:Value}{aK:List HA},I0.le I->(S4 I p s c)->(FV1 Tryz.prog I aK fv f0)->NG Q->NO Q->(∀I',o=(.done ())->I0.le I'->T 19 B Q (.exit 0) I' aK [])->(∀r I' ag m',o=(.ret r)->I0.le I'->RS Tryz.prog f97 B (mH aK r) I' ag m'->T 19 B Q .ret I' ag m')->J Tryz.prog 19 B (nav (bodyOf f97) [1,0,1,0]) Q I aK [(0,vS p s c),(1,fv),(7,vI (s.length:Int)),(8,vI t8)]:=by
 refine yC.partial_correctness s f0 _ λaI ih t8 o N B I0 I Q p c fv aK H h h1 hg ho hx hr=>yV hg ho<|yH [9] rfl<|zZ<|yE N ?_ ?_
 ·intro hc N;refine zT<|zZ<|yI<|yH [5] rfl<|yW<|yG 3 [] [11,12,13] rfl<|bE N λx hy N=>xK rfl rfl h hy ?_;intro ad aN ap ak;obtain rfl:=rJ ak;refine xA 0 ap [vI x.From,vI x.To,vI x.Kinds] (vA [vI x.From,vI x.To,vI x.Kinds]) rfl<|bE N λy ay N=>zKD rfl rfl h1 ay ⟨_,rfl,(gF rfl)⟩ (co _).symm ?_;rintro I0 v0 le rfl;refine uD (ag:=aK) (co _) ?_;have ⟨h,h1,H⟩:=m3 le h h1 H;refine yA rfl<|zG<|yE N ?_ ?_
  ·intro aE N;exact yH [4] rfl<|xD<|zW<|zH<|zH<|hr _ _ _ _ (zD N).symm H ⟨_,_,(resT rfl),(λ_ h=>h),⟨_,rfl,rfl,rfl⟩⟩
  intro aE N;exact zT<|zL<|zG<|zJ<|yK [] [8] rfl<|yU<|nD<|ih (W (t8+1)) _ N H h h1 hg ho hx hr
 intro hc N;exact wM<|yS<|hx _  (zD N).symm H
def xO(s:(List zR))(f0:(zR->Option Bool)):Option (Int):=do
 match<-yC s f0 0 with
 | .ret r0=>pure r0
 | .done _=>
  pure (-1)
theorem rZ:∀s f0 r,xO s f0=some r->∀{I:Imm}{p c}{fv:Value}{aK:List HA},(S4 I p s c)->(FV1 Tryz.prog I aK fv f0)->RT 97 [vS p s c,fv] I aK (mH aK r):=by
 intro s f0 r N I p c fv aK h h1;unfold xO at N;refine yL func97 λB=>wL []<|zZ<|yH [7,8] rfl<|xY<|pE [(0,vS p s c),(1,fv),(7,vI (s.length:Int)),(8,vI 0)] ?_;obtain⟨o0,aA,aG⟩:=zB N;refine eQ s f0 0 o0 aA iR h h1 nG nO ?_ ?_
 ·intro aT  heq aa;subst o0;refine zS<|wV [4] rfl<|zG<|yX ?_;exact xU aG (resT rfl) (λ_ h=>h) ⟨_,rfl,rfl,rfl⟩
 intro r0 I9 hs9 m9 aW le9 aY;subst aW;refine zW<|zH ?_;obtain rfl:=zD aG;exact fO aY
def oQ(aK:List HA)(r:Bool):KT:=λkk I' ag v=>
 ∃v0,aK=ag/\v=tupV [v0]/\v0=.bool r
def wO(s:(List zR))(f0:(zR->Option Bool)):Option (Bool):=do
 let y<-xO s f0;pure (decide (y>=0))
theorem eU:∀s f0 r,wO s f0=some r->∀{I:Imm}{p c}{fv:Value}{aK:List HA},(S4 I p s c)->(FV1 Tryz.prog I aK fv f0)->RT 60 [vS p s c,fv] I aK (oQ aK r):=by
 intro s f0 r N I p c fv aK h h1;unfold wO at N;refine yL func60 λB=>wL []<|yW<|yG 2 [] [5,6] rfl<|bE N λy hy N=>zEg (hs1:=aK) (rest:=[]) rfl rfl rfl rfl (by kernel_rfl) rfl (co _).symm (rZ s f0 _ hy h h1) ?_;rintro I0 av v2 k2 le - ⟨v0,rfl,rfl,rfl⟩ -;refine uD (ag:=aK) (co _) ?_;refine yK [] [4] rfl<|zG<|yX ?_;exact xU N (resT rfl) (λ_ h=>h) ⟨_,rfl,rfl,rfl⟩
def pC(d0:zR)(x:Int)(x1:(List Bool)):Option (Bool):=do
 let t4<-(do
  if(d0.To==x) then
   let x2<-idx x1 d0.From;pure (!x2)
  else
   pure false
    : Option Bool)
 pure (id t4)
theorem zHK:∀d0 x x1 r,pC d0 x x1=some r->∀{I:Imm}{ad:Addr}{ad1:Addr}{p c},(At I ad [vI x])->(S4 I p x1 c)->(At I ad1 [vS p x1 c])->RT 61 [vA [vI d0.From,vI d0.To,vI d0.Kinds],.pointer (some ad),.pointer (some ad1)] I [] (zU  r):=by
 intro d0 x x1 r N I ad ad1 p c ap h ar;unfold pC at N;refine yL func61 λB=>?_;have H:=iS I;refine yF<|vK [vI d0.From,vI d0.To,vI d0.Kinds] ?_;intro b hb;refine wB [] []<|zG<|yB ?_;refine wK N [] (λt4=>[(4,.bool t4)]) (λo0 aA=>?_) ?_
 ·have H:=iS I;refine zJ<|yG 2 [0] [6] rfl<|xA 0 ap [vI x] (vI x) rfl<|yG 5 [] [9] rfl<|xZ [9] aA ?_ ?_
  ·intro hc N;refine xA 0 ar [vS p x1 c] (vS p x1 c) rfl<|yG 8 [0] [12] rfl<|bE N λx2 hy N=>xK rfl rfl h hy ?_;intro ad2 aN aS ak;obtain rfl:=ak;exact xA 0 aS [.bool x2] (.bool x2) rfl<|yK [] [4] rfl<|xW zM<|yS<|zV (ct N H)
  intro hc N;exact wB [] [(4,vF)]<|xW zM<|yS<|zV (ct N H)
 intro t4 I0 le aQ;refine zG<|yX ?_;obtain rfl:=zD aQ;exact wC
def zAP(choices:(List Int))(n0:Int)(many:Int):Option (Int):=do
 if((choices.length:Int)==0) then pure (id 0)
 else
  let q<-rem n0 (choices.length:Int);let x<-idx choices q;let q1<-rem x many;pure (if q1>0 then q1 else 0)
theorem zIl:∀choices n0 many r,zAP choices n0 many=some r->∀{I:Imm}{p c},(S4 I p choices c)->RT 62 [vS p choices c,vI n0,vI many] I [] (yJ  r):=by
 intro choices n0 many r N I p c h;unfold zAP at N;refine yL func62 λB=>wL []<|zZ<|yH [9] rfl<|zG<|yE N ?_ ?_
 ·intro hc N;refine yH [6] rfl<|xD<|zH ?_;obtain rfl:=zD N;exact wC
 intro hc N;refine zT<|yW<|yG 4 [] [10,11,13] rfl<|bE N λq hy N=>zNL rfl hy<|bE N λx ay N=>xK rfl rfl h ay ?_;intro ad aN ap ak;obtain rfl:=ak;refine xA 0 ap [vI x] (vI x) rfl<|yG 8 [] [17] rfl<|bE N λq1 aF N=>zNL rfl aF<|yK [] [6] rfl<|zG<|yX ?_;obtain rfl:=zD N;exact wC
end Go.LN
