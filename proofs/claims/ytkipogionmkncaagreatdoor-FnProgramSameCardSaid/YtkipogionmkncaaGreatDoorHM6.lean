/- Helper of the proof (see the last text). -/
import Derived.Test.YtkipogionmkncaaGreatDoorHM5
set_option linter.unusedVariables false
set_option linter.unusedSimpArgs false
namespace Go.LN
open Go.Proofs Go.Proofs.Tryz
set_option maxRecDepth 20000
def zCn(b0:Nat)(r:zM×zK):KT:=λkk I' ai v=>
 ∃v0 k0,ai=[.blk b0 ⟨k0⟩]/\v=tupV [v0]/\(∃cs,v0=.agg ⟨cs⟩/\Rp.rep I' cs r.1)/\Rp.rep I' k0 r.2
def tR(r0:zK)(s:zM):Option (zM×zK):=do
 let y<-jX s
 let (y2,y3)<-xC r0 40
 let (WriteArray,WriteSubs,ValueKind,ValueNum,ValueKids,x)<-(do
  if(y2==0) then
   let (y5,y6)<-nE y3 ([(⟨[69]⟩:Str),(⟨[]⟩:Str),(⟨[65,66]⟩:Str),(⟨[97]⟩:Str)]:List Str)
   pure (y5,y.Write.Subs,y.Value.Kind,y.Value.Num,y.Value.Kids,y6)
  else
   let (WriteSubs1,ValueKind1,ValueNum1,ValueKids1,x1)<-(do
    if(y2==1) then
     let y7<-nN 3
     let y8<-oQ
     let l<-app 32 y.Write.Subs ([y7,y8]:List zA)
     pure (l,y.Value.Kind,y.Value.Num,y.Value.Kids,y3)
    else
     let (ValueKind2,ValueNum2,ValueKids2,x2)<-(do
      if(y2==2) then
       let (y10,y11)<-xD y3 ([0,7,1,4,2]:List Int)
       pure (y10,y.Value.Num,y.Value.Kids,y11)
      else
       let (ValueNum3,ValueKids3,x3)<-(do
        if(y2==3) then
         let (y13,y14)<-xD y3 ([100,(-1),1]:List Int)
         pure (y13,y.Value.Kids,y14)
        else
         let ValueKids4<-(do
          if(y2==4) then
           let l1<-app 112 y.Value.Kids ([(zD.mk 1 0 (zA.mk ([]:List Int) 0) (zH.mk (⟨[]⟩:Str) ([]:List zA)) ([]:List zD))]:List zD)
           pure (id l1)
          else
           pure y.Value.Kids
            : Option (List zD))
         pure (y.Value.Num,ValueKids4,y3)
          : Option (Int×List zD×zK))
       pure (y.Value.Kind,ValueNum3,ValueKids3,x3)
        : Option (Int×Int×List zD×zK))
     pure (y.Write.Subs,ValueKind2,ValueNum2,ValueKids2,x2)
      : Option (List zA×Int×Int×List zD×zK))
   pure (y.Write.Array,WriteSubs1,ValueKind1,ValueNum1,ValueKids1,x1)
    : Option (Str×List zA×Int×Int×List zD×zK))
 pure ((zM.mk (zH.mk WriteArray WriteSubs) (zD.mk ValueKind ValueNum y.Value.Index y.Value.Read ValueKids)),x)
theorem eE:∀r0 s r,tR r0 s=some r->∀{I:Imm}{am:Nat}{p c p1 c1 p2 c2 p3 c3 p4 c4},(S4 I p r0.b c)->(S4 I p1 s.Write.Subs c1)->(S4 I p2 s.Value.Index.Coefs c2)->(S4 I p3 s.Value.Read.Subs c3)->(S4 I p4 s.Value.Kids c4)->RT 121 [vP am 0,vA (cStmt s p1 c1 p2 c2 p3 c3 p4 c4)] I [hB am (cRd r0 p c)] (zCn am r):=by
 intro r0 s r N I am p c p1 c1 p2 c2 p3 c3 p4 c4 h h1 h2 h3 h4;unfold tR at N;refine yP func121 λB=>?_;have H:=iS I;refine yE<|vM (cStmt s p1 c1 p2 c2 p3 c3 p4 c4) ?_;intro b hb;refine vG [vT ([]),z0,vI 0,vI 0,z0,vI 0,vT ([]),z0,z0] ?_;intro b1 hb1;refine yB rfl<|xN<|qX 1 [1] [(6,vA (cStmt s p1 c1 p2 c2 p3 c3 p4 c4))]<|bE N λy hy N=>xX (zBn s _ hy h1 h2 h3 h4) ?_;rintro I0 ax v2 k2 le - ⟨p5,c5,cs,p6,c6,p7,c7,p8,c8,aL,rfl,rfl,h5,h6,h7,h8⟩ -;have ⟨h,H⟩:=m2 le h H;refine vG [vT ([]),z0,vI 0,vI 0,z0,vI 0,vT ([]),z0,z0] ?_;intro b2 hb2;refine xW 0 (cStmt y p5 c5 p6 c6 p7 c7 p8 c8) rfl<|yB rfl<|zW<|yE<|yG 1 [] [8] rfl<|rS (zY [5,0,1,2,3,4] (ai:=[hB am (cRd r0 p c),hB b2 (cStmt y p5 c5 p6 c6 p7 c7 p8 c8),hO zA (vS p5 y.Write.Subs c5) cs,hO zD (vS p8 y.Value.Kids c8) aL,hB b1 [vT ([]),z0,vI 0,vI 0,z0,vI 0,vT ([]),z0,z0],hB b (cStmt s p1 c1 p2 c2 p3 c3 p4 c4)])) ?_;obtain⟨⟨y2,y3⟩,ay,N⟩:=zC N;refine sB (xY r0 40 _ ay h) rfl ?_;rintro aP ax v2 k2 af - ⟨v0,kk,rfl,rfl,rfl,h10⟩ -;have ⟨h5,h6,h7,h8,H⟩:=m5 af h5 h6 h7 h8 H;obtain⟨p9,c9,rfl,h11⟩:=zZ h10;refine yB rfl<|wS<|yJ [10] rfl<|zI<|nU 5 rfl ?_;intro aS aE hl0;have ar:At aS ⟨b,0,none⟩ (cStmt s p1 c1 p2 c2 p3 c3 p4 c4):=At.of_blk hl0;have ⟨h11,h5,h6,h7,h8,H⟩:=m6 aE h11 h5 h6 h7 h8 H;obtain⟨o0,az,aM⟩:=zC N;refine nH (λI' ai m'=>∃(WriteArray:Str) (WriteSubs:List zA) (ValueKind:Int) (ValueNum:Int) (ValueKids:List zD) (x:zK) (aZ:Option Addr) (ba:Nat) (bf:List Value) (aT:Option Addr) (aU:Nat) (bd:List Value) (bv:Option Addr) (bc:Nat),o0=(WriteArray,WriteSubs,ValueKind,ValueNum,ValueKids,x)/\aS.le I'/\(RL I' bf WriteSubs)/\(RL I' bd ValueKids)/\(S4 I' bv x.b bc)/\ai=[hB am (cRd x bv bc),hB b2 [vT WriteArray.l,vS aZ WriteSubs ba,vI ValueKind,vI ValueNum,vS p6 y.Value.Index.Coefs c6,vI y.Value.Index.Const,vT y.Value.Read.Array.l,vS p7 y.Value.Read.Subs c7,vS aT ValueKids aU],hO zA (vS aZ WriteSubs ba) bf,hO zD (vS aT ValueKids aU) bd,hB b1 [vT ([]),z0,vI 0,vI 0,z0,vI 0,vT ([]),z0,z0]]/\m'=[(4,vP b1 0),(5,vP b2 0)]) ?_ ?_
 ·have H:=iS aS;refine yC az ?_ ?_
  ·intro hc N;refine zL<|yG 1 [] [12] rfl<|mX (rT [(⟨[69]⟩:Str),(⟨[]⟩:Str),(⟨[65,66]⟩:Str),(⟨[97]⟩:Str)]) ?_;intro b3 bI aJ h16;have ⟨h11,h5,h8,H⟩:=m4 aJ h11 h5 h8 H;obtain⟨⟨y5,y6⟩,aI,N⟩:=zC N;refine sB (eA y3 ([(⟨[69]⟩:Str),(⟨[]⟩:Str),(⟨[65,66]⟩:Str),(⟨[97]⟩:Str)]:List Str) _ aI h11 h16) rfl ?_;rintro bL ax v2 k2 aX - ⟨v02,kk1,rfl,rfl,rfl,h18⟩ -;have ⟨h5,h8,H⟩:=m3 aX h5 h8 H;obtain⟨bb,bm,rfl,h19⟩:=zZ h18;exact yG 5 [] [16] rfl<|xW 1 [vT y5.l,vS p5 y.Write.Subs c5,vI y.Value.Kind,vI y.Value.Num,vS p6 y.Value.Index.Coefs c6,vI y.Value.Index.Const,vT y.Value.Read.Array.l,vS p7 y.Value.Read.Subs c7,vS p8 y.Value.Kids c8] rfl<|yB rfl<|yS<|zU ⟨_,_,_,_,_,_,_,_,_,_,_,_,_,_,(zB N).symm,H,h5,h8,h19,rfl,rfl⟩
  intro hc N;refine yJ [17] rfl<|zI ?_;obtain⟨aO,aB,hMc1⟩:=zC N;refine nH (λI' ai m'=>∃(WriteSubs1:List zA) (ValueKind1:Int) (ValueNum1:Int) (ValueKids1:List zD) (x1:zK) (p14:Option Addr) (c14:Nat) (bD:List Value) (p15:Option Addr) (c15:Nat) (bG:List Value) (p16:Option Addr) (c16:Nat),aO=(WriteSubs1,ValueKind1,ValueNum1,ValueKids1,x1)/\aS.le I'/\(RL I' bD WriteSubs1)/\(RL I' bG ValueKids1)/\(S4 I' p16 x1.b c16)/\ai=[hB am (cRd x1 p16 c16),hB b2 [vT y.Write.Array.l,vS p14 WriteSubs1 c14,vI ValueKind1,vI ValueNum1,vS p6 y.Value.Index.Coefs c6,vI y.Value.Index.Const,vT y.Value.Read.Array.l,vS p7 y.Value.Read.Subs c7,vS p15 ValueKids1 c15],hO zA (vS p14 WriteSubs1 c14) bD,hO zD (vS p15 ValueKids1 c15) bG,hB b1 [vT ([]),z0,vI 0,vI 0,z0,vI 0,vT ([]),z0,z0]]/\m'=[(4,vP b1 0),(5,vP b2 0)]) ?_ ?_
  ·have H:=iS aS;refine yC aB ?_ ?_
   ·intro aD N;obtain⟨y7,aW,N⟩:=zC N;obtain⟨y8,br,N⟩:=zC N;obtain⟨l,bB,N⟩:=zC N;refine wU [.p (vP b2 0) [],.p (vP b2 1) [],.p (vS p5 y.Write.Subs c5) [1],.x (eVAff y7),.x (λI' v hx=>∃p18 c18 cs7,v=vA (cAff y8 p18 c18)/\hx=[hO Int (vS p18 y8.Coefs c18) cs7]/\(RL I' cs7 y8.Coefs)),.x (λI' v hx=>∃b4,v=vS (some ⟨b4,0,none⟩) ([y7,y8]:List zA) 2/\hx=[]/\(SL I' (vS (some ⟨b4,0,none⟩) ([y7,y8]:List zA) 2) ([y7,y8]:List zA))),.x (λI' v hx=>∃p19 c19 cs8,v=vS p19 l c19/\hx=[hO zA (vS p19 l c19) cs8]/\(RL I' cs8 l))] [[],[(0,false)],[(1,false)],[],[],[(3,false),(4,true)],[(2,false),(5,false),(10,true)]] [hB am (cRd y3 p9 c9),hB b2 (cStmt y p5 c5 p6 c6 p7 c7 p8 c8),hO zD (vS p8 y.Value.Kids c8) aL,hB b1 [vT ([]),z0,vI 0,vI 0,z0,vI 0,vT ([]),z0,z0]] [[hO zA (vS p5 y.Write.Subs c5) cs]] [(6,true)] (zY [0,1,3,4,2]) ?_ ?_
    ·refine Op<|Op<|Op<|Ox ?_<|Ox ?_<|Ox ?_<|Ox ?_<|On
     ·intro I1 hf af;refine dD [] ?_;have H:=iS I1;refine xX (gZ 3 _ aW ) ?_;rintro I07 ax v2 k2 bt - ⟨v04,rfl,rfl,⟨cs6,rfl,h23⟩⟩ -;have H:=H.trans bt;obtain⟨p17,c17,rfl,h24⟩:=yD h23;exact yR [] H ⟨_,_,rfl,rfl,h24⟩
     ·intro I1 hf af;refine dD [] ?_;have H:=iS I1;refine xX (kT  _ br ) ?_;rintro I08 ax v2 k2 bx - ⟨p18,c18,cs7,rfl,rfl,h25⟩ -;have H:=H.trans bx;exact yR [hO Int (vS p18 y8.Coefs c18) cs7] H ⟨_,_,_,rfl,rfl,h25⟩
     ·rintro I1 hf af _ _ ⟨p17,c17,rfl,rfl,h24⟩ _ _ ⟨p18,c18,cs7,rfl,rfl,h25⟩;refine yV [22,23] rfl ?_;have H:=iS I1;refine wA 0 rfl ?_;intro I09 le7 hl02;have h26:=SL.of_frozen hl02 le7 h25;have ⟨h24,H⟩:=m2 le7 h24 H;refine mX (rc y7 (yO ⟨_,rfl,h24⟩) (rc y8 (yO ⟨_,rfl,h26⟩) rN)) ?_;intro b4 bN le8 h28;have H:=H.trans le8;exact yR [] H ⟨_,rfl,rfl,h28⟩
     rintro I1 hf af _ _ ⟨rfl,rfl⟩ _ _ ⟨b4,rfl,rfl,h28⟩ _ _ rfl;refine yV [21,24] rfl ?_;have h5:=iM af h5;obtain⟨aK,k0,k01⟩:=h28;have h28:SL I1 (vS (some ⟨b4,0,none⟩) ([y7,y8]:List zA) 2) ([y7,y8]:List zA):=⟨_,k0,k01⟩;exact mD 50 2 0 rfl rfl rfl h5 (.inl k0) k01 bB λp19 c19 cs8 h29=>uY (ai:=(hO zA (vS p19 l c19) cs8::hB am (cRd y3 p9 c9)::hB b2 (cStmt y p5 c5 p6 c6 p7 c7 p8 c8)::hO zD (vS p8 y.Value.Kids c8) aL::hB b1 [vT ([]),z0,vI 0,vI 0,z0,vI 0,vT ([]),z0,z0]::hf)) rfl<|yR [hO zA (vS p19 l c19) cs8] iR ⟨_,_,_,rfl,rfl,h29⟩
    rintro bW le9 _ _ ⟨p19,c19,cs8,rfl,rfl,h29⟩;refine yV [4,5,25] rfl ?_;have ⟨h11,h8,H⟩:=m3 le9 h11 h8 H;exact yG 9 [] [27] rfl<|xW 2 [vT y.Write.Array.l,vS p19 l c19,vI y.Value.Kind,vI y.Value.Num,vS p6 y.Value.Index.Coefs c6,vI y.Value.Index.Const,vT y.Value.Read.Array.l,vS p7 y.Value.Read.Subs c7,vS p8 y.Value.Kids c8] rfl<|yB rfl<|wD (zV [1,2,0,3,4] rfl (by decide))<|yS<|zU ⟨_,_,_,_,_,_,_,_,_,_,_,_,_,(zB N).symm,H,h29,h8,h11,rfl,rfl⟩
   intro aD N;refine yJ [28] rfl<|zI ?_;obtain⟨o02,ho02,hMc2⟩:=zC N;refine nH (λI' ai m'=>∃(ValueKind2:Int) (ValueNum2:Int) (ValueKids2:List zD) (x2:zK) (p20:Option Addr) (c20:Nat) (cs9:List Value) (p21:Option Addr) (c21:Nat),o02=(ValueKind2,ValueNum2,ValueKids2,x2)/\aS.le I'/\(RL I' cs9 ValueKids2)/\(S4 I' p21 x2.b c21)/\ai=[hB am (cRd x2 p21 c21),hB b2 [vT y.Write.Array.l,vS p5 y.Write.Subs c5,vI ValueKind2,vI ValueNum2,vS p6 y.Value.Index.Coefs c6,vI y.Value.Index.Const,vT y.Value.Read.Array.l,vS p7 y.Value.Read.Subs c7,vS p20 ValueKids2 c20],hO zA (vS p5 y.Write.Subs c5) cs,hO zD (vS p20 ValueKids2 c20) cs9,hB b1 [vT ([]),z0,vI 0,vI 0,z0,vI 0,vT ([]),z0,z0]]/\m'=[(4,vP b1 0),(5,vP b2 0)]) ?_ ?_
   ·have H:=iS aS;refine yC ho02 ?_ ?_
    ·intro aQ N;refine zL<|yG 1 [] [30] rfl<|mX (rI [0,7,1,4,2]) ?_;intro b5 I013 le10 h33;have ⟨h11,h8,H⟩:=m3 le10 h11 h8 H;obtain⟨⟨y10,y11⟩,hy6,N⟩:=zC N;refine sB (xP y3 ([0,7,1,4,2]:List Int) _ hy6 h11 h33) rfl ?_;rintro I014 ax v2 k2 le11 - ⟨v06,kk2,rfl,rfl,rfl,h35⟩ -;have ⟨h8,H⟩:=m2 le11 h8 H;obtain⟨p22,c22,rfl,h36⟩:=zZ h35;exact yG 5 [] [34] rfl<|xW 1 [vT y.Write.Array.l,vS p5 y.Write.Subs c5,vI y10,vI y.Value.Num,vS p6 y.Value.Index.Coefs c6,vI y.Value.Index.Const,vT y.Value.Read.Array.l,vS p7 y.Value.Read.Subs c7,vS p8 y.Value.Kids c8] rfl<|yB rfl<|yS<|zU ⟨_,_,_,_,_,_,_,_,_,(zB N).symm,H,h8,h36,rfl,rfl⟩
    intro aQ N;refine yJ [35] rfl<|zI ?_;obtain⟨o03,ho03,hMc3⟩:=zC N;refine nH (λI' ai m'=>∃(ValueNum3:Int) (ValueKids3:List zD) (x3:zK) (p23:Option Addr) (c23:Nat) (cs10:List Value) (p24:Option Addr) (c24:Nat),o03=(ValueNum3,ValueKids3,x3)/\aS.le I'/\(RL I' cs10 ValueKids3)/\(S4 I' p24 x3.b c24)/\ai=[hB am (cRd x3 p24 c24),hB b2 [vT y.Write.Array.l,vS p5 y.Write.Subs c5,vI y.Value.Kind,vI ValueNum3,vS p6 y.Value.Index.Coefs c6,vI y.Value.Index.Const,vT y.Value.Read.Array.l,vS p7 y.Value.Read.Subs c7,vS p23 ValueKids3 c23],hO zA (vS p5 y.Write.Subs c5) cs,hO zD (vS p23 ValueKids3 c23) cs10,hB b1 [vT ([]),z0,vI 0,vI 0,z0,vI 0,vT ([]),z0,z0]]/\m'=[(4,vP b1 0),(5,vP b2 0)]) ?_ ?_
    ·have H:=iS aS;refine yC ho03 ?_ ?_
     ·intro bu N;refine zL<|yG 1 [] [37] rfl<|mX (rI [100,(-1),1]) ?_;intro b6 I016 le12 h40;have ⟨h11,h8,H⟩:=m3 le12 h11 h8 H;obtain⟨⟨y13,y14⟩,hy7,N⟩:=zC N;refine sB (xP y3 ([100,(-1),1]:List Int) _ hy7 h11 h40) rfl ?_;rintro I017 ax v2 k2 le13 - ⟨v08,kk3,rfl,rfl,rfl,h42⟩ -;have ⟨h8,H⟩:=m2 le13 h8 H;obtain⟨p25,c25,rfl,h43⟩:=zZ h42;exact yG 5 [] [41] rfl<|xW 1 [vT y.Write.Array.l,vS p5 y.Write.Subs c5,vI y.Value.Kind,vI y13,vS p6 y.Value.Index.Coefs c6,vI y.Value.Index.Const,vT y.Value.Read.Array.l,vS p7 y.Value.Read.Subs c7,vS p8 y.Value.Kids c8] rfl<|yB rfl<|yS<|zU ⟨_,_,_,_,_,_,_,_,(zB N).symm,H,h8,h43,rfl,rfl⟩
     intro bu N;refine yJ [42] rfl<|zI ?_;obtain⟨o04,ho04,hMc4⟩:=zC N;refine nH (λI' ai m'=>∃(ValueKids4:List zD) (p26:Option Addr) (c26:Nat) (cs11:List Value),o04=ValueKids4/\aS.le I'/\(RL I' cs11 ValueKids4)/\ai=[hB am (cRd y3 p9 c9),hB b2 [vT y.Write.Array.l,vS p5 y.Write.Subs c5,vI y.Value.Kind,vI y.Value.Num,vS p6 y.Value.Index.Coefs c6,vI y.Value.Index.Const,vT y.Value.Read.Array.l,vS p7 y.Value.Read.Subs c7,vS p26 ValueKids4 c26],hO zA (vS p5 y.Write.Subs c5) cs,hO zD (vS p26 ValueKids4 c26) cs11,hB b1 [vT ([]),z0,vI 0,vI 0,z0,vI 0,vT ([]),z0,z0]]/\m'=[(4,vP b1 0),(5,vP b2 0)]) ?_ ?_
     ·have H:=iS aS;refine yC ho04 ?_ ?_
      ·intro bK N;refine zL<|qX 4 [1] [(46,vS p8 y.Value.Kids c8),(47,vA [vI 1,vI 0,z0,vI 0,vT ([]),z0,z0])]<|qB [vI 1,vI 0,z0,vI 0,vT ([]),z0,z0] zD ?_;intro b7 hb7;have h45:RL aS [vI 1,vI 0,z0,vI 0,vT ([]),z0,z0] ([(zD.mk 1 0 (zA.mk ([]:List Int) 0) (zH.mk (⟨[]⟩:Str) ([]:List zA)) ([]:List zD))]:List zD):=⟨[vI 1,vI 0,z0,vI 0,vT ([]),z0,z0],_,rfl,rfl,(wK ⟨_,_,_,rfl,(SL.nil _),(SL.nil _),(SL.nil _)⟩),rfl⟩;obtain⟨l1,hy8,N⟩:=zC N;refine mD 53 7 4 rfl rfl rfl h8 (.inr ⟨0,rfl⟩) h45 hy8 ?_;intro p27 c27 cs12 h46;exact rS (zY [1,2,3,4,5] (ai:=[hB am (cRd y3 p9 c9),hB b2 (cStmt y p5 c5 p6 c6 p7 c7 p8 c8),hO zA (vS p5 y.Write.Subs c5) cs,hO zD (vS p27 l1 c27) cs12,hB b1 [vT ([]),z0,vI 0,vI 0,z0,vI 0,vT ([]),z0,z0]]))<|yG 8 [] [51] rfl<|xW 1 [vT y.Write.Array.l,vS p5 y.Write.Subs c5,vI y.Value.Kind,vI y.Value.Num,vS p6 y.Value.Index.Coefs c6,vI y.Value.Index.Const,vT y.Value.Read.Array.l,vS p7 y.Value.Read.Subs c7,vS p27 l1 c27] rfl<|yB rfl<|yS<|zU ⟨_,_,_,_,(zB N).symm,H,h46,rfl,rfl⟩
      intro bK N;exact zS<|yS<|zU ⟨_,_,_,_,(zB N).symm,H,h8,rfl,rfl⟩
     rintro I018 ax m2 ⟨ValueKids4,p26,c26,cs11,heq,le14,h44,rfl,rfl⟩;subst o04;have ⟨h11,H⟩:=m2 le14 h11 H;exact yS<|zU ⟨_,_,_,_,_,_,_,_,(zB hMc4).symm,H,h44,h11,rfl,rfl⟩
    rintro I015 ax m2 ⟨ValueNum3,ValueKids3,x3,p23,c23,cs10,p24,c24,heq1,le15,h37,h38,rfl,rfl⟩;subst o03;have H:=H.trans le15;exact yS<|zU ⟨_,_,_,_,_,_,_,_,_,(zB hMc3).symm,H,h37,h38,rfl,rfl⟩
   rintro bV ax m2 ⟨ValueKind2,ValueNum2,ValueKids2,x2,p20,c20,cs9,p21,c21,heq2,le16,h30,h31,rfl,rfl⟩;subst o02;have ⟨h5,H⟩:=m2 le16 h5 H;exact yS<|zU ⟨_,_,_,_,_,_,_,_,_,_,_,_,_,(zB hMc2).symm,H,h5,h30,h31,rfl,rfl⟩
  rintro I06 ax m2 ⟨WriteSubs1,ValueKind1,ValueNum1,ValueKids1,x1,p14,c14,bD,p15,c15,bG,p16,c16,heq3,le17,h20,h21,h22,rfl,rfl⟩;subst aO;have H:=H.trans le17;exact yS<|zU ⟨_,_,_,_,_,_,_,_,_,_,_,_,_,_,(zB hMc1).symm,H,h20,h21,h22,rfl,rfl⟩
 rintro bw ax m2 ⟨WriteArray,WriteSubs,ValueKind,ValueNum,ValueKids,x,aZ,ba,bf,aT,aU,bd,bv,bc,heq4,le18,h12,h13,h14,rfl,rfl⟩;subst o0;have ⟨h6,h7⟩:=m2 le18 h6 h7;refine zO<|xN<|qX 1 [1] [(52,vA [vT WriteArray.l,vS aZ WriteSubs ba,vI ValueKind,vI ValueNum,vS p6 y.Value.Index.Coefs c6,vI y.Value.Index.Const,vT y.Value.Read.Array.l,vS p7 y.Value.Read.Subs c7,vS aT ValueKids aU])]<|xW 4 [vT WriteArray.l,vS aZ WriteSubs ba,vI ValueKind,vI ValueNum,vS p6 y.Value.Index.Coefs c6,vI y.Value.Index.Const,vT y.Value.Read.Array.l,vS p7 y.Value.Read.Subs c7,vS aT ValueKids aU] rfl<|yB rfl<|xJ<|wH 2 rfl ?_;intro I019 le19 hl06;have h47:=SL.of_frozen hl06 le19 h12;have ⟨h14,h6,h7,h13⟩:=m4 le19 h14 h6 h7 h13;refine wH 2 rfl ?_;intro I020 le20 hl07;have h48:=SL.of_frozen hl07 le20 h13;have ⟨h14,h47,h6,h7⟩:=m4 le20 h14 h47 h6 h7;obtain rfl:=zB aM;exact xL ⟨_,_,(.cell 2 rfl rfl (by kernel_rfl) ResV.nil),(zV [0] rfl (by decide)),⟨_,_,rfl,rfl,⟨_,rfl,(wV ⟨_,_,_,_,rfl,h47,h6,h7,h48⟩)⟩,(yZ ⟨_,rfl,h14⟩)⟩⟩
def fI(b0:Nat)(r:zP×zK):KT:=λkk I' ai v=>
 ∃v0 k0,ai=[.blk b0 ⟨k0⟩]/\v=tupV [v0]/\(∃cs,v0=.agg ⟨cs⟩/\Rp.rep I' cs r.1)/\Rp.rep I' k0 r.2
def tS(r0:zK)(p1:zP):Option (zP×zK):=do
 let y<-rX p1
 let (y2,y3)<-xC r0 60
 let (Arrays,Parts,x)<-(do
  if(y2==0) then
   let (y5,y6)<-nE y3 ([(⟨[65]⟩:Str),(⟨[68]⟩:Str),(⟨[69]⟩:Str)]:List Str)
   let (y8,y9)<-xD y6 ([7,0,3,(-1)]:List Int)
   let l<-app 40 y.Arrays ([(zG.mk y5 ([y8]:List Int))]:List zG)
   pure (l,y.Parts,y9)
  else
   let (av,aR,x1)<-(do
    if(y2==1) then
     let (Arrays2,x2)<-(do
      if(decide ((y.Arrays.length:Int)>0)) then
       let (y11,y12)<-xD y3 ([1,2,7]:List Int)
       let x3<-idx y.Arrays 0
       let l1<-pure (y.Arrays.set (0:Int).toNat (zG.mk x3.Name ([y11]:List Int)))
       pure (l1,y12)
      else
       pure (y.Arrays,y3)
        : Option (List zG×zK))
     pure (Arrays2,y.Parts,x2)
    else
     let (Parts2,x4)<-(do
      if(y2==2) then
       let (Parts3,x5)<-(do
        if(decide ((y.Parts.length:Int)>0)) then
         let x6<-idx y.Parts 0
         let (y14,y15)<-nF y3 x6.Nest
         let (y17,y18)<-nF y15 y14
         let (y20,y21)<-nF y18 y17
         let x7<-idx y.Parts 0
         let l2<-pure (y.Parts.set (0:Int).toNat (zJ.mk y20 x7.Body))
         pure (l2,y21)
        else
         pure (y.Parts,y3)
          : Option (List zJ×zK))
       pure (Parts3,x5)
      else
       let (Parts4,x8)<-(do
        if(y2==3) then
         let t76<-(do
          if(decide ((y.Parts.length:Int)>0)) then
           let x9<-idx y.Parts (W ((y.Parts.length:Int) - 1))
           pure (decide ((x9.Body.length:Int)>0))
          else
           pure false
            : Option Bool)
         let (Parts5,x10)<-(do
          if t76 then
           let x11<-idx y.Parts (W ((y.Parts.length:Int) - 1))
           let x12<-idx x11.Body 0
           let (y22,y23)<-tR y3 x12
           let (y24,y25)<-tR y23 y22
           let (y26,y27)<-tR y25 y24
           let l3<-pure ((y.Parts).set (W ((y.Parts.length:Int) - 1)).toNat (zJ.mk x11.Nest (x11.Body.set 0 y26)))
           pure (l3,y27)
          else
           pure (y.Parts,y3)
            : Option (List zJ×zK))
         pure (Parts5,x10)
        else
         let Parts6<-(do
          if(y2==4) then
           let Parts7<-(do
            if(decide ((y.Parts.length:Int)>0)) then
             let x13<-idx y.Parts (W ((y.Parts.length:Int) - 1))
             let l4<-pure (y.Parts.set (W ((y.Parts.length:Int) - 1)).toNat (zJ.mk x13.Nest ([]:List zM)))
             pure (id l4)
            else
             pure y.Parts
              : Option (List zJ))
           pure (id Parts7)
          else
           pure y.Parts
            : Option (List zJ))
         pure (Parts6,y3)
          : Option (List zJ×zK))
       pure (Parts4,x8)
        : Option (List zJ×zK))
     pure (y.Arrays,Parts2,x4)
      : Option (List zG×List zJ×zK))
   pure (av,aR,x1)
    : Option (List zG×List zJ×zK))
 pure ((zP.mk Arrays Parts),x)
theorem zD9:∀(r0:zK) (p1:zP) r,tS r0 p1=some r->∀{I:Imm}{am:Nat}{p c p2 c1 p3 c2},(S4 I p r0.b c)->(S4 I p2 p1.Arrays c1)->(S4 I p3 p1.Parts c2)->(∀(y:zP) (y2:Int) (y3:zK) (x:zJ) (s:zM),rX p1=some y->xC r0 60=some (y2,y3)->(y2==3)=true->idx y.Parts (W ((y.Parts.length:Int) - 1))=some x->idx x.Body 0=some s->False)->RT 69 [vP am 0,vA (cProg p1 p2 c1 p3 c2)] I [hB am (cRd r0 p c)] (fI am r):=by
 intro r0 p1 r N I am p c p2 c1 p3 c2 h h1 h2 hne;unfold tS at N;refine yP func69 λB=>?_;have H:=iS I;refine yE<|vM (cProg p1 p2 c1 p3 c2) ?_;intro b hb;refine vG zTwo ?_;intro b1 hb1;refine yB rfl<|xN<|qX 1 [1] [(7,vA (cProg p1 p2 c1 p3 c2))]<|bE N λy hy N=>xX (zFd p1 _ hy h1 h2) ?_;rintro I0 ax v2 k2 le - ⟨p4,c3,cs,p5,c4,aL,rfl,rfl,h3,h4⟩ -;have ⟨h,H⟩:=m2 le h H;refine vG zTwo ?_;intro b2 hb2;refine xW 0 (cProg y p4 c3 p5 c4) rfl<|yB rfl<|xN<|yQ [0] [6] rfl<|zW<|yE<|yG 1 [] [12] rfl<|rS (zY [5,0,1,2,3,4] (ai:=[hB am (cRd r0 p c),hB b2 (cProg y p4 c3 p5 c4),hO zG (vS p4 y.Arrays c3) cs,hO zJ (vS p5 y.Parts c4) aL,hB b1 zTwo,hB b (cProg p1 p2 c1 p3 c2)])) ?_;obtain⟨⟨y2,y3⟩,ay,N⟩:=zC N;refine sB (xY r0 60 _ ay h) rfl ?_;rintro aP ax v2 k2 af - ⟨v0,kk,rfl,rfl,rfl,h6⟩ -;have ⟨h3,h4,H⟩:=m3 af h3 h4 H;obtain⟨p6,c5,rfl,h7⟩:=zZ h6;refine yB rfl<|wS<|yJ [14] rfl<|zI<|nU 5 rfl ?_;intro aS aE hl0;have ar:At aS ⟨b,0,none⟩ (cProg p1 p2 c1 p3 c2):=At.of_blk hl0;have ⟨h7,h3,h4,H⟩:=m4 aE h7 h3 h4 H;obtain⟨o0,az,aM⟩:=zC N;refine nH (λI' ai m'=>∃(Arrays:List zG) (Parts:List zJ) (x:zK) (p7:Option Addr) (c6:Nat) (bf:List Value) (p8:Option Addr) (c7:Nat) (bd:List Value) (p9:Option Addr) (c8:Nat),o0=(Arrays,Parts,x)/\aS.le I'/\(RL I' bf Arrays)/\(RL I' bd Parts)/\(S4 I' p9 x.b c8)/\ai=[hB am (cRd x p9 c8),hB b2 [vS p7 Arrays c6,vS p8 Parts c7],hO zG (vS p7 Arrays c6) bf,hO zJ (vS p8 Parts c7) bd,hB b1 zTwo]/\m'=[(4,vP b1 0),(5,vP b2 0)]) ?_ ?_
 ·have H:=iS aS;refine yC az ?_ ?_
  ·intro hc N;obtain⟨⟨y5,y6⟩,aI,N⟩:=zC N;obtain⟨⟨y8,y9⟩,aW,N⟩:=zC N;obtain⟨l,br,N⟩:=zC N;refine wU [.p (vP b2 0) [],.p (vS p4 y.Arrays c3) [0],.p (vP am 0) [],.x (λI' v hx=>∃b3,v=vS (some ⟨b3,0,none⟩) ([(⟨[65]⟩:Str),(⟨[68]⟩:Str),(⟨[69]⟩:Str)]:List Str) 3/\hx=[]/\(SL I' (vS (some ⟨b3,0,none⟩) ([(⟨[65]⟩:Str),(⟨[68]⟩:Str),(⟨[69]⟩:Str)]:List Str) 3) ([(⟨[65]⟩:Str),(⟨[68]⟩:Str),(⟨[69]⟩:Str)]:List Str))),.x (λI' v hx=>∃aZ c9,v=vT y5.l/\hx=[hB am (cRd y6 aZ c9)]/\(S4 I' aZ y6.b c9)),.p (vP am 0) [],.x (λI' v hx=>∃b4,v=vS (some ⟨b4,0,none⟩) ([7,0,3,(-1)]:List Int) 4/\hx=[]/\(SL I' (vS (some ⟨b4,0,none⟩) ([7,0,3,(-1)]:List Int) 4) ([7,0,3,(-1)]:List Int))),.x (λI' v hx=>∃aT ba,v=vI y8/\hx=[hB am (cRd y9 aT ba)]/\(S4 I' aT y9.b ba)),.x (λI' v hx=>∃b5,v=vS (some ⟨b5,0,none⟩) ([y8]:List Int) 1/\hx=[]/\(SL I' (vS (some ⟨b5,0,none⟩) ([y8]:List Int) 1) ([y8]:List Int))),.x (λI' v hx=>∃b51,v=vA [vT y5.l,vS (some ⟨b51,0,none⟩) ([y8]:List Int) 1]/\hx=[]/\(SL I' (vS (some ⟨b51,0,none⟩) ([y8]:List Int) 1) ([y8]:List Int))),.x (λI' v hx=>∃b6,v=vS (some ⟨b6,0,none⟩) ([(zG.mk y5 ([y8]:List Int))]:List zG) 1/\hx=[]/\(SL I' (vS (some ⟨b6,0,none⟩) ([(zG.mk y5 ([y8]:List Int))]:List zG) 1) ([(zG.mk y5 ([y8]:List Int))]:List zG))),.x (λI' v hx=>∃bv aU bD,v=vS bv l aU/\hx=[hO zG (vS bv l aU) bD]/\(RL I' bD l))] [[],[(0,false)],[],[],[(2,false),(3,false),(14,true)],[],[],[(5,false),(6,false),(4,true)],[(7,false)],[(4,false),(8,false)],[(9,false)],[(1,false),(10,false),(15,true)]] [hB b2 (cProg y p4 c3 p5 c4),hO zJ (vS p5 y.Parts c4) aL,hB b1 zTwo] [[hB am (cRd y3 p6 c5)],[hO zG (vS p4 y.Arrays c3) cs]] [(7,true),(11,true)] (zY [1,3,4,0,2]) ?_ ?_
   ·refine Op<|Op<|Op<|Ox ?_<|Ox ?_<|Op<|Ox ?_<|Ox ?_<|Ox ?_<|Ox ?_<|Ox ?_<|Ox ?_<|On
    ·intro I1 hf af;refine dD [] ?_;have H:=iS I1;refine mX (rT [(⟨[65]⟩:Str),(⟨[68]⟩:Str),(⟨[69]⟩:Str)]) ?_;intro b3 bI aJ h12;have H:=H.trans aJ;exact yR [] H ⟨_,rfl,rfl,h12⟩
    ·rintro I1 hf af _ _ ⟨rfl,rfl⟩ _ _ ⟨b3,rfl,rfl,h12⟩ _ _ rfl;refine yV [18,19] rfl ?_;have H:=iS I1;have h7:=h7.mono af;refine sB (eA y3 ([(⟨[65]⟩:Str),(⟨[68]⟩:Str),(⟨[69]⟩:Str)]:List Str) _ aI h7 h12) rfl ?_;rintro bL ax v2 k2 aX - ⟨v02,kk1,rfl,rfl,rfl,h14⟩ -;have H:=H.trans aX;obtain⟨aZ,c9,rfl,h15⟩:=zZ h14;exact yR [hB am (cRd y6 aZ c9)] H ⟨_,_,rfl,rfl,h15⟩
    ·intro I1 hf af;refine dD [] ?_;have H:=iS I1;refine mX (rI [7,0,3,(-1)]) ?_;intro b4 I06 bt h17;have H:=H.trans bt;exact yR [] H ⟨_,rfl,rfl,h17⟩
    ·rintro I1 hf af _ _ ⟨rfl,rfl⟩ _ _ ⟨b4,rfl,rfl,h17⟩ _ _ ⟨aZ,c9,rfl,rfl,h15⟩;refine yV [21,22] rfl ?_;have H:=iS I1;refine sB (xP y6 ([7,0,3,(-1)]:List Int) _ aW h15 h17) rfl ?_;rintro I07 ax v2 k2 bx - ⟨v04,kk2,rfl,rfl,rfl,h19⟩ -;have H:=H.trans bx;obtain⟨aT,ba,rfl,h20⟩:=zZ h19;exact yR [hB am (cRd y9 aT ba)] H ⟨_,_,rfl,rfl,h20⟩
    ·rintro I1 hf af _ _ ⟨aT,ba,rfl,rfl,h20⟩;refine yV [23] rfl ?_;have H:=iS I1;refine mX (rI [y8]) ?_;intro b5 I08 le7 h22;have H:=H.trans le7;exact yR [] H ⟨_,rfl,rfl,h22⟩
    ·rintro I1 hf af _ _ ⟨aZ,c9,rfl,rfl,h15⟩ _ _ ⟨b5,rfl,rfl,h22⟩;exact yV [20,24] rfl<|pG 10 [(25,vA [vT y5.l,vS (some ⟨b5,0,none⟩) ([y8]:List Int) 1])]<|yR [] iR ⟨_,rfl,rfl,h22⟩
    ·rintro I1 hf af _ _ ⟨b51,rfl,rfl,h221⟩;refine yV [25] rfl ?_;have H:=iS I1;refine mX (rc (zG.mk y5 ([y8]:List Int)) (sU ⟨_,rfl,h221⟩) rN) ?_;intro b6 I09 le8 h24;have H:=H.trans le8;exact yR [] H ⟨_,rfl,rfl,h24⟩
    rintro I1 hf af _ _ ⟨rfl,rfl⟩ _ _ ⟨b6,rfl,rfl,h24⟩ _ _ rfl;refine yV [17,26] rfl ?_;have h3:=iM af h3;obtain⟨aK,k0,k01⟩:=h24;have h24:SL I1 (vS (some ⟨b6,0,none⟩) ([(zG.mk y5 ([y8]:List Int))]:List zG) 1) ([(zG.mk y5 ([y8]:List Int))]:List zG):=⟨_,k0,k01⟩;exact mD 66 2 0 rfl rfl rfl h3 (.inl k0) k01 br λbv aU bD h25=>uY (ai:=(hO zG (vS bv l aU) bD::hB b2 (cProg y p4 c3 p5 c4)::hO zJ (vS p5 y.Parts c4) aL::hB b1 zTwo::hf)) rfl<|yR [hO zG (vS bv l aU) bD] iR ⟨_,_,_,rfl,rfl,h25⟩
   rintro bN le9 _ _ ⟨aT,ba,rfl,rfl,h20⟩ _ _ ⟨bv,aU,bD,rfl,rfl,h25⟩;refine yV [4,5,27] rfl ?_;have ⟨h4,H⟩:=m2 le9 h4 H;exact yG 13 [] [28] rfl<|xW 2 [vS bv l aU,vS p5 y.Parts c4] rfl<|yB rfl<|wD (zV [1,2,0,3,4] rfl (by decide))<|yS<|zU ⟨_,_,_,_,_,_,_,_,_,_,_,(zB N).symm,H,h25,h4,h20,rfl,rfl⟩
  intro hc N;refine yJ [29] rfl<|zI ?_;obtain⟨aO,aB,hMc1⟩:=zC N;refine nH (λI' ai m'=>∃(av:List zG) (aR:List zJ) (x1:zK) (bb:Option Addr) (bc:Nat) (bG:List Value) (p14:Option Addr) (bm:Nat) (cs6:List Value) (p15:Option Addr) (c14:Nat),aO=(av,aR,x1)/\aS.le I'/\(RL I' bG av)/\(RL I' cs6 aR)/\(S4 I' p15 x1.b c14)/\ai=[hB am (cRd x1 p15 c14),hB b2 [vS bb av bc,vS p14 aR bm],hO zG (vS bb av bc) bG,hO zJ (vS p14 aR bm) cs6,hB b1 zTwo]/\m'=[(4,vP b1 0),(5,vP b2 0)]) ?_ ?_
  ·have H:=iS aS;refine yC aB ?_ ?_
   ·intro aD N;refine yE<|yQ [1] [34] rfl<|zI ?_;obtain⟨o02,ho02,hMc2⟩:=zC N;refine nH (λI' ai m'=>∃(Arrays2:List zG) (x2:zK) (p16:Option Addr) (c15:Nat) (cs7:List Value) (p17:Option Addr) (c16:Nat),o02=(Arrays2,x2)/\aS.le I'/\(RL I' cs7 Arrays2)/\(S4 I' p17 x2.b c16)/\ai=[hB am (cRd x2 p17 c16),hB b2 [vS p16 Arrays2 c15,vS p5 y.Parts c4],hO zG (vS p16 Arrays2 c15) cs7,hO zJ (vS p5 y.Parts c4) aL,hB b1 zTwo]/\m'=[(4,vP b1 0),(5,vP b2 0)]) ?_ ?_
    ·have H:=iS aS;refine yC ho02 ?_ ?_
     ·intro aQ N;obtain⟨⟨y11,y12⟩,bB,N⟩:=zC N;refine wU [.p (vP b2 0) [],.p (vS p4 y.Arrays c3) [0],.p (vP am 0) [],.x (λI' v hx=>∃b7,v=vS (some ⟨b7,0,none⟩) ([1,2,7]:List Int) 3/\hx=[]/\(SL I' (vS (some ⟨b7,0,none⟩) ([1,2,7]:List Int) 3) ([1,2,7]:List Int))),.x (λI' v hx=>∃p18 c17,v=vI y11/\hx=[hB am (cRd y12 p18 c17)]/\(S4 I' p18 y12.b c17)),.x (λI' v hx=>∃b8,v=vS (some ⟨b8,0,none⟩) ([y11]:List Int) 1/\hx=[]/\(SL I' (vS (some ⟨b8,0,none⟩) ([y11]:List Int) 1) ([y11]:List Int)))] [[],[(0,false)],[],[],[(2,false),(3,false),(9,true)],[(4,false)]] [hB b2 (cProg y p4 c3 p5 c4),hO zG (vS p4 y.Arrays c3) cs,hO zJ (vS p5 y.Parts c4) aL,hB b1 zTwo] [[hB am (cRd y3 p6 c5)]] [(1,false),(4,true),(5,false)] (zY [1,2,3,4,0]) ?_ ?_
      ·refine Op<|Op<|Op<|Ox ?_<|Ox ?_<|Ox ?_<|On
       ·intro I1 hf af;refine dD [] ?_;have H:=iS I1;refine mX (rI [1,2,7]) ?_;intro b7 I013 le10 h32;have H:=H.trans le10;exact yR [] H ⟨_,rfl,rfl,h32⟩
       ·rintro I1 hf af _ _ ⟨rfl,rfl⟩ _ _ ⟨b7,rfl,rfl,h32⟩ _ _ rfl;refine yV [37,38] rfl ?_;have H:=iS I1;have h7:=h7.mono af;refine sB (xP y3 ([1,2,7]:List Int) _ bB h7 h32) rfl ?_;rintro I014 ax v2 k2 le11 - ⟨v06,kk3,rfl,rfl,rfl,h34⟩ -;have H:=H.trans le11;obtain⟨p18,c17,rfl,h35⟩:=zZ h34;exact yR [hB am (cRd y12 p18 c17)] H ⟨_,_,rfl,rfl,h35⟩
       rintro I1 hf af _ _ ⟨p18,c17,rfl,rfl,h35⟩;refine yV [39] rfl ?_;have H:=iS I1;refine mX (rI [y11]) ?_;intro b8 I015 le12 h37;have H:=H.trans le12;exact yR [] H ⟨_,rfl,rfl,h37⟩
      rintro I016 le13 _ _ ⟨rfl,rfl⟩ _ _ ⟨p18,c17,rfl,rfl,h35⟩ _ _ ⟨b8,rfl,rfl,h37⟩;refine yV [4,5,36,40] rfl ?_;have ⟨h3,H⟩:=m2 le13 h3 H;obtain⟨x3,hy6,N⟩:=zC N;refine gR 2 rfl rfl rfl h3 hy6 ?_;intro ad bi ap bJ al;obtain⟨p19,c18,rfl,h38⟩:=xQ al;refine yG 8 [] [42] rfl ?_;obtain⟨l1,hy7,N⟩:=zC N;refine nV (c:=[vT x3.Name.l,vS (some ⟨b8,0,none⟩) ([y11]:List Int) 1]) (x':=(zG.mk x3.Name ([y11]:List Int))) 2 1 rfl rfl rfl ap rfl rfl bJ (by kernel_rfl) (by kernel_rfl) (by kernel_rfl) h3 hy6 (by kernel_rfl) (sU ⟨_,rfl,h37⟩) ?_;rw[show y.Arrays.set (0:Int).toNat (zG.mk x3.Name ([y11]:List Int))=l1 from zB hy7];intro cs8 h39 hl07;exact fM (m':=[(4,vP b1 0),(5,vP b2 0),(40,vS (some ⟨b8,0,none⟩) ([y11]:List Int) 1)]) ⟨rfl,rfl,rfl,trivial⟩<|zDs (ai:=[hB am (cRd y12 p18 c17),hB b2 [vS p4 l1 c3,vS p5 y.Parts c4],hO zG (vS p4 l1 c3) cs8,hO zJ (vS p5 y.Parts c4) aL,hB b1 zTwo]) (m':=[(4,vP b1 0),(5,vP b2 0),(40,vS (some ⟨b8,0,none⟩) ([y11]:List Int) 1)]) (by first|rfl|simp only[vS,hl07,cM,cy,d5,dl,di,dj]) (by first|rfl|simp only[vS,hl07])<|yB rfl<|yS<|zU ⟨_,_,_,_,_,_,_,(zB N).symm,H,h39,h35,rfl,rfl⟩
     intro aQ N;exact zS<|yS<|zU ⟨_,_,_,_,_,_,_,(zB N).symm,H,h3,h7,rfl,rfl⟩
    rintro bV ax m2 ⟨Arrays2,x2,p16,c15,cs7,p17,c16,heq,le14,h29,h30,rfl,rfl⟩;subst o02;have ⟨h4,H⟩:=m2 le14 h4 H;exact yS<|zU ⟨_,_,_,_,_,_,_,_,_,_,_,(zB hMc2).symm,H,h29,h4,h30,rfl,rfl⟩
   intro aD N;refine yJ [43] rfl<|zI ?_;obtain⟨o03,ho03,hMc3⟩:=zC N;refine nH (λI' ai m'=>∃(Parts2:List zJ) (x4:zK) (p20:Option Addr) (c19:Nat) (cs9:List Value) (p21:Option Addr) (c20:Nat),o03=(Parts2,x4)/\aS.le I'/\(RL I' cs9 Parts2)/\(S4 I' p21 x4.b c20)/\ai=[hB am (cRd x4 p21 c20),hB b2 [vS p4 y.Arrays c3,vS p20 Parts2 c19],hO zG (vS p4 y.Arrays c3) cs,hO zJ (vS p20 Parts2 c19) cs9,hB b1 zTwo]/\m'=[(4,vP b1 0),(5,vP b2 0)]) ?_ ?_
   ·have H:=iS aS;refine yC ho03 ?_ ?_
    ·intro bu N;refine yJ [46] rfl<|zI ?_;obtain⟨o04,ho04,hMc4⟩:=zC N;refine nH (λI' ai m'=>∃(Parts3:List zJ) (x5:zK) (p22:Option Addr) (c21:Nat) (cs10:List Value) (p23:Option Addr) (c22:Nat),o04=(Parts3,x5)/\aS.le I'/\(RL I' cs10 Parts3)/\(S4 I' p23 x5.b c22)/\ai=[hB am (cRd x5 p23 c22),hB b2 [vS p4 y.Arrays c3,vS p22 Parts3 c21],hO zG (vS p4 y.Arrays c3) cs,hO zJ (vS p22 Parts3 c21) cs10,hB b1 zTwo]/\m'=[(4,vP b1 0),(5,vP b2 0)]) ?_ ?_
     ·have H:=iS aS;refine yC ho04 ?_ ?_
      ·intro bK N;obtain⟨x6,hy8,N⟩:=zC N;obtain⟨⟨y14,y15⟩,hy9,N⟩:=zC N;obtain⟨⟨y17,y18⟩,hy10,N⟩:=zC N;obtain⟨⟨y20,y21⟩,hy11,N⟩:=zC N;refine wU [.p (vP b2 1) [],.p (vS p5 y.Parts c4) [0],.p (vP am 0) [],.p (vP am 0) [],.p (vP am 0) [],.p (vP b2 1) [],.p (vS p5 y.Parts c4) [0],.x (λI' v hx=>∃ad1 p24 c23 p25 c24,v=.pointer (some ad1)/\hx=[]/\(AtO (vS p5 y.Parts c4) (Rp.sz zJ) (0:Int).toNat ad1)/\((aL.drop ((0:Int).toNat*Rp.sz zJ)).take (Rp.sz zJ)=(cPart x6 p24 c23 p25 c24))/\(S4 I' p24 x6.Nest c23)/\(S4 I' p25 x6.Body c24)),.x (λI' v hx=>∃ad11 p241 c231 p251 c241,v=.pointer (some ad11)/\hx=[]/\(AtO (vS p5 y.Parts c4) (Rp.sz zJ) (0:Int).toNat ad11)/\((aL.drop ((0:Int).toNat*Rp.sz zJ)).take (Rp.sz zJ)=(cPart x6 p241 c231 p251 c241))/\(S4 I' p241 x6.Nest c231)/\(S4 I' p251 x6.Body c241)),.x (eS x6.Nest),.x (λI' v hx=>∃p26 c25 p27 c26,v=vS p26 y14 c25/\hx=[hB am (cRd y15 p27 c26)]/\(S4 I' p26 y14 c25)/\(S4 I' p27 y15.b c26)),.x (λI' v hx=>∃p28 c27 p29 c28,v=vS p28 y17 c27/\hx=[hB am (cRd y18 p29 c28)]/\(S4 I' p28 y17 c27)/\(S4 I' p29 y18.b c28)),.x (λI' v hx=>∃p30 c29 p31 c30,v=vS p30 y20 c29/\hx=[hB am (cRd y21 p31 c30)]/\(S4 I' p30 y20 c29)/\(S4 I' p31 y21.b c30))] [[],[(0,false)],[],[],[],[],[(5,false)],[(6,false)],[(7,false)],[(8,false)],[(4,false),(9,false),(16,true)],[(3,false),(10,true)],[(2,false),(11,true)]] [hB b2 (cProg y p4 c3 p5 c4),hO zG (vS p4 y.Arrays c3) cs,hO zJ (vS p5 y.Parts c4) aL,hB b1 zTwo] [[hB am (cRd y3 p6 c5)]] [(1,false),(12,true)] (zY [1,2,3,4,0]) ?_ ?_
       ·refine Op<|Op<|Op<|Op<|Op<|Op<|Op<|Ox ?_<|Ox ?_<|Ox ?_<|Ox ?_<|Ox ?_<|Ox ?_<|On
        ·intro I1 hf af;refine yV [53] rfl ?_;have h4:=iM af h4;refine gR 2 rfl rfl rfl h4 hy8 ?_;intro ad1 bP bh hcc1 aw;obtain⟨p24,c23,p25,c24,rfl,h44,h45⟩:=vL aw;exact yR [] iR ⟨_,_,_,_,_,rfl,rfl,bh,hcc1,h44,h45⟩
        ·rintro I1 hf af _ _ ⟨ad1,p24,c23,p25,c24,rfl,rfl,bh,hcc1,h44,h45⟩;exact yV [54] rfl<|pG 9 [(55,.pointer (some ad1))]<|yR [] iR ⟨_,_,_,_,_,rfl,rfl,bh,hcc1,h44,h45⟩
        ·rintro I1 hf af _ _ ⟨ad11,p241,c231,p251,c241,rfl,rfl,hat21,hcc11,h441,h451⟩;exact yV [55] rfl<|zFV 2 0 hat21 hcc11 [vS p241 x6.Nest c231] (vS p241 x6.Nest c231) rfl rfl<|yR [] iR ⟨_,_,rfl,rfl,h441⟩
        ·rintro I1 hf af _ _ ⟨rfl,rfl⟩ _ _ ⟨p2411,c2311,rfl,rfl,h4411⟩ _ _ rfl;refine yV [51,56] rfl ?_;have H:=iS I1;have h7:=h7.mono af;refine sB (eC y3 x6.Nest _ hy9 h7 h4411) rfl ?_;rintro I019 ax v2 k2 le15 - ⟨v011,kk4,rfl,rfl,h46,h47⟩ -;have H:=H.trans le15;obtain⟨p26,c25,rfl⟩:=h46.form;obtain⟨p27,c26,rfl,h48⟩:=zZ h47;exact yR [hB am (cRd y15 p27 c26)] H ⟨_,_,_,_,rfl,rfl,h46,h48⟩
        ·rintro I1 hf af _ _ ⟨rfl,rfl⟩ _ _ ⟨p26,c25,p27,c26,rfl,rfl,h46,h48⟩;refine yV [50,57] rfl ?_;have H:=iS I1;refine sB (eC y15 y14 _ hy10 h48 h46) rfl ?_;rintro I020 ax v2 k2 le16 - ⟨v013,kk5,rfl,rfl,h49,h50⟩ -;have H:=H.trans le16;obtain⟨p28,c27,rfl⟩:=h49.form;obtain⟨p29,c28,rfl,h51⟩:=zZ h50;exact yR [hB am (cRd y18 p29 c28)] H ⟨_,_,_,_,rfl,rfl,h49,h51⟩
        rintro I1 hf af _ _ ⟨rfl,rfl⟩ _ _ ⟨p28,c27,p29,c28,rfl,rfl,h49,h51⟩;refine yV [49,58] rfl ?_;have H:=iS I1;refine sB (eC y18 y17 _ hy11 h51 h49) rfl ?_;rintro I021 ax v2 k2 le17 - ⟨v015,kk6,rfl,rfl,h52,h53⟩ -;have H:=H.trans le17;obtain⟨p30,c29,rfl⟩:=h52.form;obtain⟨p31,c30,rfl,h54⟩:=zZ h53;exact yR [hB am (cRd y21 p31 c30)] H ⟨_,_,_,_,rfl,rfl,h52,h54⟩
       rintro I022 le18 _ _ ⟨rfl,rfl⟩ _ _ ⟨p30,c29,p31,c30,rfl,rfl,h52,h54⟩;refine yV [4,5,48,59] rfl ?_;have ⟨h4,H⟩:=m2 le18 h4 H;obtain⟨x7,hy12,N⟩:=zC N;refine gR 3 rfl rfl rfl h4 hy12 ?_;intro ad2 ccs3 hat3 hcc2 bj;obtain⟨p32,c31,p33,c32,rfl,h55,h56⟩:=vL bj;refine yG 15 [] [61] rfl ?_;obtain⟨l2,hy13,N⟩:=zC N;refine nV (c:=[vS p30 y20 c29,vS p33 x7.Body c32]) (x':=(zJ.mk y20 x7.Body)) 3 0 rfl rfl rfl hat3 rfl rfl hcc2 (by kernel_rfl) (by kernel_rfl) (by kernel_rfl) h4 hy12 (by kernel_rfl) (uU ⟨_,_,rfl,h52,h56⟩) ?_;rw[show y.Parts.set (0:Int).toNat (zJ.mk y20 x7.Body)=l2 from zB hy13];intro cs11 h57 hl08;exact fM (m':=[(4,vP b1 0),(5,vP b2 0),(59,vS p30 y20 c29)]) ⟨rfl,rfl,rfl,trivial⟩<|zDs (ai:=[hB am (cRd y21 p31 c30),hB b2 [vS p4 y.Arrays c3,vS p5 l2 c4],hO zG (vS p4 y.Arrays c3) cs,hO zJ (vS p5 l2 c4) cs11,hB b1 zTwo]) (m':=[(4,vP b1 0),(5,vP b2 0),(59,vS p30 y20 c29)]) (by first|rfl|simp only[vS,hl08,cM,cy,d5,dl,di,dj]) (by first|rfl|simp only[vS,hl08])<|yB rfl<|yS<|zU ⟨_,_,_,_,_,_,_,(zB N).symm,H,h57,h54,rfl,rfl⟩
      intro bK N;exact zS<|yS<|zU ⟨_,_,_,_,_,_,_,(zB N).symm,H,h4,h7,rfl,rfl⟩
     rintro I018 ax m2 ⟨Parts3,x5,p22,c21,cs10,p23,c22,heq1,le19,h42,h43,rfl,rfl⟩;subst o04;have H:=H.trans le19;exact yS<|zU ⟨_,_,_,_,_,_,_,(zB hMc4).symm,H,h42,h43,rfl,rfl⟩
    intro bu N;refine yJ [62] rfl<|zI ?_;obtain⟨o05,ho05,hMc5⟩:=zC N;refine nH (λI' ai m'=>∃(Parts4:List zJ) (x8:zK) (p34:Option Addr) (c33:Nat) (cs12:List Value) (p35:Option Addr) (c34:Nat),o05=(Parts4,x8)/\aS.le I'/\(RL I' cs12 Parts4)/\(S4 I' p35 x8.b c34)/\ai=[hB am (cRd x8 p35 c34),hB b2 [vS p4 y.Arrays c3,vS p34 Parts4 c33],hO zG (vS p4 y.Arrays c3) cs,hO zJ (vS p34 Parts4 c33) cs12,hB b1 zTwo]/\m'=[(4,vP b1 0),(5,vP b2 0)]) ?_ ?_
    ·have H:=iS aS;refine yC ho05 ?_ ?_
     ·intro hc5 N;refine yA ?_;refine wQ N [hB am (cRd y3 p6 c5),hB b2 (cProg y p4 c3 p5 c4),hO zG (vS p4 y.Arrays c3) cs,hO zJ (vS p5 y.Parts c4) aL,hB b1 zTwo] (λt76=>[(0,vP am 0),(4,vP b1 0),(5,vP b2 0),(6,vI (y.Parts.length:Int)),(76,.bool t76)]) (λo06 ho06=>?_) ?_
      ·have H:=iS aS;refine zL<|yG 3 [] [66] rfl<|wC [66] ho06 ?_ ?_
       ·intro hc6 N;refine yG 7 [1] [68,70] rfl<|bE N λx9 hy14 N=>gR 3 rfl rfl rfl h4 hy14 ?_;intro ad3 ccs4 hat4 hcc3 bC;obtain⟨p36,c35,p37,c36,rfl,h60,h61⟩:=vL bC;exact yG 9 [] [72] rfl<|zFV 3 1 hat4 hcc3 [vS p37 x9.Body c36] (vS p37 x9.Body c36) rfl rfl<|yQ [] [76] rfl<|yS<|zU (ct N H)
       intro hc6 N;exact wN [] [(76,vF)]<|yS<|zU (ct N H)
      intro t76 I024 le20 hMc6;have ⟨h7,h4,H⟩:=m3 le20 h7 h4 H;refine zI ?_;obtain⟨o07,ho07,hMc7⟩:=zC hMc6;refine nH (λI' ai m'=>∃(Parts5:List zJ) (x10:zK) (p38:Option Addr) (c37:Nat) (cs13:List Value) (p39:Option Addr) (c38:Nat),o07=(Parts5,x10)/\I024.le I'/\(RL I' cs13 Parts5)/\(S4 I' p39 x10.b c38)/\ai=[hB am (cRd x10 p39 c38),hB b2 [vS p4 y.Arrays c3,vS p38 Parts5 c37],hO zG (vS p4 y.Arrays c3) cs,hO zJ (vS p38 Parts5 c37) cs13,hB b1 zTwo]/\m'=[(4,vP b1 0),(5,vP b2 0)]) ?_ ?_
      ·have H:=iS I024;refine yC ho07 ?_ ?_
       ·intro hc7 N;obtain⟨x11,hy15,N⟩:=zC N;obtain⟨x12,hy16,N⟩:=zC N;obtain⟨⟨y22,y23⟩,hy17,N⟩:=zC N;obtain⟨⟨y24,y25⟩,hy18,N⟩:=zC N;obtain⟨⟨y26,y27⟩,hy19,N⟩:=zC N;obtain⟨l3,hy20,N⟩:=zC N;have hF:False:=hne _ _ _ _ _ (by assumption) (by assumption) (by assumption) hy15 hy16;obtain⟨p40,c39,cs14,p41,c40,h64,h65⟩:∃p40 c39 cs14 p41 c40,(RL I024 cs14 l3)/\(S4 I024 p41 y27.b c40):=hF.elim;exact zKE hF (ak:=I024) (ai:=[hB am (cRd y27 p41 c40),hB b2 [vS p4 y.Arrays c3,vS p40 l3 c39],hO zG (vS p4 y.Arrays c3) cs,hO zJ (vS p40 l3 c39) cs14,hB b1 zTwo]) (m':=[(0,vP am 0),(4,vP b1 0),(5,vP b2 0),(6,vI (y.Parts.length:Int)),(76,.bool t76)])<|yS<|zU ⟨_,_,_,_,_,_,_,(zB N).symm,H,h64,h65,rfl,rfl⟩
       intro hc7 N;exact zS<|yS<|zU ⟨_,_,_,_,_,_,_,(zB N).symm,H,h4,h7,rfl,rfl⟩
      rintro I025 ax m2 ⟨Parts5,x10,p38,c37,cs13,p39,c38,heq3,le21,h62,h63,rfl,rfl⟩;subst o07;have H:=H.trans le21;exact yS<|zU ⟨_,_,_,_,_,_,_,(zB hMc7).symm,H,h62,h63,rfl,rfl⟩
     intro hc5 N;refine yJ [100] rfl<|zI ?_;obtain⟨o08,ho08,hMc8⟩:=zC N;refine nH (λI' ai m'=>∃(Parts6:List zJ) (p42:Option Addr) (c41:Nat) (cs15:List Value),o08=Parts6/\aS.le I'/\(RL I' cs15 Parts6)/\ai=[hB am (cRd y3 p6 c5),hB b2 [vS p4 y.Arrays c3,vS p42 Parts6 c41],hO zG (vS p4 y.Arrays c3) cs,hO zJ (vS p42 Parts6 c41) cs15,hB b1 zTwo]/\m'=[(4,vP b1 0),(5,vP b2 0)]) ?_ ?_
     ·have H:=iS aS;refine yC ho08 ?_ ?_
      ·intro hc8 N;refine yJ [103] rfl<|zI ?_;obtain⟨o09,ho09,hMc9⟩:=zC N;refine nH (λI' ai m'=>∃(Parts7:List zJ) (p43:Option Addr) (c42:Nat) (cs16:List Value),o09=Parts7/\aS.le I'/\(RL I' cs16 Parts7)/\ai=[hB am (cRd y3 p6 c5),hB b2 [vS p4 y.Arrays c3,vS p43 Parts7 c42],hO zG (vS p4 y.Arrays c3) cs,hO zJ (vS p43 Parts7 c42) cs16,hB b1 zTwo]/\m'=[(4,vP b1 0),(5,vP b2 0)]) ?_ ?_
       ·have H:=iS aS;refine yC ho09 ?_ ?_
        ·intro hc9 N;refine zL<|yG 4 [1] [105,107] rfl<|bE N λx13 hy21 N=>gR 3 rfl rfl rfl h4 hy21 ?_;intro ad4 ccs5 hat5 hcc4 hrep4;obtain⟨p44,c43,p45,c44,rfl,h68,h69⟩:=vL hrep4;refine yG 6 [] [109] rfl ?_;obtain⟨l4,hy22,N⟩:=zC N;refine nV (c:=[vS p44 x13.Nest c43,z0]) (x':=(zJ.mk x13.Nest ([]:List zM))) 3 1 rfl rfl rfl hat5 rfl rfl hcc4 (by kernel_rfl) (by kernel_rfl) (by kernel_rfl) h4 hy21 (by kernel_rfl) (uU ⟨_,_,rfl,h68,(SL.nil _)⟩) ?_;rw[show y.Parts.set (W ((y.Parts.length:Int) - 1)).toNat (zJ.mk x13.Nest ([]:List zM))=l4 from zB hy22];intro cs17 h70 hl09;exact fM (m':=[(4,vP b1 0),(5,vP b2 0)]) ⟨rfl,rfl,trivial⟩<|zDs (ai:=[hB am (cRd y3 p6 c5),hB b2 [vS p4 y.Arrays c3,vS p5 l4 c4],hO zG (vS p4 y.Arrays c3) cs,hO zJ (vS p5 l4 c4) cs17,hB b1 zTwo]) (m':=[(4,vP b1 0),(5,vP b2 0)]) (by first|rfl|simp only[vS,hl09,cM,cy,d5,dl,di,dj]) (by first|rfl|simp only[vS,hl09])<|yB rfl<|yS<|zU ⟨_,_,_,_,(zB N).symm,H,h70,rfl,rfl⟩
        intro hc9 N;exact zS<|yS<|zU ⟨_,_,_,_,(zB N).symm,H,h4,rfl,rfl⟩
       rintro I027 ax m2 ⟨Parts7,p43,c42,cs16,heq4,le22,h67,rfl,rfl⟩;subst o09;have H:=H.trans le22;exact yS<|zU ⟨_,_,_,_,(zB hMc9).symm,H,h67,rfl,rfl⟩
      intro hc8 N;exact zS<|yS<|zU ⟨_,_,_,_,(zB N).symm,H,h4,rfl,rfl⟩
     rintro I026 ax m2 ⟨Parts6,p42,c41,cs15,heq5,le23,h66,rfl,rfl⟩;subst o08;have ⟨h7,H⟩:=m2 le23 h7 H;exact yS<|zU ⟨_,_,_,_,_,_,_,(zB hMc8).symm,H,h66,h7,rfl,rfl⟩
    rintro I023 ax m2 ⟨Parts4,x8,p34,c33,cs12,p35,c34,heq6,le24,h58,h59,rfl,rfl⟩;subst o05;have H:=H.trans le24;exact yS<|zU ⟨_,_,_,_,_,_,_,(zB hMc5).symm,H,h58,h59,rfl,rfl⟩
   rintro I017 ax m2 ⟨Parts2,x4,p20,c19,cs9,p21,c20,heq7,le25,h40,h41,rfl,rfl⟩;subst o03;have ⟨h3,H⟩:=m2 le25 h3 H;exact yS<|zU ⟨_,_,_,_,_,_,_,_,_,_,_,(zB hMc3).symm,H,h3,h40,h41,rfl,rfl⟩
  rintro bW ax m2 ⟨av,aR,x1,bb,bc,bG,p14,bm,cs6,p15,c14,heq8,le26,h26,h27,h28,rfl,rfl⟩;subst aO;have H:=H.trans le26;exact yS<|zU ⟨_,_,_,_,_,_,_,_,_,_,_,(zB hMc1).symm,H,h26,h27,h28,rfl,rfl⟩
 rintro bw ax m2 ⟨Arrays,Parts,x,p7,c6,bf,p8,c7,bd,p9,c8,aG,le27,h8,h9,h10,rfl,rfl⟩;subst o0;refine zO<|xN<|qX 1 [1] [(110,vA [vS p7 Arrays c6,vS p8 Parts c7])]<|xW 4 [vS p7 Arrays c6,vS p8 Parts c7] rfl<|yB rfl<|xJ<|wH 2 rfl ?_;intro I028 le28 hl010;have h71:=SL.of_frozen hl010 le28 h8;have ⟨h10,h9⟩:=m2 le28 h10 h9;refine wH 2 rfl ?_;intro I029 le29 hl011;have h72:=SL.of_frozen hl011 le29 h9;have ⟨h10,h71⟩:=m2 le29 h10 h71;obtain rfl:=zB aM;exact xL ⟨_,_,(.cell 2 rfl rfl (by kernel_rfl) ResV.nil),(zV [0] rfl (by decide)),⟨_,_,rfl,rfl,⟨_,rfl,(sJ ⟨_,_,rfl,h71,h72⟩)⟩,(yZ ⟨_,rfl,h10⟩)⟩⟩
theorem zCo(p:zP):∀(i1:Int) (Parts:List zJ) (o:List zJ),uK p i1 Parts=some o->∀{B}{I0 I:Imm}{Q}{av:List zG}{p1 c p2 c1}{b:Nat}{b1:Nat}{b2:Nat}{p4 c3 aL p9 c8 bD}{au:List Raw2}{pN pB:Option Addr}{cN cB:Nat}{nl:List zE}{bl:List zM}{csB:List Value},I0.le I->(RL I aL av)->(S4 I p1 p.Arrays c)->(S4 I p2 p.Parts c1)->(RL I bD au)->LP I au Parts (vS pN nl cN) nl (vS pB bl cB) bl->SL I (vS pN nl cN) nl->RL I csB bl->(∀l a w,¬Q (.goto l) a w)->(∀a w,¬Q .outgrown a w)->(∀(I':Imm) (aZ:Option Addr) (c9:Nat) (bG:List Value) (raws1:List Raw2) (pN pB:Option Addr) (cN cB:Nat) (nl:List zE) (bl:List zM) (csB:List Value),I0.le I'->(RL I' bG raws1)->LP I' raws1 o (vS pN nl cN) nl (vS pB bl cB) bl->SL I' (vS pN nl cN) nl->RL I' csB bl->T 84 B Q (.exit 2) I' [hO zM (vS pB bl cB) csB,hO Raw2 (vS aZ raws1 c9) bG,hO zG (vS p4 av c3) aL,hB b2 [vS p4 av c3,vS aZ raws1 c9],hB b1 zTwo] [(2,vP b1 0),(3,vP b2 0)])->J Tryz.prog 84 B (nav (bodyOf f120) [1,1,1,0,1,0]) Q I [hO zM (vS pB bl cB) csB,hO Raw2 (vS p9 au c8) bD,hO zG (vS p4 av c3) aL,hB b2 [vS p4 av c3,vS p9 au c8],hB b1 zTwo,hB b (cProg p p1 c p2 c1)] [(1,vP b 0),(2,vP b1 0),(3,vP b2 0),(5,vI i1)]:=by
 refine uK.partial_correctness p _ λaN ih i1 Parts o N B I0 I Q av p1 c p2 c1 b b1 b2 p4 c3 aL p9 c8 bD au pN pB cN cB nl bl csB H h4 h h1 hRw hLP hN hBd hg ho hx=>yY hg ho<|yA<|yE<|yQ [5] [40] rfl<|zI<|yC N ?_ ?_
 ·intro aD N;refine nU 0 rfl ?_;intro immf lef hlf;have kB:=SL.of_frozen hlf lef hBd;have ⟨h4,h,h1,hN,hRw,hLP⟩:=m6 lef h4 h h1 hN hRw hLP;have H:=H.trans lef;have h14:=hLP.done hN kB;rw[<- jQ hRw] at h14;have eP:vS p9 au c8=vS p9 Parts c8:=by simp only[vS,hLP.2.1]
  rw[eP];clear hBd hlf;refine zS<|zW<|yK<|yE<|yG 3 [4] [44,45] rfl<|bE N λx2 br N=>wB rfl rfl h1 br ?_;intro ad3 ccs4 hat3 bj;obtain⟨aT,ba,bv,aU,rfl,h16,h17⟩:=vL bj;refine yG 5 [] [47] rfl<|xU 0 hat3 [vS aT x2.Nest ba] (vS aT x2.Nest ba) rfl<|bE N λy bB N=>xX (zBm x2.Nest _ bB h16) ?_;rintro bI ax v2 k2 aX - ⟨v04,rfl,rfl,h18⟩ -;have ⟨h14,hRw,hLP,hN⟩:=m4 aX h14 hRw hLP hN;replace kB:=kB.mono aX;have ⟨h4,h,h1,H⟩:=m4 aX h4 h h1 H;obtain⟨bb,bc,rfl⟩:=h18.form;refine yG 8 [] [50] rfl<|vG zTwo ?_;intro b5 hb5;refine xW 0 [vS bb y bc,z0] rfl<|yB rfl<|zW<|yJ [7] rfl<|wS<|oR [(1,vP b 0),(2,vP b1 0),(3,vP b2 0),(5,vI i1),(6,vP b5 0),(7,vI 0)]<|zAm zM λh19=>?_;obtain⟨aO,aB,hMl1⟩:=zC N;refine zAU p i1 0 ([]:List zM) aO aB iR h18 h14 h4 h h1 h19 (λ_ _ _ h=>hg _ _ _ h) (λ_ _ h=>ho _ _ h) ?_;intro bN aY p15 c14 cs7 heq1 le10 h21;subst aO;have ⟨h18,hRw,hLP,hN⟩:=m4 le10 h18 hRw hLP hN;replace kB:=kB.mono le10;have ⟨h4,h,h1,H⟩:=m4 le10 h4 h h1 H;obtain⟨l3,hy11,N⟩:=zC hMl1;have hy12:=zIq (l':=au) (m':=[(⟨vS bb y bc,vS p15 aY c14⟩:Raw2)]) hy11 hLP.2.1 rfl;have h40:RL bN [vS bb y bc,vS p15 aY c14] [(⟨vS bb y bc,vS p15 aY c14⟩:Raw2)]:=⟨[vS bb y bc,vS p15 aY c14],[],rfl,rfl,⟨rfl,rfl,rfl⟩,rfl⟩;refine zT<|zI<|zL<|qX 3 [4,1] [(78,vS p9 Parts c8),(79,vA [vS bb y bc,vS p15 aY c14])]<|qB [vS bb y bc,vS p15 aY c14] Raw2 ?_;intro b7 hb7;refine mD (α:=Raw2) 70 2 3 rfl rfl rfl hRw (.inr ⟨0,rfl⟩) h40 hy12 ?_;intro p29 c28 cs11 h41;exact rS (zY [1,3,4,5,6,7] (ai:=[hO zM (vS p15 aY c14) cs7,hO Raw2 (vS p29 (au++[(⟨vS bb y bc,vS p15 aY c14⟩:Raw2)]) c28) cs11,hO zG (vS p4 av c3) aL,hB b2 [vS p4 av c3,vS p9 Parts c8],hB b1 zTwo,hB b (cProg p p1 c p2 c1)]))<|yG 6 [] [82] rfl<|xW 3 [vS p4 av c3,vS p29 (au++[(⟨vS bb y bc,vS p15 aY c14⟩:Raw2)]) c28] rfl<|yB rfl<|zO<|zI<|zL<|yQ [] [5] rfl<|yW<|mE<|ih (W (i1+1)) l3 _ N H h4 h h1 h41 (hLP.push hN kB hy11) h18 h21 hg ho hx
 intro aD N;have:=zB N;simp only[id] at this;subst this;exact vQ<|wD (zV [0,1,2,3,4] rfl (by decide))<|yS<|hx _ _ _ _ _ _ _ _ _ _ _ _ H hRw hLP hN hBd
def zDa(r:zP):KT:=λkk I' ai v=>
 ∃(a0:Option Addr) (c0:Nat) (s0:List Value) (a1:Option Addr) (c1:Nat) (s1:List Value) (au:List Raw2) (pN pB:Option Addr) (cN cB:Nat) (nl:List zE) (bl:List zM) (csB:List Value),ai=[hO zM (vS pB bl cB) csB,hO Raw2 (vS a1 au c1) s1,hO zG (vS a0 r.Arrays c0) s0]/\v=tupV [vA [vS a0 r.Arrays c0,vS a1 au c1]]/\RL I' s0 r.Arrays/\RL I' s1 au/\LP I' au r.Parts (vS pN nl cN) nl (vS pB bl cB) bl/\SL I' (vS pN nl cN) nl/\RL I' csB bl
theorem zEu:∀(p:zP) r,rX p=some r->∀{I:Imm}{p1 c p2 c1},(S4 I p1 p.Arrays c)->(S4 I p2 p.Parts c1)->RT 120 [vA (cProg p p1 c p2 c1)] I [] (zDa r):=by
 intro p r N I p1 c p2 c1 h h1;unfold rX at N;refine yP func120 λB=>yE<|vM (cProg p p1 c p2 c1) ?_;intro b hb;refine vG zTwo ?_;intro b1 hb1;refine yB rfl<|xN<|yG 1 [] [8] rfl<|vG zTwo ?_;intro b2 hb2;refine dL 0 zTwo [hB b2 zTwo,hB b1 zTwo,hB b (cProg p p1 c p2 c1)] rfl rfl rfl rfl<|yB rfl<|zW<|yJ [4] rfl<|wS<|oR [(1,vP b 0),(2,vP b1 0),(3,vP b2 0),(4,vI 0)]<|zAm zG λh2=>?_;obtain⟨o0,az,aF⟩:=zC N;refine zAT p 0 ([]:List zG) o0 az iR h h1 h2 (λ_ _ _ h=>h) (λ_ _ h=>h) ?_;intro bw av p4 c3 aL heq aJ h4;subst o0;have ⟨h,h1⟩:=m2 aJ h h1;refine zT<|zW<|yJ [5] rfl<|wS<|oR [(1,vP b 0),(2,vP b1 0),(3,vP b2 0),(5,vI 0)]<|kJ (zB0 (Rp.sz Raw2))<|kJ (zB0 (Rp.sz zM)) ?_;obtain⟨o02,ho02,hMl2⟩:=zC aF;refine zCo p 0 ([]:List zJ) o02 ho02 (au:=[]) (pN:=none) (pB:=none) (cN:=0) (cB:=0) (nl:=[]) (bl:=[]) iR h4 h h1 RepL.nil LP.nil (SL.nil _) RepL.nil (λ_ _ _ h=>h) (λ_ _ h=>h) ?_;intro bV aZ c9 bG raws1 pN pB cN cB nl bl csB le12 hRw hLP hN hBd;have h4:=iM le12 h4;obtain rfl:=zB hMl2;exact zT<|xN<|qX 1 [3] [(83,vA [vS p4 av c3,vS aZ raws1 c9])]<|xW 4 [vS p4 av c3,vS aZ raws1 c9] rfl<|yB rfl<|xJ<|xL ⟨_,_,(.cell 4 rfl rfl (by kernel_rfl) ResV.nil),(zV [0,1,2] rfl (by decide)),⟨_,_,_,_,_,_,_,_,_,_,_,_,_,_,rfl,rfl,h4,hRw,hLP,hN,hBd⟩⟩
theorem zKL{au:List Raw2}{k:Nat}{r:Raw2}(h:au[k]?=some r):au.set k r=au:=by
 obtain⟨hk,e⟩:=cm.1 h;subst e;exact List.set_getElem_self hk
theorem zDb(r0:zK)(p1:zP)(r:zP×zK)(N:tS r0 p1=some r){y:zP}{y3:zK}{x:zJ}{s:zM}(hy:rX p1=some y)(ay:xC r0 60=some (3,y3))(hx:idx y.Parts (W ((y.Parts.length:Int) - 1))=some x)(hs:idx x.Body 0=some s):
 ∀{I:Imm}{am:Nat}{p c p2 c1 p3 c2},(S4 I p r0.b c)->(S4 I p2 p1.Arrays c1)->(S4 I p3 p1.Parts c2)->RT 69 [vP am 0,vA (cProg p1 p2 c1 p3 c2)] I [hB am (cRd r0 p c)] (fI am r):=by
 intro I am p c p2 c1' p3 c2 h h1 h2
 obtain⟨i0,i1,i2⟩:=tI hx
 obtain⟨j0,j1,j2⟩:=tI hs
 have hn:(y.Parts.length:Int)>0:=by
  have:=(cm.1 i2).1;omega
 have hb:(x.Body.length:Int)>0:=by
  have:=(cm.1 j2).1;omega
 have e0:((3:Int)==0)=false:=rfl
 have e1:((3:Int)==1)=false:=rfl
 have e2:((3:Int)==2)=false:=rfl
 have e3:((3:Int)==3)=true:=rfl
 unfold tS at N
 simp only[hy,ay,e0,e1,e2,e3,hn,hb,hx,hs,decide_true,if_true,cj,if_false,Option.pure_def,Option.bind_eq_bind,Option.bind_some] at N
 cases hm1:tR y3 s with
 | none=>rw[hm1] at N;cases N
 | some q1=>
 obtain⟨y22,y23⟩:=q1
 simp only[hm1,Option.bind_some] at N
 cases hm2:tR y23 y22 with
 | none=>rw[hm2] at N;cases N
 | some q2=>
 obtain⟨y24,y25⟩:=q2
 simp only[hm2,Option.bind_some] at N
 cases hm3:tR y25 y24 with
 | none=>rw[hm3] at N;cases N
 | some q3=>
 obtain⟨y26,y27⟩:=q3
 simp only[hm3,Option.bind_some,Option.some.injEq] at N
 subst N
 refine yP func69 λB=>yE<|vM [vS p2 p1.Arrays c1',vS p3 p1.Parts c2] ?_
 intro b hb
 refine vG zTwo ?_
 intro b1 hb1
 refine yB rfl<|xN<|qX 1 [1] [(7,vA [vS p2 p1.Arrays c1',vS p3 p1.Parts c2])]<|xX (zEu p1 _ hy h1 h2) ?_
 rintro I0 ax v2 k2 le - ⟨a0,c0,s0,a1,c1,s1,au,pN,pB,cN,cB,nl,bl,csB,rfl,rfl,h3,hRw,hLP,hN,hBd⟩ -
 have h:=h.mono le
 clear h1 h2
 rw[hLP.len] at hx hn i0 i1 i2
 obtain⟨rfl,hraw,hset⟩:=hLP.last hx
 simp only at hs hb j0 j1 j2 hm1
 have hset:=hset (vS pN nl cN) nl (vS pB bl cB) (bl.set 0 y26)
 rw[zKL (tI hraw).2.2] at hset
 refine vG zTwo ?_
 intro b2 hb2
 refine xW 0 [vS a0 y.Arrays c0,vS a1 au c1] rfl<|yB rfl<|xN<|yQ [0] [6] rfl<|zW<|yE<|yG 1 [] [12] rfl<|rS (zY [6,1,2,0,3,4] (ai:=[hB am (cRd r0 p c),hO zM (vS pB bl cB) csB,hO Raw2 (vS a1 au c1) s1,hB b2 [vS a0 y.Arrays c0,vS a1 au c1],hO zG (vS a0 y.Arrays c0) s0,hB b1 zTwo]))<|sB (xY r0 60 _ ay h) rfl ?_
 rintro aP ax v2 k2 af - ⟨v0,kk,rfl,rfl,rfl,h6⟩ -
 obtain⟨v01,rfl,h7⟩:=fF h6
 obtain⟨p6,c5,rfl⟩:=h7.form
 clear h6 h
 have h3:=iM af h3
 have hRw:=iM af hRw
 have hN:=hN.mono af
 have hBd:=iM af hBd
 have hset:=hset.mono af
 refine yB rfl<|wS<|yJ [14] rfl<|zI<|dG rfl<|yJ [29] rfl<|zI<|dG rfl<|yJ [43] rfl<|zI<|dG rfl<|yJ [62] rfl<|zI<|zBY rfl<|yE<|yG 3 [] [66] rfl ?_
 rw[decide_eq_true hn]
 refine yG 7 [3] [68,70] rfl<|gR (α:=Raw2) 2 rfl rfl rfl hRw hraw ?_
 intro ad aK ar bJ al
 obtain⟨rfl,o1,o2⟩:=al
 refine yG 9 [] [72] rfl<|zFV 2 1 ar bJ [vS pB bl cB] (vS pB bl cB) rfl rfl<|yQ [] [76] rfl ?_
 rw[decide_eq_true hb]
 refine zI<|zBY rfl<|oR [(0,vP am 0),(4,vP b1 0),(5,vP b2 0),(6,vI (au.length:Int))]<|wU [.p (vP b2 1) [],.p (vS a1 au c1) [2],.p (vI (au.length:Int)) [],.p (vI (W ((au.length:Int) - 1))) [],.x (λI' v hx'=>∃ad,v=.pointer (some ad)/\hx'=[]/\AtO (vS a1 au c1) 2 (W ((au.length:Int) - 1)).toNat ad),.x (λI' v hx'=>∃ad,v=.pointer (some (ad.add 1))/\hx'=[]/\AtO (vS a1 au c1) 2 (W ((au.length:Int) - 1)).toNat ad),.x (λI' v hx'=>v=vS pB bl cB/\hx'=[]),.p (vP am 0) [],.p (vP am 0) [],.p (vP am 0) [],.p (vP b2 1) [],.p (vS a1 au c1) [2],.p (vI (au.length:Int)) [],.p (vI (W ((au.length:Int) - 1))) [],.x (λI' v hx'=>∃ad,v=.pointer (some ad)/\hx'=[]/\AtO (vS a1 au c1) 2 (W ((au.length:Int) - 1)).toNat ad),.x (λI' v hx'=>∃ad,v=.pointer (some (ad.add 1))/\hx'=[]/\AtO (vS a1 au c1) 2 (W ((au.length:Int) - 1)).toNat ad),.x (λI' v hx'=>v=vS pB bl cB/\hx'=[]),.x (λI' v hx'=>∃ad,v=.pointer (some ad)/\hx'=[]/\AtO (vS pB bl cB) 9 0 ad),.x (λI' v hx'=>∃cs9,v=.agg ⟨cs9⟩/\hx'=[]/\Rp.rep I' cs9 s),.x (λI' v hx'=>∃(cs9 kk:List Value),v=.agg ⟨cs9⟩/\hx'=[hB am kk]/\Rp.rep I' cs9 y22/\Rp.rep I' kk y23),.x (λI' v hx'=>∃(cs9 kk:List Value),v=.agg ⟨cs9⟩/\hx'=[hB am kk]/\Rp.rep I' cs9 y24/\Rp.rep I' kk y25),.x (λI' v hx'=>∃(cs9 kk:List Value),v=.agg ⟨cs9⟩/\hx'=[hB am kk]/\Rp.rep I' cs9 y26/\Rp.rep I' kk y27)] [[],[(0,false)],[],[(2,false)],[(1,false),(3,false)],[(4,false)],[(5,false)],[],[],[],[],[(10,false)],[],[(12,false)],[(11,false),(13,false)],[(14,false)],[(15,false)],[(16,false)],[(17,false)],[(9,false),(18,false),(24,true)],[(8,false),(19,true)],[(7,false),(20,true)]] [hO zM (vS pB bl cB) csB,hO Raw2 (vS a1 au c1) s1,hB b2 [vS a0 y.Arrays c0,vS a1 au c1],hO zG (vS a0 y.Arrays c0) s0,hB b1 zTwo] [[hB am (cRd y3 p6 c5)]] [(6,false),(21,true)] (zY [1,2,3,4,5,0]) ?_ ?_
 ·refine Op<|Op<|Op<|Op<|Ox ?_<|Ox ?_<|Ox ?_<|Op<|Op<|Op<|Op<|Op<|Op<|Op<|Ox ?_<|Ox ?_<|Ox ?_<|Ox ?_<|Ox ?_<|Ox ?_<|Ox ?_<|Ox ?_<|On
  ·intro I1 hf af
   refine rZ ?_
   rintro _ _ ⟨rfl,rfl⟩
   refine rZ ?_
   rintro _ _ ⟨rfl,rfl⟩
   refine gA<|zDE [(78,vS a1 au c1),(80,vI (W ((au.length:Int) - 1)))]<|gR (α:=Raw2) 1 rfl rfl rfl (iM af hRw) hraw ?_
   intro ad aK ar bJ al
   exact yR [] iR ⟨_,rfl,rfl,ar⟩
  ·intro I1 hf af
   refine rZ ?_
   rintro _ _ ⟨ad,rfl,rfl,ar⟩
   exact gA<|zDE [(81,.pointer (some ad))]<|pG 6 [(82,.pointer (some (ad.add 1)))]<|yR [] iR ⟨_,rfl,rfl,ar⟩
  ·intro I1 hf af
   refine rZ ?_
   rintro _ _ ⟨ad,rfl,rfl,ar⟩
   refine gA<|zDE [(82,.pointer (some (ad.add 1)))] ?_
   have al:=hRw.at (tI hraw).2.2
   obtain⟨⟨bJ,o1,o2⟩,_⟩:=al
   exact zFV 1 1 ar bJ [vS pB bl cB] (vS pB bl cB) rfl rfl<|xA iR
  ·intro I1 hf af
   refine rZ ?_
   rintro _ _ ⟨rfl,rfl⟩
   refine rZ ?_
   rintro _ _ ⟨rfl,rfl⟩
   refine gA<|zDE [(88,vS a1 au c1),(90,vI (W ((au.length:Int) - 1)))]<|gR (α:=Raw2) 1 rfl rfl rfl (iM af hRw) hraw ?_
   intro ad aK ar bJ al
   exact yR [] iR ⟨_,rfl,rfl,ar⟩
  ·intro I1 hf af
   refine rZ ?_
   rintro _ _ ⟨ad,rfl,rfl,ar⟩
   exact gA<|zDE [(91,.pointer (some ad))]<|pG 16 [(92,.pointer (some (ad.add 1)))]<|yR [] iR ⟨_,rfl,rfl,ar⟩
  ·intro I1 hf af
   refine rZ ?_
   rintro _ _ ⟨ad,rfl,rfl,ar⟩
   refine gA<|zDE [(92,.pointer (some (ad.add 1)))] ?_
   have al:=hRw.at (tI hraw).2.2
   obtain⟨⟨bJ,o1,o2⟩,_⟩:=al
   exact zFV 1 1 ar bJ [vS pB bl cB] (vS pB bl cB) rfl rfl<|xA iR
  ·intro I1 hf af
   refine rZ ?_
   rintro _ _ ⟨rfl,rfl⟩
   refine gA<|zDE [(93,vS pB bl cB)]<|gR (α:=zM) 0 rfl rfl rfl (iM af hBd) hs ?_
   intro ad aK ar bJ al
   exact yR [] iR ⟨_,rfl,rfl,ar⟩
  ·intro I1 hf af
   refine rZ ?_
   rintro _ _ ⟨ad,rfl,rfl,ar⟩
   refine gA<|zDE [(94,.pointer (some ad))] ?_
   obtain⟨al,_⟩:=(iM af hBd).at j2
   generalize bJ:(csB.drop (Int.toNat 0*Rp.sz zM)).take (Rp.sz zM)=cc at al
   obtain⟨w0,w1,w2,w3,rfl,e10,e11,e12,e13⟩:=nX al
   obtain⟨aZ,ba,rfl⟩:=e10.form
   obtain⟨aT,aU,rfl⟩:=e11.form
   obtain⟨bv,bc,rfl⟩:=e12.form
   obtain⟨bb,bm,rfl⟩:=e13.form
   exact zFV 0 0 ar bJ (cStmt s aZ ba aT aU bv bc bb bm) (vA (cStmt s aZ ba aT aU bv bc bb bm)) rfl rfl<|yR [] iR ⟨_,rfl,rfl,wV ⟨_,_,_,_,rfl,e10,e11,e12,e13⟩⟩
  ·intro I1 hf af
   refine rZ ?_
   rintro _ _ ⟨rfl,rfl⟩
   refine rZ ?_
   rintro _ _ ⟨cs9,rfl,rfl,h9⟩
   refine rZ ?_
   rintro _ _ rfl
   obtain⟨w0,w1,w2,w3,rfl,e10,e11,e12,e13⟩:=nX h9
   obtain⟨aZ,ba,rfl⟩:=e10.form
   obtain⟨aT,aU,rfl⟩:=e11.form
   obtain⟨bv,bc,rfl⟩:=e12.form
   obtain⟨bb,bm,rfl⟩:=e13.form
   refine gA<|zDE [(86,vP am 0),(95,vA (cStmt s aZ ba aT aU bv bc bb bm))]<|sB (eE y3 s _ hm1 (h7.mono af) e10 e11 e12 e13) rfl ?_
   rintro aS ax v2 k2 aE - ⟨v0,kk2,rfl,rfl,⟨bf,rfl,h10⟩,h11⟩ -
   exact yR [hB am kk2] aE ⟨_,_,rfl,rfl,h10,h11⟩
  ·intro I1 hf af
   refine rZ ?_
   rintro _ _ ⟨rfl,rfl⟩
   refine rZ ?_
   rintro _ _ ⟨cs9,kk,rfl,rfl,h9,hk⟩
   obtain⟨w0,w1,w2,w3,rfl,e10,e11,e12,e13⟩:=nX h9
   obtain⟨aZ,ba,rfl⟩:=e10.form
   obtain⟨aT,aU,rfl⟩:=e11.form
   obtain⟨bv,bc,rfl⟩:=e12.form
   obtain⟨bb,bm,rfl⟩:=e13.form
   obtain⟨w4,rfl,hsl⟩:=fF hk
   obtain⟨p8,c8,rfl⟩:=hsl.form
   refine gA<|zDE [(85,vP am 0),(96,vA (cStmt y22 aZ ba aT aU bv bc bb bm))]<|sB (eE y23 y22 _ hm2 (hsl) e10 e11 e12 e13) rfl ?_
   rintro aS ax v2 k2 aE - ⟨v0,kk2,rfl,rfl,⟨bf,rfl,h10⟩,h11⟩ -
   exact yR [hB am kk2] aE ⟨_,_,rfl,rfl,h10,h11⟩
  intro I1 hf af
  refine rZ ?_
  rintro _ _ ⟨rfl,rfl⟩
  refine rZ ?_
  rintro _ _ ⟨cs9,kk,rfl,rfl,h9,hk⟩
  obtain⟨w0,w1,w2,w3,rfl,e10,e11,e12,e13⟩:=nX h9
  obtain⟨aZ,ba,rfl⟩:=e10.form
  obtain⟨aT,aU,rfl⟩:=e11.form
  obtain⟨bv,bc,rfl⟩:=e12.form
  obtain⟨bb,bm,rfl⟩:=e13.form
  obtain⟨w4,rfl,hsl⟩:=fF hk
  obtain⟨p8,c8,rfl⟩:=hsl.form
  refine gA<|zDE [(84,vP am 0),(97,vA (cStmt y24 aZ ba aT aU bv bc bb bm))]<|sB (eE y25 y24 _ hm3 (hsl) e10 e11 e12 e13) rfl ?_
  rintro aS ax v2 k2 aE - ⟨v0,kk2,rfl,rfl,⟨bf,rfl,h10⟩,h11⟩ -
  exact yR [hB am kk2] aE ⟨_,_,rfl,rfl,h10,h11⟩
 intro I5 bt
 refine rZ ?_
 rintro _ _ ⟨rfl,rfl⟩
 refine rZ ?_
 rintro _ _ ⟨cs9,kk,rfl,rfl,h9,hk⟩
 obtain⟨w0,w1,w2,w3,rfl,e10,e11,e12,e13⟩:=nX h9
 obtain⟨aZ,ba,rfl⟩:=e10.form
 obtain⟨aT,aU,rfl⟩:=e11.form
 obtain⟨bv,bc,rfl⟩:=e12.form
 obtain⟨bb,bm,rfl⟩:=e13.form
 have h3:=iM bt h3
 have hRw:=iM bt hRw
 have hN:=hN.mono bt
 have hBd:=iM bt hBd
 have hset:=hset.mono bt
 refine gA<|zDE [(4,vP b1 0),(5,vP b2 0),(83,vS pB bl cB),(98,vA (cStmt y26 aZ ba aT aU bv bc bb bm))]<|gR (α:=zM) 1 rfl rfl rfl hBd hs ?_
 intro ad aK ar bJ al
 obtain⟨w0,w1,w2,w3,rfl,e20,e21,e22,e23⟩:=nX al
 obtain⟨p20,c20,rfl⟩:=e20.form
 obtain⟨p21,c21,rfl⟩:=e21.form
 obtain⟨p22,c22,rfl⟩:=e22.form
 obtain⟨p23,c23,rfl⟩:=e23.form
 refine nV (c:=(cStmt y26 aZ ba aT aU bv bc bb bm)) (x':=y26) 1 0 rfl rfl rfl ar rfl rfl bJ (by kernel_rfl) (by kernel_rfl) (by kernel_rfl) hBd hs (by kernel_rfl) (wV ⟨_,_,_,_,rfl,e10,e11,e12,e13⟩) ?_
 intro cs7 h7' bo
 refine uY (ai:=[hB am kk,hO zM (vS pB bl cB) cs7,hO Raw2 (vS a1 au c1) s1,hB b2 [vS a0 y.Arrays c0,vS a1 au c1],hO zG (vS a0 y.Arrays c0) s0,hB b1 zTwo]) rfl<|wA 1 rfl ?_
 intro I6 bx hl6
 have eB:vS pB bl cB=vS pB (bl.set 0 y26) cB:=by simp[vS]
 have kB:SL I6 (vS pB (bl.set 0 y26) cB) (bl.set 0 y26):=by
  rw[<- eB]
  exact SL.of_frozen (l:=bl.set 0 y26) hl6 bx h7'
 rw[eB] at hset
 have hdone:=(hset.mono bx).done (hN.mono bx) kB
 have eS:=jQ hRw
 rw[<- eS] at hdone
 have h3:=iM bx h3
 have hk:=Rp.mono bx hk
 have eP:vS a1 au c1=vS a1 (y.Parts.set (W ((au.length:Int) - 1)).toNat ⟨nl,bl.set 0 y26⟩) c1:=by simp only[vS,cQ,hLP.2.1]
 refine uY (ai:=[hB am kk,hO Raw2 (vS a1 au c1) s1,hB b2 [vS a0 y.Arrays c0,vS a1 au c1],hO zG (vS a0 y.Arrays c0) s0,hB b1 zTwo]) rfl<|yB rfl<|zO<|xN<|qX 1 [2] [(110,vA [vS a0 y.Arrays c0,vS a1 au c1])]<|xW 4 [vS a0 y.Arrays c0,vS a1 au c1] rfl<|yB rfl<|xJ<|wH 1 rfl ?_
 intro I7 le7 hl7
 have k1:SL I7 (vS a1 au c1) (y.Parts.set (W ((au.length:Int) - 1)).toNat ⟨nl,bl.set 0 y26⟩):=SL.of_frozen (l:=y.Parts.set (W ((au.length:Int) - 1)).toNat ⟨nl,bl.set 0 y26⟩) hl7 le7 hdone
 refine wH 2 rfl ?_
 intro I8 le8 hl8
 have k2:=SL.of_frozen hl8 le8 (iM le7 h3)
 rw[hLP.len]
 exact xL ⟨_,_,(.cell 2 rfl rfl (by kernel_rfl) ResV.nil),(zV [0] rfl (by decide)),⟨_,_,rfl,rfl,⟨_,rfl,(sJ ⟨_,_,rfl,k2,k1.mono le8⟩)⟩,Rp.mono le8 (Rp.mono le7 hk)⟩⟩
theorem eF:∀r0 p1 r,tS r0 p1=some r->∀{I:Imm}{am:Nat}{p c p2 c1 p3 c2},(S4 I p r0.b c)->(S4 I p2 p1.Arrays c1)->(S4 I p3 p1.Parts c2)->RT 69 [vP am 0,vA (cProg p1 p2 c1 p3 c2)] I [hB am (cRd r0 p c)] (fI am r):=by
 intro r0 p1 r N I am p c p2 c1 p3 c2 h h1 h2;by_cases hq:∃y y3 x s,rX p1=some y/\xC r0 60=some (3,y3)/\idx y.Parts (W ((y.Parts.length:Int) - 1))=some x/\idx x.Body 0=some s
 ·obtain⟨y,y3,x,s,e1,e2,e3,e4⟩:=hq;exact zDb r0 p1 r N e1 e2 e3 e4 h h1 h2
 refine zD9 r0 p1 r N h h1 h2 ?_;intro y y2 y3 x s e1 e2 e3 e4 e5;obtain rfl:=eq_of_beq e3;exact hq ⟨y,y3,x,s,e1,e2,e4,e5⟩
def zAH(r:zP×zP):KT:=λkk I' ai v=>
 ∃v0 v1,ai=[]/\v=tupV [v0,v1]/\(∃cs,v0=.agg ⟨cs⟩/\Rp.rep I' cs r.1)/\(∃cs,v1=.agg ⟨cs⟩/\Rp.rep I' cs r.2)
def qV(code:(List UInt8)):Option (zP×zP):=do
 let y<-gH code
 let (y2,y3)<-jW y
 let (y5,y6)<-xC y3 2
 if(y5==0) then
  let (y8,y9)<-jW y6
  pure (y2,y8)
 else
  let (y11,y12)<-tS y6 y2
  let (y14,y15)<-tS y12 y11
  let (y17,y18)<-tS y15 y14
  pure (y2,y17)
theorem zAi:∀code r,qV code=some r->∀{I:Imm}{p c},(S4 I p code c)->RT 25 [vS p code c] I [] (zAH  r):=by
 intro code r N I p c h;unfold qV at N;refine yP func25 λB=>?_;have H:=iS I;refine yE<|vG zTwo ?_;intro b hb;refine vG zTwo ?_;intro b1 hb1;refine yB rfl<|xN<|yG 1 [] [6] rfl<|bE N λy hy N=>xX (zEi code _ hy h) ?_;rintro I0 ax v2 k2 le - ⟨b2,p1,c1,rfl,rfl,h1⟩ -;have H:=H.trans le;refine yQ [] [4] rfl<|xN<|yG 1 [] [8] rfl ?_;obtain⟨⟨y2,y3⟩,ay,N⟩:=zC N;refine sB (zBl y _ ay h1) rfl ?_;rintro aP ax v2 k2 af - ⟨v0,kk,rfl,rfl,⟨cs,rfl,h2⟩,h3⟩ -;have H:=H.trans af;obtain⟨p2,c2,p3,c3,rfl,h4,h5⟩:=nA h2;obtain⟨p4,c4,rfl,h6⟩:=zZ h3;refine vG zTwo ?_;intro b3 hb2;refine xW 0 (cProg y2 p2 c2 p3 c3) rfl<|yB rfl<|zW<|yE<|yG 1 [] [10] rfl<|rS (zY [1,0,2,3] (ai:=[hB b2 (cRd y3 p4 c4),hB b3 (cProg y2 p2 c2 p3 c3),hB b1 zTwo,hB b zTwo])) ?_;obtain⟨⟨y5,y6⟩,aI,N⟩:=zC N;refine sB (xY y3 2 _ aI h6) rfl ?_;rintro aS ax v2 k2 aE - ⟨v04,kk1,rfl,rfl,rfl,h8⟩ -;have ⟨h4,h5,H⟩:=m3 aE h4 h5 H;obtain⟨p5,c5,rfl,h9⟩:=zZ h8;refine yQ [] [12] rfl<|zI<|yC N ?_ ?_
 ·intro hc N;refine yA ?_;obtain⟨⟨y8,y9⟩,aW,N⟩:=zC N;refine wU [.p (vA (cProg y2 p2 c2 p3 c3)) [0],.p (vP b2 0) [],.x (λI' v hx=>∃p6 c6 p7 c7 p8 c8,v=vA (cProg y8 p6 c6 p7 c7)/\hx=[hB b2 (cRd y9 p8 c8)]/\(S4 I' p6 y8.Arrays c6)/\(S4 I' p7 y8.Parts c7)/\(S4 I' p8 y9.b c8)),.x (λI' v hx=>hx=[hB b (cProg y2 p2 c2 p3 c3)])] [[],[],[(1,false),(5,true)],[(0,false),(6,true)]] [hB b3 (cProg y2 p2 c2 p3 c3),hB b1 zTwo] [[hB b2 (cRd y6 p5 c5)],[hB b zTwo]] [(2,true),(3,true)] (zY [1,2,0,3]) ?_ ?_
  ·refine Op<|Op<|Ox ?_<|Ox ?_<|On
   ·rintro I1 hf af _ _ ⟨rfl,rfl⟩ _ _ rfl;refine yV [14] rfl ?_;have H:=iS I1;have h9:=h9.mono af;refine sB (zBl y6 _ aW h9) rfl ?_;rintro bw ax v2 k2 aJ - ⟨v06,kk2,rfl,rfl,⟨aL,rfl,h10⟩,h11⟩ -;have H:=H.trans aJ;obtain⟨p6,c6,p7,c7,rfl,h12,h13⟩:=nA h10;obtain⟨p8,c8,rfl,h14⟩:=zZ h11;exact yR [hB b2 (cRd y9 p8 c8)] H ⟨_,_,_,_,_,_,rfl,rfl,h12,h13,h14⟩
   rintro I1 hf af _ _ ⟨rfl,rfl⟩ _ _ rfl;refine yV [2,13] rfl ?_;have H:=iS I1;exact dL 0 (cProg y2 p2 c2 p3 c3) (hB b (cProg y2 p2 c2 p3 c3)::hB b3 (cProg y2 p2 c2 p3 c3)::hB b1 zTwo::hf) rfl rfl rfl rfl<|zE8 (hx:=[hB b (cProg y2 p2 c2 p3 c3)]) rfl H rfl (zFQ (v:=undef)) rfl
  rintro bI aX _ _ ⟨p6,c6,p7,c7,p8,c8,rfl,rfl,h12,h13,h14⟩ _ _ rfl;refine yV [2,3,15] rfl ?_;have ⟨h4,h5⟩:=m2 aX h4 h5;refine xW 3 (cProg y8 p6 c6 p7 c7) rfl<|yB rfl<|xJ<|zF ?_;obtain rfl:=zB N;exact xL ⟨_,_,(.cell 0 rfl rfl (by kernel_rfl) (.cell 3 rfl rfl (by kernel_rfl) ResV.nil)),zN,⟨_,_,rfl,rfl,⟨_,rfl,(sJ ⟨_,_,rfl,h4,h5⟩)⟩,⟨_,rfl,(sJ ⟨_,_,rfl,h12,h13⟩)⟩⟩⟩
 intro hc N;refine zS<|zI<|yA ?_;obtain⟨⟨y11,y12⟩,br,N⟩:=zC N;obtain⟨⟨y14,y15⟩,bB,N⟩:=zC N;obtain⟨⟨y17,y18⟩,hy6,N⟩:=zC N;refine wU [.p (vA (cProg y2 p2 c2 p3 c3)) [0],.p (vP b2 0) [],.p (vP b2 0) [],.p (vP b2 0) [],.p (vA (cProg y2 p2 c2 p3 c3)) [0],.x (λI' v hx=>∃p9 c9 aZ ba aT aU,v=vA (cProg y11 p9 c9 aZ ba)/\hx=[hB b2 (cRd y12 aT aU)]/\(S4 I' p9 y11.Arrays c9)/\(S4 I' aZ y11.Parts ba)/\(S4 I' aT y12.b aU)),.x (λI' v hx=>∃bv bc bb bm p14 c14,v=vA (cProg y14 bv bc bb bm)/\hx=[hB b2 (cRd y15 p14 c14)]/\(S4 I' bv y14.Arrays bc)/\(S4 I' bb y14.Parts bm)/\(S4 I' p14 y15.b c14)),.x (λI' v hx=>∃p15 c15 p16 c16 p17 c17,v=vA (cProg y17 p15 c15 p16 c16)/\hx=[hB b2 (cRd y18 p17 c17)]/\(S4 I' p15 y17.Arrays c15)/\(S4 I' p16 y17.Parts c16)/\(S4 I' p17 y18.b c17)),.x (λI' v hx=>hx=[hB b (cProg y2 p2 c2 p3 c3)])] [[],[],[],[],[],[(3,false),(4,false),(10,true)],[(2,false),(5,true)],[(1,false),(6,true)],[(0,false),(11,true)]] [hB b3 (cProg y2 p2 c2 p3 c3),hB b1 zTwo] [[hB b2 (cRd y6 p5 c5)],[hB b zTwo]] [(7,true),(8,true)] (zY [1,2,0,3]) ?_ ?_
 ·refine Op<|Op<|Op<|Op<|Op<|Ox ?_<|Ox ?_<|Ox ?_<|Ox ?_<|On
  ·rintro I1 hf af _ _ ⟨rfl,rfl⟩ _ _ ⟨rfl,rfl⟩ _ _ rfl;refine yV [19,20] rfl ?_;have H:=iS I1;have ⟨h9,h4,h5⟩:=m3 af h9 h4 h5;refine sB (eF y6 y2 _ br h9 h4 h5) rfl ?_;rintro bL ax v2 k2 bt - ⟨v010,kk3,rfl,rfl,⟨bf,rfl,h15⟩,h16⟩ -;have H:=H.trans bt;obtain⟨p9,c9,aZ,ba,rfl,h17,h18⟩:=nA h15;obtain⟨aT,aU,rfl,h19⟩:=zZ h16;exact yR [hB b2 (cRd y12 aT aU)] H ⟨_,_,_,_,_,_,rfl,rfl,h17,h18,h19⟩
  ·rintro I1 hf af _ _ ⟨rfl,rfl⟩ _ _ ⟨p9,c9,aZ,ba,aT,aU,rfl,rfl,h17,h18,h19⟩;refine yV [18,21] rfl ?_;have H:=iS I1;refine sB (eF y12 y11 _ bB h19 h17 h18) rfl ?_;rintro I06 ax v2 k2 bx - ⟨v014,kk4,rfl,rfl,⟨bd,rfl,h20⟩,h21⟩ -;have H:=H.trans bx;obtain⟨bv,bc,bb,bm,rfl,h22,h23⟩:=nA h20;obtain⟨p14,c14,rfl,h24⟩:=zZ h21;exact yR [hB b2 (cRd y15 p14 c14)] H ⟨_,_,_,_,_,_,rfl,rfl,h22,h23,h24⟩
  ·rintro I1 hf af _ _ ⟨rfl,rfl⟩ _ _ ⟨bv,bc,bb,bm,p14,c14,rfl,rfl,h22,h23,h24⟩;refine yV [17,22] rfl ?_;have H:=iS I1;refine sB (eF y15 y14 _ hy6 h24 h22 h23) rfl ?_;rintro I07 ax v2 k2 le7 - ⟨v018,kk5,rfl,rfl,⟨bD,rfl,h25⟩,h26⟩ -;have H:=H.trans le7;obtain⟨p15,c15,p16,c16,rfl,h27,h28⟩:=nA h25;obtain⟨p17,c17,rfl,h29⟩:=zZ h26;exact yR [hB b2 (cRd y18 p17 c17)] H ⟨_,_,_,_,_,_,rfl,rfl,h27,h28,h29⟩
  rintro I1 hf af _ _ ⟨rfl,rfl⟩ _ _ rfl;refine yV [2,16] rfl ?_;have H:=iS I1;exact dL 0 (cProg y2 p2 c2 p3 c3) (hB b (cProg y2 p2 c2 p3 c3)::hB b3 (cProg y2 p2 c2 p3 c3)::hB b1 zTwo::hf) rfl rfl rfl rfl<|zE8 (hx:=[hB b (cProg y2 p2 c2 p3 c3)]) rfl H rfl (zFQ (v:=undef)) rfl
 rintro I08 le8 _ _ ⟨p15,c15,p16,c16,p17,c17,rfl,rfl,h27,h28,h29⟩ _ _ rfl;refine yV [2,3,23] rfl ?_;have ⟨h4,h5⟩:=m2 le8 h4 h5;refine xW 3 (cProg y17 p15 c15 p16 c16) rfl<|yB rfl<|zI<|yX ?_;obtain rfl:=zB N;exact xL ⟨_,_,(.cell 0 rfl rfl (by kernel_rfl) (.cell 3 rfl rfl (by kernel_rfl) ResV.nil)),zN,⟨_,_,rfl,rfl,⟨_,rfl,(sJ ⟨_,_,rfl,h4,h5⟩)⟩,⟨_,rfl,(sJ ⟨_,_,rfl,h27,h28⟩)⟩⟩⟩
def oJ(a0:(List Int))(b:(List Int))(i:Int):Option (Out Unit (Bool)):=do
 if(decide (i<(a0.length:Int))) then
  let x<-idx a0 i
  let x1<-idx b i
  if(x != x1) then
   pure (.ret false)
  else
   oJ a0 b (W (i+1))
 else
  pure (.done ())
 partial_fixpoint
theorem zDc(a0:(List Int))(b:(List Int)):∀(i:Int) (o:Out Unit (Bool)),oJ a0 b i=some o->∀{B}{I0 I:Imm}{Q p c p1 c1},I0.le I->(S4 I p a0 c)->(S4 I p1 b c1)->NG Q->NO Q->(∀(I':Imm) ,o=(.done ())->I0.le I'->T 26 B Q (.exit 0) I' [] [])->(∀r I' ai m',o=(.ret r)->I0.le I'->RS Tryz.prog f70 B (zQ  r) I' ai m'->T 26 B Q .ret I' ai m')->J Tryz.prog 26 B (nav (bodyOf f70) [1,1,0,1,0]) Q I [] [(0,vS p a0 c),(1,vS p1 b c1),(5,vI i)]:=by
 refine oJ.partial_correctness a0 b _ λaN ih i o N B I0 I Q p c p1 c1 H h h1 hg ho hx hr=>yY hg ho<|yA<|yJ [14] rfl<|zI<|yC N ?_ ?_
 ·intro aD N;refine zS<|zW<|yK<|yA<|fH (by kernel_rfl) (by kernel_rfl)<|zAE 2 [] [17,18] rfl<|bE N λx hy N=>zB4 rfl rfl h hy ?_;intro ad aK ar al;obtain rfl:=al;refine zB3 0 ar [vI x] (vI x) rfl<|zAE 6 [] [21,22] rfl<|bE N λx1 ay N=>zB4 rfl rfl h1 ay ?_;intro ad1 bi ap aw;obtain rfl:=aw;refine zB3 0 ap [vI x1] (vI x1) rfl<|zH6 [] [25] rfl<|zI<|yC N ?_ ?_
  ·intro aQ N;exact wM [(4,vF)]<|xJ<|zR<|zF<|zF<|hr _ _ _ _ (zB N).symm H ⟨_,_,(.tmp rfl ResV.nil),zN,⟨_,rfl,rfl,rfl⟩⟩
  intro aQ N;exact zS<|zO<|zI<|zL<|yQ [] [5] rfl<|yW<|mE<|ih (W (i+1)) _ N H h h1 hg ho hx hr
 intro aD N;exact vQ<|yS<|hx _  (zB N).symm H
def jY(a0:(List Int))(b:(List Int)):Option (Bool):=do
 if((a0.length:Int) != (b.length:Int)) then
  pure false
 else
  match<-oJ a0 b 0 with
  | .ret r0=>pure r0
  | .done _=>
   pure true
theorem zBo:∀a0 b r,jY a0 b=some r->∀{I:Imm}{p c p1 c1},(S4 I p a0 c)->(S4 I p1 b c1)->RT 70 [vS p a0 c,vS p1 b c1] I [] (zQ  r):=by
 intro a0 b r N I p c p1 c1 h h1;unfold jY at N;refine yP func70 λB=>wM []<|zW<|yJ [10] rfl<|zI<|yC N ?_ ?_
 ·intro hc N;refine wM [(4,vF)]<|xJ<|zF ?_;obtain rfl:=zB N;exact wI
 intro hc N;refine zS<|zW<|yJ [5] rfl<|wS<|oR [(0,vS p a0 c),(1,vS p1 b c1),(5,vI 0)] ?_;obtain⟨o0,az,aF⟩:=zC N;refine zDc a0 b 0 o0 az iR h h1 (λ_ _ _ h=>h) (λ_ _ h=>h) ?_ ?_
 ·intro I0  heq le;subst o0;refine zT<|zBL [(4,vY)]<|zI<|yX ?_;obtain rfl:=zB aF;exact wI
 intro r0 I9 hs9 m9 aG le9 aH;subst aG;refine zR<|zF ?_;obtain rfl:=zB aF;exact xL aH
def oY(a0:zA)(b:zA):Option (Bool):=do
 let t4<-(do
  if(a0.Const==b.Const) then
   let y<-jY a0.Coefs b.Coefs
   pure (id y)
  else
   pure false
    : Option Bool)
 pure (id t4)
theorem dZ:∀a0 b r,oY a0 b=some r->∀{I:Imm}{p c p1 c1},(S4 I p a0.Coefs c)->(S4 I p1 b.Coefs c1)->RT 219 [vA (cAff a0 p c),vA (cAff b p1 c1)] I [] (zQ  r):=by
 intro a0 b r N I p c p1 c1 h h1;unfold oY at N;refine yP func219 λB=>?_;have H:=iS I;refine yE<|vM (cAff a0 p c) ?_;intro b1 hb;refine vM (cAff b p1 c1) ?_;intro b2 hb1;refine wN [] []<|zI<|yA ?_;refine wQ N [] (λt4=>[(4,.bool t4)]) (λo0 az=>?_) ?_
 ·have H:=iS I;refine zL<|yG 6 [1,0] [10] rfl<|wC [10] az ?_ ?_
  ·intro hc N;refine yG 10 [1,0] [12,14] rfl<|bE N λy hy N=>vH (zBo a0.Coefs b.Coefs _ hy h h1) ?_;intro aP le;have H:=H.trans le;exact yQ [] [4] rfl<|wD zN<|yS<|zU (ct N H)
  intro hc N;exact wN [] [(4,vF)]<|wD zN<|yS<|zU (ct N H)
 intro t4 I0 af aM;refine zI<|yX ?_;obtain rfl:=zB aM;exact wI
def tO(a0:(List zA))(b:(List zA))(i:Int):Option (Out Unit (Bool)):=do
 if(decide (i<(a0.length:Int))) then
  let x<-idx a0 i
  let x1<-idx b i
  let y<-oY x x1
  if(!y) then
   pure (.ret false)
  else
   tO a0 b (W (i+1))
 else
  pure (.done ())
 partial_fixpoint
theorem zBV(a0:(List zA))(b:(List zA)):∀(i:Int) (o:Out Unit (Bool)),tO a0 b i=some o->∀{B}{I0 I:Imm}{Q p c p1 c1},I0.le I->(S4 I p a0 c)->(S4 I p1 b c1)->NG Q->NO Q->(∀(I':Imm) ,o=(.done ())->I0.le I'->T 27 B Q (.exit 0) I' [] [])->(∀r I' ai m',o=(.ret r)->I0.le I'->RS Tryz.prog f181 B (zQ  r) I' ai m'->T 27 B Q .ret I' ai m')->J Tryz.prog 27 B (nav (bodyOf f181) [1,1,0,1,0]) Q I [] [(0,vS p a0 c),(1,vS p1 b c1),(5,vI i)]:=by
 refine tO.partial_correctness a0 b _ λaN ih i o N B I0 I Q p c p1 c1 H h h1 hg ho hx hr=>yY hg ho<|yA<|yJ [14] rfl<|zI<|yC N ?_ ?_
 ·intro aD N;refine zS<|zW<|yK<|yA ?_;obtain⟨x,hy,N⟩:=zC N;obtain⟨x1,ay,N⟩:=zC N;obtain⟨y,aI,N⟩:=zC N;refine wU [.p (vS p a0 c) [],.p (vI i) [],.x (ePAff x),.x (eVAff x),.p (vS p1 b c1) [],.p (vI i) [],.x (ePAff x1),.x (eVAff x1),.q (.bool y),.p (.bool (!y)) []] [[],[],[(0,false),(1,false)],[(2,false)],[],[],[(4,false),(5,false)],[(6,false)],[(3,false),(7,false)],[(8,false)]] [] [] [(9,false)] zN ?_ ?_
  ·refine Op<|Op<|Ox ?_<|Ox ?_<|Op<|Op<|Ox ?_<|Ox ?_<|Oq ?_<|Op<|On
   ·intro I1 hf af;refine yV [17,18] rfl ?_;have h:=h.mono af;refine wB rfl rfl h hy ?_;intro ad aK ar al;obtain⟨p2,c2,rfl,h2⟩:=yD al;exact yR [] iR ⟨_,_,_,rfl,rfl,ar,h2⟩
   ·rintro I1 hf af _ _ ⟨ad,p2,c2,rfl,rfl,ar,h2⟩;exact yV [19] rfl<|xU 0 ar (cAff x p2 c2) (vA (cAff x p2 c2)) rfl<|yR [] iR ⟨_,_,rfl,rfl,h2⟩
   ·intro I1 hf af;refine yV [21,22] rfl ?_;have h1:=h1.mono af;refine wB rfl rfl h1 ay ?_;intro ad1 bi ap aw;obtain⟨p3,c3,rfl,h3⟩:=yD aw;exact yR [] iR ⟨_,_,_,rfl,rfl,ap,h3⟩
   ·rintro I1 hf af _ _ ⟨ad1,p3,c3,rfl,rfl,ap,h3⟩;exact yV [23] rfl<|xU 0 ap (cAff x1 p3 c3) (vA (cAff x1 p3 c3)) rfl<|yR [] iR ⟨_,_,rfl,rfl,h3⟩
   rintro I1 hf af _ _ ⟨p21,c21,rfl,rfl,h21⟩ _ _ ⟨p31,c31,rfl,rfl,h31⟩;refine yV [20,24] rfl ?_;have H:=iS I1;refine vH (dZ x x1 _ aI h21 h31) ?_;intro I0 le;have H:=H.trans le;exact xA H
  intro aP af;refine yV [0,1,5,26] rfl ?_;have ⟨h,h1,H⟩:=m3 af h h1 H;refine yB rfl<|zI<|yC N ?_ ?_
  ·intro aQ N;exact wM [(4,vF)]<|xJ<|zR<|zF<|zF<|hr _ _ _ _ (zB N).symm H ⟨_,_,(.tmp rfl ResV.nil),zN,⟨_,rfl,rfl,rfl⟩⟩
  intro aQ N;exact zS<|zO<|zI<|zL<|yQ [] [5] rfl<|yW<|mE<|ih (W (i+1)) _ N H h h1 hg ho hx hr
 intro aD N;exact vQ<|yS<|hx _  (zB N).symm H
def qW(a0:(List zA))(b:(List zA)):Option (Bool):=do
 if((a0.length:Int) != (b.length:Int)) then
  pure false
 else
  match<-tO a0 b 0 with
  | .ret r0=>pure r0
  | .done _=>
   pure true
theorem jH:∀a0 b r,qW a0 b=some r->∀{I:Imm}{p c p1 c1},(S4 I p a0 c)->(S4 I p1 b c1)->RT 181 [vS p a0 c,vS p1 b c1] I [] (zQ  r):=by
 intro a0 b r N I p c p1 c1 h h1;unfold qW at N;refine yP func181 λB=>wM []<|zW<|yJ [10] rfl<|zI<|yC N ?_ ?_
 ·intro hc N;refine wM [(4,vF)]<|xJ<|zF ?_;obtain rfl:=zB N;exact wI
 intro hc N;refine zS<|zW<|yJ [5] rfl<|wS<|oR [(0,vS p a0 c),(1,vS p1 b c1),(5,vI 0)] ?_;obtain⟨o0,az,aF⟩:=zC N;refine zBV a0 b 0 o0 az iR h h1 (λ_ _ _ h=>h) (λ_ _ h=>h) ?_ ?_
 ·intro aS  heq aE;subst o0;refine zT<|zBL [(4,vY)]<|zI<|yX ?_;obtain rfl:=zB aF;exact wI
 intro r0 I9 hs9 m9 aG le9 aH;subst aG;refine zR<|zF ?_;obtain rfl:=zB aF;exact xL aH
def rL(a0:(List zE))(b:(List zE))(i:Int):Option (Out Unit (Bool)):=do
 if(decide (i<(a0.length:Int))) then
  let t42<-(do
   let x<-idx a0 i
   let x1<-idx b i
   let y<-qW x.Lo x1.Lo
   if(!y) then
    pure true
   else
    let x2<-idx a0 i
    let x3<-idx b i
    let y1<-qW x2.Hi x3.Hi
    pure (!y1)
     : Option Bool)
  if t42 then
   pure (.ret false)
  else
   rL a0 b (W (i+1))
 else
  pure (.done ())
 partial_fixpoint
theorem zCP(a0:(List zE))(b:(List zE)):∀(i:Int) (o:Out Unit (Bool)),rL a0 b i=some o->∀{B}{I0 I:Imm}{Q p c p1 c1},I0.le I->(S4 I p a0 c)->(S4 I p1 b c1)->NG Q->NO Q->(∀(I':Imm) ,o=(.done ())->I0.le I'->T 43 B Q (.exit 0) I' [] [])->(∀r I' ai m',o=(.ret r)->I0.le I'->RS Tryz.prog f122 B (zQ  r) I' ai m'->T 43 B Q .ret I' ai m')->J Tryz.prog 43 B (nav (bodyOf f122) [1,1,0,1,0]) Q I [] [(0,vS p a0 c),(1,vS p1 b c1),(5,vI i)]:=by
 refine rL.partial_correctness a0 b _ λaN ih i o N B I0 I Q p c p1 c1 H h h1 hg ho hx hr=>yY hg ho<|yA<|yJ [14] rfl<|zI<|yC N ?_ ?_
 ·intro aD N;refine zS<|zW<|yK<|yA ?_;refine wQ N [] (λt42=>[(0,vS p a0 c),(1,vS p1 b c1),(5,vI i),(42,.bool t42)]) (λo0 az=>?_) ?_
  ·have H:=iS I;obtain⟨x,hy,N⟩:=zC az;obtain⟨x1,ay,N⟩:=zC N;obtain⟨y,aI,N⟩:=zC N;cases aQ:(!y) with
   | true=>
    have hM0:=rY aQ N;refine wU [.p (vS p a0 c) [],.p (vI i) [],.x (ePLoop x),.x (ePLoop x),.x (eS x.Lo),.p (vS p1 b c1) [],.p (vI i) [],.x (ePLoop x1),.x (ePLoop x1),.x (eS x1.Lo),.q (.bool y),.q vY,.q vY,.p undef [],.p undef [],.p undef [],.p undef [],.p undef [],.p undef [],.p undef [],.p undef [],.p undef [],.p undef [],.p undef [],.p undef [],.p vY []] [[],[],[(0,false),(1,false)],[(2,false)],[(3,false)],[],[],[(5,false),(6,false)],[(7,false)],[(8,false)],[(4,false),(9,false)],[(10,false)],[(11,false)],[(12,false)],[(12,false)],[(12,false),(13,false),(14,false)],[(12,false),(15,false)],[(12,false),(16,false)],[(12,false)],[(12,false)],[(12,false),(18,false),(19,false)],[(12,false),(20,false)],[(12,false),(21,false)],[(12,false),(17,false),(22,false)],[(12,false),(23,false)],[(12,false),(24,false)]] [] [] [(25,false)] zN ?_ ?_
    ·refine Op<|Op<|Ox ?_<|Ox ?_<|Ox ?_<|Op<|Op<|Ox ?_<|Ox ?_<|Ox ?_<|Oq ?_<|Oq ?_<|Oq ?_<|Op<|Op<|Op<|Op<|Op<|Op<|Op<|Op<|Op<|Op<|Op<|Op<|Op<|On
     ·intro I1 hf af;refine yV [17,18] rfl ?_;have h:=h.mono af;refine wB rfl rfl h hy ?_;intro ad aK ar al;obtain⟨p2,c2,p3,c3,rfl,h2,h3⟩:=wJ al;exact yR [] iR ⟨_,_,_,_,_,rfl,rfl,ar,h2,h3⟩
     ·rintro I1 hf af _ _ ⟨ad,p2,c2,p3,c3,rfl,rfl,ar,h2,h3⟩;exact yV [19] rfl<|pG 4 [(20,.pointer (some ad))]<|yR [] iR ⟨_,_,_,_,_,rfl,rfl,ar,h2,h3⟩
     ·rintro I1 hf af _ _ ⟨ad1,p21,c21,p31,c31,rfl,rfl,ap,h21,h31⟩;exact yV [20] rfl<|xU 0 ap [vS p21 x.Lo c21] (vS p21 x.Lo c21) rfl<|yR [] iR ⟨_,_,rfl,rfl,h21⟩
     ·intro I1 hf af;refine yV [22,23] rfl ?_;have h1:=h1.mono af;refine wB rfl rfl h1 ay ?_;intro ad2 bi bh aw;obtain⟨p4,c4,p5,c5,rfl,h4,h5⟩:=wJ aw;exact yR [] iR ⟨_,_,_,_,_,rfl,rfl,bh,h4,h5⟩
     ·rintro I1 hf af _ _ ⟨ad2,p4,c4,p5,c5,rfl,rfl,bh,h4,h5⟩;exact yV [24] rfl<|pG 9 [(25,.pointer (some ad2))]<|yR [] iR ⟨_,_,_,_,_,rfl,rfl,bh,h4,h5⟩
     ·rintro I1 hf af _ _ ⟨ad21,p41,c41,p51,c51,rfl,rfl,hat21,h41,h51⟩;exact yV [25] rfl<|xU 0 hat21 [vS p41 x1.Lo c41] (vS p41 x1.Lo c41) rfl<|yR [] iR ⟨_,_,rfl,rfl,h41⟩
     ·rintro I1 hf af _ _ ⟨p211,c211,rfl,rfl,h211⟩ _ _ ⟨p411,c411,rfl,rfl,h411⟩;refine yV [21,26] rfl ?_;have H:=iS I1;refine vH (jH x.Lo x1.Lo _ aI h211 h411) ?_;intro aP le;have H:=H.trans le;exact xA H
     ·intro I1 hf af;refine yV [27] rfl<|pG 12 [(28,.bool (!y))] ?_;rw[aQ];exact xA iR
     intro I1 hf af;exact dD [(28,vY)]<|pG 13 [(29,vY)]<|xA iR
    intro aS af;refine yV [0,1,5,42] rfl ?_;have H:=H.trans af;exact yB rfl<|yS<|zU (ct hM0 H)
   | false=>
    have hM01:=sP aQ N;obtain⟨x2,aW,N⟩:=zC hM01;obtain⟨x3,br,N⟩:=zC N;obtain⟨y1,bB,N⟩:=zC N;refine wU [.p (vS p a0 c) [],.p (vI i) [],.x (ePLoop x),.x (ePLoop x),.x (eS x.Lo),.p (vS p1 b c1) [],.p (vI i) [],.x (ePLoop x1),.x (ePLoop x1),.x (eS x1.Lo),.q (.bool y),.q vF,.q vF,.p (vS p a0 c) [],.p (vI i) [],.x (ePLoop x2),.x (eQLoop 1 x2),.x (eS x2.Hi),.p (vS p1 b c1) [],.p (vI i) [],.x (ePLoop x3),.x (eQLoop 1 x3),.x (eS x3.Hi),.q (.bool y1),.p (.bool (!y1)) [],.p (.bool (!y1)) []] [[],[],[(0,false),(1,false)],[(2,false)],[(3,false)],[],[],[(5,false),(6,false)],[(7,false)],[(8,false)],[(4,false),(9,false)],[(10,false)],[(11,false)],[(12,false)],[(12,false)],[(12,false),(13,false),(14,false)],[(12,false),(15,false)],[(12,false),(16,false)],[(12,false)],[(12,false)],[(12,false),(18,false),(19,false)],[(12,false),(20,false)],[(12,false),(21,false)],[(12,false),(17,false),(22,false)],[(12,false),(23,false)],[(12,false),(24,false)]] [] [] [(25,false)] zN ?_ ?_
    ·refine Op<|Op<|Ox ?_<|Ox ?_<|Ox ?_<|Op<|Op<|Ox ?_<|Ox ?_<|Ox ?_<|Oq ?_<|Oq ?_<|Oq ?_<|Op<|Op<|Ox ?_<|Ox ?_<|Ox ?_<|Op<|Op<|Ox ?_<|Ox ?_<|Ox ?_<|Oq ?_<|Op<|Op<|On
     ·intro I1 hf af;refine yV [17,18] rfl ?_;have h:=h.mono af;refine wB rfl rfl h hy ?_;intro ad aK ar al;obtain⟨p2,c2,p3,c3,rfl,h2,h3⟩:=wJ al;exact yR [] iR ⟨_,_,_,_,_,rfl,rfl,ar,h2,h3⟩
     ·rintro I1 hf af _ _ ⟨ad,p2,c2,p3,c3,rfl,rfl,ar,h2,h3⟩;exact yV [19] rfl<|pG 4 [(20,.pointer (some ad))]<|yR [] iR ⟨_,_,_,_,_,rfl,rfl,ar,h2,h3⟩
     ·rintro I1 hf af _ _ ⟨ad1,p21,c21,p31,c31,rfl,rfl,ap,h21,h31⟩;exact yV [20] rfl<|xU 0 ap [vS p21 x.Lo c21] (vS p21 x.Lo c21) rfl<|yR [] iR ⟨_,_,rfl,rfl,h21⟩
     ·intro I1 hf af;refine yV [22,23] rfl ?_;have h1:=h1.mono af;refine wB rfl rfl h1 ay ?_;intro ad2 bi bh aw;obtain⟨p4,c4,p5,c5,rfl,h4,h5⟩:=wJ aw;exact yR [] iR ⟨_,_,_,_,_,rfl,rfl,bh,h4,h5⟩
     ·rintro I1 hf af _ _ ⟨ad2,p4,c4,p5,c5,rfl,rfl,bh,h4,h5⟩;exact yV [24] rfl<|pG 9 [(25,.pointer (some ad2))]<|yR [] iR ⟨_,_,_,_,_,rfl,rfl,bh,h4,h5⟩
     ·rintro I1 hf af _ _ ⟨ad21,p41,c41,p51,c51,rfl,rfl,hat21,h41,h51⟩;exact yV [25] rfl<|xU 0 hat21 [vS p41 x1.Lo c41] (vS p41 x1.Lo c41) rfl<|yR [] iR ⟨_,_,rfl,rfl,h41⟩
     ·rintro I1 hf af _ _ ⟨p211,c211,rfl,rfl,h211⟩ _ _ ⟨p411,c411,rfl,rfl,h411⟩;refine yV [21,26] rfl ?_;have H:=iS I1;refine vH (jH x.Lo x1.Lo _ aI h211 h411) ?_;intro aP le;have H:=H.trans le;exact xA H
     ·intro I1 hf af;refine yV [27] rfl<|pG 12 [(28,.bool (!y))] ?_;rw[aQ];exact xA iR
     ·intro I1 hf af;exact dD [(28,vF)]<|pG 13 [(29,vF)]<|xA iR
     ·intro I1 hf af;refine yV [29,30,31] rfl ?_;have h:=h.mono af;refine wB rfl rfl h aW ?_;intro ad3 bP hat3 bj;obtain⟨p6,c6,p7,c7,rfl,h7,h8⟩:=wJ bj;exact yR [] iR ⟨_,_,_,_,_,rfl,rfl,hat3,h7,h8⟩
     ·rintro I1 hf af _ _ ⟨rfl,rfl⟩ _ _ ⟨ad3,p6,c6,p7,c7,rfl,rfl,hat3,h7,h8⟩;exact yV [29,32] rfl<|pG 17 [(33,.pointer (some (ad3.add 1)))]<|yR [] iR ⟨_,_,_,_,_,rfl,rfl,hat3,h7,h8⟩
     ·rintro I1 hf af _ _ ⟨rfl,rfl⟩ _ _ ⟨ad31,p61,c61,p71,c71,rfl,rfl,hat31,h71,h81⟩;exact yV [29,33] rfl<|xU 1 hat31 [vS p71 x2.Hi c71] (vS p71 x2.Hi c71) rfl<|yR [] iR ⟨_,_,rfl,rfl,h81⟩
     ·intro I1 hf af;refine yV [29,35,36] rfl ?_;have h1:=h1.mono af;refine wB rfl rfl h1 br ?_;intro ad4 ccs3 hat4 bC;obtain⟨p8,c8,p9,c9,rfl,h9,h10⟩:=wJ bC;exact yR [] iR ⟨_,_,_,_,_,rfl,rfl,hat4,h9,h10⟩
     ·rintro I1 hf af _ _ ⟨rfl,rfl⟩ _ _ ⟨ad4,p8,c8,p9,c9,rfl,rfl,hat4,h9,h10⟩;exact yV [29,37] rfl<|pG 22 [(38,.pointer (some (ad4.add 1)))]<|yR [] iR ⟨_,_,_,_,_,rfl,rfl,hat4,h9,h10⟩
     ·rintro I1 hf af _ _ ⟨rfl,rfl⟩ _ _ ⟨ad41,p81,c81,p91,c91,rfl,rfl,hat41,h91,h101⟩;exact yV [29,38] rfl<|xU 1 hat41 [vS p91 x3.Hi c91] (vS p91 x3.Hi c91) rfl<|yR [] iR ⟨_,_,rfl,rfl,h101⟩
     rintro I1 hf af _ _ ⟨rfl,rfl⟩ _ _ ⟨p711,c711,rfl,rfl,h811⟩ _ _ ⟨p911,c911,rfl,rfl,h1011⟩;refine yV [29,34,39] rfl ?_;have H:=iS I1;refine vH (jH x2.Hi x3.Hi _ bB h811 h1011) ?_;intro bw aE;have H:=H.trans aE;exact xA H
    intro bI aJ;refine yV [0,1,5,42] rfl ?_;have H:=H.trans aJ;exact yB rfl<|yS<|zU (ct N H)
  intro t42 I0 aX aM;have ⟨h,h1,H⟩:=m3 aX h h1 H;refine zI<|yC aM ?_ ?_
  ·intro bu N;exact wM [(4,vF)]<|xJ<|zR<|zF<|zF<|hr _ _ _ _ (zB N).symm H ⟨_,_,(.tmp rfl ResV.nil),zN,⟨_,rfl,rfl,rfl⟩⟩
  intro bu N;exact zS<|zO<|zI<|zL<|yQ [] [5] rfl<|yW<|mE<|ih (W (i+1)) _ N H h h1 hg ho hx hr
 intro aD N;exact vQ<|yS<|hx _  (zB N).symm H
def jN(a0:(List zE))(b:(List zE)):Option (Bool):=do
 if((a0.length:Int) != (b.length:Int)) then
  pure false
 else
  match<-rL a0 b 0 with
  | .ret r0=>pure r0
  | .done _=>
   pure true
theorem zEZ:∀a0 b r,jN a0 b=some r->∀{I:Imm}{p c p1 c1},(S4 I p a0 c)->(S4 I p1 b c1)->RT 122 [vS p a0 c,vS p1 b c1] I [] (zQ  r):=by
 intro a0 b r N I p c p1 c1 h h1;unfold jN at N;refine yP func122 λB=>wM []<|zW<|yJ [10] rfl<|zI<|yC N ?_ ?_
 ·intro hc N;refine wM [(4,vF)]<|xJ<|zF ?_;obtain rfl:=zB N;exact wI
 intro hc N;refine zS<|zW<|yJ [5] rfl<|wS<|oR [(0,vS p a0 c),(1,vS p1 b c1),(5,vI 0)] ?_;obtain⟨aO,aB,aF⟩:=zC N;refine zCP a0 b 0 aO aB iR h h1 (λ_ _ _ h=>h) (λ_ _ h=>h) ?_ ?_
 ·intro bL  heq1 bt;subst aO;refine zT<|zBL [(4,vY)]<|zI<|yX ?_;obtain rfl:=zB aF;exact wI
 intro r0 I9 hs9 m9 aG le9 aH;subst aG;refine zR<|zF ?_;obtain rfl:=zB aF;exact xL aH
def pC(a0:zH)(b:zH):Option (Bool):=do
 let t4<-(do
  if(a0.Array.l==b.Array.l) then
   let y<-qW a0.Subs b.Subs
   pure (id y)
  else
   pure false
    : Option Bool)
 pure (id t4)
theorem eT:∀a0 b r,pC a0 b=some r->∀{I:Imm}{p c p1 c1},(S4 I p a0.Subs c)->(S4 I p1 b.Subs c1)->RT 182 [vA (cAccess a0 p c),vA (cAccess b p1 c1)] I [] (zQ  r):=by
 intro a0 b r N I p c p1 c1 h h1;unfold pC at N;refine yP func182 λB=>?_;have H:=iS I;refine yE<|vM (cAccess a0 p c) ?_;intro b1 hb;refine vM (cAccess b p1 c1) ?_;intro b2 hb1;refine wN [] []<|zI<|yA ?_;refine wQ N [] (λt4=>[(4,.bool t4)]) (λo0 az=>?_) ?_
 ·have H:=iS I;refine zL<|yG 6 [1,0] [10] rfl<|wC [10] az ?_ ?_
  ·intro hc N;refine yG 10 [1,0] [12,14] rfl<|bE N λy hy N=>vH (jH a0.Subs b.Subs _ hy h h1) ?_;intro aP le;have H:=H.trans le;exact yQ [] [4] rfl<|wD zN<|yS<|zU (ct N H)
  intro hc N;exact wN [] [(4,vF)]<|wD zN<|yS<|zU (ct N H)
 intro t4 I0 af aM;refine zI<|yX ?_;obtain rfl:=zB aM;exact wI
mutual
def sO(a0:zD)(b:zD):Option (Bool):=do
 let t42<-(do
  if(a0.Kind != b.Kind) then
   pure true
  else
   if(a0.Num != b.Num) then
    pure true
   else
    if((a0.Kids.length:Int) != (b.Kids.length:Int)) then
     pure true
    else
     let y<-oY a0.Index b.Index
     if(!y) then
      pure true
     else
      let y1<-pC a0.Read b.Read
      pure (!y1)
    : Option Bool)
 if t42 then
  pure false
 else
  match<-rQ (same a0) (same b) (same 0) with
  | .ret r0=>pure r0
  | .done _=>
   pure true
 partial_fixpoint
def rQ(a0:zD)(b:zD)(i:Int):Option (Out Unit (Bool)):=do
 if(decide (i<(a0.Kids.length:Int))) then
  let x<-idx a0.Kids i
  let x1<-idx b.Kids i
  let y2<-sO (same x) (same x1)
  if(!y2) then
   pure (.ret false)
  else
   rQ (same a0) (same b) (W (i+1))
 else
  pure (.done ())
 partial_fixpoint
end
theorem zCQ:(∀(a0:zD) (b:zD) r,sO a0 b=some r->∀{I:Imm}{p c p1 c1 p2 c2 p3 c3 p4 c4 p5 c5},(S4 I p a0.Index.Coefs c)->(S4 I p1 a0.Read.Subs c1)->(S4 I p2 a0.Kids c2)->(S4 I p3 b.Index.Coefs c3)->(S4 I p4 b.Read.Subs c4)->(S4 I p5 b.Kids c5)->RT 183 [vA (cExpr a0 p c p1 c1 p2 c2),vA (cExpr b p3 c3 p4 c4 p5 c5)] I [] (zQ  r))/\(∀(a0:zD) (b:zD) (i:Int) o,rQ a0 b i=some o->∀{B}{I0 I:Imm}{Q p c p1 c1 p2 c2 p3 c3 p4 c4 p5 c5}{b1:Nat}{b2:Nat},I0.le I->(S4 I p3 b.Index.Coefs c3)->(S4 I p4 b.Read.Subs c4)->(S4 I p5 b.Kids c5)->(S4 I p a0.Index.Coefs c)->(S4 I p1 a0.Read.Subs c1)->(S4 I p2 a0.Kids c2)->NG Q->NO Q->(∀(I':Imm) ,o=(.done ())->I0.le I'->T 62 B Q (.exit 0) I' [] [])->(∀r I' ai m',o=(.ret r)->I0.le I'->RS Tryz.prog f183 B (zQ  r) I' ai m'->T 62 B Q .ret I' ai m')->J Tryz.prog 62 B (nav (bodyOf f183) [1,1,0,1,0]) Q I [hB b2 (cExpr b p3 c3 p4 c4 p5 c5),hB b1 (cExpr a0 p c p1 c1 p2 c2)] [(2,vP b1 0),(3,vP b2 0),(5,vI i)]):=by
 refine sO.mutual_partial_correctness _ _ ?_ ?_
 ·intro F_spec_l3SameExpr_l1 ih_spec_l3SameExpr_l1 a0 b r N I p c p1 c1 p2 c2 p3 c3 p4 c4 p5 c5 h h1 h2 h3 h4 h5;refine yP func183 λB=>?_;have H:=iS I;refine yE<|vM (cExpr a0 p c p1 c1 p2 c2) ?_;intro b1 hb;refine vM (cExpr b p3 c3 p4 c4 p5 c5) ?_;intro b2 hb1;refine wN [] []<|zW<|yA ?_;refine wQ N [hB b2 (cExpr b p3 c3 p4 c4 p5 c5),hB b1 (cExpr a0 p c p1 c1 p2 c2)] (λt42=>[(2,vP b1 0),(3,vP b2 0),(42,.bool t42)]) (λo0 az=>?_) ?_
  ·have H:=iS I;refine zL<|yG 6 [1,0] [11] rfl<|wC [11] az ?_ ?_
   ·intro hc N;exact wN [] [(42,vY)]<|yS<|zU (ct N H)
   intro hc N;refine yG 13 [1,0] [18] rfl<|wC [18] N ?_ ?_
   ·intro aD N;exact wN [] [(42,vY)]<|yS<|zU (ct N H)
   intro aD N;refine yG 22 [1,0] [27] rfl<|wC [27] N ?_ ?_
   ·intro aQ N;exact wN [] [(42,vY)]<|yS<|zU (ct N H)
   intro aQ N;refine qX 26 [1,0] [(29,vA (cAff a0.Index p c)),(31,vA (cAff b.Index p3 c3))]<|bE N λy hy N=>vH (dZ a0.Index b.Index _ hy h h3) ?_;intro aP le;have ⟨h4,h1,H⟩:=m3 le h4 h1 H;refine yG 30 [] [35] rfl<|wC [35] N ?_ ?_
   ·intro bu N;exact wN [] [(42,vY)]<|yS<|zU (ct N H)
   intro bu N;refine qX 34 [1,0] [(37,vA (cAccess a0.Read p1 c1)),(39,vA (cAccess b.Read p4 c4))]<|bE N λy1 ay N=>vH (eT a0.Read b.Read _ ay h1 h4) ?_;intro aS af;have H:=H.trans af;exact yQ [] [42] rfl<|yS<|zU (ct N H)
  intro t42 I0 aE aM;have ⟨h3,h4,h5,h,h1,h2⟩:=m6 aE h3 h4 h5 h h1 h2;refine zI<|yC aM ?_ ?_
  ·intro bK N;refine wM [(4,vF)]<|xJ<|zF ?_;obtain rfl:=zB N;exact wI
  intro bK N;refine zS<|zW<|yJ [5] rfl<|wS<|oR [(2,vP b1 0),(3,vP b2 0),(5,vI 0)] ?_;obtain⟨aO,aB,aF⟩:=zC N;refine ih_spec_l3SameExpr_l1 a0 b 0 aO aB iR h3 h4 h5 h h1 h2 (λ_ _ _ h=>h) (λ_ _ h=>h) ?_ ?_
  ·intro bL  heq1 bt;subst aO;refine zT<|zBL [(4,vY)]<|zI<|yX ?_;obtain rfl:=zB aF;exact wI
  intro r0 I9 hs9 m9 aG le9 aH;subst aG;refine zR<|zF ?_;obtain rfl:=zB aF;exact xL aH
 intro F_spec_l3SameExpr F_spec_l3SameExpr_l1 ih_spec_l3SameExpr ih_spec_l3SameExpr_l1 a0 b i o N B I0 I Q p c p1 c1 p2 c2 p3 c3 p4 c4 p5 c5 b1 b2 H h3 h4 h5 h h1 h2 hg ho hx hr;refine yY hg ho<|yA<|yE<|yQ [1] [47] rfl<|zI<|yC N ?_ ?_
 ·intro hc5 N;refine zS<|zW<|yK<|yA ?_;obtain⟨x,aI,N⟩:=zC N;obtain⟨x1,aW,N⟩:=zC N;obtain⟨y2,br,N⟩:=zC N;refine wU [.p (vP b1 6) [],.p (vS p2 a0.Kids c2) [1],.p (vI i) [],.x (ePExpr x),.x (eVExpr x),.p (vP b2 6) [],.p (vS p5 b.Kids c5) [0],.p (vI i) [],.x (ePExpr x1),.x (eVExpr x1),.q (.bool y2),.p (.bool (!y2)) []] [[],[(0,false)],[],[(1,false),(2,false)],[(3,false)],[],[(5,false)],[],[(6,false),(7,false)],[(8,false)],[(4,false),(9,false)],[(10,false)]] [hB b2 (cExpr b p3 c3 p4 c4 p5 c5),hB b1 (cExpr a0 p c p1 c1 p2 c2)] [] [(11,false)] (zY [0,1]) ?_ ?_
  ·refine Op<|Op<|Op<|Ox ?_<|Ox ?_<|Op<|Op<|Op<|Ox ?_<|Ox ?_<|Oq ?_<|Op<|On
   ·intro I1 hf af;refine yV [51,52] rfl ?_;have h2:=h2.mono af;refine wB rfl rfl h2 aI ?_;intro ad aK ar al;obtain⟨p6,c6,p7,c7,p8,c8,rfl,h8,h9,h10⟩:=wO al;exact yR [] iR ⟨_,_,_,_,_,_,_,rfl,rfl,ar,h8,h9,h10⟩
   ·rintro I1 hf af _ _ ⟨ad,p6,c6,p7,c7,p8,c8,rfl,rfl,ar,h8,h9,h10⟩;exact yV [53] rfl<|xU 0 ar (cExpr x p6 c6 p7 c7 p8 c8) (vA (cExpr x p6 c6 p7 c7 p8 c8)) rfl<|yR [] iR ⟨_,_,_,_,_,_,rfl,rfl,h8,h9,h10⟩
   ·intro I1 hf af;refine yV [56,57] rfl ?_;have h5:=h5.mono af;refine wB rfl rfl h5 aW ?_;intro ad1 bi ap aw;obtain⟨p9,c9,aZ,ba,aT,aU,rfl,h11,h12,h13⟩:=wO aw;exact yR [] iR ⟨_,_,_,_,_,_,_,rfl,rfl,ap,h11,h12,h13⟩
   ·rintro I1 hf af _ _ ⟨ad1,p9,c9,aZ,ba,aT,aU,rfl,rfl,ap,h11,h12,h13⟩;exact yV [58] rfl<|xU 0 ap (cExpr x1 p9 c9 aZ ba aT aU) (vA (cExpr x1 p9 c9 aZ ba aT aU)) rfl<|yR [] iR ⟨_,_,_,_,_,_,rfl,rfl,h11,h12,h13⟩
   rintro I1 hf af _ _ ⟨p61,c61,p71,c71,p81,c81,rfl,rfl,h81,h91,h101⟩ _ _ ⟨p91,c91,p101,c101,p111,c111,rfl,rfl,h111,h121,h131⟩;refine yV [54,59] rfl ?_;have H:=iS I1;refine xX (ih_spec_l3SameExpr x x1 _ br h81 h91 h101 h111 h121 h131) ?_;rintro bw ax v2 k2 aJ - ⟨v08,rfl,rfl,rfl⟩ -;have H:=H.trans aJ;exact xA H
  intro bI aX;refine yV [2,3,5,61] rfl ?_;have ⟨h3,h4,h5,h,h1,h2⟩:=m6 aX h3 h4 h5 h h1 h2;have H:=H.trans aX;refine yB rfl<|zI<|yC N ?_ ?_
  ·intro hc6 N;exact wM [(4,vF)]<|xJ<|zR<|zF<|zF<|hr _ _ _ _ (zB N).symm H ⟨_,_,(.tmp rfl ResV.nil),zN,⟨_,rfl,rfl,rfl⟩⟩
  intro hc6 N;exact zS<|zO<|zI<|zL<|yQ [] [5] rfl<|yW<|mE<|ih_spec_l3SameExpr_l1 a0 b (W (i+1)) _ N H h3 h4 h5 h h1 h2 hg ho hx hr
 intro hc5 N;exact vQ<|wD zN<|yS<|hx _  (zB N).symm H
theorem zCp:∀a0 b r,sO a0 b=some r->∀{I:Imm}{p c p1 c1 p2 c2 p3 c3 p4 c4 p5 c5},(S4 I p a0.Index.Coefs c)->(S4 I p1 a0.Read.Subs c1)->(S4 I p2 a0.Kids c2)->(S4 I p3 b.Index.Coefs c3)->(S4 I p4 b.Read.Subs c4)->(S4 I p5 b.Kids c5)->RT 183 [vA (cExpr a0 p c p1 c1 p2 c2),vA (cExpr b p3 c3 p4 c4 p5 c5)] I [] (zQ  r):=zCQ.1
def jO(a0:zM)(b:zM):Option (Bool):=do
 let t4<-(do
  let y<-pC a0.Write b.Write
  if y then
   let y1<-sO a0.Value b.Value
   pure (id y1)
  else
   pure false
    : Option Bool)
 pure (id t4)
theorem zE0:∀a0 b r,jO a0 b=some r->∀{I:Imm}{p c p1 c1 p2 c2 p3 c3 p4 c4 p5 c5 p6 c6 p7 c7},(S4 I p a0.Write.Subs c)->(S4 I p1 a0.Value.Index.Coefs c1)->(S4 I p2 a0.Value.Read.Subs c2)->(S4 I p3 a0.Value.Kids c3)->(S4 I p4 b.Write.Subs c4)->(S4 I p5 b.Value.Index.Coefs c5)->(S4 I p6 b.Value.Read.Subs c6)->(S4 I p7 b.Value.Kids c7)->RT 123 [vA (cStmt a0 p c p1 c1 p2 c2 p3 c3),vA (cStmt b p4 c4 p5 c5 p6 c6 p7 c7)] I [] (zQ  r):=by
 intro a0 b r N I p c p1 c1 p2 c2 p3 c3 p4 c4 p5 c5 p6 c6 p7 c7 h h1 h2 h3 h4 h5 h6 h7;unfold jO at N;refine yP func123 λB=>?_;have H:=iS I;refine yE<|vM (cStmt a0 p c p1 c1 p2 c2 p3 c3) ?_;intro b1 hb;refine vM (cStmt b p4 c4 p5 c5 p6 c6 p7 c7) ?_;intro b2 hb1;refine wN [] []<|zI<|yA ?_;refine wQ N [] (λt4=>[(4,.bool t4)]) (λo0 az=>?_) ?_
 ·have H:=iS I;refine zL<|qX 4 [1,0] [(6,vA (cAccess a0.Write p c)),(8,vA (cAccess b.Write p4 c4))] ?_;obtain⟨y,hy,N⟩:=zC az;refine vH (eT a0.Write b.Write _ hy h h4) ?_;intro aP le;have ⟨h5,h6,h7,h1,h2,h3⟩:=m6 le h5 h6 h7 h1 h2 h3;have H:=H.trans le;refine yG 6 [] [10] rfl<|wC [10] N ?_ ?_
  ·intro hc N;refine qX 10 [1,0] [(12,vA (cExpr a0.Value p1 c1 p2 c2 p3 c3)),(14,vA (cExpr b.Value p5 c5 p6 c6 p7 c7))]<|bE N λy1 ay N=>vH (zCp a0.Value b.Value _ ay h1 h2 h3 h5 h6 h7) ?_;intro aS af;have H:=H.trans af;exact yQ [] [4] rfl<|wD zN<|yS<|zU (ct N H)
  intro hc N;exact wN [] [(4,vF)]<|wD zN<|yS<|zU (ct N H)
 intro t4 I0 aE aM;refine zI<|yX ?_;obtain rfl:=zB aM;exact wI
def tP(a0:zJ)(b:zJ)(i:Int):Option (Out Unit (Bool)):=do
 if(decide (i<(a0.Body.length:Int))) then
  let x<-idx a0.Body i
  let x1<-idx b.Body i
  let y1<-jO x x1
  if(!y1) then
   pure (.ret false)
  else
   tP a0 b (W (i+1))
 else
  pure (.done ())
 partial_fixpoint
theorem zBW(a0:zJ)(b:zJ):∀(i:Int) (o:Out Unit (Bool)),tP a0 b i=some o->∀{B}{I0 I:Imm}{Q p c p1 c1 p2 c2 p3 c3}{b1:Nat}{b2:Nat},I0.le I->(S4 I p2 b.Nest c2)->(S4 I p3 b.Body c3)->(S4 I p a0.Nest c)->(S4 I p1 a0.Body c1)->NG Q->NO Q->(∀(I':Imm) ,o=(.done ())->I0.le I'->T 40 B Q (.exit 0) I' [] [])->(∀r I' ai m',o=(.ret r)->I0.le I'->RS Tryz.prog f71 B (zQ  r) I' ai m'->T 40 B Q .ret I' ai m')->J Tryz.prog 40 B (nav (bodyOf f71) [1,1,0,1,0]) Q I [hB b2 (cPart b p2 c2 p3 c3),hB b1 (cPart a0 p c p1 c1)] [(2,vP b1 0),(3,vP b2 0),(5,vI i)]:=by
 refine tP.partial_correctness a0 b _ λaN ih i o N B I0 I Q p c p1 c1 p2 c2 p3 c3 b1 b2 H h2 h3 h h1 hg ho hx hr=>yY hg ho<|yA<|yE<|yQ [1] [25] rfl<|zI<|yC N ?_ ?_
 ·intro aQ N;refine zS<|zW<|yK<|yA ?_;obtain⟨x,ay,N⟩:=zC N;obtain⟨x1,aI,N⟩:=zC N;obtain⟨y1,aW,N⟩:=zC N;refine wU [.p (vP b1 1) [],.p (vS p1 a0.Body c1) [1],.p (vI i) [],.x (ePStmt x),.x (eVStmt x),.p (vP b2 1) [],.p (vS p3 b.Body c3) [0],.p (vI i) [],.x (ePStmt x1),.x (eVStmt x1),.q (.bool y1),.p (.bool (!y1)) []] [[],[(0,false)],[],[(1,false),(2,false)],[(3,false)],[],[(5,false)],[],[(6,false),(7,false)],[(8,false)],[(4,false),(9,false)],[(10,false)]] [hB b2 (cPart b p2 c2 p3 c3),hB b1 (cPart a0 p c p1 c1)] [] [(11,false)] (zY [0,1]) ?_ ?_
  ·refine Op<|Op<|Op<|Ox ?_<|Ox ?_<|Op<|Op<|Op<|Ox ?_<|Ox ?_<|Oq ?_<|Op<|On
   ·intro I1 hf af;refine yV [29,30] rfl ?_;have h1:=h1.mono af;refine wB rfl rfl h1 ay ?_;intro ad aK ar al;obtain⟨p4,c4,p5,c5,p6,c6,p7,c7,rfl,h5,h6,h7,h8⟩:=uP al;exact yR [] iR ⟨_,_,_,_,_,_,_,_,_,rfl,rfl,ar,h5,h6,h7,h8⟩
   ·rintro I1 hf af _ _ ⟨ad,p4,c4,p5,c5,p6,c6,p7,c7,rfl,rfl,ar,h5,h6,h7,h8⟩;exact yV [31] rfl<|xU 0 ar (cStmt x p4 c4 p5 c5 p6 c6 p7 c7) (vA (cStmt x p4 c4 p5 c5 p6 c6 p7 c7)) rfl<|yR [] iR ⟨_,_,_,_,_,_,_,_,rfl,rfl,h5,h6,h7,h8⟩
   ·intro I1 hf af;refine yV [34,35] rfl ?_;have h3:=h3.mono af;refine wB rfl rfl h3 aI ?_;intro ad1 bi ap aw;obtain⟨p8,c8,p9,c9,aZ,ba,aT,aU,rfl,h9,h10,h11,h12⟩:=uP aw;exact yR [] iR ⟨_,_,_,_,_,_,_,_,_,rfl,rfl,ap,h9,h10,h11,h12⟩
   ·rintro I1 hf af _ _ ⟨ad1,p8,c8,p9,c9,aZ,ba,aT,aU,rfl,rfl,ap,h9,h10,h11,h12⟩;exact yV [36] rfl<|xU 0 ap (cStmt x1 p8 c8 p9 c9 aZ ba aT aU) (vA (cStmt x1 p8 c8 p9 c9 aZ ba aT aU)) rfl<|yR [] iR ⟨_,_,_,_,_,_,_,_,rfl,rfl,h9,h10,h11,h12⟩
   rintro I1 hf af _ _ ⟨p41,c41,p51,c51,p61,c61,p71,c71,rfl,rfl,h51,h61,h71,h81⟩ _ _ ⟨p81,c81,p91,c91,p101,c101,p111,c111,rfl,rfl,h91,h101,h111,h121⟩;refine yV [32,37] rfl ?_;have H:=iS I1;refine vH (zE0 x x1 _ aW h51 h61 h71 h81 h91 h101 h111 h121) ?_;intro aS aE;have H:=H.trans aE;exact xA H
  intro bw aJ;refine yV [2,3,5,39] rfl ?_;have ⟨h2,h3,h,h1,H⟩:=m5 aJ h2 h3 h h1 H;refine yB rfl<|zI<|yC N ?_ ?_
  ·intro bu N;exact wM [(4,vF)]<|xJ<|zR<|zF<|zF<|hr _ _ _ _ (zB N).symm H ⟨_,_,(.tmp rfl ResV.nil),zN,⟨_,rfl,rfl,rfl⟩⟩
  intro bu N;exact zS<|zO<|zI<|zL<|yQ [] [5] rfl<|yW<|mE<|ih (W (i+1)) _ N H h2 h3 h h1 hg ho hx hr
 intro aQ N;exact vQ<|wD zN<|yS<|hx _  (zB N).symm H
def oZ(a0:zJ)(b:zJ):Option (Bool):=do
 let t20<-(do
  let y<-jN a0.Nest b.Nest
  if(!y) then
   pure true
  else
   pure ((a0.Body.length:Int) != (b.Body.length:Int))
    : Option Bool)
 if t20 then
  pure false
 else
  match<-tP a0 b 0 with
  | .ret r0=>pure r0
  | .done _=>
   pure true
theorem zCq:∀a0 b r,oZ a0 b=some r->∀{I:Imm}{p c p1 c1 p2 c2 p3 c3},(S4 I p a0.Nest c)->(S4 I p1 a0.Body c1)->(S4 I p2 b.Nest c2)->(S4 I p3 b.Body c3)->RT 71 [vA (cPart a0 p c p1 c1),vA (cPart b p2 c2 p3 c3)] I [] (zQ  r):=by
 intro a0 b r N I p c p1 c1 p2 c2 p3 c3 h h1 h2 h3;unfold oZ at N;refine yP func71 λB=>?_;have H:=iS I;refine yE<|vM (cPart a0 p c p1 c1) ?_;intro b1 hb;refine vM (cPart b p2 c2 p3 c3) ?_;intro b2 hb1;refine wN [] []<|zW<|yA ?_;refine wQ N [hB b2 (cPart b p2 c2 p3 c3),hB b1 (cPart a0 p c p1 c1)] (λt20=>[(2,vP b1 0),(3,vP b2 0),(20,.bool t20)]) (λo0 az=>?_) ?_
 ·have H:=iS I;refine zL<|yG 4 [1,0] [7,9] rfl ?_;obtain⟨y,hy,N⟩:=zC az;refine vH (zEZ a0.Nest b.Nest _ hy h h2) ?_;intro aP le;have H:=H.trans le;refine yG 7 [] [12] rfl<|wC [12] N ?_ ?_
  ·intro hc N;exact wN [] [(20,vY)]<|yS<|zU (ct N H)
  intro hc N;exact yQ [1,0] [20] rfl<|yS<|zU (ct N H)
 intro t20 I0 af aM;have ⟨h2,h3,h,h1⟩:=m4 af h2 h3 h h1;refine zI<|yC aM ?_ ?_
 ·intro aD N;refine wM [(4,vF)]<|xJ<|zF ?_;obtain rfl:=zB N;exact wI
 intro aD N;refine zS<|zW<|yJ [5] rfl<|wS<|oR [(2,vP b1 0),(3,vP b2 0),(5,vI 0)] ?_;obtain⟨aO,aB,aF⟩:=zC N;refine zBW a0 b 0 aO aB iR h2 h3 h h1 (λ_ _ _ h=>h) (λ_ _ h=>h) ?_ ?_
 ·intro bI  heq1 aX;subst aO;refine zT<|zBL [(4,vY)]<|zI<|yX ?_;obtain rfl:=zB aF;exact wI
 intro r0 I9 hs9 m9 aG le9 aH;subst aG;refine zR<|zF ?_;obtain rfl:=zB aF;exact xL aH
end Go.LN
