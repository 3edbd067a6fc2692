/- Helper of the proof (see the last text). -/
import Derived.Test.YtkipogionmkncaaGreatDoorHM5
set_option linter.unusedVariables false
set_option linter.unusedSimpArgs false
namespace Go.LN
open Go.Proofs
set_option maxRecDepth 20000
def eE(b0:Nat)(r:zL×zK):KT:=λkk I' ag v=>
 ∃v0 k0,ag=[.blk b0 ⟨k0⟩]/\v=tupV [v0]/\(∃cs,v0=.agg ⟨cs⟩/\Rp.rep I' cs r.1)/\Rp.rep I' k0 r.2
def qG(r0:zK)(s:zL):Option (zL×zK):=do
 let y<-pB s
 let (y2,y3)<-yV r0 40
 let (WriteArray,WriteSubs,ValueKind,ValueNum,ValueKids,x)<-(do
  if(y2==0) then
   let (y5,y6)<-sI y3 ([(⟨[69]⟩:Str),(⟨[]⟩:Str),(⟨[65,66]⟩:Str),(⟨[97]⟩:Str)]:List Str)
   pure (y5,y.Write.Subs,y.Value.Kind,y.Value.Num,y.Value.Kids,y6)
  else
   let (WriteSubs1,ValueKind1,ValueNum1,ValueKids1,x1)<-(do
    if(y2==1) then
     let y7<-qX 3
     let y8<-tW
     let l<-app 32 y.Write.Subs ([y7,y8]:List zA)
     pure (l,y.Value.Kind,y.Value.Num,y.Value.Kids,y3)
    else
     let (ValueKind2,ValueNum2,ValueKids2,x2)<-(do
      if(y2==2) then
       let (y10,y11)<-xC y3 ([0,7,1,4,2]:List Int)
       pure (y10,y.Value.Num,y.Value.Kids,y11)
      else
       let (ValueNum3,ValueKids3,x3)<-(do
        if(y2==3) then
         let (y13,y14)<-xC y3 ([100,(-1),1]:List Int)
         pure (y13,y.Value.Kids,y14)
        else
         let ValueKids4<-(do
          if(y2==4) then
           let l1<-app 112 y.Value.Kids ([(zB.mk 1 0 (zA.mk ([]:List Int) 0) (zE.mk (⟨[]⟩:Str) ([]:List zA)) ([]:List zB))]:List zB)
           pure (id l1)
          else
           pure y.Value.Kids
            : Option (List zB))
         pure (y.Value.Num,ValueKids4,y3)
          : Option (Int×List zB×zK))
       pure (y.Value.Kind,ValueNum3,ValueKids3,x3)
        : Option (Int×Int×List zB×zK))
     pure (y.Write.Subs,ValueKind2,ValueNum2,ValueKids2,x2)
      : Option (List zA×Int×Int×List zB×zK))
   pure (y.Write.Array,WriteSubs1,ValueKind1,ValueNum1,ValueKids1,x1)
    : Option (Str×List zA×Int×Int×List zB×zK))
 pure ((zL.mk (zE.mk WriteArray WriteSubs) (zB.mk ValueKind ValueNum y.Value.Index y.Value.Read ValueKids)),x)
theorem zAR:∀r0 s r,qG r0 s=some r->∀{I:Imm}{al:Nat}{p c p1 c1 p2 c2 p3 c3 p4 c4},(S4 I p r0.b c)->(S4 I p1 s.Write.Subs c1)->(S4 I p2 s.Value.Index.Coefs c2)->(S4 I p3 s.Value.Read.Subs c3)->(S4 I p4 s.Value.Kids c4)->RT 121 [vP al 0,vA (cStmt s p1 c1 p2 c2 p3 c3 p4 c4)] I [hB al (cRd r0 p c)] (eE al r):=by
 intro r0 s r N I al p c p1 c1 p2 c2 p3 c3 p4 c4 h h1 h2 h3 h4;unfold qG at N;refine yK Tryz.func121 λB=>?_;have H:=iS I;refine yH<|sM (cStmt s p1 c1 p2 c2 p3 c3 p4 c4) ?_;intro b hb;refine uF [vT ([]),z0,vI 0,vI 0,z0,vI 0,vT ([]),z0,z0] ?_;intro b1 hb1;refine zV rfl<|yW<|sW 1 [1] [(6,vA (cStmt s p1 c1 p2 c2 p3 c3 p4 c4))]<|bE N λy hy N=>xS (zBX s _ hy h1 h2 h3 h4) ?_;rintro I0 aj v2 k2 le - ⟨p5,c5,cs,p6,c6,p7,c7,p8,c8,aH,rfl,rfl,h5,h6,h7,h8⟩ -;have ⟨h,H⟩:=m2 le h H;refine uF [vT ([]),z0,vI 0,vI 0,z0,vI 0,vT ([]),z0,z0] ?_;intro b2 hb2;refine yT 0 (cStmt y p5 c5 p6 c6 p7 c7 p8 c8) rfl<|zV rfl<|yL<|yH<|zX 1 [] [8] rfl<|oW (yR [5,0,1,2,3,4] (ag:=[hB al (cRd r0 p c),hB b2 (cStmt y p5 c5 p6 c6 p7 c7 p8 c8),hO zA (vS p5 y.Write.Subs c5) cs,hO zB (vS p8 y.Value.Kids c8) aH,hB b1 [vT ([]),z0,vI 0,vI 0,z0,vI 0,vT ([]),z0,z0],hB b (cStmt s p1 c1 p2 c2 p3 c3 p4 c4)])) ?_;obtain⟨⟨y2,y3⟩,au,N⟩:=zC N;refine tT (xT r0 40 _ au h) rfl ?_;rintro aI aj v2 k2 ai - ⟨v0,kk,rfl,rfl,rfl,h10⟩ -;have ⟨h5,h6,h7,h8,H⟩:=m5 ai h5 h6 h7 h8 H;obtain⟨p9,c9,rfl,h11⟩:=zW h10;refine zV rfl<|rX<|xB [10] rfl<|zG<|eK 5 rfl ?_;intro aP aG hl0;have az:At aP ⟨b,0,none⟩ (cStmt s p1 c1 p2 c2 p3 c3 p4 c4):=At.of_blk hl0;have ⟨h11,h5,h6,h7,h8,H⟩:=m6 aG h11 h5 h6 h7 h8 H;obtain⟨o0,ar,aw⟩:=zC N;refine rR (λI' ag m'=>∃(WriteArray:Str) (WriteSubs:List zA) (ValueKind:Int) (ValueNum:Int) (ValueKids:List zB) (x:zK) (bg:Option Addr) (bf:Nat) (aX:List Value) (aR:Option Addr) (aT:Nat) (br:List Value) (bD:Option Addr) (bC:Nat),o0=(WriteArray,WriteSubs,ValueKind,ValueNum,ValueKids,x)/\aP.le I'/\(RL I' aX WriteSubs)/\(RL I' br ValueKids)/\(S4 I' bD x.b bC)/\ag=[hB al (cRd x bD bC),hB b2 [vT WriteArray.l,vS bg WriteSubs bf,vI ValueKind,vI ValueNum,vS p6 y.Value.Index.Coefs c6,vI y.Value.Index.Const,vT y.Value.Read.Array.l,vS p7 y.Value.Read.Subs c7,vS aR ValueKids aT],hO zA (vS bg WriteSubs bf) aX,hO zB (vS aR ValueKids aT) br,hB b1 [vT ([]),z0,vI 0,vI 0,z0,vI 0,vT ([]),z0,z0]]/\m'=[(4,vP b1 0),(5,vP b2 0)]) ?_ ?_
 ·have H:=iS aP;refine yJ ar ?_ ?_
  ·intro hc N;refine zI<|zX 1 [] [12] rfl<|mY (rT [(⟨[69]⟩:Str),(⟨[]⟩:Str),(⟨[65,66]⟩:Str),(⟨[97]⟩:Str)]) ?_;intro b3 bq aL h16;have ⟨h11,h5,h8,H⟩:=m4 aL h11 h5 h8 H;obtain⟨⟨y5,y6⟩,aB,N⟩:=zC N;refine tT (oG y3 ([(⟨[69]⟩:Str),(⟨[]⟩:Str),(⟨[65,66]⟩:Str),(⟨[97]⟩:Str)]:List Str) _ aB h11 h16) rfl ?_;rintro bu aj v2 k2 aV - ⟨v02,kk1,rfl,rfl,rfl,h18⟩ -;have ⟨h5,h8,H⟩:=m3 aV h5 h8 H;obtain⟨bB,bz,rfl,h19⟩:=zW h18;exact zX 5 [] [16] rfl<|yT 1 [vT y5.l,vS p5 y.Write.Subs c5,vI y.Value.Kind,vI y.Value.Num,vS p6 y.Value.Index.Coefs c6,vI y.Value.Index.Const,vT y.Value.Read.Array.l,vS p7 y.Value.Read.Subs c7,vS p8 y.Value.Kids c8] rfl<|zV rfl<|yM<|zJ ⟨_,_,_,_,_,_,_,_,_,_,_,_,_,_,(zD N).symm,H,h5,h8,h19,rfl,rfl⟩
  intro hc N;refine xB [17] rfl<|zG ?_;obtain⟨aS,ax,hMc1⟩:=zC N;refine rR (λI' ag m'=>∃(WriteSubs1:List zA) (ValueKind1:Int) (ValueNum1:Int) (ValueKids1:List zB) (x1:zK) (p14:Option Addr) (c14:Nat) (bM:List Value) (p15:Option Addr) (c15:Nat) (bK:List Value) (p16:Option Addr) (c16:Nat),aS=(WriteSubs1,ValueKind1,ValueNum1,ValueKids1,x1)/\aP.le I'/\(RL I' bM WriteSubs1)/\(RL I' bK ValueKids1)/\(S4 I' p16 x1.b c16)/\ag=[hB al (cRd x1 p16 c16),hB b2 [vT y.Write.Array.l,vS p14 WriteSubs1 c14,vI ValueKind1,vI ValueNum1,vS p6 y.Value.Index.Coefs c6,vI y.Value.Index.Const,vT y.Value.Read.Array.l,vS p7 y.Value.Read.Subs c7,vS p15 ValueKids1 c15],hO zA (vS p14 WriteSubs1 c14) bM,hO zB (vS p15 ValueKids1 c15) bK,hB b1 [vT ([]),z0,vI 0,vI 0,z0,vI 0,vT ([]),z0,z0]]/\m'=[(4,vP b1 0),(5,vP b2 0)]) ?_ ?_
  ·have H:=iS aP;refine yJ ax ?_ ?_
   ·intro ay N;obtain⟨y7,aK,N⟩:=zC N;obtain⟨y8,aY,N⟩:=zC N;obtain⟨l,bo,N⟩:=zC N;refine sU [.p (vP b2 0) [],.p (vP b2 1) [],.p (vS p5 y.Write.Subs c5) [1],.x (eVAff y7),.x (λI' v hx=>∃p18 c18 cs7,v=vA (cAff y8 p18 c18)/\hx=[hO Int (vS p18 y8.Coefs c18) cs7]/\(RL I' cs7 y8.Coefs)),.x (λI' v hx=>∃b4,v=vS (some ⟨b4,0,none⟩) ([y7,y8]:List zA) 2/\hx=[]/\(SL I' (vS (some ⟨b4,0,none⟩) ([y7,y8]:List zA) 2) ([y7,y8]:List zA))),.x (λI' v hx=>∃p19 c19 cs8,v=vS p19 l c19/\hx=[hO zA (vS p19 l c19) cs8]/\(RL I' cs8 l))] [[],[(0,false)],[(1,false)],[],[],[(3,false),(4,true)],[(2,false),(5,false),(10,true)]] [hB al (cRd y3 p9 c9),hB b2 (cStmt y p5 c5 p6 c6 p7 c7 p8 c8),hO zB (vS p8 y.Value.Kids c8) aH,hB b1 [vT ([]),z0,vI 0,vI 0,z0,vI 0,vT ([]),z0,z0]] [[hO zA (vS p5 y.Write.Subs c5) cs]] [(6,true)] (yR [0,1,3,4,2]) ?_ ?_
    ·refine Op<|Op<|Op<|Ox ?_<|Ox ?_<|Ox ?_<|Ox ?_<|On
     ·intro I1 hf ai;refine I_h [] ?_;have H:=iS I1;refine xS (fO 3 _ aK ) ?_;rintro I07 aj v2 k2 bj - ⟨v04,rfl,rfl,⟨cs6,rfl,h23⟩⟩ -;have H:=H.trans bj;obtain⟨p17,c17,rfl,h24⟩:=yP h23;exact tS [] H ⟨_,_,rfl,rfl,h24⟩
     ·intro I1 hf ai;refine I_h [] ?_;have H:=iS I1;refine xS (qS  _ aY ) ?_;rintro I08 aj v2 k2 bt - ⟨p18,c18,cs7,rfl,rfl,h25⟩ -;have H:=H.trans bt;exact tS [hO Int (vS p18 y8.Coefs c18) cs7] H ⟨_,_,_,rfl,rfl,h25⟩
     ·rintro I1 hf ai _ _ ⟨p17,c17,rfl,rfl,h24⟩ _ _ ⟨p18,c18,cs7,rfl,rfl,h25⟩;refine vQ [22,23] rfl ?_;have H:=iS I1;refine nN 0 rfl ?_;intro I09 le7 hl02;have h26:=SL.of_frozen hl02 le7 h25;have ⟨h24,H⟩:=m2 le7 h24 H;refine mY (rc y7 (zZ ⟨_,rfl,h24⟩) (rc y8 (zZ ⟨_,rfl,h26⟩) rN)) ?_;intro b4 bI le8 h28;have H:=H.trans le8;exact tS [] H ⟨_,rfl,rfl,h28⟩
     rintro I1 hf ai _ _ ⟨rfl,rfl⟩ _ _ ⟨b4,rfl,rfl,h28⟩ _ _ rfl;refine vQ [21,24] rfl ?_;have h5:=iM ai h5;obtain⟨aA,k0,k01⟩:=h28;have h28:SL I1 (vS (some ⟨b4,0,none⟩) ([y7,y8]:List zA) 2) ([y7,y8]:List zA):=⟨_,k0,k01⟩;exact zAA 50 2 0 rfl rfl rfl h5 (.inl k0) k01 bo λp19 c19 cs8 h29=>nP (ag:=(hO zA (vS p19 l c19) cs8::hB al (cRd y3 p9 c9)::hB b2 (cStmt y p5 c5 p6 c6 p7 c7 p8 c8)::hO zB (vS p8 y.Value.Kids c8) aH::hB b1 [vT ([]),z0,vI 0,vI 0,z0,vI 0,vT ([]),z0,z0]::hf)) rfl<|tS [hO zA (vS p19 l c19) cs8] iR ⟨_,_,_,rfl,rfl,h29⟩
    rintro bJ le9 _ _ ⟨p19,c19,cs8,rfl,rfl,h29⟩;refine vQ [4,5,25] rfl ?_;have ⟨h11,h8,H⟩:=m3 le9 h11 h8 H;exact zX 9 [] [27] rfl<|yT 2 [vT y.Write.Array.l,vS p19 l c19,vI y.Value.Kind,vI y.Value.Num,vS p6 y.Value.Index.Coefs c6,vI y.Value.Index.Const,vT y.Value.Read.Array.l,vS p7 y.Value.Read.Subs c7,vS p8 y.Value.Kids c8] rfl<|zV rfl<|xW (zN [1,2,0,3,4] rfl (by decide))<|yM<|zJ ⟨_,_,_,_,_,_,_,_,_,_,_,_,_,(zD N).symm,H,h29,h8,h11,rfl,rfl⟩
   intro ay N;refine xB [28] rfl<|zG ?_;obtain⟨o02,ho02,hMc2⟩:=zC N;refine rR (λI' ag m'=>∃(ValueKind2:Int) (ValueNum2:Int) (ValueKids2:List zB) (x2:zK) (p20:Option Addr) (c20:Nat) (cs9:List Value) (p21:Option Addr) (c21:Nat),o02=(ValueKind2,ValueNum2,ValueKids2,x2)/\aP.le I'/\(RL I' cs9 ValueKids2)/\(S4 I' p21 x2.b c21)/\ag=[hB al (cRd x2 p21 c21),hB b2 [vT y.Write.Array.l,vS p5 y.Write.Subs c5,vI ValueKind2,vI ValueNum2,vS p6 y.Value.Index.Coefs c6,vI y.Value.Index.Const,vT y.Value.Read.Array.l,vS p7 y.Value.Read.Subs c7,vS p20 ValueKids2 c20],hO zA (vS p5 y.Write.Subs c5) cs,hO zB (vS p20 ValueKids2 c20) cs9,hB b1 [vT ([]),z0,vI 0,vI 0,z0,vI 0,vT ([]),z0,z0]]/\m'=[(4,vP b1 0),(5,vP b2 0)]) ?_ ?_
   ·have H:=iS aP;refine yJ ho02 ?_ ?_
    ·intro aJ N;refine zI<|zX 1 [] [30] rfl<|mY (rI [0,7,1,4,2]) ?_;intro b5 I013 le10 h33;have ⟨h11,h8,H⟩:=m3 le10 h11 h8 H;obtain⟨⟨y10,y11⟩,hy6,N⟩:=zC N;refine tT (wC y3 ([0,7,1,4,2]:List Int) _ hy6 h11 h33) rfl ?_;rintro I014 aj v2 k2 le11 - ⟨v06,kk2,rfl,rfl,rfl,h35⟩ -;have ⟨h8,H⟩:=m2 le11 h8 H;obtain⟨p22,c22,rfl,h36⟩:=zW h35;exact zX 5 [] [34] rfl<|yT 1 [vT y.Write.Array.l,vS p5 y.Write.Subs c5,vI y10,vI y.Value.Num,vS p6 y.Value.Index.Coefs c6,vI y.Value.Index.Const,vT y.Value.Read.Array.l,vS p7 y.Value.Read.Subs c7,vS p8 y.Value.Kids c8] rfl<|zV rfl<|yM<|zJ ⟨_,_,_,_,_,_,_,_,_,(zD N).symm,H,h8,h36,rfl,rfl⟩
    intro aJ N;refine xB [35] rfl<|zG ?_;obtain⟨o03,ho03,hMc3⟩:=zC N;refine rR (λI' ag m'=>∃(ValueNum3:Int) (ValueKids3:List zB) (x3:zK) (p23:Option Addr) (c23:Nat) (cs10:List Value) (p24:Option Addr) (c24:Nat),o03=(ValueNum3,ValueKids3,x3)/\aP.le I'/\(RL I' cs10 ValueKids3)/\(S4 I' p24 x3.b c24)/\ag=[hB al (cRd x3 p24 c24),hB b2 [vT y.Write.Array.l,vS p5 y.Write.Subs c5,vI y.Value.Kind,vI ValueNum3,vS p6 y.Value.Index.Coefs c6,vI y.Value.Index.Const,vT y.Value.Read.Array.l,vS p7 y.Value.Read.Subs c7,vS p23 ValueKids3 c23],hO zA (vS p5 y.Write.Subs c5) cs,hO zB (vS p23 ValueKids3 c23) cs10,hB b1 [vT ([]),z0,vI 0,vI 0,z0,vI 0,vT ([]),z0,z0]]/\m'=[(4,vP b1 0),(5,vP b2 0)]) ?_ ?_
    ·have H:=iS aP;refine yJ ho03 ?_ ?_
     ·intro bd N;refine zI<|zX 1 [] [37] rfl<|mY (rI [100,(-1),1]) ?_;intro b6 I016 le12 h40;have ⟨h11,h8,H⟩:=m3 le12 h11 h8 H;obtain⟨⟨y13,y14⟩,hy7,N⟩:=zC N;refine tT (wC y3 ([100,(-1),1]:List Int) _ hy7 h11 h40) rfl ?_;rintro I017 aj v2 k2 le13 - ⟨v08,kk3,rfl,rfl,rfl,h42⟩ -;have ⟨h8,H⟩:=m2 le13 h8 H;obtain⟨p25,c25,rfl,h43⟩:=zW h42;exact zX 5 [] [41] rfl<|yT 1 [vT y.Write.Array.l,vS p5 y.Write.Subs c5,vI y.Value.Kind,vI y13,vS p6 y.Value.Index.Coefs c6,vI y.Value.Index.Const,vT y.Value.Read.Array.l,vS p7 y.Value.Read.Subs c7,vS p8 y.Value.Kids c8] rfl<|zV rfl<|yM<|zJ ⟨_,_,_,_,_,_,_,_,(zD N).symm,H,h8,h43,rfl,rfl⟩
     intro bd N;refine xB [42] rfl<|zG ?_;obtain⟨o04,ho04,hMc4⟩:=zC N;refine rR (λI' ag m'=>∃(ValueKids4:List zB) (p26:Option Addr) (c26:Nat) (cs11:List Value),o04=ValueKids4/\aP.le I'/\(RL I' cs11 ValueKids4)/\ag=[hB al (cRd y3 p9 c9),hB b2 [vT y.Write.Array.l,vS p5 y.Write.Subs c5,vI y.Value.Kind,vI y.Value.Num,vS p6 y.Value.Index.Coefs c6,vI y.Value.Index.Const,vT y.Value.Read.Array.l,vS p7 y.Value.Read.Subs c7,vS p26 ValueKids4 c26],hO zA (vS p5 y.Write.Subs c5) cs,hO zB (vS p26 ValueKids4 c26) cs11,hB b1 [vT ([]),z0,vI 0,vI 0,z0,vI 0,vT ([]),z0,z0]]/\m'=[(4,vP b1 0),(5,vP b2 0)]) ?_ ?_
     ·have H:=iS aP;refine yJ ho04 ?_ ?_
      ·intro bn N;refine zI<|sW 4 [1] [(46,vS p8 y.Value.Kids c8),(47,vA [vI 1,vI 0,z0,vI 0,vT ([]),z0,z0])]<|jL [vI 1,vI 0,z0,vI 0,vT ([]),z0,z0] zB ?_;intro b7 hb7;have h45:RL aP [vI 1,vI 0,z0,vI 0,vT ([]),z0,z0] ([(zB.mk 1 0 (zA.mk ([]:List Int) 0) (zE.mk (⟨[]⟩:Str) ([]:List zA)) ([]:List zB))]:List zB):=⟨[vI 1,vI 0,z0,vI 0,vT ([]),z0,z0],_,rfl,rfl,(yG ⟨_,_,_,rfl,(SL.nil _),(SL.nil _),(SL.nil _)⟩),rfl⟩;obtain⟨l1,hy8,N⟩:=zC N;refine zAA 53 7 4 rfl rfl rfl h8 (.inr ⟨0,rfl⟩) h45 hy8 ?_;intro p27 c27 cs12 h46;exact oW (yR [1,2,3,4,5] (ag:=[hB al (cRd y3 p9 c9),hB b2 (cStmt y p5 c5 p6 c6 p7 c7 p8 c8),hO zA (vS p5 y.Write.Subs c5) cs,hO zB (vS p27 l1 c27) cs12,hB b1 [vT ([]),z0,vI 0,vI 0,z0,vI 0,vT ([]),z0,z0]]))<|zX 8 [] [51] rfl<|yT 1 [vT y.Write.Array.l,vS p5 y.Write.Subs c5,vI y.Value.Kind,vI y.Value.Num,vS p6 y.Value.Index.Coefs c6,vI y.Value.Index.Const,vT y.Value.Read.Array.l,vS p7 y.Value.Read.Subs c7,vS p27 l1 c27] rfl<|zV rfl<|yM<|zJ ⟨_,_,_,_,(zD N).symm,H,h46,rfl,rfl⟩
      intro bn N;exact zO<|yM<|zJ ⟨_,_,_,_,(zD N).symm,H,h8,rfl,rfl⟩
     rintro I018 aj m2 ⟨ValueKids4,p26,c26,cs11,heq,le14,h44,rfl,rfl⟩;subst o04;have ⟨h11,H⟩:=m2 le14 h11 H;exact yM<|zJ ⟨_,_,_,_,_,_,_,_,(zD hMc4).symm,H,h44,h11,rfl,rfl⟩
    rintro I015 aj m2 ⟨ValueNum3,ValueKids3,x3,p23,c23,cs10,p24,c24,heq1,le15,h37,h38,rfl,rfl⟩;subst o03;have H:=H.trans le15;exact yM<|zJ ⟨_,_,_,_,_,_,_,_,_,(zD hMc3).symm,H,h37,h38,rfl,rfl⟩
   rintro bG aj m2 ⟨ValueKind2,ValueNum2,ValueKids2,x2,p20,c20,cs9,p21,c21,heq2,le16,h30,h31,rfl,rfl⟩;subst o02;have ⟨h5,H⟩:=m2 le16 h5 H;exact yM<|zJ ⟨_,_,_,_,_,_,_,_,_,_,_,_,_,(zD hMc2).symm,H,h5,h30,h31,rfl,rfl⟩
  rintro I06 aj m2 ⟨WriteSubs1,ValueKind1,ValueNum1,ValueKids1,x1,p14,c14,bM,p15,c15,bK,p16,c16,heq3,le17,h20,h21,h22,rfl,rfl⟩;subst aS;have H:=H.trans le17;exact yM<|zJ ⟨_,_,_,_,_,_,_,_,_,_,_,_,_,_,(zD hMc1).symm,H,h20,h21,h22,rfl,rfl⟩
 rintro aZ aj m2 ⟨WriteArray,WriteSubs,ValueKind,ValueNum,ValueKids,x,bg,bf,aX,aR,aT,br,bD,bC,heq4,le18,h12,h13,h14,rfl,rfl⟩;subst o0;have ⟨h6,h7⟩:=m2 le18 h6 h7;refine zQ<|yW<|sW 1 [1] [(52,vA [vT WriteArray.l,vS bg WriteSubs bf,vI ValueKind,vI ValueNum,vS p6 y.Value.Index.Coefs c6,vI y.Value.Index.Const,vT y.Value.Read.Array.l,vS p7 y.Value.Read.Subs c7,vS aR ValueKids aT])]<|yT 4 [vT WriteArray.l,vS bg WriteSubs bf,vI ValueKind,vI ValueNum,vS p6 y.Value.Index.Coefs c6,vI y.Value.Index.Const,vT y.Value.Read.Array.l,vS p7 y.Value.Read.Subs c7,vS aR ValueKids aT] rfl<|zV rfl<|xP<|tY 2 rfl ?_;intro I019 le19 hl06;have h47:=SL.of_frozen hl06 le19 h12;have ⟨h14,h6,h7,h13⟩:=m4 le19 h14 h6 h7 h13;refine tY 2 rfl ?_;intro I020 le20 hl07;have h48:=SL.of_frozen hl07 le20 h13;have ⟨h14,h47,h6,h7⟩:=m4 le20 h14 h47 h6 h7;obtain rfl:=zD aw;exact xN ⟨_,_,(.cell 2 rfl rfl (by kernel_rfl) ResV.nil),(zN [0] rfl (by decide)),⟨_,_,rfl,rfl,⟨_,rfl,(wZ ⟨_,_,_,_,rfl,h47,h6,h7,h48⟩)⟩,(xH ⟨_,rfl,h14⟩)⟩⟩
end Go.LN
