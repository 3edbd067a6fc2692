/- Helper of the proof (see the last text). -/
import Derived.Test.YtkipogionmkncaaGreatDoorHM7
set_option linter.unusedVariables false
set_option linter.unusedSimpArgs false
namespace Go.LN
open Go.Proofs
set_option maxRecDepth 20000
def uU(ak:Str):Option (zL×Bool):=do
 if(decide ((ak.l.length:Int)>2000)) then
  pure ((zL.mk (zE.mk (⟨[]⟩:Str) ([]:List zA)) (zB.mk 0 0 (zA.mk ([]:List Int) 0) (zE.mk (⟨[]⟩:Str) ([]:List zA)) ([]:List zB))),false)
 else
  let (y1,y2)<-wF (zR.mk ak false)
  let y3<-wY y2 (61:UInt8)
  let (y5,y6)<-yA y3 1
  let t42<-(do
   if y6.bad then
    pure true
   else
    if(!(y6.s.l==([]:List UInt8))) then
     pure true
    else
     let y7<-qL (zL.mk y1 y5)
     if(!y7) then
      pure true
     else
      let y8<-sZ (zL.mk y1 y5)
      pure (!(y8.l==ak.l))
     : Option Bool)
  if t42 then
   pure ((zL.mk (zE.mk (⟨[]⟩:Str) ([]:List zA)) (zB.mk 0 0 (zA.mk ([]:List Int) 0) (zE.mk (⟨[]⟩:Str) ([]:List zA)) ([]:List zB))),false)
  else
   pure ((zL.mk y1 y5),true)
theorem mL:∀ak r,uU ak=some r->∀{I:Imm} ,(GH Tryz.prog I)->RT 29 [vT ak.l] I [] (nF  r):=by
 intro ak r N I  hG;unfold uU at N;refine yK Tryz.func29 λB=>?_;have H:=iS I;refine yH<|uF [vT ([]),z0,vI 0,vI 0,z0,vI 0,vT ([]),z0,z0] ?_;intro b hb;refine wG [] []<|yL<|xB [8] rfl<|zG<|yJ N ?_ ?_
 ·intro hc N;refine yH<|zX 1 [] [9] rfl<|yT 0 [vT ([]),z0,vI 0,vI 0,z0,vI 0,vT ([]),z0,z0] rfl<|wG [] [(3,vF)]<|xP<|zF ?_;obtain rfl:=zD N;exact xN ⟨_,_,(.cell 0 rfl rfl (by kernel_rfl) (.tmp rfl ResV.nil)),zH,⟨_,_,rfl,rfl,⟨_,rfl,(wZ ⟨_,_,_,_,rfl,(SL.nil _),(SL.nil _),(SL.nil _),(SL.nil _)⟩)⟩,rfl⟩⟩
 intro hc N;refine zO<|yW<|zX 2 [] [11] rfl<|sM [vT ak.l,vF] ?_;intro b1 hb1;refine yS [] [4] rfl<|yW<|zX 1 [] [13] rfl ?_;obtain⟨⟨y1,y2⟩,hy,N⟩:=zC N;refine tT (oA (zR.mk ak false) _ hy hG) rfl ?_;rintro I0 aj v2 k2 le - ⟨v0,kk,rfl,rfl,⟨cs,rfl,h⟩,h1⟩ -;have ⟨hG,H⟩:=m2 le hG H;obtain⟨p,c,rfl,h2⟩:=rS h;obtain rfl:=yY h1;refine zX 3 [] [15] rfl<|uF [vT ([]),z0,vI 0,vI 0,z0,vI 0,vT ([]),z0,z0] ?_;intro b2 hb2;refine yT 0 [vT y1.Array.l,vS p y1.Subs c,vI 0,vI 0,z0,vI 0,vT ([]),z0,z0] rfl<|zV rfl<|yW<|zX 1 [] [16] rfl<|oW (yR [1,0,2] (ag:=[hB b1 [vT y2.s.l,.bool y2.bad],hB b2 [vT y1.Array.l,vS p y1.Subs c,vI 0,vI 0,z0,vI 0,vT ([]),z0,z0],hB b [vT ([]),z0,vI 0,vI 0,z0,vI 0,vT ([]),z0,z0]]))<|bE N λy3 au N=>tT (pA y2 (61:UInt8) _ au ) rfl ?_;rintro aI aj v2 k2 ai - ⟨kk1,rfl,rfl,h3⟩ -;have ⟨h2,hG,H⟩:=m3 ai h2 hG H;obtain rfl:=yY h3;refine zV rfl<|yW<|zX 1 [] [18] rfl ?_;obtain⟨⟨y5,y6⟩,aB,N⟩:=zC N;refine tT (fK y3 1 _ aB hG) rfl ?_;rintro aP aj v2 k2 aG - ⟨v02,kk2,rfl,rfl,⟨aH,rfl,h4⟩,h5⟩ -;have ⟨h2,hG,H⟩:=m3 aG h2 hG H;obtain⟨p1,c1,p2,c2,p3,c3,rfl,h6,h7,h8⟩:=xK h4;obtain rfl:=yY h5;refine zX 3 [] [20] rfl<|yT 1 [vT y1.Array.l,vS p y1.Subs c,vI y5.Kind,vI y5.Num,vS p1 y5.Index.Coefs c1,vI y5.Index.Const,vT y5.Read.Array.l,vS p2 y5.Read.Subs c2,vS p3 y5.Kids c3] rfl<|zV rfl<|yL<|yB ?_;refine wT N [hB b2 [vT y1.Array.l,vS p y1.Subs c,vI y5.Kind,vI y5.Num,vS p1 y5.Index.Coefs c1,vI y5.Index.Const,vT y5.Read.Array.l,vS p2 y5.Read.Subs c2,vS p3 y5.Kids c3],hB b [vT ([]),z0,vI 0,vI 0,z0,vI 0,vT ([]),z0,z0]] (λt42=>[(2,vP b 0),(5,vP b2 0),(42,.bool t42)]) (λo0 ar=>?_) ?_
 ·have H:=iS aP;refine zI<|zX 5 [0] [25] rfl<|xE [25] ar ?_ ?_
  ·intro ay N;exact wG [] [(42,vY)]<|xW (zN [1,2] rfl (by decide))<|yM<|zJ (ct N H)
  intro ay N;refine zX 12 [0] [32] rfl<|xE [32] N ?_ ?_
  ·intro aJ N;exact wG [] [(42,vY)]<|xW (zN [1,2] rfl (by decide))<|yM<|zJ (ct N H)
  intro aJ N;refine sW 13 [1] [(33,vA [vT y1.Array.l,vS p y1.Subs c,vI y5.Kind,vI y5.Num,vS p1 y5.Index.Coefs c1,vI y5.Index.Const,vT y5.Read.Array.l,vS p2 y5.Read.Subs c2,vS p3 y5.Kids c3])]<|bE N λy7 aK N=>sD (gK (zL.mk y1 y5) _ aK h2 h6 h7 h8) ?_;intro bq aL;have ⟨h2,h6,h7,h8,hG,H⟩:=m6 aL h2 h6 h7 h8 hG H;refine zX 17 [] [37] rfl<|xE [37] N ?_ ?_
  ·intro bd N;exact wG [] [(42,vY)]<|xW (zN [1,2] rfl (by decide))<|yM<|zJ (ct N H)
  intro bd N;refine sW 18 [1] [(38,vA [vT y1.Array.l,vS p y1.Subs c,vI y5.Kind,vI y5.Num,vS p1 y5.Index.Coefs c1,vI y5.Index.Const,vT y5.Read.Array.l,vS p2 y5.Read.Subs c2,vS p3 y5.Kids c3])]<|bE N λy8 aY N=>xS (kC (zL.mk y1 y5) _ aY h2 h6 h7 h8 hG) ?_;rintro bu aj v2 k2 aV - ⟨v07,rfl,rfl,rfl⟩ -;have H:=H.trans aV;exact yS [] [42] rfl<|xW (zN [1,2] rfl (by decide))<|yM<|zJ (ct N H)
 intro t42 aZ bj aw;have ⟨h2,h6,h7,h8⟩:=m4 bj h2 h6 h7 h8;refine zG<|yJ aw ?_ ?_
 ·intro bn N;refine yH<|zX 1 [] [43] rfl<|yT 1 [vT ([]),z0,vI 0,vI 0,z0,vI 0,vT ([]),z0,z0] rfl<|wG [] [(3,vF)]<|xP<|zF ?_;obtain rfl:=zD N;exact xN ⟨_,_,(.cell 1 rfl rfl (by kernel_rfl) (.tmp rfl ResV.nil)),zH,⟨_,_,rfl,rfl,⟨_,rfl,(wZ ⟨_,_,_,_,rfl,(SL.nil _),(SL.nil _),(SL.nil _),(SL.nil _)⟩)⟩,rfl⟩⟩
 intro bn N;refine zO<|yW<|sW 1 [0] [(44,vA [vT y1.Array.l,vS p y1.Subs c,vI y5.Kind,vI y5.Num,vS p1 y5.Index.Coefs c1,vI y5.Index.Const,vT y5.Read.Array.l,vS p2 y5.Read.Subs c2,vS p3 y5.Kids c3])]<|yT 1 [vT y1.Array.l,vS p y1.Subs c,vI y5.Kind,vI y5.Num,vS p1 y5.Index.Coefs c1,vI y5.Index.Const,vT y5.Read.Array.l,vS p2 y5.Read.Subs c2,vS p3 y5.Kids c3] rfl<|wG [] [(3,vY)]<|zG<|yX ?_;obtain rfl:=zD N;exact xN ⟨_,_,(.cell 1 rfl rfl (by kernel_rfl) (.tmp rfl ResV.nil)),zH,⟨_,_,rfl,rfl,⟨_,rfl,(wZ ⟨_,_,_,_,rfl,h2,h6,h7,h8⟩)⟩,rfl⟩⟩
def sC(code:(List UInt8)):Option (Str):=do
 let y<-rV code
 let (y2,y3)<-qK y 3
 let y4<-vO y2
 let (y6,y7)<-pC y3 y4 ([(⟨[]⟩:Str),(⟨[65]⟩:Str),(⟨[91]⟩:Str),(⟨[93]⟩:Str),(⟨[40]⟩:Str),(⟨[43]⟩:Str),(⟨[105]⟩:Str),(⟨[123]⟩:Str),(⟨[48]⟩:Str),(⟨[44]⟩:Str)]:List Str)
 pure (id y6)
theorem jV:∀code r,sC code=some r->∀{I:Imm}{p c},(S4 I p code c)->RT 33 [vS p code c] I [] (yI  r):=by
 intro code r N I p c h;unfold sC at N;refine yK Tryz.func33 λB=>tK []<|yW<|zX 1 [] [4] rfl<|bE N λy hy N=>xS (jH code _ hy h) ?_;rintro I0 aj v2 k2 le - ⟨b,p1,c1,rfl,rfl,h1⟩ -;refine yS [] [3] rfl<|yW<|zX 2 [] [6,7] rfl ?_;obtain⟨⟨y2,y3⟩,au,N⟩:=zC N;refine tT (gJ y 3 _ au h1) rfl ?_;rintro aI aj v2 k2 ai - ⟨v0,kk,rfl,rfl,⟨cs,rfl,h2⟩,h3⟩ -;obtain⟨p2,c2,p3,c3,p4,c4,p5,c5,rfl,h4,h5,h6,h7⟩:=rD h2;obtain⟨p6,c6,rfl,h8⟩:=zW h3;obtain⟨y4,aB,N⟩:=zC N;refine xS (pJ y2 _ aB h4 h5 h6 h7) ?_;rintro aP aj v2 k2 aG - ⟨v06,rfl,rfl,rfl⟩ -;have h8:=h8.mono aG;refine mY (rT [(⟨[]⟩:Str),(⟨[65]⟩:Str),(⟨[91]⟩:Str),(⟨[93]⟩:Str),(⟨[40]⟩:Str),(⟨[43]⟩:Str),(⟨[105]⟩:Str),(⟨[123]⟩:Str),(⟨[48]⟩:Str),(⟨[44]⟩:Str)]) ?_;intro b1 aZ aL h11;have h8:=h8.mono aL;obtain⟨⟨y6,y7⟩,aK,N⟩:=zC N;refine tT (zBY y3 y4 ([(⟨[]⟩:Str),(⟨[65]⟩:Str),(⟨[91]⟩:Str),(⟨[93]⟩:Str),(⟨[40]⟩:Str),(⟨[43]⟩:Str),(⟨[105]⟩:Str),(⟨[123]⟩:Str),(⟨[48]⟩:Str),(⟨[44]⟩:Str)]:List Str) _ aK h8 h11) rfl ?_;rintro bq aj v2 k2 aV - ⟨v07,kk1,rfl,rfl,rfl,h13⟩ -;obtain⟨p7,c7,rfl,h14⟩:=zW h13;refine yS [] [2] rfl<|zG<|yX ?_;obtain rfl:=zD N;exact wU
def qP(code:(List UInt8))(more:(List UInt8)):Option (Bool):=do
 let t21<-(do
  if(decide ((code.length:Int)>1048576)) then
   pure true
  else
   pure (decide ((more.length:Int)>1048576))
    : Option Bool)
 if t21 then
  pure true
 else
  let y<-tL code
  let y1<-tE y
  let (y3,y4)<-uU y1
  let t55<-(do
   let y5<-vO y
   if(!(y1.l==y5.l)) then
    pure true
   else
    if(!(y4==(!(y1.l==([]:List UInt8))))) then
     pure true
    else
     if y4 then
      let y6<-tH y3 y
      if(!y6) then
       pure true
      else
       let y7<-tN y 4
       pure (!(true==y7))
     else
      let y8<-tN y 4
      pure (!(false==y8))
     : Option Bool)
  if t55 then
   pure false
  else
   let y9<-sC more
   let (y11,y12)<-uU y9
   let (y14,y15)<-uE y9
   let t4<-(do
    if(y12==y15) then
     let y16<-tH y11 y14
     if y16 then
      if(!y12) then
       pure true
      else
       let y17<-tE y11
       pure (y17.l==y9.l)
     else
      pure false
    else
     pure false
      : Option Bool)
   pure (id t4)
theorem zEF:∀code more r,qP code more=some r->∀{I:Imm}{p c p1 c1},(S4 I p code c)->(S4 I p1 more c1)->(GH Tryz.prog I)->RT 6 [vS p code c,vS p1 more c1] I [] (zP  r):=by
 intro code more r N I p c p1 c1 h h1 hG;unfold qP at N;refine yK Tryz.func6 λB=>?_;have H:=iS I;refine tK []<|yL<|yB ?_;refine wT N [] (λt21=>[(0,vS p code c),(1,vS p1 more c1),(21,.bool t21)]) (λo0 ar=>?_) ?_
 ·have H:=iS I;refine zI<|zX 4 [] [17] rfl<|xE [17] ar ?_ ?_
  ·intro hc N;exact wG [] [(21,vY)]<|yM<|zJ (ct N H)
  intro hc N;exact yS [] [21] rfl<|yM<|zJ (ct N H)
 intro t21 I0 le aw;have ⟨h,h1,hG,H⟩:=m4 le h h1 hG H;refine zG<|yJ aw ?_ ?_
 ·intro ay N;refine tK [(4,vY)]<|xP<|zF ?_;obtain rfl:=zD N;exact wU
 intro ay N;refine zO<|yW<|zX 1 [] [22] rfl<|bE N λy hy N=>xS (jA code _ hy h) ?_;rintro aI aj v2 k2 ai - ⟨v0,rfl,rfl,⟨cs,rfl,h2⟩⟩ -;have ⟨h1,hG,H⟩:=m3 ai h1 hG H;obtain⟨p2,c2,p3,c3,p4,c4,p5,c5,rfl,h3,h4,h5,h6⟩:=rD h2;refine uF [vT ([]),z0,vI 0,vI 0,z0,vI 0,vT ([]),z0,z0] ?_;intro b hb;refine yT 0 (cStmt y p2 c2 p3 c3 p4 c4 p5 c5) rfl<|zV rfl<|yW<|sW 1 [0] [(24,vA (cStmt y p2 c2 p3 c3 p4 c4 p5 c5))]<|bE N λy1 au N=>xS (nY y _ au h3 h4 h5 h6 hG) ?_;rintro aP aj v2 k2 aG - ⟨v05,rfl,rfl,rfl⟩ -;have ⟨h1,h3,h4,h5,h6,hG⟩:=m6 aG h1 h3 h4 h5 h6 hG;have H:=H.trans aG;refine yS [] [6] rfl<|yW<|zX 1 [] [27] rfl ?_;obtain⟨⟨y3,y4⟩,aB,N⟩:=zC N;refine xS (mL y1 _ aB hG) ?_;rintro aZ aj v2 k2 aL - ⟨v06,v07,rfl,rfl,⟨aH,rfl,h8⟩,rfl⟩ -;have ⟨h1,h3,h4,h5,h6,hG⟩:=m6 aL h1 h3 h4 h5 h6 hG;have H:=H.trans aL;obtain⟨p6,c6,p7,c7,p8,c8,p9,c9,rfl,h10,h11,h12,h13⟩:=rD h8;refine zX 5 [] [29,30] rfl<|uF [vT ([]),z0,vI 0,vI 0,z0,vI 0,vT ([]),z0,z0] ?_;intro b1 hb1;refine yT 0 (cStmt y3 p6 c6 p7 c7 p8 c8 p9 c9) rfl<|yS [] [8] rfl<|yL<|yB ?_;refine wT N [] (λt55=>[(1,vS p1 more c1),(55,.bool t55)]) (λaS ax=>?_) ?_
 ·have H:=iS aZ;refine zI<|sW 2 [1] [(31,vT y1.l),(32,vA (cStmt y p2 c2 p3 c3 p4 c4 p5 c5))] ?_;obtain⟨y5,aK,N⟩:=zC ax;refine xS (pJ y _ aK h3 h4 h5 h6) ?_;rintro bu aj v2 k2 aV - ⟨v012,rfl,rfl,rfl⟩ -;have ⟨h10,h11,h12,h13,h3,h4⟩:=m6 aV h10 h11 h12 h13 h3 h4;have ⟨h5,h6,H⟩:=m3 aV h5 h6 H;refine zX 5 [] [35] rfl<|xE [35] N ?_ ?_
  ·intro aJ N;exact wG [] [(55,vY)]<|xW zH<|yM<|zJ (ct N H)
  intro aJ N;refine zX 11 [] [41] rfl<|xE [41] N ?_ ?_
  ·intro bd N;exact wG [] [(55,vY)]<|xW zH<|yM<|zJ (ct N H)
  intro bd N;refine zX 13 [] [43] rfl<|xE [8,43] N ?_ ?_
  ·intro bn N;refine sW 15 [0,1] [(44,vA (cStmt y3 p6 c6 p7 c7 p8 c8 p9 c9)),(45,vA (cStmt y p2 c2 p3 c3 p4 c4 p5 c5))]<|bE N λy6 aY N=>sD (kE y3 y _ aY h10 h11 h12 h13 h3 h4 h5 h6) ?_;intro I06 bj;have ⟨h3,h4,h5,h6,H⟩:=m5 bj h3 h4 h5 h6 H;refine zX 20 [] [50] rfl<|xE [50] N ?_ ?_
   ·intro hc5 N;exact wG [] [(55,vY)]<|xW zH<|yM<|zJ (ct N H)
   intro hc5 N;refine sW 22 [1] [(51,vY),(52,vA (cStmt y p2 c2 p3 c3 p4 c4 p5 c5))]<|bE N λy7 bo N=>sD (pS y 4 _ bo h3 h4 h5 h6) ?_;intro I07 bt;have H:=H.trans bt;exact yS [] [55] rfl<|xW zH<|yM<|zJ (ct N H)
  intro bn N;refine sW 22 [1] [(50,vF),(51,vF),(52,vA (cStmt y p2 c2 p3 c3 p4 c4 p5 c5))]<|bE N λy8 hy6 N=>sD (pS y 4 _ hy6 h3 h4 h5 h6) ?_;intro I08 le7;have H:=H.trans le7;exact yS [] [55] rfl<|xW zH<|yM<|zJ (ct N H)
 intro t55 bq le8 hMc1;have ⟨h1,hG,H⟩:=m3 le8 h1 hG H;refine zG<|yJ hMc1 ?_ ?_
 ·intro hc6 N;refine tK [(4,vF)]<|xP<|zF ?_;obtain rfl:=zD N;exact wU
 intro hc6 N;refine zO<|yW<|zX 1 [] [56] rfl<|bE N λy9 hy7 N=>xS (jV more _ hy7 h1) ?_;rintro I09 aj v2 k2 le9 - ⟨v016,rfl,rfl,rfl⟩ -;have ⟨hG,H⟩:=m2 le9 hG H;refine yS [] [9] rfl<|yW<|zX 1 [] [59] rfl ?_;obtain⟨⟨y11,y12⟩,hy8,N⟩:=zC N;refine xS (mL y9 _ hy8 hG) ?_;rintro bI aj v2 k2 le10 - ⟨v017,v018,rfl,rfl,⟨aX,rfl,h19⟩,rfl⟩ -;have ⟨hG,H⟩:=m2 le10 hG H;obtain⟨bg,bf,aR,aT,bD,bC,bB,bz,rfl,h21,h22,h23,h24⟩:=rD h19;refine zX 5 [] [61,62] rfl<|uF [vT ([]),z0,vI 0,vI 0,z0,vI 0,vT ([]),z0,z0] ?_;intro b2 hb2;refine yT 0 (cStmt y11 bg bf aR aT bD bC bB bz) rfl<|yS [] [11] rfl<|yW<|zX 1 [] [64] rfl ?_;obtain⟨⟨y14,y15⟩,hy9,N⟩:=zC N;refine xS (dA y9 _ hy9 ) ?_;rintro bJ aj v2 k2 le11 - ⟨v023,v024,rfl,rfl,⟨br,rfl,h25⟩,rfl⟩ -;have ⟨h21,h22,h23,h24,hG,H⟩:=m6 le11 h21 h22 h23 h24 hG H;obtain⟨p14,c14,p15,c15,p16,c16,p17,c17,rfl,h27,h28,h29,h30⟩:=rD h25;refine zX 5 [] [66,67] rfl<|uF [vT ([]),z0,vI 0,vI 0,z0,vI 0,vT ([]),z0,z0] ?_;intro b3 hb3;refine yT 0 (cStmt y14 p14 c14 p15 c15 p16 c16 p17 c17) rfl<|yS [] [13] rfl<|zG<|yB ?_;refine wT N [] (λt4=>[(4,.bool t4)]) (λo02 ho02=>?_) ?_
 ·have H:=iS bJ;refine zI<|zX 4 [] [71] rfl<|xE [71] ho02 ?_ ?_
  ·intro hc7 N;refine sW 6 [1,0] [(72,vA (cStmt y11 bg bf aR aT bD bC bB bz)),(73,vA (cStmt y14 p14 c14 p15 c15 p16 c16 p17 c17))]<|bE N λy16 hy10 N=>sD (kE y11 y14 _ hy10 h21 h22 h23 h24 h27 h28 h29 h30) ?_;intro I013 le12;have ⟨h21,h22,h23,h24,hG,H⟩:=m6 le12 h21 h22 h23 h24 hG H;refine zX 9 [] [76] rfl<|xE [76] N ?_ ?_
   ·intro hc8 N;refine zX 12 [] [79] rfl<|xE [79] N ?_ ?_
    ·intro hc9 N;exact wG [] [(4,vY)]<|xW zH<|yM<|zJ (ct N H)
    intro hc9 N;refine sW 13 [1] [(80,vA (cStmt y11 bg bf aR aT bD bC bB bz))]<|bE N λy17 hy11 N=>xS (nY y11 _ hy11 h21 h22 h23 h24 hG) ?_;rintro I014 aj v2 k2 le13 - ⟨v030,rfl,rfl,rfl⟩ -;have H:=H.trans le13;exact yS [] [4] rfl<|xW zH<|yM<|zJ (ct N H)
   intro hc8 N;exact wG [] [(4,vF)]<|xW zH<|yM<|zJ (ct N H)
  intro hc7 N;exact wG [] [(4,vF)]<|xW zH<|yM<|zJ (ct N H)
 intro t4 bG le14 hMc2;refine zG<|yX ?_;obtain rfl:=zD hMc2;exact wU
end Go.LN
