/- Helper of the proof (see the last text). -/
import Derived.Test.YtkipogionmkncaaGreatDoorHM4
set_option linter.unusedVariables false
set_option linter.unusedSimpArgs false
namespace Go.LN
open Go.Proofs Go.Proofs.Tryz
set_option maxRecDepth 20000
def mK(b0:Nat)(r:zB×zK):KT:=λkk I' ag v=>
 ∃v0 k0,ag=[.blk b0 ⟨k0⟩]/\v=tupV [v0]/\(∃cs,v0=.agg ⟨cs⟩/\Rp.rep I' cs r.1)/\Rp.rep I' k0 r.2
mutual
def tC(r0:zK)(ae:Int)(af:Int):Option (zB×zK):=do
 let (t15,x)<-(do
  if(decide (af<2)) then
   pure (true,r0)
  else
   let (y1,y2)<-yV r0 4
   pure ((y1==0),y2)
    : Option (Bool×zK))
 if t15 then
  let (y4,y5)<-yV x 4
  if(y4==0) then
   let (y7,y8)<-xC y5 ([1,2,0,99,3]:List Int)
   pure ((zB.mk 1 y7 (zA.mk ([]:List Int) 0) (zE.mk (⟨[]⟩:Str) ([]:List zA)) ([]:List zB)),y8)
  else
   if(y4==1) then
    let (y10,y11)<-qJ y5 ae
    pure ((zB.mk 2 0 y10 (zE.mk (⟨[]⟩:Str) ([]:List zA)) ([]:List zB)),y11)
   else
    let (y13,y14)<-rL y5 ae
    pure ((zB.mk 3 0 (zA.mk ([]:List Int) 0) y13 ([]:List zB)),y14)
 else
  let (y16,y17)<-xC x ([4,6,5,4]:List Int)
  let (Kids1,x2)<-sG (same ae) (same af) (same 0) ([]:List zB) (same y17)
  pure ((zB.mk y16 0 (zA.mk ([]:List Int) 0) (zE.mk (⟨[]⟩:Str) ([]:List zA)) Kids1),x2)
 partial_fixpoint
def sG(ae:Int)(af:Int)(i:Int)(Kids:List zB)(x1:zK):Option ((List zB×zK)):=do
 if(decide (i<2)) then
  let (y19,y20)<-tC (same x1) (same ae) (W (af - 1))
  let l<-app 112 Kids ([y19]:List zB)
  sG (same ae) (same af) (W (i+1)) (same l) (same y20)
 else
  pure (Kids,x1)
 partial_fixpoint
end
theorem zAO:(∀(r0:zK) (ae:Int) (af:Int) r,tC r0 ae af=some r->∀{I:Imm}{al:Nat}{p c},(S4 I p r0.b c)->RT 141 [vP al 0,vI ae,vI af] I [hB al (cRd r0 p c)] (mK al r))/\(∀(ae:Int) (af:Int) (i:Int) (Kids:List zB) (x1:zK) o,sG ae af i Kids x1=some o->∀{B}{I0 I:Imm}{Q}{y16:Int}{al:Nat}{b:Nat}{b3:Nat}{bg bf aX aR aT},I0.le I->(RL I aX Kids)->(S4 I aR x1.b aT)->NG Q->NO Q->(∀(I':Imm) (Kids1:List zB) (x2:zK) (bD:Option Addr) (bC:Nat) (br:List Value) (bB:Option Addr) (bz:Nat),o=(Kids1,x2)->I0.le I'->(RL I' br Kids1)->(S4 I' bB x2.b bz)->T 53 B Q (.exit 1) I' [hO zB (vS bD Kids1 bC) br,hB b3 [vI y16,vI 0,z0,vI 0,vT ([]),z0,vS bD Kids1 bC],hB al (cRd x2 bB bz),hB b zExpr] [(6,vP b 0),(7,vP b3 0)])->J Tryz.prog 53 B (nav (bodyOf f141) [1,1,1,0,1,0]) Q I [hO zB (vS bg Kids bf) aX,hB b3 [vI y16,vI 0,z0,vI 0,vT ([]),z0,vS bg Kids bf],hB al (cRd x1 aR aT),hB b zExpr] [(0,vP al 0),(1,vI ae),(2,vI af),(6,vP b 0),(7,vP b3 0),(8,vI i)]):=by
 refine tC.mutual_partial_correctness _ _ ?_ ?_
 ·intro F_spec_l3Value_l1 ih_spec_l3Value_l1 r0 ae af r N I al p c h;refine yK func141 λB=>?_;have H:=iS I;refine yH<|uF zExpr ?_;intro b hb;refine zV rfl<|yL<|yB ?_;obtain⟨o0,ar,aw⟩:=zC N;refine rR (λI' ag m'=>∃(t15:Bool) (x:zK) (p1:Option Addr) (c1:Nat),o0=(t15,x)/\I.le I'/\(S4 I' p1 x.b c1)/\ag=[hB b zExpr,hB al (cRd x p1 c1)]/\m'=[(0,vP al 0),(1,vI ae),(2,vI af),(6,vP b 0),(15,.bool t15)]) ?_ ?_
  ·have H:=iS I;refine zI<|zX 3 [] [11] rfl<|xE [11] ar ?_ ?_
   ·intro hc N;exact wG [] [(15,vY)]<|yM<|zJ ⟨_,_,_,_,(zD N).symm,H,h,rfl,rfl⟩
   intro hc N;refine zX 4 [] [12] rfl<|oW (yR [1,0] (ag:=[hB al (cRd r0 p c),hB b zExpr])) ?_;obtain⟨⟨y1,y2⟩,hy,N⟩:=zC N;refine tT (xT r0 4 _ hy h) rfl ?_;rintro aI aj v2 k2 le - ⟨v0,kk,rfl,rfl,rfl,h3⟩ -;have H:=H.trans le;obtain⟨p2,c2,rfl,h4⟩:=zW h3;exact yS [] [15] rfl<|xW (zN [1,0] rfl (by decide))<|yM<|zJ ⟨_,_,_,_,(zD N).symm,H,h4,rfl,rfl⟩
  rintro I0 aj m2 ⟨t15,x,p1,c1,heq,ai,h1,rfl,rfl⟩;subst o0;refine zG<|yJ aw ?_ ?_
  ·intro ay N;refine yB<|yH<|zX 1 [] [16] rfl<|oW (yR [1,0] (ag:=[hB al (cRd x p1 c1),hB b zExpr])) ?_;obtain⟨⟨y4,y5⟩,au,N⟩:=zC N;refine tT (xT x 4 _ au h1) rfl ?_;rintro aP aj v2 k2 aG - ⟨v02,kk1,rfl,rfl,rfl,h6⟩ -;obtain⟨p3,c3,rfl,h7⟩:=zW h6;refine zV rfl<|rX<|xB [18] rfl<|zG<|yJ N ?_ ?_
   ·intro aJ N;refine yH<|zX 1 [] [20] rfl<|mY (rI [1,2,0,99,3]) ?_;intro b1 aZ aL h9;have h7:=h7.mono aL;obtain⟨⟨y7,y8⟩,aB,N⟩:=zC N;refine tT (wC y5 ([1,2,0,99,3]:List Int) _ aB h7 h9) rfl ?_;rintro bq aj v2 k2 aV - ⟨v04,kk2,rfl,rfl,rfl,h11⟩ -;obtain⟨p4,c4,rfl,h12⟩:=zW h11;refine zX 4 [] [23] rfl<|yT 1 [vI 1,vI y7,z0,vI 0,vT ([]),z0,z0] rfl<|zV rfl<|xP<|zS<|zF<|zF ?_;obtain rfl:=zD N;exact xN ⟨_,_,(.cell 1 rfl rfl (by kernel_rfl) ResV.nil),(zN [0] rfl (by decide)),⟨_,_,rfl,rfl,⟨_,rfl,(yG ⟨_,_,_,rfl,(SL.nil _),(SL.nil _),(SL.nil _)⟩)⟩,(xH ⟨_,rfl,h12⟩)⟩⟩
   intro aJ N;refine xB [24] rfl<|zG<|yJ N ?_ ?_
   ·intro bd N;refine yH<|zX 2 [] [26,27] rfl ?_;obtain⟨⟨y10,y11⟩,aK,N⟩:=zC N;refine tT (zBW y5 ae _ aK h7) rfl ?_;rintro bu aj v2 k2 bj - ⟨v06,kk3,rfl,rfl,⟨cs,rfl,h13⟩,h14⟩ -;obtain⟨p5,c5,rfl,h15⟩:=yP h13;obtain⟨p6,c6,rfl,h16⟩:=zW h14;refine zX 4 [] [29] rfl<|yT 1 [vI 2,vI 0,vS p5 y10.Coefs c5,vI y10.Const,vT ([]),z0,z0] rfl<|zV rfl<|xP<|zS<|zF<|zF ?_;obtain rfl:=zD N;exact xN ⟨_,_,(.cell 1 rfl rfl (by kernel_rfl) ResV.nil),(zN [0] rfl (by decide)),⟨_,_,rfl,rfl,⟨_,rfl,(yG ⟨_,_,_,rfl,h15,(SL.nil _),(SL.nil _)⟩)⟩,(xH ⟨_,rfl,h16⟩)⟩⟩
   intro bd N;refine zO<|zQ<|yW<|zX 2 [] [30,31] rfl ?_;obtain⟨⟨y13,y14⟩,aY,N⟩:=zC N;refine tT (gI y5 ae _ aY h7) rfl ?_;rintro I06 aj v2 k2 bt - ⟨v09,kk4,rfl,rfl,⟨aH,rfl,h17⟩,h18⟩ -;obtain⟨p7,c7,rfl,h19⟩:=rS h17;obtain⟨p8,c8,rfl,h20⟩:=zW h18;refine zX 4 [] [33] rfl<|yT 1 [vI 3,vI 0,z0,vI 0,vT y13.Array.l,vS p7 y13.Subs c7,z0] rfl<|zV rfl<|xP<|zF ?_;obtain rfl:=zD N;exact xN ⟨_,_,(.cell 1 rfl rfl (by kernel_rfl) ResV.nil),(zN [0] rfl (by decide)),⟨_,_,rfl,rfl,⟨_,rfl,(yG ⟨_,_,_,rfl,(SL.nil _),h19,(SL.nil _)⟩)⟩,(xH ⟨_,rfl,h20⟩)⟩⟩
  intro ay N;refine zO<|yW<|zX 1 [] [34] rfl<|mY (rI [4,6,5,4]) ?_;intro b2 I07 le7 h22;have h1:=h1.mono le7;refine oW (yR [1,0] (ag:=[hB al (cRd x p1 c1),hB b zExpr])) ?_;obtain⟨⟨y16,y17⟩,bo,N⟩:=zC N;refine tT (wC x ([4,6,5,4]:List Int) _ bo h1 h22) rfl ?_;rintro I08 aj v2 k2 le8 - ⟨v012,kk5,rfl,rfl,rfl,h24⟩ -;obtain⟨p9,c9,rfl,h25⟩:=zW h24;refine zX 4 [] [37] rfl<|uF zExpr ?_;intro b3 hb3;refine yT 0 [vI y16,vI 0,z0,vI 0,vT ([]),z0,z0] rfl<|zV rfl<|yL<|xB [8] rfl<|rX<|gY [(0,vP al 0),(1,vI ae),(2,vI af),(6,vP b 0),(7,vP b3 0),(8,vI 0)]<|zED zB λh26=>?_;obtain⟨aS,ax,aM⟩:=zC N;refine ih_spec_l3Value_l1 ae af 0 ([]:List zB) y17 aS ax iR h26 h25 (λ_ _ _ h=>h) (λ_ _ h=>h) ?_;intro bG Kids1 x2 bD bC br bB bz heq1 le12 h29 h30;subst aS;refine yF<|yW<|sW 1 [1] [(52,vA [vI y16,vI 0,z0,vI 0,vT ([]),z0,vS bD Kids1 bC])]<|yT 3 [vI y16,vI 0,z0,vI 0,vT ([]),z0,vS bD Kids1 bC] rfl<|zV rfl<|xP<|tY 0 rfl ?_;intro I013 le13 hl03;have h40:=SL.of_frozen hl03 le13 h29;have h30:=h30.mono le13;obtain rfl:=zD aM;exact xN ⟨_,_,(.cell 2 rfl rfl (by kernel_rfl) ResV.nil),(zN [1] rfl (by decide)),⟨_,_,rfl,rfl,⟨_,rfl,(yG ⟨_,_,_,rfl,(SL.nil _),(SL.nil _),h40⟩)⟩,(xH ⟨_,rfl,h30⟩)⟩⟩
 intro F_spec_l3Value F_spec_l3Value_l1 ih_spec_l3Value ih_spec_l3Value_l1 ae af i Kids x1 o N B I0 I Q y16 al b b3 bg bf aX aR aT H h27 h28 hg ho hx;refine uQ hg ho<|yB<|xB [39] rfl<|zG<|yJ N ?_ ?_
 ·intro bn N;refine zO<|yL<|wM ?_;obtain⟨⟨y19,y20⟩,hy6,N⟩:=zC N;obtain⟨l,hy7,N⟩:=zC N;refine sU [.p (vP b3 6) [],.p (vS bg Kids bf) [0],.p (vP al 0) [],.p (vI ae) [],.p (vI af) [],.p (vI (W (af - 1))) [],.x (λI' v hx=>∃p14 c14 p15 c15 p16 c16 p17 c17,v=vA (cExpr y19 p14 c14 p15 c15 p16 c16)/\hx=[hB al (cRd y20 p17 c17)]/\(S4 I' p14 y19.Index.Coefs c14)/\(S4 I' p15 y19.Read.Subs c15)/\(S4 I' p16 y19.Kids c16)/\(S4 I' p17 y20.b c17)),.x (λI' v hx=>∃b4,v=vS (some ⟨b4,0,none⟩) ([y19]:List zB) 1/\hx=[]/\(SL I' (vS (some ⟨b4,0,none⟩) ([y19]:List zB) 1) ([y19]:List zB))),.x (λI' v hx=>∃p18 c18 bK,v=vS p18 l c18/\hx=[hO zB (vS p18 l c18) bK]/\(RL I' bK l))] [[],[(0,false)],[],[],[],[(4,false)],[(2,false),(3,false),(5,false),(11,true)],[(6,false)],[(1,false),(7,false),(12,true)]] [hB b3 [vI y16,vI 0,z0,vI 0,vT ([]),z0,vS bg Kids bf],hB b zExpr] [[hB al (cRd x1 aR aT)],[hO zB (vS bg Kids bf) aX]] [(6,true),(8,true)] (yR [1,3,2,0]) ?_ ?_
  ·refine Op<|Op<|Op<|Op<|Op<|Op<|Ox ?_<|Ox ?_<|Ox ?_<|On
   ·rintro I1 hf ai _ _ ⟨rfl,rfl⟩ _ _ ⟨rfl,rfl⟩ _ _ ⟨rfl,rfl⟩ _ _ rfl;refine vQ [44,45,47] rfl ?_;have H:=iS I1;have h28:=h28.mono ai;refine tT (ih_spec_l3Value x1 ae (W (af - 1)) _ hy6 h28) rfl ?_;rintro I09 aj v2 k2 le9 - ⟨v014,kk6,rfl,rfl,⟨bM,rfl,h31⟩,h32⟩ -;have H:=H.trans le9;obtain⟨p14,c14,p15,c15,p16,c16,rfl,h33,h34,h35⟩:=xK h31;obtain⟨p17,c17,rfl,h36⟩:=zW h32;exact tS [hB al (cRd y20 p17 c17)] H ⟨_,_,_,_,_,_,_,_,rfl,rfl,h33,h34,h35,h36⟩
   ·rintro I1 hf ai _ _ ⟨p14,c14,p15,c15,p16,c16,p17,c17,rfl,rfl,h33,h34,h35,h36⟩;refine vQ [48] rfl ?_;have H:=iS I1;refine mY (rc y19 (yG ⟨_,_,_,rfl,h33,h34,h35⟩) rN) ?_;intro b4 bI le10 h38;have H:=H.trans le10;exact tS [] H ⟨_,rfl,rfl,h38⟩
   rintro I1 hf ai _ _ ⟨rfl,rfl⟩ _ _ ⟨b4,rfl,rfl,h38⟩ _ _ rfl;refine vQ [43,49] rfl ?_;have h27:=iM ai h27;obtain⟨aA,k0,k01⟩:=h38;have h38:SL I1 (vS (some ⟨b4,0,none⟩) ([y19]:List zB) 1) ([y19]:List zB):=⟨_,k0,k01⟩;exact zAA 53 7 0 rfl rfl rfl h27 (.inl k0) k01 hy7 λp18 c18 bK h39=>nP (ag:=(hO zB (vS p18 l c18) bK::hB b3 [vI y16,vI 0,z0,vI 0,vT ([]),z0,vS bg Kids bf]::hB b zExpr::hf)) rfl<|tS [hO zB (vS p18 l c18) bK] iR ⟨_,_,_,rfl,rfl,h39⟩
  rintro bJ le11 _ _ ⟨p14,c14,p15,c15,p16,c16,p17,c17,rfl,rfl,h33,h34,h35,h36⟩ _ _ ⟨p18,c18,bK,rfl,rfl,h39⟩;refine vQ [0,1,2,6,7,8,50] rfl ?_;have H:=H.trans le11;exact zX 10 [] [51] rfl<|yT 2 [vI y16,vI 0,z0,vI 0,vT ([]),z0,vS p18 l c18] rfl<|zV rfl<|zQ<|zG<|zI<|yS [] [8] rfl<|uK<|zBv (zN [0,2,1,3] rfl (by decide))<|fW<|ih_spec_l3Value_l1 ae af (W (i+1)) l y20 _ N H h39 h36 hg ho hx
 intro bn N;exact pG<|yM<|hx _ _ _ _ _ _ _ _ (zD N).symm H h27 h28
theorem zAp:∀r0 ae af r,tC r0 ae af=some r->∀{I:Imm}{al:Nat}{p c},(S4 I p r0.b c)->RT 141 [vP al 0,vI ae,vI af] I [hB al (cRd r0 p c)] (mK al r):=zAO.1
def zAP(b0:Nat)(r:zL×zK):KT:=λkk I' ag v=>
 ∃v0 k0,ag=[.blk b0 ⟨k0⟩]/\v=tupV [v0]/\(∃cs,v0=.agg ⟨cs⟩/\Rp.rep I' cs r.1)/\Rp.rep I' k0 r.2
def qK(r0:zK)(ae:Int):Option (zL×zK):=do
 let (y1,y2)<-rL r0 ae
 let (y4,y5)<-xC y2 ([2,3,1,2]:List Int)
 let (y7,y8)<-tC y5 ae y4
 let y9<-uS (zL.mk y1 y7) ae
 if y9 then
  pure ((zL.mk y1 y7),y8)
 else
  let y10<-tW
  pure ((zL.mk (zE.mk (⟨[65]⟩:Str) ([y10]:List zA)) (zB.mk 1 1 (zA.mk ([]:List Int) 0) (zE.mk (⟨[]⟩:Str) ([]:List zA)) ([]:List zB))),y8)
theorem gJ:∀r0 ae r,qK r0 ae=some r->∀{I:Imm}{al:Nat}{p c},(S4 I p r0.b c)->RT 84 [vP al 0,vI ae] I [hB al (cRd r0 p c)] (zAP al r):=by
 intro r0 ae r N I al p c h;unfold qK at N;refine yK func84 λB=>yH<|uF [vT ([]),z0,vI 0,vI 0,z0,vI 0,vT ([]),z0,z0] ?_;intro b hb;refine zV rfl<|yW<|zX 2 [] [6,7] rfl<|oW (yR [1,0] (ag:=[hB al (cRd r0 p c),hB b [vT ([]),z0,vI 0,vI 0,z0,vI 0,vT ([]),z0,z0]])) ?_;obtain⟨⟨y1,y2⟩,hy,N⟩:=zC N;refine tT (gI r0 ae _ hy h) rfl ?_;rintro I0 aj v2 k2 le - ⟨v0,kk,rfl,rfl,⟨cs,rfl,h1⟩,h2⟩ -;obtain⟨p1,c1,rfl,h3⟩:=rS h1;obtain⟨p2,c2,rfl,h4⟩:=zW h2;refine zX 6 [] [9,10,11] rfl<|mY (rI [2,3,1,2]) ?_;intro b1 aI ai h6;have ⟨h3,h4⟩:=m2 ai h3 h4;obtain⟨⟨y4,y5⟩,au,N⟩:=zC N;refine tT (wC y2 ([2,3,1,2]:List Int) _ au h4 h6) rfl ?_;rintro aP aj v2 k2 aG - ⟨v03,kk1,rfl,rfl,rfl,h8⟩ -;have h3:=h3.mono aG;obtain⟨p3,c3,rfl,h9⟩:=zW h8;obtain⟨⟨y7,y8⟩,aB,N⟩:=zC N;refine tT (zAp y5 ae y4 _ aB h9) rfl ?_;rintro aZ aj v2 k2 aL - ⟨v05,kk2,rfl,rfl,⟨aH,rfl,h10⟩,h11⟩ -;have h3:=h3.mono aL;obtain⟨p4,c4,p5,c5,p6,c6,rfl,h12,h13,h14⟩:=xK h10;obtain⟨p7,c7,rfl,h15⟩:=zW h11;refine zX 10 [] [15] rfl<|uF [vT ([]),z0,vI 0,vI 0,z0,vI 0,vT ([]),z0,z0] ?_;intro b2 hb2;refine yT 0 [vT y1.Array.l,vS p1 y1.Subs c1,vI y7.Kind,vI y7.Num,vS p4 y7.Index.Coefs c4,vI y7.Index.Const,vT y7.Read.Array.l,vS p5 y7.Read.Subs c5,vS p6 y7.Kids c6] rfl<|zV rfl<|yL<|yH<|sW 2 [0] [(16,vA [vT y1.Array.l,vS p1 y1.Subs c1,vI y7.Kind,vI y7.Num,vS p4 y7.Index.Coefs c4,vI y7.Index.Const,vT y7.Read.Array.l,vS p5 y7.Read.Subs c5,vS p6 y7.Kids c6]),(17,vI ae)]<|bE N λy9 aK N=>sD (mJ (zL.mk y1 y7) ae _ aK h3 h12 h13 h14) ?_;intro bq aV;have ⟨h3,h12,h13,h14,h15⟩:=m5 aV h3 h12 h13 h14 h15;refine zV rfl<|zG<|yJ N ?_ ?_
 ·intro hc N;refine yH<|sW 1 [0] [(19,vA [vT y1.Array.l,vS p1 y1.Subs c1,vI y7.Kind,vI y7.Num,vS p4 y7.Index.Coefs c4,vI y7.Index.Const,vT y7.Read.Array.l,vS p5 y7.Read.Subs c5,vS p6 y7.Kids c6])]<|yT 2 [vT y1.Array.l,vS p1 y1.Subs c1,vI y7.Kind,vI y7.Num,vS p4 y7.Index.Coefs c4,vI y7.Index.Const,vT y7.Read.Array.l,vS p5 y7.Read.Subs c5,vS p6 y7.Kids c6] rfl<|zV rfl<|xP<|zF ?_;obtain rfl:=zD N;exact xN ⟨_,_,(.cell 2 rfl rfl (by kernel_rfl) ResV.nil),(zN [1] rfl (by decide)),⟨_,_,rfl,rfl,⟨_,rfl,(wZ ⟨_,_,_,_,rfl,h3,h12,h13,h14⟩)⟩,(xH ⟨_,rfl,h15⟩)⟩⟩
 intro hc N;refine zO<|yW<|bE N λy10 aY N=>xS (qS  _ aY ) ?_;rintro bu aj v2 k2 bj - ⟨p8,c8,aX,rfl,rfl,h17⟩ -;have h15:=h15.mono bj;refine nN 0 rfl ?_;intro I06 bt hl01;have h18:=SL.of_frozen hl01 bt h17;have h15:=h15.mono bt;refine jL (cAff y10 p8 c8) zA ?_;intro b3 hb3;have h19:RL I06 (cAff y10 p8 c8) ([y10]:List zA):=⟨(cAff y10 p8 c8),_,rfl,rfl,(zZ ⟨_,rfl,h18⟩),rfl⟩;refine zX 5 [] [24] rfl<|yT 3 [vT ([65]),vS (some ⟨b3,0,none⟩) ([y10]:List zA) 1,vI 1,vI 1,z0,vI 0,vT ([]),z0,z0] rfl<|zV rfl<|xP<|tY 0 rfl ?_;intro I07 le7 hl02;have h20:=SL.of_frozen hl02 le7 h19;have h15:=h15.mono le7;obtain rfl:=zD N;exact xN ⟨_,_,(.cell 2 rfl rfl (by kernel_rfl) ResV.nil),(zN [1] rfl (by decide)),⟨_,_,rfl,rfl,⟨_,rfl,(wZ ⟨_,_,_,_,rfl,h20,(SL.nil _),(SL.nil _),(SL.nil _)⟩)⟩,(xH ⟨_,rfl,h15⟩)⟩⟩
def oT(r:zB):KT:=λkk I' ag v=>
 ∃a0_2 c0_2 a0_5 c0_5 a0_6 c0_6 s0_6,ag=[.osl (.slice a0_6 r.Kids.length c0_6) (Rp.sz zB) s0_6]/\v=tupV [(.agg ⟨[.int .i64 r.Kind,.int .i64 r.Num,.slice a0_2 r.Index.Coefs.length c0_2,.int .i64 r.Index.Const,.string ⟨⟨r.Read.Array.l⟩⟩,.slice a0_5 r.Read.Subs.length c0_5,.slice a0_6 r.Kids.length c0_6]⟩)]/\SL I' (.slice a0_2 r.Index.Coefs.length c0_2) r.Index.Coefs/\SL I' (.slice a0_5 r.Read.Subs.length c0_5) r.Read.Subs/\RepL (Rp.rep I') (Rp.sz zB) s0_6 r.Kids
mutual
def tD(e0:zB):Option (zB):=do
 let y<-vH e0.Index
 let y1<-vJ e0.Read
 let Kids1<-wD (same e0) (same 0) ([]:List zB)
 pure (zB.mk e0.Kind e0.Num y (zE.mk y1.Array y1.Subs) Kids1)
 partial_fixpoint
def wD(e0:zB)(i:Int)(Kids:List zB):Option (List zB):=do
 if(decide (i<(e0.Kids.length:Int))) then
  let x<-idx e0.Kids i
  let y2<-tD (same x)
  let l<-app 112 Kids ([y2]:List zB)
  wD (same e0) (W (i+1)) (same l)
 else
  pure (id Kids)
 partial_fixpoint
end
theorem fG:(∀(e0:zB) r,tD e0=some r->∀{I:Imm}{p c p1 c1 p2 c2},(S4 I p e0.Index.Coefs c)->(S4 I p1 e0.Read.Subs c1)->(S4 I p2 e0.Kids c2)->RT 218 [vA (cExpr e0 p c p1 c1 p2 c2)] I [] (oT  r))/\(∀(e0:zB) (i:Int) (Kids:List zB) o,wD e0 i Kids=some o->∀{B}{I0 I:Imm}{Q}{y:zA}{y1:zE}{p c p1 c1 p2 c2}{b:Nat}{b1:Nat}{p31 c31 p41 c41 cs11}{b2:Nat}{p5 c5 aX},I0.le I->(S4 I p31 y.Coefs c31)->(RL I cs11 y1.Subs)->(S4 I p e0.Index.Coefs c)->(S4 I p1 e0.Read.Subs c1)->(S4 I p2 e0.Kids c2)->(RL I aX Kids)->NG Q->NO Q->(∀(I':Imm) (Kids1:List zB) (p6:Option Addr) (c6:Nat) (br:List Value),o=Kids1->I0.le I'->(RL I' br Kids1)->T 35 B Q (.exit 0) I' [hO zB (vS p6 Kids1 c6) br,hB b2 [vI e0.Kind,vI e0.Num,vS p31 y.Coefs c31,vI y.Const,vT y1.Array.l,vS p41 y1.Subs c41,vS p6 Kids1 c6],hO zA (vS p41 y1.Subs c41) cs11,hB b1 zExpr] [(2,vP b1 0),(3,vP b2 0)])->J Tryz.prog 35 B (nav (bodyOf f218) [1,1,0,1,0]) Q I [hO zB (vS p5 Kids c5) aX,hB b2 [vI e0.Kind,vI e0.Num,vS p31 y.Coefs c31,vI y.Const,vT y1.Array.l,vS p41 y1.Subs c41,vS p5 Kids c5],hO zA (vS p41 y1.Subs c41) cs11,hB b1 zExpr,hB b (cExpr e0 p c p1 c1 p2 c2)] [(1,vP b 0),(2,vP b1 0),(3,vP b2 0),(4,vI i)]):=by
 refine tD.mutual_partial_correctness _ _ ?_ ?_
 ·intro F_spec_l3CopyExpr_l1 ih_spec_l3CopyExpr_l1 e0 r N I p c p1 c1 p2 c2 h h1 h2;refine yK func218 λB=>?_;have H:=iS I;refine yH<|sM (cExpr e0 p c p1 c1 p2 c2) ?_;intro b hb;refine uF zExpr ?_;intro b1 hb1;refine zV rfl<|zG<|yB ?_;obtain⟨y,hy,N⟩:=zC N;obtain⟨y1,au,N⟩:=zC N;refine sU [.p (vP b 0) [],.p (vI e0.Kind) [1],.p (vP b 1) [],.p (vI e0.Num) [1],.p (vP b 2) [],.p (vA (cAff e0.Index p c)) [1],.x (eVAff y),.p (vP b 4) [],.p (vA (cAccess e0.Read p1 c1)) [1],.x (λI' v hx=>∃p4 c4 aH,v=vA (cAccess y1 p4 c4)/\hx=[hO zA (vS p4 y1.Subs c4) aH]/\(RL I' aH y1.Subs)),.x (λI' v hx=>∃p31 c31 p41 c41 cs11,v=vA [vI e0.Kind,vI e0.Num,vS p31 y.Coefs c31,vI y.Const,vT y1.Array.l,vS p41 y1.Subs c41,z0]/\hx=[hO zA (vS p41 y1.Subs c41) cs11]/\(S4 I' p31 y.Coefs c31)/\(RL I' cs11 y1.Subs)),.x (λI' v hx=>∃b2,v=vP b2 0/\hx=[hB b2 zExpr])] [[],[(0,false)],[],[(2,false)],[],[(4,false)],[(5,false)],[],[(7,false)],[(8,false)],[(1,false),(3,false),(6,false),(9,true)],[]] [hB b1 zExpr,hB b (cExpr e0 p c p1 c1 p2 c2)] [] [(10,true),(11,true)] (yR [0,1]) ?_ ?_
  ·refine Op<|Op<|Op<|Op<|Op<|Op<|Ox ?_<|Op<|Op<|Ox ?_<|Ox ?_<|Ox ?_<|On
   ·intro I1 hf ai;refine vQ [10] rfl ?_;have H:=iS I1;have h:=h.mono ai;refine xS (oO e0.Index _ hy h) ?_;rintro I0 aj v2 k2 le - ⟨v0,rfl,rfl,⟨cs,rfl,h3⟩⟩ -;have H:=H.trans le;obtain⟨p3,c3,rfl,h4⟩:=yP h3;exact tS [] H ⟨_,_,rfl,rfl,h4⟩
   ·intro I1 hf ai;refine vQ [13] rfl ?_;have H:=iS I1;have h1:=h1.mono ai;refine xS (oQ e0.Read _ au h1) ?_;rintro aI aj v2 k2 ai - ⟨p4,c4,aH,rfl,rfl,h5⟩ -;have H:=H.trans ai;exact tS [hO zA (vS p4 y1.Subs c4) aH] H ⟨_,_,_,rfl,rfl,h5⟩
   ·rintro I1 hf ai _ _ ⟨rfl,rfl⟩ _ _ ⟨rfl,rfl⟩ _ _ ⟨p3,c3,rfl,rfl,h4⟩ _ _ ⟨p4,c4,aH,rfl,rfl,h5⟩;exact vQ [6,8,11,14] rfl<|R_p 11 [(15,vA [vI e0.Kind,vI e0.Num,vS p3 y.Coefs c3,vI y.Const,vT y1.Array.l,vS p4 y1.Subs c4,z0])]<|tS [hO zA (vS p4 y1.Subs c4) aH] iR ⟨_,_,_,_,_,rfl,rfl,h4,h5⟩
   intro I1 hf ai;refine I_h []<|uF zExpr ?_;intro b2 hb2;exact tS [hB b2 zExpr] iR ⟨_,rfl,rfl⟩
  rintro aP aG _ _ ⟨p31,c31,p41,c41,cs11,rfl,rfl,h41,h51⟩ _ _ ⟨b2,rfl,rfl⟩;refine vQ [1,2,3,15] rfl ?_;have ⟨h,h1,h2⟩:=m3 aG h h1 h2;refine yT 0 [vI e0.Kind,vI e0.Num,vS p31 y.Coefs c31,vI y.Const,vT y1.Array.l,vS p41 y1.Subs c41,z0] rfl<|zV rfl<|yL<|xB [4] rfl<|rX<|gY [(1,vP b 0),(2,vP b1 0),(3,vP b2 0),(4,vI 0)]<|zED zB λh6=>?_;obtain⟨o0,ar,aM⟩:=zC N;refine ih_spec_l3CopyExpr_l1 e0 0 ([]:List zB) o0 ar iR h41 h51 h h1 h2 h6 (λ_ _ _ h=>h) (λ_ _ h=>h) ?_;intro I07 Kids1 p6 c6 br heq le7 h8;subst o0;have ⟨h41,h51⟩:=m2 le7 h41 h51;refine yF<|yW<|sW 1 [1] [(34,vA [vI e0.Kind,vI e0.Num,vS p31 y.Coefs c31,vI y.Const,vT y1.Array.l,vS p41 y1.Subs c41,vS p6 Kids1 c6])]<|yT 3 [vI e0.Kind,vI e0.Num,vS p31 y.Coefs c31,vI y.Const,vT y1.Array.l,vS p41 y1.Subs c41,vS p6 Kids1 c6] rfl<|zV rfl<|xP<|tY 2 rfl ?_;intro I08 le8 hl02;have h19:=SL.of_frozen hl02 le8 h51;have ⟨h8,h41⟩:=m2 le8 h8 h41;obtain rfl:=zD aM;exact xN ⟨_,_,(.cell 2 rfl rfl (by kernel_rfl) ResV.nil),(zN [0] rfl (by decide)),⟨_,_,_,_,_,_,_,rfl,rfl,h41,h19,h8⟩⟩
 intro F_spec_l3CopyExpr F_spec_l3CopyExpr_l1 ih_spec_l3CopyExpr ih_spec_l3CopyExpr_l1 e0 i Kids o N B I0 I Q y y1 p c p1 c1 p2 c2 b b1 p31 c31 p41 c41 cs11 b2 p5 c5 aX H h41 h51 h h1 h2 h7 hg ho hx;refine uQ hg ho<|yB<|yH<|yS [4] [20] rfl<|zG<|yJ N ?_ ?_
 ·intro hc N;refine zO<|yL<|wM ?_;obtain⟨x,aB,N⟩:=zC N;obtain⟨y2,aK,N⟩:=zC N;obtain⟨l,aY,N⟩:=zC N;refine sU [.p (vP b2 6) [],.p (vS p5 Kids c5) [0],.p (vP b 6) [],.p (vS p2 e0.Kids c2) [3],.p (vI i) [],.x (ePExpr x),.x (eVExpr x),.x (λI' v hx=>∃bg bf aR aT bD bC bM,v=vA (cExpr y2 bg bf aR aT bD bC)/\hx=[hO zB (vS bD y2.Kids bC) bM]/\(S4 I' bg y2.Index.Coefs bf)/\(S4 I' aR y2.Read.Subs aT)/\(RL I' bM y2.Kids)),.x (λI' v hx=>∃b3,v=vS (some ⟨b3,0,none⟩) ([y2]:List zB) 1/\hx=[]/\(SL I' (vS (some ⟨b3,0,none⟩) ([y2]:List zB) 1) ([y2]:List zB))),.x (λI' v hx=>∃bB bz bK,v=vS bB l bz/\hx=[hO zB (vS bB l bz) bK]/\(RL I' bK l))] [[],[(0,false)],[],[(2,false)],[],[(3,false),(4,false)],[(5,false)],[(6,false)],[(7,true)],[(1,false),(8,false),(12,true)]] [hB b2 [vI e0.Kind,vI e0.Num,vS p31 y.Coefs c31,vI y.Const,vT y1.Array.l,vS p41 y1.Subs c41,vS p5 Kids c5],hO zA (vS p41 y1.Subs c41) cs11,hB b1 zExpr,hB b (cExpr e0 p c p1 c1 p2 c2)] [[hO zB (vS p5 Kids c5) aX]] [(9,true)] (yR [1,2,3,4,0]) ?_ ?_
  ·refine Op<|Op<|Op<|Op<|Op<|Ox ?_<|Ox ?_<|Ox ?_<|Ox ?_<|Ox ?_<|On
   ·intro I1 hf ai;refine vQ [26,27] rfl ?_;have h2:=h2.mono ai;refine qY rfl rfl h2 aB ?_;intro ad aA az ap;obtain⟨p7,c7,p8,c8,p9,c9,rfl,h9,h10,h11⟩:=xK ap;exact tS [] iR ⟨_,_,_,_,_,_,_,rfl,rfl,az,h9,h10,h11⟩
   ·rintro I1 hf ai _ _ ⟨ad,p7,c7,p8,c8,p9,c9,rfl,rfl,az,h9,h10,h11⟩;exact vQ [28] rfl<|qU 0 az (cExpr x p7 c7 p8 c8 p9 c9) (vA (cExpr x p7 c7 p8 c8 p9 c9)) rfl<|tS [] iR ⟨_,_,_,_,_,_,rfl,rfl,h9,h10,h11⟩
   ·rintro I1 hf ai _ _ ⟨p71,c71,p81,c81,p91,c91,rfl,rfl,h91,h101,h111⟩;refine vQ [29] rfl ?_;have H:=iS I1;refine xS (ih_spec_l3CopyExpr x _ aK h91 h101 h111) ?_;rintro aZ aj v2 k2 aL - ⟨bg,bf,aR,aT,bD,bC,bM,rfl,rfl,h12,h13,h14⟩ -;have H:=H.trans aL;exact tS [hO zB (vS bD y2.Kids bC) bM] H ⟨_,_,_,_,_,_,_,rfl,rfl,h12,h13,h14⟩
   ·rintro I1 hf ai _ _ ⟨bg,bf,aR,aT,bD,bC,bM,rfl,rfl,h12,h13,h14⟩;refine vQ [30] rfl ?_;have H:=iS I1;refine nN 0 rfl ?_;intro bq aV hl0;have h15:=SL.of_frozen hl0 aV h14;have ⟨h12,h13,H⟩:=m3 aV h12 h13 H;refine mY (rc y2 (yG ⟨_,_,_,rfl,h12,h13,h15⟩) rN) ?_;intro b3 bu bj h17;have H:=H.trans bj;exact tS [] H ⟨_,rfl,rfl,h17⟩
   rintro I1 hf ai _ _ ⟨rfl,rfl⟩ _ _ ⟨b3,rfl,rfl,h17⟩ _ _ rfl;refine vQ [24,31] rfl ?_;have h7:=iM ai h7;obtain⟨bv,k0,k01⟩:=h17;have h17:SL I1 (vS (some ⟨b3,0,none⟩) ([y2]:List zB) 1) ([y2]:List zB):=⟨_,k0,k01⟩;exact zAA 53 7 0 rfl rfl rfl h7 (.inl k0) k01 aY λbB bz bK h18=>nP (ag:=(hO zB (vS bB l bz) bK::hB b2 [vI e0.Kind,vI e0.Num,vS p31 y.Coefs c31,vI y.Const,vT y1.Array.l,vS p41 y1.Subs c41,vS p5 Kids c5]::hO zA (vS p41 y1.Subs c41) cs11::hB b1 zExpr::hB b (cExpr e0 p c p1 c1 p2 c2)::hf)) rfl<|tS [hO zB (vS bB l bz) bK] iR ⟨_,_,_,rfl,rfl,h18⟩
  rintro I06 bt _ _ ⟨bB,bz,bK,rfl,rfl,h18⟩;refine vQ [1,2,3,4,32] rfl ?_;have ⟨h41,h51,h,h1,h2,H⟩:=m6 bt h41 h51 h h1 h2 H;exact zX 11 [] [33] rfl<|yT 1 [vI e0.Kind,vI e0.Num,vS p31 y.Coefs c31,vI y.Const,vT y1.Array.l,vS p41 y1.Subs c41,vS bB l bz] rfl<|zV rfl<|zQ<|zG<|zI<|yS [] [4] rfl<|uK<|fW<|ih_spec_l3CopyExpr_l1 e0 (W (i+1)) l _ N H h41 h51 h h1 h2 h18 hg ho hx
 intro hc N;exact pG<|xW (zN [0,1,2,3] rfl (by decide))<|yM<|hx _ _ _ _ _ (zD N).symm H h7
theorem eD:∀e0 r,tD e0=some r->∀{I:Imm}{p c p1 c1 p2 c2},(S4 I p e0.Index.Coefs c)->(S4 I p1 e0.Read.Subs c1)->(S4 I p2 e0.Kids c2)->RT 218 [vA (cExpr e0 p c p1 c1 p2 c2)] I [] (oT  r):=fG.1
def zAQ(r:zL):KT:=λkk I' ag v=>
 ∃a0_1 c0_1 s0_1 a0_4 c0_4 a0_7 c0_7 a0_8 c0_8 s0_8,ag=[.osl (.slice a0_1 r.Write.Subs.length c0_1) (Rp.sz zA) s0_1,.osl (.slice a0_8 r.Value.Kids.length c0_8) (Rp.sz zB) s0_8]/\v=tupV [(.agg ⟨[.string ⟨⟨r.Write.Array.l⟩⟩,.slice a0_1 r.Write.Subs.length c0_1,.int .i64 r.Value.Kind,.int .i64 r.Value.Num,.slice a0_4 r.Value.Index.Coefs.length c0_4,.int .i64 r.Value.Index.Const,.string ⟨⟨r.Value.Read.Array.l⟩⟩,.slice a0_7 r.Value.Read.Subs.length c0_7,.slice a0_8 r.Value.Kids.length c0_8]⟩)]/\RepL (Rp.rep I') (Rp.sz zA) s0_1 r.Write.Subs/\SL I' (.slice a0_4 r.Value.Index.Coefs.length c0_4) r.Value.Index.Coefs/\SL I' (.slice a0_7 r.Value.Read.Subs.length c0_7) r.Value.Read.Subs/\RepL (Rp.rep I') (Rp.sz zB) s0_8 r.Value.Kids
def pB(s:zL):Option (zL):=do
 let y<-vJ s.Write
 let y1<-tD s.Value
 pure (zL.mk y y1)
theorem zBX:∀s r,pB s=some r->∀{I:Imm}{p c p1 c1 p2 c2 p3 c3},(S4 I p s.Write.Subs c)->(S4 I p1 s.Value.Index.Coefs c1)->(S4 I p2 s.Value.Read.Subs c2)->(S4 I p3 s.Value.Kids c3)->RT 180 [vA (cStmt s p c p1 c1 p2 c2 p3 c3)] I [] (zAQ  r):=by
 intro s r N I p c p1 c1 p2 c2 p3 c3 h h1 h2 h3;unfold pB at N;refine yK func180 λB=>?_;have H:=iS I;refine yH<|sM (cStmt s p c p1 c1 p2 c2 p3 c3) ?_;intro b hb;refine uF [vT ([]),z0,vI 0,vI 0,z0,vI 0,vT ([]),z0,z0] ?_;intro b1 hb1;refine zV rfl<|zG<|yB ?_;obtain⟨y,hy,N⟩:=zC N;obtain⟨y1,au,N⟩:=zC N;refine sU [.p (vP b 0) [],.p (vA (cAccess s.Write p c)) [1],.x (λI' v hx=>∃p4 c4 cs,v=vA (cAccess y p4 c4)/\hx=[hO zA (vS p4 y.Subs c4) cs]/\(RL I' cs y.Subs)),.p (vP b 2) [],.p (vA (cExpr s.Value p1 c1 p2 c2 p3 c3)) [1],.x (λI' v hx=>∃p5 c5 p6 c6 p7 c7 aH,v=vA (cExpr y1 p5 c5 p6 c6 p7 c7)/\hx=[hO zB (vS p7 y1.Kids c7) aH]/\(S4 I' p5 y1.Index.Coefs c5)/\(S4 I' p6 y1.Read.Subs c6)/\(RL I' aH y1.Kids)),.x (λI' v hx=>∃p41 c41 p51 c51 p61 c61 p71 c71 cs11 aX,v=vA [vT y.Array.l,vS p41 y.Subs c41,vI y1.Kind,vI y1.Num,vS p51 y1.Index.Coefs c51,vI y1.Index.Const,vT y1.Read.Array.l,vS p61 y1.Read.Subs c61,vS p71 y1.Kids c71]/\hx=[hO zB (vS p71 y1.Kids c71) cs11,hO zA (vS p41 y.Subs c41) aX]/\(RL I' aX y.Subs)/\(S4 I' p51 y1.Index.Coefs c51)/\(S4 I' p61 y1.Read.Subs c61)/\(RL I' cs11 y1.Kids))] [[],[(0,false)],[(1,false)],[],[(3,false)],[(4,false)],[(2,true),(5,true)]] [hB b1 [vT ([]),z0,vI 0,vI 0,z0,vI 0,vT ([]),z0,z0],hB b (cStmt s p c p1 c1 p2 c2 p3 c3)] [] [(6,true)] (yR [0,1]) ?_ ?_
 ·refine Op<|Op<|Ox ?_<|Op<|Op<|Ox ?_<|Ox ?_<|On
  ·intro I1 hf ai;refine vQ [4] rfl ?_;have H:=iS I1;have h:=h.mono ai;refine xS (oQ s.Write _ hy h) ?_;rintro I0 aj v2 k2 le - ⟨p4,c4,cs,rfl,rfl,h4⟩ -;have H:=H.trans le;exact tS [hO zA (vS p4 y.Subs c4) cs] H ⟨_,_,_,rfl,rfl,h4⟩
  ·intro I1 hf ai;refine vQ [7] rfl ?_;have H:=iS I1;have ⟨h1,h2,h3⟩:=m3 ai h1 h2 h3;refine xS (eD s.Value _ au h1 h2 h3) ?_;rintro aI aj v2 k2 ai - ⟨p5,c5,p6,c6,p7,c7,aH,rfl,rfl,h5,h6,h7⟩ -;have H:=H.trans ai;exact tS [hO zB (vS p7 y1.Kids c7) aH] H ⟨_,_,_,_,_,_,_,rfl,rfl,h5,h6,h7⟩
  rintro I1 hf ai _ _ ⟨p4,c4,cs,rfl,rfl,h4⟩ _ _ ⟨p5,c5,p6,c6,p7,c7,aH,rfl,rfl,h5,h6,h7⟩;exact vQ [5,8] rfl<|R_p 7 [(9,vA [vT y.Array.l,vS p4 y.Subs c4,vI y1.Kind,vI y1.Num,vS p5 y1.Index.Coefs c5,vI y1.Index.Const,vT y1.Read.Array.l,vS p6 y1.Read.Subs c6,vS p7 y1.Kids c7])]<|tS [hO zB (vS p7 y1.Kids c7) aH,hO zA (vS p4 y.Subs c4) cs] iR ⟨_,_,_,_,_,_,_,_,_,_,rfl,rfl,h4,h5,h6,h7⟩
 rintro aP aG _ _ ⟨p41,c41,p51,c51,p61,c61,p71,c71,cs11,aX,rfl,rfl,h41,h51,h61,h71⟩;refine vQ [2,9] rfl ?_;refine yT 2 [vT y.Array.l,vS p41 y.Subs c41,vI y1.Kind,vI y1.Num,vS p51 y1.Index.Coefs c51,vI y1.Index.Const,vT y1.Read.Array.l,vS p61 y1.Read.Subs c61,vS p71 y1.Kids c71] rfl<|zV rfl<|zG<|yX ?_;obtain rfl:=zD N;exact xN ⟨_,_,(.cell 2 rfl rfl (by kernel_rfl) ResV.nil),(zN [1,0] rfl (by decide)),⟨_,_,_,_,_,_,_,_,_,_,rfl,rfl,h41,h51,h61,h71⟩⟩
end Go.LN
