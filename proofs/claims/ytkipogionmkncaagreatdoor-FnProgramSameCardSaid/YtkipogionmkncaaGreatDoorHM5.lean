/- Helper of the proof (see the last text). -/
import Derived.Test.YtkipogionmkncaaGreatDoorHM4
set_option linter.unusedVariables false
set_option linter.unusedSimpArgs false
namespace Go.LN
open Go.Proofs Go.Proofs.Tryz
set_option maxRecDepth 20000
def zAP(b0:Nat)(r:zD×zK):KT:=λkk I' ai v=>
 ∃v0 k0,ai=[.blk b0 ⟨k0⟩]/\v=tupV [v0]/\(∃cs,v0=.agg ⟨cs⟩/\Rp.rep I' cs r.1)/\Rp.rep I' k0 r.2
mutual
def qS(r0:zK)(aa:Int)(aj:Int):Option (zD×zK):=do
 let (t15,x)<-(do
  if(decide (aj<2)) then
   pure (true,r0)
  else
   let (y1,y2)<-xC r0 4
   pure ((y1==0),y2)
    : Option (Bool×zK))
 if t15 then
  let (y4,y5)<-xC x 4
  if(y4==0) then
   let (y7,y8)<-xD y5 ([1,2,0,99,3]:List Int)
   pure ((zD.mk 1 y7 (zA.mk ([]:List Int) 0) (zH.mk (⟨[]⟩:Str) ([]:List zA)) ([]:List zD)),y8)
  else
   if(y4==1) then
    let (y10,y11)<-jV y5 aa
    pure ((zD.mk 2 0 y10 (zH.mk (⟨[]⟩:Str) ([]:List zA)) ([]:List zD)),y11)
   else
    let (y13,y14)<-kH y5 aa
    pure ((zD.mk 3 0 (zA.mk ([]:List Int) 0) y13 ([]:List zD)),y14)
 else
  let (y16,y17)<-xD x ([4,6,5,4]:List Int)
  let (Kids1,x2)<-oX (same aa) (same aj) (same 0) ([]:List zD) (same y17)
  pure ((zD.mk y16 0 (zA.mk ([]:List Int) 0) (zH.mk (⟨[]⟩:Str) ([]:List zA)) Kids1),x2)
 partial_fixpoint
def oX(aa:Int)(aj:Int)(i:Int)(Kids:List zD)(x1:zK):Option ((List zD×zK)):=do
 if(decide (i<2)) then
  let (y19,y20)<-qS (same x1) (same aa) (W (aj - 1))
  let l<-app 112 Kids ([y19]:List zD)
  oX (same aa) (same aj) (W (i+1)) (same l) (same y20)
 else
  pure (Kids,x1)
 partial_fixpoint
end
theorem zET:(∀(r0:zK) (aa:Int) (aj:Int) r,qS r0 aa aj=some r->∀{I:Imm}{am:Nat}{p c},(S4 I p r0.b c)->RT 141 [vP am 0,vI aa,vI aj] I [hB am (cRd r0 p c)] (zAP am r))/\(∀(aa:Int) (aj:Int) (i:Int) (Kids:List zD) (x1:zK) o,oX aa aj i Kids x1=some o->∀{B}{I0 I:Imm}{Q}{y16:Int}{am:Nat}{b:Nat}{b3:Nat}{aZ ba bf aT aU},I0.le I->(RL I bf Kids)->(S4 I aT x1.b aU)->NG Q->NO Q->(∀(I':Imm) (Kids1:List zD) (x2:zK) (bv:Option Addr) (bc:Nat) (bd:List Value) (bb:Option Addr) (bm:Nat),o=(Kids1,x2)->I0.le I'->(RL I' bd Kids1)->(S4 I' bb x2.b bm)->T 53 B Q (.exit 1) I' [hO zD (vS bv Kids1 bc) bd,hB b3 [vI y16,vI 0,z0,vI 0,vT ([]),z0,vS bv Kids1 bc],hB am (cRd x2 bb bm),hB b zExpr] [(6,vP b 0),(7,vP b3 0)])->J Tryz.prog 53 B (nav (bodyOf f141) [1,1,1,0,1,0]) Q I [hO zD (vS aZ Kids ba) bf,hB b3 [vI y16,vI 0,z0,vI 0,vT ([]),z0,vS aZ Kids ba],hB am (cRd x1 aT aU),hB b zExpr] [(0,vP am 0),(1,vI aa),(2,vI aj),(6,vP b 0),(7,vP b3 0),(8,vI i)]):=by
 refine qS.mutual_partial_correctness _ _ ?_ ?_
 ·intro F_spec_l3Value_l1 ih_spec_l3Value_l1 r0 aa aj r N I am p c h;refine yP func141 λB=>?_;have H:=iS I;refine yE<|vG zExpr ?_;intro b hb;refine yB rfl<|zW<|yA ?_;obtain⟨o0,az,aM⟩:=zC N;refine nH (λI' ai m'=>∃(t15:Bool) (x:zK) (p1:Option Addr) (c1:Nat),o0=(t15,x)/\I.le I'/\(S4 I' p1 x.b c1)/\ai=[hB b zExpr,hB am (cRd x p1 c1)]/\m'=[(0,vP am 0),(1,vI aa),(2,vI aj),(6,vP b 0),(15,.bool t15)]) ?_ ?_
  ·have H:=iS I;refine zL<|yG 3 [] [11] rfl<|wC [11] az ?_ ?_
   ·intro hc N;exact wN [] [(15,vY)]<|yS<|zU ⟨_,_,_,_,(zB N).symm,H,h,rfl,rfl⟩
   intro hc N;refine yG 4 [] [12] rfl<|rS (zY [1,0] (ai:=[hB am (cRd r0 p c),hB b zExpr])) ?_;obtain⟨⟨y1,y2⟩,hy,N⟩:=zC N;refine sB (xY r0 4 _ hy h) rfl ?_;rintro aP ax v2 k2 le - ⟨v0,kk,rfl,rfl,rfl,h3⟩ -;have H:=H.trans le;obtain⟨p2,c2,rfl,h4⟩:=zZ h3;exact yQ [] [15] rfl<|wD (zV [1,0] rfl (by decide))<|yS<|zU ⟨_,_,_,_,(zB N).symm,H,h4,rfl,rfl⟩
  rintro I0 ax m2 ⟨t15,x,p1,c1,heq,af,h1,rfl,rfl⟩;subst o0;refine zI<|yC aM ?_ ?_
  ·intro aD N;refine yA<|yE<|yG 1 [] [16] rfl<|rS (zY [1,0] (ai:=[hB am (cRd x p1 c1),hB b zExpr])) ?_;obtain⟨⟨y4,y5⟩,ay,N⟩:=zC N;refine sB (xY x 4 _ ay h1) rfl ?_;rintro aS ax v2 k2 aE - ⟨v02,kk1,rfl,rfl,rfl,h6⟩ -;obtain⟨p3,c3,rfl,h7⟩:=zZ h6;refine yB rfl<|wS<|yJ [18] rfl<|zI<|yC N ?_ ?_
   ·intro aQ N;refine yE<|yG 1 [] [20] rfl<|mX (rI [1,2,0,99,3]) ?_;intro b1 bw aJ h9;have h7:=h7.mono aJ;obtain⟨⟨y7,y8⟩,aI,N⟩:=zC N;refine sB (xP y5 ([1,2,0,99,3]:List Int) _ aI h7 h9) rfl ?_;rintro bI ax v2 k2 aX - ⟨v04,kk2,rfl,rfl,rfl,h11⟩ -;obtain⟨p4,c4,rfl,h12⟩:=zZ h11;refine yG 4 [] [23] rfl<|xW 1 [vI 1,vI y7,z0,vI 0,vT ([]),z0,z0] rfl<|yB rfl<|xJ<|zR<|zF<|zF ?_;obtain rfl:=zB N;exact xL ⟨_,_,(.cell 1 rfl rfl (by kernel_rfl) ResV.nil),(zV [0] rfl (by decide)),⟨_,_,rfl,rfl,⟨_,rfl,(wK ⟨_,_,_,rfl,(SL.nil _),(SL.nil _),(SL.nil _)⟩)⟩,(yZ ⟨_,rfl,h12⟩)⟩⟩
   intro aQ N;refine yJ [24] rfl<|zI<|yC N ?_ ?_
   ·intro bu N;refine yE<|yG 2 [] [26,27] rfl ?_;obtain⟨⟨y10,y11⟩,aW,N⟩:=zC N;refine sB (zFa y5 aa _ aW h7) rfl ?_;rintro bL ax v2 k2 bt - ⟨v06,kk3,rfl,rfl,⟨cs,rfl,h13⟩,h14⟩ -;obtain⟨p5,c5,rfl,h15⟩:=yD h13;obtain⟨p6,c6,rfl,h16⟩:=zZ h14;refine yG 4 [] [29] rfl<|xW 1 [vI 2,vI 0,vS p5 y10.Coefs c5,vI y10.Const,vT ([]),z0,z0] rfl<|yB rfl<|xJ<|zR<|zF<|zF ?_;obtain rfl:=zB N;exact xL ⟨_,_,(.cell 1 rfl rfl (by kernel_rfl) ResV.nil),(zV [0] rfl (by decide)),⟨_,_,rfl,rfl,⟨_,rfl,(wK ⟨_,_,_,rfl,h15,(SL.nil _),(SL.nil _)⟩)⟩,(yZ ⟨_,rfl,h16⟩)⟩⟩
   intro bu N;refine zS<|zO<|xN<|yG 2 [] [30,31] rfl ?_;obtain⟨⟨y13,y14⟩,br,N⟩:=zC N;refine sB (zBk y5 aa _ br h7) rfl ?_;rintro I06 ax v2 k2 bx - ⟨v09,kk4,rfl,rfl,⟨aL,rfl,h17⟩,h18⟩ -;obtain⟨p7,c7,rfl,h19⟩:=nW h17;obtain⟨p8,c8,rfl,h20⟩:=zZ h18;refine yG 4 [] [33] rfl<|xW 1 [vI 3,vI 0,z0,vI 0,vT y13.Array.l,vS p7 y13.Subs c7,z0] rfl<|yB rfl<|xJ<|zF ?_;obtain rfl:=zB N;exact xL ⟨_,_,(.cell 1 rfl rfl (by kernel_rfl) ResV.nil),(zV [0] rfl (by decide)),⟨_,_,rfl,rfl,⟨_,rfl,(wK ⟨_,_,_,rfl,(SL.nil _),h19,(SL.nil _)⟩)⟩,(yZ ⟨_,rfl,h20⟩)⟩⟩
  intro aD N;refine zS<|xN<|yG 1 [] [34] rfl<|mX (rI [4,6,5,4]) ?_;intro b2 I07 le7 h22;have h1:=h1.mono le7;refine rS (zY [1,0] (ai:=[hB am (cRd x p1 c1),hB b zExpr])) ?_;obtain⟨⟨y16,y17⟩,bB,N⟩:=zC N;refine sB (xP x ([4,6,5,4]:List Int) _ bB h1 h22) rfl ?_;rintro I08 ax v2 k2 le8 - ⟨v012,kk5,rfl,rfl,rfl,h24⟩ -;obtain⟨p9,c9,rfl,h25⟩:=zZ h24;refine yG 4 [] [37] rfl<|vG zExpr ?_;intro b3 hb3;refine xW 0 [vI y16,vI 0,z0,vI 0,vT ([]),z0,z0] rfl<|yB rfl<|zW<|yJ [8] rfl<|wS<|oR [(0,vP am 0),(1,vI aa),(2,vI aj),(6,vP b 0),(7,vP b3 0),(8,vI 0)]<|zAm zD λh26=>?_;obtain⟨aO,aB,aF⟩:=zC N;refine ih_spec_l3Value_l1 aa aj 0 ([]:List zD) y17 aO aB iR h26 h25 (λ_ _ _ h=>h) (λ_ _ h=>h) ?_;intro bV Kids1 x2 bv bc bd bb bm heq1 le12 h29 h30;subst aO;refine zT<|xN<|qX 1 [1] [(52,vA [vI y16,vI 0,z0,vI 0,vT ([]),z0,vS bv Kids1 bc])]<|xW 3 [vI y16,vI 0,z0,vI 0,vT ([]),z0,vS bv Kids1 bc] rfl<|yB rfl<|xJ<|wH 0 rfl ?_;intro I013 le13 hl03;have h40:=SL.of_frozen hl03 le13 h29;have h30:=h30.mono le13;obtain rfl:=zB aF;exact xL ⟨_,_,(.cell 2 rfl rfl (by kernel_rfl) ResV.nil),(zV [1] rfl (by decide)),⟨_,_,rfl,rfl,⟨_,rfl,(wK ⟨_,_,_,rfl,(SL.nil _),(SL.nil _),h40⟩)⟩,(yZ ⟨_,rfl,h30⟩)⟩⟩
 intro F_spec_l3Value F_spec_l3Value_l1 ih_spec_l3Value ih_spec_l3Value_l1 aa aj i Kids x1 o N B I0 I Q y16 am b b3 aZ ba bf aT aU H h27 h28 hg ho hx;refine yY hg ho<|yA<|yJ [39] rfl<|zI<|yC N ?_ ?_
 ·intro bK N;refine zS<|zW<|yK ?_;obtain⟨⟨y19,y20⟩,hy6,N⟩:=zC N;obtain⟨l,hy7,N⟩:=zC N;refine wU [.p (vP b3 6) [],.p (vS aZ Kids ba) [0],.p (vP am 0) [],.p (vI aa) [],.p (vI aj) [],.p (vI (W (aj - 1))) [],.x (λI' v hx=>∃p14 c14 p15 c15 p16 c16 p17 c17,v=vA (cExpr y19 p14 c14 p15 c15 p16 c16)/\hx=[hB am (cRd y20 p17 c17)]/\(S4 I' p14 y19.Index.Coefs c14)/\(S4 I' p15 y19.Read.Subs c15)/\(S4 I' p16 y19.Kids c16)/\(S4 I' p17 y20.b c17)),.x (λI' v hx=>∃b4,v=vS (some ⟨b4,0,none⟩) ([y19]:List zD) 1/\hx=[]/\(SL I' (vS (some ⟨b4,0,none⟩) ([y19]:List zD) 1) ([y19]:List zD))),.x (λI' v hx=>∃p18 c18 bG,v=vS p18 l c18/\hx=[hO zD (vS p18 l c18) bG]/\(RL I' bG l))] [[],[(0,false)],[],[],[],[(4,false)],[(2,false),(3,false),(5,false),(11,true)],[(6,false)],[(1,false),(7,false),(12,true)]] [hB b3 [vI y16,vI 0,z0,vI 0,vT ([]),z0,vS aZ Kids ba],hB b zExpr] [[hB am (cRd x1 aT aU)],[hO zD (vS aZ Kids ba) bf]] [(6,true),(8,true)] (zY [1,3,2,0]) ?_ ?_
  ·refine Op<|Op<|Op<|Op<|Op<|Op<|Ox ?_<|Ox ?_<|Ox ?_<|On
   ·rintro I1 hf af _ _ ⟨rfl,rfl⟩ _ _ ⟨rfl,rfl⟩ _ _ ⟨rfl,rfl⟩ _ _ rfl;refine yV [44,45,47] rfl ?_;have H:=iS I1;have h28:=h28.mono af;refine sB (ih_spec_l3Value x1 aa (W (aj - 1)) _ hy6 h28) rfl ?_;rintro I09 ax v2 k2 le9 - ⟨v014,kk6,rfl,rfl,⟨bD,rfl,h31⟩,h32⟩ -;have H:=H.trans le9;obtain⟨p14,c14,p15,c15,p16,c16,rfl,h33,h34,h35⟩:=wO h31;obtain⟨p17,c17,rfl,h36⟩:=zZ h32;exact yR [hB am (cRd y20 p17 c17)] H ⟨_,_,_,_,_,_,_,_,rfl,rfl,h33,h34,h35,h36⟩
   ·rintro I1 hf af _ _ ⟨p14,c14,p15,c15,p16,c16,p17,c17,rfl,rfl,h33,h34,h35,h36⟩;refine yV [48] rfl ?_;have H:=iS I1;refine mX (rc y19 (wK ⟨_,_,_,rfl,h33,h34,h35⟩) rN) ?_;intro b4 bN le10 h38;have H:=H.trans le10;exact yR [] H ⟨_,rfl,rfl,h38⟩
   rintro I1 hf af _ _ ⟨rfl,rfl⟩ _ _ ⟨b4,rfl,rfl,h38⟩ _ _ rfl;refine yV [43,49] rfl ?_;have h27:=iM af h27;obtain⟨aK,k0,k01⟩:=h38;have h38:SL I1 (vS (some ⟨b4,0,none⟩) ([y19]:List zD) 1) ([y19]:List zD):=⟨_,k0,k01⟩;exact mD 53 7 0 rfl rfl rfl h27 (.inl k0) k01 hy7 λp18 c18 bG h39=>uY (ai:=(hO zD (vS p18 l c18) bG::hB b3 [vI y16,vI 0,z0,vI 0,vT ([]),z0,vS aZ Kids ba]::hB b zExpr::hf)) rfl<|yR [hO zD (vS p18 l c18) bG] iR ⟨_,_,_,rfl,rfl,h39⟩
  rintro bW le11 _ _ ⟨p14,c14,p15,c15,p16,c16,p17,c17,rfl,rfl,h33,h34,h35,h36⟩ _ _ ⟨p18,c18,bG,rfl,rfl,h39⟩;refine yV [0,1,2,6,7,8,50] rfl ?_;have H:=H.trans le11;exact yG 10 [] [51] rfl<|xW 2 [vI y16,vI 0,z0,vI 0,vT ([]),z0,vS p18 l c18] rfl<|yB rfl<|zO<|zI<|zL<|yQ [] [8] rfl<|yW<|kJ (zV [0,2,1,3] rfl (by decide))<|mE<|ih_spec_l3Value_l1 aa aj (W (i+1)) l y20 _ N H h39 h36 hg ho hx
 intro bK N;exact vQ<|yS<|hx _ _ _ _ _ _ _ _ (zB N).symm H h27 h28
theorem zEr:∀r0 aa aj r,qS r0 aa aj=some r->∀{I:Imm}{am:Nat}{p c},(S4 I p r0.b c)->RT 141 [vP am 0,vI aa,vI aj] I [hB am (cRd r0 p c)] (zAP am r):=zET.1
def zEU(b0:Nat)(r:zM×zK):KT:=λkk I' ai v=>
 ∃v0 k0,ai=[.blk b0 ⟨k0⟩]/\v=tupV [v0]/\(∃cs,v0=.agg ⟨cs⟩/\Rp.rep I' cs r.1)/\Rp.rep I' k0 r.2
def fC(r0:zK)(aa:Int):Option (zM×zK):=do
 let (y1,y2)<-kH r0 aa
 let (y4,y5)<-xD y2 ([2,3,1,2]:List Int)
 let (y7,y8)<-qS y5 aa y4
 let y9<-pO (zM.mk y1 y7) aa
 if y9 then
  pure ((zM.mk y1 y7),y8)
 else
  let y10<-oQ
  pure ((zM.mk (zH.mk (⟨[65]⟩:Str) ([y10]:List zA)) (zD.mk 1 1 (zA.mk ([]:List Int) 0) (zH.mk (⟨[]⟩:Str) ([]:List zA)) ([]:List zD))),y8)
theorem zFb:∀r0 aa r,fC r0 aa=some r->∀{I:Imm}{am:Nat}{p c},(S4 I p r0.b c)->RT 84 [vP am 0,vI aa] I [hB am (cRd r0 p c)] (zEU am r):=by
 intro r0 aa r N I am p c h;unfold fC at N;refine yP func84 λB=>yE<|vG [vT ([]),z0,vI 0,vI 0,z0,vI 0,vT ([]),z0,z0] ?_;intro b hb;refine yB rfl<|xN<|yG 2 [] [6,7] rfl<|rS (zY [1,0] (ai:=[hB am (cRd r0 p c),hB b [vT ([]),z0,vI 0,vI 0,z0,vI 0,vT ([]),z0,z0]])) ?_;obtain⟨⟨y1,y2⟩,hy,N⟩:=zC N;refine sB (zBk r0 aa _ hy h) rfl ?_;rintro I0 ax v2 k2 le - ⟨v0,kk,rfl,rfl,⟨cs,rfl,h1⟩,h2⟩ -;obtain⟨p1,c1,rfl,h3⟩:=nW h1;obtain⟨p2,c2,rfl,h4⟩:=zZ h2;refine yG 6 [] [9,10,11] rfl<|mX (rI [2,3,1,2]) ?_;intro b1 aP af h6;have ⟨h3,h4⟩:=m2 af h3 h4;obtain⟨⟨y4,y5⟩,ay,N⟩:=zC N;refine sB (xP y2 ([2,3,1,2]:List Int) _ ay h4 h6) rfl ?_;rintro aS ax v2 k2 aE - ⟨v03,kk1,rfl,rfl,rfl,h8⟩ -;have h3:=h3.mono aE;obtain⟨p3,c3,rfl,h9⟩:=zZ h8;obtain⟨⟨y7,y8⟩,aI,N⟩:=zC N;refine sB (zEr y5 aa y4 _ aI h9) rfl ?_;rintro bw ax v2 k2 aJ - ⟨v05,kk2,rfl,rfl,⟨aL,rfl,h10⟩,h11⟩ -;have h3:=h3.mono aJ;obtain⟨p4,c4,p5,c5,p6,c6,rfl,h12,h13,h14⟩:=wO h10;obtain⟨p7,c7,rfl,h15⟩:=zZ h11;refine yG 10 [] [15] rfl<|vG [vT ([]),z0,vI 0,vI 0,z0,vI 0,vT ([]),z0,z0] ?_;intro b2 hb2;refine xW 0 [vT y1.Array.l,vS p1 y1.Subs c1,vI y7.Kind,vI y7.Num,vS p4 y7.Index.Coefs c4,vI y7.Index.Const,vT y7.Read.Array.l,vS p5 y7.Read.Subs c5,vS p6 y7.Kids c6] rfl<|yB rfl<|zW<|yE<|qX 2 [0] [(16,vA [vT y1.Array.l,vS p1 y1.Subs c1,vI y7.Kind,vI y7.Num,vS p4 y7.Index.Coefs c4,vI y7.Index.Const,vT y7.Read.Array.l,vS p5 y7.Read.Subs c5,vS p6 y7.Kids c6]),(17,vI aa)]<|bE N λy9 aW N=>vH (fT (zM.mk y1 y7) aa _ aW h3 h12 h13 h14) ?_;intro bI aX;have ⟨h3,h12,h13,h14,h15⟩:=m5 aX h3 h12 h13 h14 h15;refine yB rfl<|zI<|yC N ?_ ?_
 ·intro hc N;refine yE<|qX 1 [0] [(19,vA [vT y1.Array.l,vS p1 y1.Subs c1,vI y7.Kind,vI y7.Num,vS p4 y7.Index.Coefs c4,vI y7.Index.Const,vT y7.Read.Array.l,vS p5 y7.Read.Subs c5,vS p6 y7.Kids c6])]<|xW 2 [vT y1.Array.l,vS p1 y1.Subs c1,vI y7.Kind,vI y7.Num,vS p4 y7.Index.Coefs c4,vI y7.Index.Const,vT y7.Read.Array.l,vS p5 y7.Read.Subs c5,vS p6 y7.Kids c6] rfl<|yB rfl<|xJ<|zF ?_;obtain rfl:=zB N;exact xL ⟨_,_,(.cell 2 rfl rfl (by kernel_rfl) ResV.nil),(zV [1] rfl (by decide)),⟨_,_,rfl,rfl,⟨_,rfl,(wV ⟨_,_,_,_,rfl,h3,h12,h13,h14⟩)⟩,(yZ ⟨_,rfl,h15⟩)⟩⟩
 intro hc N;refine zS<|xN<|bE N λy10 br N=>xX (kT  _ br ) ?_;rintro bL ax v2 k2 bt - ⟨p8,c8,bf,rfl,rfl,h17⟩ -;have h15:=h15.mono bt;refine wA 0 rfl ?_;intro I06 bx hl01;have h18:=SL.of_frozen hl01 bx h17;have h15:=h15.mono bx;refine qB (cAff y10 p8 c8) zA ?_;intro b3 hb3;have h19:RL I06 (cAff y10 p8 c8) ([y10]:List zA):=⟨(cAff y10 p8 c8),_,rfl,rfl,(yO ⟨_,rfl,h18⟩),rfl⟩;refine yG 5 [] [24] rfl<|xW 3 [vT ([65]),vS (some ⟨b3,0,none⟩) ([y10]:List zA) 1,vI 1,vI 1,z0,vI 0,vT ([]),z0,z0] rfl<|yB rfl<|xJ<|wH 0 rfl ?_;intro I07 le7 hl02;have h20:=SL.of_frozen hl02 le7 h19;have h15:=h15.mono le7;obtain rfl:=zB N;exact xL ⟨_,_,(.cell 2 rfl rfl (by kernel_rfl) ResV.nil),(zV [1] rfl (by decide)),⟨_,_,rfl,rfl,⟨_,rfl,(wV ⟨_,_,_,_,rfl,h20,(SL.nil _),(SL.nil _),(SL.nil _)⟩)⟩,(yZ ⟨_,rfl,h15⟩)⟩⟩
def zAQ(r:(List zE)×Bool):KT:=λkk I' ai v=>
 ∃v0 v1,ai=[]/\v=tupV [v0,v1]/\SL I' v0 r.1/\v1=.bool r.2
def qT(sizes:(List Int))(out:List zE)(i:Int):Option (Out (List zE) ((List zE)×Bool)):=do
 if(decide (i<(sizes.length:Int))) then
  let t28<-(do
   let x<-idx sizes i
   if(decide (x<0)) then
    pure true
   else
    let x1<-idx sizes i
    pure (decide (x1>99))
     : Option Bool)
  if t28 then
   pure (.ret (([]:List zE),false))
  else
   let y<-oQ
   let x2<-idx sizes i
   let y1<-wW x2
   let aC<-app 48 out ([(zE.mk ([y]:List zA) ([y1]:List zA))]:List zE)
   qT sizes aC (W (i+1))
 else
  pure (.done out)
 partial_fixpoint
theorem zCk(sizes:(List Int)):∀(out:List zE) (i:Int) (o:Out (List zE) ((List zE)×Bool)),qT sizes out i=some o->∀{B}{I0 I:Imm}{Q p c p1 c1 cs},I0.le I->(S4 I p sizes c)->(RL I cs out)->NG Q->NO Q->(∀(I':Imm) (aq:List zE) (p2:Option Addr) (c2:Nat) (aL:List Value),o=(.done aq)->I0.le I'->(RL I' aL aq)->T 43 B Q (.exit 0) I' [hO zE (vS p2 aq c2) aL] [(4,vS p2 aq c2)])->(∀r I' ai m',o=(.ret r)->I0.le I'->RS Tryz.prog f169 B (zAQ  r) I' ai m'->T 43 B Q .ret I' ai m')->J Tryz.prog 43 B (nav (bodyOf f169) [1,1,1,0,1,0]) Q I [hO zE (vS p1 out c1) cs] [(0,vS p sizes c),(4,vS p1 out c1),(5,vI i)]:=by
 refine qT.partial_correctness sizes _ λaN ih out i o N B I0 I Q p c p1 c1 cs H h h3 hg ho hx hr=>yY hg ho<|yA<|yJ [14] rfl<|zI<|yC N ?_ ?_
 ·intro aD N;refine zS<|zW<|yK<|yA<|yA ?_;refine wQ N [hO zE (vS p1 out c1) cs] (λt28=>[(0,vS p sizes c),(4,vS p1 out c1),(5,vI i),(28,.bool t28)]) (λo0 az=>?_) ?_
  ·have H:=iS I;refine zL<|yG 2 [] [17,18] rfl ?_;obtain⟨x,hy,N⟩:=zC az;refine wB rfl rfl h hy ?_;intro ad aK ar al;obtain rfl:=al;refine xU 0 ar [vI x] (vI x) rfl<|yG 6 [] [22] rfl<|wC [22] N ?_ ?_
   ·intro aQ N;exact wN [] [(28,vY)]<|yS<|zU (ct N H)
   intro aQ N;refine yG 8 [] [23,24] rfl<|bE N λx1 ay N=>wB rfl rfl h ay ?_;intro ad1 bi ap aw;obtain rfl:=aw;exact xU 0 ap [vI x1] (vI x1) rfl<|yQ [] [28] rfl<|yS<|zU (ct N H)
  intro t28 aP af aM;have ⟨h,h3,H⟩:=m3 af h h3 H;refine zI<|yC aM ?_ ?_
  ·intro bu N;refine yE<|qB [] zE ?_;intro b1 hb1;have h5:RL aP [] ([]:List zE):=rfl;refine yQ [] [2,3] rfl<|xJ<|zF<|zR<|zF<|zF<|wH 0 rfl ?_;intro aS aE hl01;have h6:=SL.of_frozen hl01 aE h5;have H:=H.trans aE;exact hr _ _ _ _ (zB N).symm H ⟨_,_,(.tmp rfl (.tmp rfl ResV.nil)),zN,⟨_,_,rfl,rfl,h6,rfl⟩⟩
  intro bu N;refine zS<|zI ?_;obtain⟨y,aI,N⟩:=zC N;obtain⟨x2,aW,N⟩:=zC N;obtain⟨y1,br,N⟩:=zC N;obtain⟨aC,bB,N⟩:=zC N;refine wU [.p (vS p1 out c1) [],.x (λI' v hx=>∃p3 c3 bf,v=vA (cAff y p3 c3)/\hx=[hO Int (vS p3 y.Coefs c3) bf]/\(RL I' bf y.Coefs)),.x (λI' v hx=>∃b2,v=vS (some ⟨b2,0,none⟩) ([y]:List zA) 1/\hx=[]/\(SL I' (vS (some ⟨b2,0,none⟩) ([y]:List zA) 1) ([y]:List zA))),.p (vS p sizes c) [],.p (vI i) [],.x (λI' v hx=>∃ad2,v=.pointer (some ad2)/\hx=[]/\(At I' ad2 [vI x2])),.q (vI x2),.x (λI' v hx=>∃p4 c4 bd,v=vA (cAff y1 p4 c4)/\hx=[hO Int (vS p4 y1.Coefs c4) bd]/\(RL I' bd y1.Coefs)),.x (λI' v hx=>∃b3,v=vS (some ⟨b3,0,none⟩) ([y1]:List zA) 1/\hx=[]/\(SL I' (vS (some ⟨b3,0,none⟩) ([y1]:List zA) 1) ([y1]:List zA))),.x (λI' v hx=>∃b21 b31,v=vA [vS (some ⟨b21,0,none⟩) ([y]:List zA) 1,vS (some ⟨b31,0,none⟩) ([y1]:List zA) 1]/\hx=[]/\(SL I' (vS (some ⟨b21,0,none⟩) ([y]:List zA) 1) ([y]:List zA))/\(SL I' (vS (some ⟨b31,0,none⟩) ([y1]:List zA) 1) ([y1]:List zA))),.x (λI' v hx=>∃b4,v=vS (some ⟨b4,0,none⟩) ([(zE.mk ([y]:List zA) ([y1]:List zA))]:List zE) 1/\hx=[]/\(SL I' (vS (some ⟨b4,0,none⟩) ([(zE.mk ([y]:List zA) ([y1]:List zA))]:List zE) 1) ([(zE.mk ([y]:List zA) ([y1]:List zA))]:List zE))),.x (λI' v hx=>∃p5 c5 bD,v=vS p5 aC c5/\hx=[hO zE (vS p5 aC c5) bD]/\(RL I' bD aC))] [[],[],[(1,true)],[],[],[(3,false),(4,false)],[(5,false)],[(6,false)],[(7,true)],[(2,false),(8,false)],[(9,false)],[(0,false),(10,false),(13,true)]] [] [[hO zE (vS p1 out c1) cs]] [(11,true)] (zY [0]) ?_ ?_
  ·refine Op<|Ox ?_<|Ox ?_<|Op<|Op<|Ox ?_<|Oq ?_<|Ox ?_<|Ox ?_<|Ox ?_<|Ox ?_<|Ox ?_<|On
   ·intro I1 hf af;refine dD [] ?_;have H:=iS I1;refine xX (kT  _ aI ) ?_;rintro bw ax v2 k2 aJ - ⟨p3,c3,bf,rfl,rfl,h7⟩ -;have H:=H.trans aJ;exact yR [hO Int (vS p3 y.Coefs c3) bf] H ⟨_,_,_,rfl,rfl,h7⟩
   ·rintro I1 hf af _ _ ⟨p3,c3,bf,rfl,rfl,h7⟩;refine yV [31] rfl ?_;have H:=iS I1;refine wA 0 rfl ?_;intro bI aX hl02;have h8:=SL.of_frozen hl02 aX h7;have H:=H.trans aX;refine mX (rc y (yO ⟨_,rfl,h8⟩) rN) ?_;intro b2 bL bt h10;have H:=H.trans bt;exact yR [] H ⟨_,rfl,rfl,h10⟩
   ·intro I1 hf af;refine yV [33,34] rfl ?_;have h:=h.mono af;refine wB rfl rfl h aW ?_;intro ad2 bP bh bj;obtain rfl:=bj;exact yR [] iR ⟨_,rfl,rfl,bh⟩
   ·rintro I1 hf af _ _ ⟨ad2,rfl,rfl,bh⟩;exact yV [35] rfl<|xU 0 bh [vI x2] (vI x2) rfl<|xA iR
   ·intro I1 hf af;refine yV [36] rfl ?_;have H:=iS I1;refine xX (uH x2 _ br ) ?_;rintro I06 ax v2 k2 bx - ⟨p4,c4,bd,rfl,rfl,h11⟩ -;have H:=H.trans bx;exact yR [hO Int (vS p4 y1.Coefs c4) bd] H ⟨_,_,_,rfl,rfl,h11⟩
   ·rintro I1 hf af _ _ ⟨p4,c4,bd,rfl,rfl,h11⟩;refine yV [37] rfl ?_;have H:=iS I1;refine wA 0 rfl ?_;intro I07 le7 hl04;have h12:=SL.of_frozen hl04 le7 h11;have H:=H.trans le7;refine mX (rc y1 (yO ⟨_,rfl,h12⟩) rN) ?_;intro b3 I08 le8 h14;have H:=H.trans le8;exact yR [] H ⟨_,rfl,rfl,h14⟩
   ·rintro I1 hf af _ _ ⟨b2,rfl,rfl,h10⟩ _ _ ⟨b3,rfl,rfl,h14⟩;exact yV [32,38] rfl<|pG 10 [(39,vA [vS (some ⟨b2,0,none⟩) ([y]:List zA) 1,vS (some ⟨b3,0,none⟩) ([y1]:List zA) 1])]<|yR [] iR ⟨_,_,rfl,rfl,h10,h14⟩
   ·rintro I1 hf af _ _ ⟨b21,b31,rfl,rfl,h101,h141⟩;refine yV [39] rfl ?_;have H:=iS I1;refine mX (rc (zE.mk ([y]:List zA) ([y1]:List zA)) (qA ⟨_,_,rfl,h101,h141⟩) rN) ?_;intro b4 I09 le9 h16;have H:=H.trans le9;exact yR [] H ⟨_,rfl,rfl,h16⟩
   rintro I1 hf af _ _ ⟨rfl,rfl⟩ _ _ ⟨b4,rfl,rfl,h16⟩ _ _ rfl;refine yV [30,40] rfl ?_;have h3:=iM af h3;obtain⟨ccs3,k0,k01⟩:=h16;have h16:SL I1 (vS (some ⟨b4,0,none⟩) ([(zE.mk ([y]:List zA) ([y1]:List zA))]:List zE) 1) ([(zE.mk ([y]:List zA) ([y1]:List zA))]:List zE):=⟨_,k0,k01⟩;exact mD 92 2 0 rfl rfl rfl h3 (.inl k0) k01 bB λp5 c5 bD h17=>uY (ai:=(hO zE (vS p5 aC c5) bD::hf)) rfl<|yR [hO zE (vS p5 aC c5) bD] iR ⟨_,_,_,rfl,rfl,h17⟩
  rintro bN le10 _ _ ⟨p5,c5,bD,rfl,rfl,h17⟩;refine yV [0,5,41] rfl ?_;have ⟨h,H⟩:=m2 le10 h H;exact yQ [] [4] rfl<|zO<|zI<|zL<|yQ [] [5] rfl<|yW<|mE<|ih aC (W (i+1)) _ N H h h17 hg ho hx hr
 intro aD N;exact vQ<|yS<|hx _ _ _ _ _ (zB N).symm H h3
def gO(sizes:(List Int)):Option ((List zE)×Bool):=do
 if(decide ((sizes.length:Int)>4)) then
  pure (([]:List zE),false)
 else
  match<-qT sizes ([]:List zE) 0 with
  | .ret r0=>pure r0
  | .done aq=>
   pure (aq,true)
theorem zEs:∀sizes r,gO sizes=some r->∀{I:Imm}{p c},(S4 I p sizes c)->RT 169 [vS p sizes c] I [] (zAQ  r):=by
 intro sizes r N I p c h;unfold gO at N;refine yP func169 λB=>wM []<|xN<|qB [] zE ?_;intro b hb;have h1:RL I [] ([]:List zE):=rfl;refine yQ [] [4] rfl<|zW<|yJ [9] rfl<|zI<|yC N ?_ ?_
 ·intro hc N;refine yJ [2,3] rfl<|xJ<|zF<|wH 0 rfl ?_;intro I0 le hl0;have h2:=SL.of_frozen hl0 le h1;obtain rfl:=zB N;exact xL ⟨_,_,(.tmp rfl (.tmp rfl ResV.nil)),zN,⟨_,_,rfl,rfl,h2,rfl⟩⟩
 intro hc N;refine zS<|zW<|yJ [5] rfl<|wS<|oR [(0,vS p sizes c),(4,vS (some ⟨b,0,none⟩) ([]:List zE) 0),(5,vI 0)] ?_;obtain⟨aO,aB,aF⟩:=zC N;refine zCk sizes ([]:List zE) 0 aO aB iR h h1 (λ_ _ _ h=>h) (λ_ _ h=>h) ?_ ?_
 ·intro bW aq p2 c2 aL heq1 le11 h4;subst aO;refine zT<|uN [2,3] rfl<|xJ<|wH 0 rfl ?_;intro bV le12 hl07;have h18:=SL.of_frozen hl07 le12 h4;obtain rfl:=zB aF;exact xL ⟨_,_,(.tmp rfl (.tmp rfl ResV.nil)),zN,⟨_,_,rfl,rfl,h18,rfl⟩⟩
 intro r0 I9 hs9 m9 aG le9 aH;subst aG;refine zR<|zF ?_;obtain rfl:=zB aF;exact xL aH
def zAg(b0:Nat)(r:zJ×zK):KT:=λkk I' ai v=>
 ∃v0 k0,ai=[.blk b0 ⟨k0⟩]/\v=tupV [v0]/\(∃cs,v0=.agg ⟨cs⟩/\Rp.rep I' cs r.1)/\Rp.rep I' k0 r.2
def oF(y1:(List zE))(Body2:List zM)(n0:Int)(x6:zK):Option ((List zM×zK)):=do
 if(decide (n0<5)) then
  let (y7,y8)<-fC x6 (y1.length:Int)
  let y9<-kE
  let (y11,y12)<-kD y9 (zJ.mk y1 ([y7]:List zM))
  if y12 then
   let l<-app 152 Body2 ([y7]:List zM)
   pure (l,y8)
  else
   oF y1 Body2 (W (n0+1)) y8
 else
  pure (Body2,x6)
 partial_fixpoint
theorem zD2(y1:(List zE))(Body2:List zM):∀(n0:Int) (x6:zK) (o:(List zM×zK)),oF y1 Body2 n0 x6=some o->∀{B}{I0 I:Imm}{Q}{i:Int}{x:zJ}{k0:Int}{am:Nat}{b:Nat}{p1 c1 p2 c2 p7 c7}{b1:Nat}{p14 c14 bf p15 c15},I0.le I->(S4 I p7 y1 c7)->(S4 I p1 x.Nest c1)->(S4 I p2 x.Body c2)->(RL I bf Body2)->(S4 I p15 x6.b c15)->NG Q->NO Q->(∀(I':Imm) (Body3:List zM) (x7:zK) (p16:Option Addr) (c16:Nat) (bd:List Value) (p17:Option Addr) (c17:Nat),o=(Body3,x7)->I0.le I'->(RL I' bd Body3)->(S4 I' p17 x7.b c17)->T 81 B Q (.exit 4) I' [hO zM (vS p16 Body3 c16) bd,hB am (cRd x7 p17 c17),hB b1 [vS p7 y1 c7,vS p16 Body3 c16],hB b (cPart x p1 c1 p2 c2)] [(0,vP am 0),(2,vP b 0),(3,vI i),(4,vP b1 0),(5,vI k0)])->J Tryz.prog 81 B (nav (bodyOf f106) [1,0,1,0,0,1,0,0,1,0,1,0,0,1,0,0,1,0]) Q I [hO zM (vS p14 Body2 c14) bf,hB am (cRd x6 p15 c15),hB b1 [vS p7 y1 c7,vS p14 Body2 c14],hB b (cPart x p1 c1 p2 c2)] [(0,vP am 0),(2,vP b 0),(3,vI i),(4,vP b1 0),(5,vI k0),(6,vI n0)]:=by
 refine oF.partial_correctness y1 Body2 _ λaN ih n0 x6 o N B I0 I Q i x k0 am b p1 c1 p2 c2 p7 c7 b1 p14 c14 bf p15 c15 H h7 h1 h2 h20 h21 hg ho hx=>yY hg ho<|yA<|yJ [31] rfl<|zI<|yC N ?_ ?_
 ·intro aQ N;refine zS<|zW<|yK<|yE<|yG 4 [2] [34,37] rfl<|rS (zY [1,0,2,3] (ai:=[hB am (cRd x6 p15 c15),hO zM (vS p14 Body2 c14) bf,hB b1 [vS p7 y1 c7,vS p14 Body2 c14],hB b (cPart x p1 c1 p2 c2)])) ?_;obtain⟨⟨y7,y8⟩,aI,N⟩:=zC N;refine sB (zFb x6 (y1.length:Int) _ aI h21) rfl ?_;rintro bw ax v2 k2 aJ - ⟨v04,kk2,rfl,rfl,⟨bD,rfl,h24⟩,h25⟩ -;have ⟨h20,h7,h1,h2,H⟩:=m5 aJ h20 h7 h1 h2 H;obtain⟨p18,c18,p19,c19,p20,c20,p21,c21,rfl,h26,h27,h28,h29⟩:=uP h24;obtain⟨p22,c22,rfl,h30⟩:=zZ h25;refine vG [vT ([]),z0,vI 0,vI 0,z0,vI 0,vT ([]),z0,z0] ?_;intro b3 hb3;refine xW 0 (cStmt y7 p18 c18 p19 c19 p20 c20 p21 c21) rfl<|yB rfl<|zI<|yA ?_;obtain⟨y9,aW,N⟩:=zC N;obtain⟨⟨y11,y12⟩,br,N⟩:=zC N;refine wU [.x (eS y9),.p (vP b1 0) [],.p (vS p7 y1 c7) [3],.p (vA (cStmt y7 p18 c18 p19 c19 p20 c20 p21 c21)) [0],.x (λI' v hx=>∃b4,v=vS (some ⟨b4,0,none⟩) ([y7]:List zM) 1/\hx=[]/\(SL I' (vS (some ⟨b4,0,none⟩) ([y7]:List zM) 1) ([y7]:List zM))),.x (λI' v hx=>∃b41,v=vA [vS p7 y1 c7,vS (some ⟨b41,0,none⟩) ([y7]:List zM) 1]/\hx=[]/\(SL I' (vS (some ⟨b41,0,none⟩) ([y7]:List zM) 1) ([y7]:List zM))),.q (.tuple ⟨[vI y11,.bool y12]⟩),.p (.tuple ⟨[vI y11,.bool y12]⟩) [],.p (vI y11) [],.p (.bool y12) [],.p (vI y11) []] [[],[],[(1,false)],[],[(3,false)],[(2,false),(4,false)],[(0,false),(5,false)],[(6,false)],[(7,false)],[(7,false)],[(8,false)]] [hB b3 (cStmt y7 p18 c18 p19 c19 p20 c20 p21 c21),hB am (cRd y8 p22 c22),hO zM (vS p14 Body2 c14) bf,hB b1 [vS p7 y1 c7,vS p14 Body2 c14],hB b (cPart x p1 c1 p2 c2)] [] [(9,false)] (zY [0,1,2,3,4]) ?_ ?_
  ·refine Ox ?_<|Op<|Op<|Op<|Ox ?_<|Ox ?_<|Oq ?_<|Op<|Op<|Op<|Op<|On
   ·intro I1 hf af;refine dD [] ?_;have H:=iS I1;refine xX (fU  _ aW ) ?_;rintro bI ax v2 k2 aX - ⟨v010,rfl,rfl,h31⟩ -;have H:=H.trans aX;obtain⟨p23,c23,rfl⟩:=h31.form;exact yR [] H ⟨_,_,rfl,rfl,h31⟩
   ·intro I1 hf af;refine yV [43] rfl ?_;have H:=iS I1;have ⟨h26,h27,h28,h29⟩:=m4 af h26 h27 h28 h29;refine mX (rc y7 (wV ⟨_,_,_,_,rfl,h26,h27,h28,h29⟩) rN) ?_;intro b4 bL bt h33;have H:=H.trans bt;exact yR [] H ⟨_,rfl,rfl,h33⟩
   ·rintro I1 hf af _ _ ⟨rfl,rfl⟩ _ _ ⟨b4,rfl,rfl,h33⟩;refine yV [42,44] rfl ?_;exact pG 6 [(45,vA [vS p7 y1 c7,vS (some ⟨b4,0,none⟩) ([y7]:List zM) 1])]<|yR [] iR ⟨_,rfl,rfl,h33⟩
   rintro I1 hf af _ _ ⟨p23,c23,rfl,rfl,h31⟩ _ _ ⟨b41,rfl,rfl,h331⟩;refine yV [40,45] rfl ?_;have H:=iS I1;have h7:=h7.mono af;refine xX (dV y9 (zJ.mk y1 ([y7]:List zM)) _ br h31 h7 h331) ?_;rintro I06 ax v2 k2 bx - ⟨v011,v012,rfl,rfl,rfl,rfl⟩ -;have H:=H.trans bx;exact xA H
  intro I07 le7;refine yV [0,2,3,4,5,6,7,48] rfl ?_;have ⟨h26,h27,h28,h29,h30,h20⟩:=m6 le7 h26 h27 h28 h29 h30 h20;have ⟨h7,h1,h2,H⟩:=m4 le7 h7 h1 h2 H;refine yQ [] [9] rfl<|uN [49] rfl<|zI<|yC N ?_ ?_
  ·intro bu N;refine yE<|qX 3 [3,0] [(51,vS p14 Body2 c14),(52,vA (cStmt y7 p18 c18 p19 c19 p20 c20 p21 c21))]<|qB (cStmt y7 p18 c18 p19 c19 p20 c20 p21 c21) zM ?_;intro b5 hb5;have h36:RL I07 (cStmt y7 p18 c18 p19 c19 p20 c20 p21 c21) ([y7]:List zM):=⟨(cStmt y7 p18 c18 p19 c19 p20 c20 p21 c21),_,rfl,rfl,(wV ⟨_,_,_,_,rfl,h26,h27,h28,h29⟩),rfl⟩;obtain⟨l,bB,N⟩:=zC N;refine mD 55 9 3 rfl rfl rfl h20 (.inr ⟨0,rfl⟩) h36 bB ?_;intro p24 c24 bG h37;exact rS (zY [1,2,3,4,5] (ai:=[hB b3 (cStmt y7 p18 c18 p19 c19 p20 c20 p21 c21),hB am (cRd y8 p22 c22),hO zM (vS p24 l c24) bG,hB b1 [vS p7 y1 c7,vS p14 Body2 c14],hB b (cPart x p1 c1 p2 c2)]))<|yG 6 [] [55] rfl<|xW 3 [vS p7 y1 c7,vS p24 l c24] rfl<|yB rfl<|zI<|zFJ<|zGI rfl<|gD<|gD<|wD (zV [2,1,3,4] rfl (by decide))<|yS<|hx _ _ _ _ _ _ _ _ (zB N).symm H h37 h30
  intro bu N;exact zS<|zO<|zI<|zL<|yQ [] [6] rfl<|yW<|kJ (zV [2,1,3,4] rfl (by decide))<|mE<|ih (W (n0+1)) y8 _ N H h7 h1 h2 h20 h30 hg ho hx
 intro aQ N;exact vQ<|yS<|hx _ _ _ _ _ _ _ _ (zB N).symm H h20 h21
def oG(y1:(List zE))(k0:Int)(Body:List zM)(x4:zK):Option ((List zM×zK)):=do
 if(decide (k0>0)) then
  let (Body3,x7)<-oF y1 Body 0 x4
  oG y1 (W (k0 - 1)) Body3 x7
 else
  pure (Body,x4)
 partial_fixpoint
theorem zD3(y1:(List zE)):∀(k0:Int) (Body:List zM) (x4:zK) (o:(List zM×zK)),oG y1 k0 Body x4=some o->∀{B}{I0 I:Imm}{Q}{i:Int}{x:zJ}{am:Nat}{b:Nat}{p1 c1 p2 c2 p7 c7}{b1:Nat}{aZ ba cs aT aU},I0.le I->(S4 I p7 y1 c7)->(S4 I p1 x.Nest c1)->(S4 I p2 x.Body c2)->(RL I cs Body)->(S4 I aT x4.b aU)->NG Q->NO Q->(∀(I':Imm) (aY:List zM) (x5:zK) (bv:Option Addr) (bc:Nat) (aL:List Value) (bb:Option Addr) (bm:Nat),o=(aY,x5)->I0.le I'->(RL I' aL aY)->(S4 I' bb x5.b bm)->T 81 B Q (.exit 2) I' [hO zM (vS bv aY bc) aL,hB am (cRd x5 bb bm),hB b1 [vS p7 y1 c7,vS bv aY bc],hB b (cPart x p1 c1 p2 c2)] [(0,vP am 0),(2,vP b 0),(3,vI i),(4,vP b1 0)])->J Tryz.prog 81 B (nav (bodyOf f106) [1,0,1,0,0,1,0,0,1,0,1,0]) Q I [hO zM (vS aZ Body ba) cs,hB am (cRd x4 aT aU),hB b1 [vS p7 y1 c7,vS aZ Body ba],hB b (cPart x p1 c1 p2 c2)] [(0,vP am 0),(2,vP b 0),(3,vI i),(4,vP b1 0),(5,vI k0)]:=by
 refine oG.partial_correctness y1 _ λaN ih k0 Body x4 o N B I0 I Q i x am b p1 c1 p2 c2 p7 c7 b1 aZ ba cs aT aU H h7 h1 h2 h16 h17 hg ho hx=>yY hg ho<|yA<|yJ [27] rfl<|zI<|yC N ?_ ?_
 ·intro aD N;refine zS<|zW<|yK<|yJ [6] rfl<|wS<|oR [(0,vP am 0),(2,vP b 0),(3,vI i),(4,vP b1 0),(5,vI k0),(6,vI 0)] ?_;obtain⟨o0,az,aF⟩:=zC N;refine zD2 y1 Body 0 x4 o0 az iR h7 h1 h2 h16 h17 (λ_ _ _ h=>hg _ _ _ h) (λ_ _ h=>ho _ _ h) ?_;intro I08 Body3 x7 p16 c16 bd p17 c17 heq le8 h22 h23;subst o0;have ⟨h7,h1,h2,H⟩:=m4 le8 h7 h1 h2 H;exact zT<|zO<|zI<|zL<|yQ [] [5] rfl<|yW<|mE<|ih (W (k0 - 1)) Body3 x7 _ aF H h7 h1 h2 h22 h23 hg ho hx
 intro aD N;exact vQ<|yS<|hx _ _ _ _ _ _ _ _ (zB N).symm H h16 h17
def oH(x:zJ)(i:Int)(x1:zK):Option (Out (zJ×zK) (zJ×zK)):=do
 if(decide (i<4)) then
  let (y1,y2)<-fB x1
  let (y4,y5)<-xD y2 ([1,2,1,3]:List Int)
  let (aY,x5)<-oG y1 y4 ([]:List zM) y5
  let y13<-kE
  let (y15,y16)<-kD y13 (zJ.mk y1 aY)
  let t66<-(do
   if y16 then
    pure (decide (y15<=40))
   else
    pure false
     : Option Bool)
  if t66 then
   pure (.ret ((zJ.mk y1 aY),x5))
  else
   oH x (W (i+1)) x5
 else
  pure (.done (x,x1))
 partial_fixpoint
theorem zD4(x:zJ):∀(i:Int) (x1:zK) (o:Out (zJ×zK) (zJ×zK)),oH x i x1=some o->∀{B}{I0 I:Imm}{Q}  {am:Nat}{b:Nat}{p1 c1 p2 c2 p3 c3},I0.le I->(S4 I p1 x.Nest c1)->(S4 I p2 x.Body c2)->(S4 I p3 x1.b c3)->NG Q->NO Q->(∀(I':Imm) (x2:zJ) (x3:zK) (p4:Option Addr) (c4:Nat) (p5:Option Addr) (c5:Nat) (p6:Option Addr) (c6:Nat),o=(.done (x2,x3))->I0.le I'->(S4 I' p4 x2.Nest c4)->(S4 I' p5 x2.Body c5)->(S4 I' p6 x3.b c6)->T 81 B Q (.exit 0) I' [hB b (cPart x2 p4 c4 p5 c5),hB am (cRd x3 p6 c6)] [(2,vP b 0)])->(∀r I' ai m',o=(.ret r)->I0.le I'->RS Tryz.prog f106 B (zAg am r) I' ai m'->T 81 B Q .ret I' ai m')->J Tryz.prog 81 B (nav (bodyOf f106) [1,0,1,0]) Q I [hB b (cPart x p1 c1 p2 c2),hB am (cRd x1 p3 c3)] [(0,vP am 0),(2,vP b 0),(3,vI i)]:=by
 refine oH.partial_correctness x _ λaN ih i x1 o N B I0 I Q am b p1 c1 p2 c2 p3 c3 H h1 h2 h3 hg ho hx hr=>yY hg ho<|yA<|yJ [17] rfl<|zI<|yC N ?_ ?_
 ·intro hc N;refine zS<|zW<|yK<|yE<|yG 1 [] [20] rfl<|rS (zY [1,0] (ai:=[hB am (cRd x1 p3 c3),hB b (cPart x p1 c1 p2 c2)])) ?_;obtain⟨⟨y1,y2⟩,hy,N⟩:=zC N;refine sB (zF9 x1 _ hy h3) rfl ?_;rintro I0 ax v2 k2 le - ⟨v0,kk,rfl,rfl,h7,h8⟩ -;have ⟨h1,h2,H⟩:=m3 le h1 h2 H;obtain⟨p7,c7,rfl⟩:=h7.form;obtain⟨p8,c8,rfl,h9⟩:=zZ h8;refine yG 3 [] [22] rfl<|vG zTwo ?_;intro b1 hb1;refine xW 0 [vS p7 y1 c7,z0] rfl<|yB rfl<|zW<|yE<|yG 1 [] [23] rfl<|mX (rI [1,2,1,3]) ?_;intro b2 aP af h11;have ⟨h7,h9,h1,h2,H⟩:=m5 af h7 h9 h1 h2 H;refine rS (zY [1,0,2] (ai:=[hB am (cRd y2 p8 c8),hB b1 [vS p7 y1 c7,z0],hB b (cPart x p1 c1 p2 c2)])) ?_;obtain⟨⟨y4,y5⟩,ay,N⟩:=zC N;refine sB (xP y2 ([1,2,1,3]:List Int) _ ay h9 h11) rfl ?_;rintro aS ax v2 k2 aE - ⟨v02,kk1,rfl,rfl,rfl,h13⟩ -;have ⟨h7,h1,h2,H⟩:=m4 aE h7 h1 h2 H;obtain⟨p9,c9,rfl,h14⟩:=zZ h13;refine yQ [] [5] rfl<|wS<|oR [(0,vP am 0),(2,vP b 0),(3,vI i),(4,vP b1 0),(5,vI y4)]<|zAm zM λh15=>?_;obtain⟨aO,aB,hMl1⟩:=zC N;refine zD3 y1 y4 ([]:List zM) y5 aO aB iR h7 h1 h2 h15 h14 (λ_ _ _ h=>hg _ _ _ h) (λ_ _ h=>ho _ _ h) ?_;intro I09 aY x5 bv bc aL bb bm heq1 le9 h18 h19;subst aO;have ⟨h7,h1,h2,H⟩:=m4 le9 h7 h1 h2 H;refine zT<|zW<|nU 0 rfl ?_;intro bN le10 hl02;have h38:=SL.of_frozen hl02 le10 h18;have ⟨h19,h7,h1,h2,H⟩:=m5 le10 h19 h7 h1 h2 H;obtain⟨y13,hy6,N⟩:=zC hMl1;obtain⟨⟨y15,y16⟩,hy7,N⟩:=zC N;refine wU [.x (eS y13),.p (vA [vS p7 y1 c7,vS bv aY bc]) [1],.q (.tuple ⟨[vI y15,.bool y16]⟩),.p (.tuple ⟨[vI y15,.bool y16]⟩) [],.p (vI y15) [],.p (.bool y16) [],.p (vI y15) []] [[],[],[(0,false),(1,false)],[(2,false)],[(3,false)],[(3,false)],[(4,false)]] [hB am (cRd x5 bb bm),hB b1 [vS p7 y1 c7,vS bv aY bc],hB b (cPart x p1 c1 p2 c2)] [] [(5,false),(6,false)] (zY [0,1,2]) ?_ ?_
  ·refine Ox ?_<|Op<|Oq ?_<|Op<|Op<|Op<|Op<|On
   ·intro I1 hf af;refine dD [] ?_;have H:=iS I1;refine xX (fU  _ hy6 ) ?_;rintro bW ax v2 k2 le11 - ⟨v013,rfl,rfl,h39⟩ -;have H:=H.trans le11;obtain⟨p25,c25,rfl⟩:=h39.form;exact yR [] H ⟨_,_,rfl,rfl,h39⟩
   rintro I1 hf af _ _ ⟨p25,c25,rfl,rfl,h39⟩;refine yV [57,58] rfl ?_;have H:=iS I1;have ⟨h7,h38⟩:=m2 af h7 h38;refine xX (dV y13 (zJ.mk y1 aY) _ hy7 h39 h7 h38) ?_;rintro bV ax v2 k2 le12 - ⟨v014,v015,rfl,rfl,rfl,rfl⟩ -;have H:=H.trans le12;exact xA H
  intro I013 le13;refine yV [0,2,3,4,10,61] rfl ?_;have ⟨h19,h7,h38,h1,h2,H⟩:=m6 le13 h19 h7 h38 h1 h2 H;refine yQ [] [11] rfl<|zI<|yA ?_;refine wQ N [hB am (cRd x5 bb bm),hB b1 [vS p7 y1 c7,vS bv aY bc],hB b (cPart x p1 c1 p2 c2)] (λt66=>[(0,vP am 0),(2,vP b 0),(3,vI i),(4,vP b1 0),(66,.bool t66)]) (λo02 ho02=>?_) ?_
  ·have H:=iS I013;refine zL<|yG 2 [] [63] rfl<|wC [63] ho02 ?_ ?_
   ·intro bK N;exact yQ [] [66] rfl<|yS<|zU (ct N H)
   intro bK N;exact wN [] [(66,vF)]<|yS<|zU (ct N H)
  intro t66 I014 le14 aM;have ⟨h19,h7,h38,h1,h2,H⟩:=m6 le14 h19 h7 h38 h1 h2 H;refine zI<|yC aM ?_ ?_
  ·intro hc5 N;exact yE<|qX 1 [1] [(67,vA [vS p7 y1 c7,vS bv aY bc])]<|xW 2 [vS p7 y1 c7,vS bv aY bc] rfl<|yB rfl<|xJ<|zR<|zF<|zF<|hr _ _ _ _ (zB N).symm H ⟨_,_,(.cell 2 rfl rfl (by kernel_rfl) ResV.nil),(zV [0] rfl (by decide)),⟨_,_,rfl,rfl,⟨_,rfl,(uU ⟨_,_,rfl,h7,h38⟩)⟩,(yZ ⟨_,rfl,h19⟩)⟩⟩
  intro hc5 N;exact zS<|zO<|zI<|zL<|yQ [] [3] rfl<|yW<|kJ (zV [2,0] rfl (by decide))<|mE<|ih (W (i+1)) x5 _ N H h1 h2 h19 hg ho hx hr
 intro hc N;exact vQ<|yS<|hx _ _ _ _ _ _ _ _ _ (zB N).symm H h1 h2 h3
def fD(r0:zK):Option (zJ×zK):=do
 match<-oH (zJ.mk ([]:List zE) ([]:List zM)) 0 r0 with
 | .ret r0=>pure r0
 | .done (x2,x3)=>
  let (y18,y19)<-kV (⟨[65,91,105,93,61,40,65,91,105,93,43,123,105,125,41]⟩:Str)
  let (y21,y22)<-gO ([4]:List Int)
  pure ((zJ.mk y21 ([y18]:List zM)),x3)
theorem zFc:∀r0 r,fD r0=some r->∀{I:Imm}{am:Nat}{p c},(S4 I p r0.b c)->RT 106 [vP am 0] I [hB am (cRd r0 p c)] (zAg am r):=by
 intro r0 r N I am p c h;unfold fD at N;refine yP func106 λB=>yE<|vG zTwo ?_;intro b hb;refine yB rfl<|zW<|yJ [3] rfl<|wS<|oR [(0,vP am 0),(2,vP b 0),(3,vI 0)] ?_;obtain⟨o03,ho03,hMl2⟩:=zC N;refine zD4 (zJ.mk ([]:List zE) ([]:List zM)) 0 r0 o03 ho03 iR (SL.nil _) (SL.nil _) h (λ_ _ _ h=>h) (λ_ _ h=>h) ?_ ?_
 ·intro I015 x2 x3 p4 c4 p5 c5 p6 c6 heq3 le15 h4 h5 h6;subst o03;refine zT<|zW<|zL ?_;obtain⟨⟨y18,y19⟩,hy8,N⟩:=zC hMl2;refine xX (zDY (⟨[65,91,105,93,61,40,65,91,105,93,43,123,105,125,41]⟩:Str) _ hy8 ) ?_;rintro I016 ax v2 k2 le16 - ⟨v016,v017,rfl,rfl,⟨cs6,rfl,h42⟩,rfl⟩ -;have h6:=h6.mono le16;obtain⟨p26,c26,p27,c27,p28,c28,p29,c29,rfl,h44,h45,h46,h47⟩:=uP h42;refine yG 4 [] [70,71] rfl<|vG [vT ([]),z0,vI 0,vI 0,z0,vI 0,vT ([]),z0,z0] ?_;intro b6 hb6;refine xW 0 (cStmt y18 p26 c26 p27 c27 p28 c28 p29 c29) rfl<|wN [] []<|xN<|mX (rI [4]) ?_;intro b7 I017 le17 h49;have ⟨h44,h45,h46,h47,h6⟩:=m5 le17 h44 h45 h46 h47 h6;obtain⟨⟨y21,y22⟩,hy9,N⟩:=zC N;refine xX (zEs ([4]:List Int) _ hy9 h49) ?_;rintro I018 ax v2 k2 le18 - ⟨v022,v023,rfl,rfl,h50,rfl⟩ -;have ⟨h44,h45,h46,h47,h6⟩:=m5 le18 h44 h45 h46 h47 h6;obtain⟨p30,c30,rfl⟩:=h50.form;refine yQ [] [14] rfl<|xN<|qX 2 [0] [(77,vS p30 y21 c30),(78,vA (cStmt y18 p26 c26 p27 c27 p28 c28 p29 c29))]<|qB (cStmt y18 p26 c26 p27 c27 p28 c28 p29 c29) zM ?_;intro b8 hb8;have h52:RL I018 (cStmt y18 p26 c26 p27 c27 p28 c28 p29 c29) ([y18]:List zM):=⟨(cStmt y18 p26 c26 p27 c27 p28 c28 p29 c29),_,rfl,rfl,(wV ⟨_,_,_,_,rfl,h44,h45,h46,h47⟩),rfl⟩;refine yG 4 [] [80] rfl<|xW 2 [vS p30 y21 c30,vS (some ⟨b8,0,none⟩) ([y18]:List zM) 1] rfl<|yB rfl<|xJ<|wH 0 rfl ?_;intro I019 le19 hl04;have h53:=SL.of_frozen hl04 le19 h52;have ⟨h50,h6⟩:=m2 le19 h50 h6;obtain rfl:=zB N;exact xL ⟨_,_,(.cell 1 rfl rfl (by kernel_rfl) ResV.nil),(zV [2] rfl (by decide)),⟨_,_,rfl,rfl,⟨_,rfl,(uU ⟨_,_,rfl,h50,h53⟩)⟩,(yZ ⟨_,rfl,h6⟩)⟩⟩
 intro r0 I9 hs9 m9 aG le9 aH;subst aG;refine zR<|zF ?_;obtain rfl:=zB hMl2;exact xL aH
def zEV(b0:Nat)(r:zP×zK):KT:=λkk I' ai v=>
 ∃v0 k0,ai=[.blk b0 ⟨k0⟩]/\v=tupV [v0]/\(∃cs,v0=.agg ⟨cs⟩/\Rp.rep I' cs r.1)/\Rp.rep I' k0 r.2
def oI(i:Int)(Parts:List zJ)(x:zK):Option ((List zJ×zK)):=do
 if(decide (i>0)) then
  let (y5,y6)<-fD x
  let l<-app 48 Parts ([y5]:List zJ)
  oI (W (i - 1)) l y6
 else
  pure (Parts,x)
 partial_fixpoint
theorem zD5 :∀(i:Int) (Parts:List zJ) (x:zK) (o:(List zJ×zK)),oI i Parts x=some o->∀{B}{I0 I:Imm}{Q}{y:(List zG)}{am:Nat}{b:Nat}{p1 c1}{b1:Nat}{p3 c3 cs p4 c4},I0.le I->(S4 I p1 y c1)->(RL I cs Parts)->(S4 I p4 x.b c4)->NG Q->NO Q->(∀(I':Imm) (aR:List zJ) (x1:zK) (p5:Option Addr) (c5:Nat) (aL:List Value) (p6:Option Addr) (c6:Nat),o=(aR,x1)->I0.le I'->(RL I' aL aR)->(S4 I' p6 x1.b c6)->T 29 B Q (.exit 0) I' [hO zJ (vS p5 aR c5) aL,hB am (cRd x1 p6 c6),hB b1 [vS p1 y c1,vS p5 aR c5],hB b zTwo] [(2,vP b 0),(3,vP b1 0)])->J Tryz.prog 29 B (nav (bodyOf f54) [1,1,0,1,0]) Q I [hO zJ (vS p3 Parts c3) cs,hB am (cRd x p4 c4),hB b1 [vS p1 y c1,vS p3 Parts c3],hB b zTwo] [(0,vP am 0),(2,vP b 0),(3,vP b1 0),(4,vI i)]:=by
 refine oI.partial_correctness  _ λaN ih i Parts x o N B I0 I Q y am b p1 c1 b1 p3 c3 cs p4 c4 H h1 h8 h9 hg ho hx=>yY hg ho<|yA<|yJ [11] rfl<|zI<|yC N ?_ ?_
 ·intro hc N;refine zS<|zW<|yK ?_;obtain⟨⟨y5,y6⟩,aI,N⟩:=zC N;obtain⟨l,aW,N⟩:=zC N;refine wU [.p (vP b1 1) [],.p (vS p3 Parts c3) [0],.p (vP am 0) [],.x (λI' v hx=>∃p7 c7 p8 c8 p9 c9,v=vA (cPart y5 p7 c7 p8 c8)/\hx=[hB am (cRd y6 p9 c9)]/\(S4 I' p7 y5.Nest c7)/\(S4 I' p8 y5.Body c8)/\(S4 I' p9 y6.b c9)),.x (λI' v hx=>∃b3,v=vS (some ⟨b3,0,none⟩) ([y5]:List zJ) 1/\hx=[]/\(SL I' (vS (some ⟨b3,0,none⟩) ([y5]:List zJ) 1) ([y5]:List zJ))),.x (λI' v hx=>∃aZ ba bd,v=vS aZ l ba/\hx=[hO zJ (vS aZ l ba) bd]/\(RL I' bd l))] [[],[(0,false)],[],[(2,false),(8,true)],[(3,false)],[(1,false),(4,false),(9,true)]] [hB b1 [vS p1 y c1,vS p3 Parts c3],hB b zTwo] [[hB am (cRd x p4 c4)],[hO zJ (vS p3 Parts c3) cs]] [(3,true),(5,true)] (zY [2,3,1,0]) ?_ ?_
  ·refine Op<|Op<|Op<|Ox ?_<|Ox ?_<|Ox ?_<|On
   ·rintro I1 hf af _ _ ⟨rfl,rfl⟩ _ _ rfl;refine yV [16] rfl ?_;have H:=iS I1;have h9:=h9.mono af;refine sB (zFc x _ aI h9) rfl ?_;rintro bw ax v2 k2 aJ - ⟨v03,kk1,rfl,rfl,⟨bf,rfl,h12⟩,h13⟩ -;have H:=H.trans aJ;obtain⟨p7,c7,p8,c8,rfl,h14,h15⟩:=vL h12;obtain⟨p9,c9,rfl,h16⟩:=zZ h13;exact yR [hB am (cRd y6 p9 c9)] H ⟨_,_,_,_,_,_,rfl,rfl,h14,h15,h16⟩
   ·rintro I1 hf af _ _ ⟨p7,c7,p8,c8,p9,c9,rfl,rfl,h14,h15,h16⟩;refine yV [17] rfl ?_;have H:=iS I1;refine mX (rc y5 (uU ⟨_,_,rfl,h14,h15⟩) rN) ?_;intro b3 bI aX h18;have H:=H.trans aX;exact yR [] H ⟨_,rfl,rfl,h18⟩
   rintro I1 hf af _ _ ⟨rfl,rfl⟩ _ _ ⟨b3,rfl,rfl,h18⟩ _ _ rfl;refine yV [15,18] rfl ?_;have h8:=iM af h8;obtain⟨aK,k0,k01⟩:=h18;have h18:SL I1 (vS (some ⟨b3,0,none⟩) ([y5]:List zJ) 1) ([y5]:List zJ):=⟨_,k0,k01⟩;exact mD 70 2 0 rfl rfl rfl h8 (.inl k0) k01 aW λaZ ba bd h19=>uY (ai:=(hO zJ (vS aZ l ba) bd::hB b1 [vS p1 y c1,vS p3 Parts c3]::hB b zTwo::hf)) rfl<|yR [hO zJ (vS aZ l ba) bd] iR ⟨_,_,_,rfl,rfl,h19⟩
  rintro bL bt _ _ ⟨p7,c7,p8,c8,p9,c9,rfl,rfl,h14,h15,h16⟩ _ _ ⟨aZ,ba,bd,rfl,rfl,h19⟩;refine yV [0,2,3,4,19] rfl ?_;have ⟨h1,H⟩:=m2 bt h1 H;exact yG 7 [] [20] rfl<|xW 2 [vS p1 y c1,vS aZ l ba] rfl<|yB rfl<|zO<|zI<|zL<|yQ [] [4] rfl<|yW<|mE<|ih (W (i - 1)) l y6 _ N H h1 h19 h16 hg ho hx
 intro hc N;exact vQ<|yS<|hx _ _ _ _ _ _ _ _ (zB N).symm H h8 h9
def jW(r0:zK):Option (zP×zK):=do
 let y<-kE
 let (y2,y3)<-xD r0 ([1,2,1,3]:List Int)
 let (aR,x1)<-oI y2 ([]:List zJ) y3
 let y7<-nL (zP.mk y aR)
 if y7 then
  pure ((zP.mk y aR),x1)
 else
  let y8<-kE
  let l1<-slc aR 0 1
  pure ((zP.mk y8 l1),x1)
theorem zBl:∀r0 r,jW r0=some r->∀{I:Imm}{am:Nat}{p c},(S4 I p r0.b c)->RT 54 [vP am 0] I [hB am (cRd r0 p c)] (zEV am r):=by
 intro r0 r N I am p c h;unfold jW at N;refine yP func54 λB=>?_;have H:=iS I;refine yE<|vG zTwo ?_;intro b hb;refine yB rfl<|xN<|bE N λy hy N=>xX (fU  _ hy ) ?_;rintro I0 ax v2 k2 le - ⟨v0,rfl,rfl,h1⟩ -;have ⟨h,H⟩:=m2 le h H;obtain⟨p1,c1,rfl⟩:=h1.form;refine yG 2 [] [6] rfl<|vG zTwo ?_;intro b1 hb1;refine xW 0 [vS p1 y c1,z0] rfl<|yB rfl<|zW<|yE<|yG 1 [] [7] rfl<|mX (rI [1,2,1,3]) ?_;intro b2 aP af h3;have ⟨h1,h,H⟩:=m3 af h1 h H;refine rS (zY [2,0,1] (ai:=[hB am (cRd r0 p c),hB b1 [vS p1 y c1,z0],hB b zTwo])) ?_;obtain⟨⟨y2,y3⟩,ay,N⟩:=zC N;refine sB (xP r0 ([1,2,1,3]:List Int) _ ay h h3) rfl ?_;rintro aS ax v2 k2 aE - ⟨v01,kk,rfl,rfl,rfl,h5⟩ -;have ⟨h1,H⟩:=m2 aE h1 H;obtain⟨p2,c2,rfl,h6⟩:=zZ h5;refine yQ [] [4] rfl<|wS<|oR [(0,vP am 0),(2,vP b 0),(3,vP b1 0),(4,vI y2)]<|zAm zJ λh7=>?_;obtain⟨o0,az,aF⟩:=zC N;refine zD5 y2 ([]:List zJ) y3 o0 az iR h1 h7 h6 (λ_ _ _ h=>h) (λ_ _ h=>h) ?_;intro I06 aR x1 p5 c5 aL p6 c6 heq bx h10 h11;subst o0;have ⟨h1,H⟩:=m2 bx h1 H;refine zT<|zW<|yE<|qX 1 [2] [(21,vA [vS p1 y c1,vS p5 aR c5])]<|wA 0 rfl ?_;intro I07 le7 hl02;have h20:=SL.of_frozen hl02 le7 h10;have ⟨h1,h11,H⟩:=m3 le7 h1 h11 H;obtain⟨y7,br,N⟩:=zC aF;refine vH (zBf (zP.mk y aR) _ br h1 h20) ?_;intro I08 le8;have ⟨h11,h1,h20,H⟩:=m4 le8 h11 h1 h20 H;refine yB rfl<|zI<|yC N ?_ ?_
 ·intro aD N;refine yE<|qX 1 [1] [(23,vA [vS p1 y c1,vS p5 aR c5])]<|xW 2 [vS p1 y c1,vS p5 aR c5] rfl<|yB rfl<|xJ<|zF ?_;obtain rfl:=zB N;exact xL ⟨_,_,(.cell 2 rfl rfl (by kernel_rfl) ResV.nil),(zV [0] rfl (by decide)),⟨_,_,rfl,rfl,⟨_,rfl,(sJ ⟨_,_,rfl,h1,h20⟩)⟩,(yZ ⟨_,rfl,h11⟩)⟩⟩
 intro aD N;refine zS<|zI<|yA ?_;obtain⟨y8,bB,N⟩:=zC N;obtain⟨l1,hy6,N⟩:=zC N;refine wU [.x (eS y8),.p (vP b1 1) [],.p (vS p5 aR c5) [1],.x (eS l1),.x (λI' v hx=>∃p111 c111 p121 c121,v=vA [vS p111 y8 c111,vS p121 l1 c121]/\hx=[]/\(S4 I' p111 y8 c111)/\(S4 I' p121 l1 c121))] [[],[],[(1,false)],[(2,false)],[(0,false),(3,false)]] [hB am (cRd x1 p6 c6),hB b1 [vS p1 y c1,vS p5 aR c5],hB b zTwo] [] [(4,false)] (zY [0,1,2]) ?_ ?_
 ·refine Ox ?_<|Op<|Op<|Ox ?_<|Ox ?_<|On
  ·intro I1 hf af;refine dD [] ?_;have H:=iS I1;refine xX (fU  _ bB ) ?_;rintro I09 ax v2 k2 le9 - ⟨v08,rfl,rfl,h22⟩ -;have H:=H.trans le9;obtain⟨aT,aU,rfl⟩:=h22.form;exact yR [] H ⟨_,_,rfl,rfl,h22⟩
  ·intro I1 hf af;refine yV [26] rfl ?_;have h20:=h20.mono af;refine zMO rfl h20 hy6 ?_;intro v09 h23;obtain⟨bv,bc,rfl⟩:=h23.form;exact yR [] iR ⟨_,_,rfl,rfl,h23⟩
  rintro I1 hf af _ _ ⟨aT,aU,rfl,rfl,h22⟩ _ _ ⟨bv,bc,rfl,rfl,h23⟩;exact yV [24,27] rfl<|pG 5 [(28,vA [vS aT y8 aU,vS bv l1 bc])]<|yR [] iR ⟨_,_,_,_,rfl,rfl,h22,h23⟩
 rintro bN le10 _ _ ⟨p111,c111,p121,c121,rfl,rfl,h221,h231⟩;refine yV [2,28] rfl ?_;have h11:=h11.mono le10;refine xW 2 [vS p111 y8 c111,vS p121 l1 c121] rfl<|yB rfl<|zI<|yX ?_;obtain rfl:=zB N;exact xL ⟨_,_,(.cell 2 rfl rfl (by kernel_rfl) ResV.nil),(zV [0] rfl (by decide)),⟨_,_,rfl,rfl,⟨_,rfl,(sJ ⟨_,_,rfl,h221,h231⟩)⟩,(yZ ⟨_,rfl,h11⟩)⟩⟩
def zEW(r:(List zE)):KT:=λkk I' ai v=>
 ∃v0,ai=[]/\v=tupV [v0]/\SL I' v0 r
def tX(nest:(List zE))(i:Int)(k0:Int)(Lo:List zA):Option (List zA):=do
 let x<-idx nest i
 if(decide (k0<(x.Lo.length:Int))) then
  let x1<-idx nest i
  let x2<-idx x1.Lo k0
  let l<-app 8 ([]:List Int) x2.Coefs
  let l1<-app 32 Lo ([(zA.mk l x2.Const)]:List zA)
  tX nest i (W (k0+1)) l1
 else
  pure (id Lo)
 partial_fixpoint
theorem zAR(nest:(List zE))(i:Int):∀(k0:Int) (Lo:List zA) (o:List zA),tX nest i k0 Lo=some o->∀{B}{I0 I:Imm}{Q}{τ:Type} [Rp τ] {out:List τ}{p c p1 c1 cs}{b1:Nat}{p3 c3 bf},I0.le I->(S4 I p nest c)->(RL I cs out)->(RL I bf Lo)->NG Q->NO Q->(∀(I':Imm) (Lo1:List zA) (p4:Option Addr) (c4:Nat) (bd:List Value),o=Lo1->I0.le I'->(RL I' bd Lo1)->T 83 B Q (.exit 2) I' [hO zA (vS p4 Lo1 c4) bd,hB b1 [vS p4 Lo1 c4,z0],hO τ (vS p1 out c1) cs] [(0,vS p nest c),(3,vS p1 out c1),(4,vI i),(5,vP b1 0)])->J Tryz.prog 83 B (nav (bodyOf f171) [1,1,0,1,0,0,1,0,0,1,0,1,0]) Q I [hO zA (vS p3 Lo c3) bf,hB b1 [vS p3 Lo c3,z0],hO τ (vS p1 out c1) cs] [(0,vS p nest c),(3,vS p1 out c1),(4,vI i),(5,vP b1 0),(6,vI k0)]:=by
 refine tX.partial_correctness nest i _ λaN ih k0 Lo o N B I0 I Q τ _ out p c p1 c1 cs b1 p3 c3 bf H h h2 h5 hg ho hx=>yY hg ho<|yA<|yE<|yG 3 [] [18,19,20] rfl<|bE N λx hy N=>wB rfl rfl h hy ?_;intro ad aK ar al;obtain⟨p5,c5,p6,c6,rfl,h7,h8⟩:=wJ al;refine yG 5 [] [22] rfl<|xU 0 ar [vS p5 x.Lo c5] (vS p5 x.Lo c5) rfl<|yQ [] [25] rfl<|zI<|yC N ?_ ?_
 ·intro aD N;refine zS<|zW<|yK<|yE<|yG 2 [] [28,29] rfl<|bE N λx1 ay N=>wB rfl rfl h ay ?_;intro ad1 bi ap aw;obtain⟨p7,c7,p8,c8,rfl,h9,h10⟩:=wJ aw;refine yG 4 [] [31] rfl<|xU 0 ap [vS p7 x1.Lo c7] (vS p7 x1.Lo c7) rfl<|yG 6 [] [33] rfl<|bE N λx2 aI N=>wB rfl rfl h9 aI ?_;intro ad2 bP bh bj;obtain⟨p9,c9,rfl,h11⟩:=yD bj;refine xU 0 bh (cAff x2 p9 c9) (vA (cAff x2 p9 c9)) rfl<|vG [z0,vI 0] ?_;intro b2 hb2;refine xW 0 (cAff x2 p9 c9) rfl<|yB rfl<|zI ?_;obtain⟨l,aW,N⟩:=zC N;obtain⟨l1,br,N⟩:=zC N;refine wU [.p (vP b1 0) [],.p (vS p3 Lo c3) [1],.x (λI' v hx=>∃b3,v=vS (some ⟨b3,0,none⟩) ([]:List Int) 0/\hx=[hO Int (vS (some ⟨b3,0,none⟩) ([]:List Int) 0) []]/\(RL I' [] ([]:List Int))),.p (vP b2 0) [],.p (vS p9 x2.Coefs c9) [0],.x (λI' v hx=>∃aZ ba bD,v=vS aZ l ba/\hx=[hO Int (vS aZ l ba) bD]/\(RL I' bD l)),.p (vP b2 1) [],.p (vI x2.Const) [0],.x (λI' v hx=>∃p101 c101 cs41,v=vA [vS p101 l c101,vI x2.Const]/\hx=[hO Int (vS p101 l c101) cs41]/\(RL I' cs41 l)),.x (λI' v hx=>∃b4,v=vS (some ⟨b4,0,none⟩) ([(zA.mk l x2.Const)]:List zA) 1/\hx=[]/\(SL I' (vS (some ⟨b4,0,none⟩) ([(zA.mk l x2.Const)]:List zA) 1) ([(zA.mk l x2.Const)]:List zA))),.x (λI' v hx=>∃aT aU bG,v=vS aT l1 aU/\hx=[hO zA (vS aT l1 aU) bG]/\(RL I' bG l1))] [[],[(0,false)],[],[],[(3,false)],[(2,true),(4,false)],[],[(6,false)],[(5,true),(7,false)],[(8,true)],[(1,false),(9,false),(13,true)]] [hB b2 (cAff x2 p9 c9),hB b1 [vS p3 Lo c3,z0],hO τ (vS p1 out c1) cs] [[hO zA (vS p3 Lo c3) bf]] [(10,true)] (zY [0,2,3,1]) ?_ ?_
  ·refine Op<|Op<|Ox ?_<|Op<|Op<|Ox ?_<|Op<|Op<|Ox ?_<|Ox ?_<|Ox ?_<|On
   ·intro I1 hf af;refine dD []<|qB [] Int ?_;intro b3 hb3;have h12:RL I1 [] ([]:List Int):=rfl;exact yR [hO Int (vS (some ⟨b3,0,none⟩) ([]:List Int) 0) []] iR ⟨_,rfl,rfl,h12⟩
   ·rintro I1 hf af _ _ ⟨b3,rfl,rfl,h12⟩;refine yV [38,40] rfl ?_;have h11:=h11.mono af;obtain⟨ccs3,k01,k02⟩:=h11;have h11:SL I1 (vS p9 x2.Coefs c9) x2.Coefs:=⟨_,k01,k02⟩;exact mD 3 1 0 rfl rfl rfl h12 (.inl k01) k02 aW λaZ ba bD h13=>uY (ai:=(hO Int (vS aZ l ba) bD::hB b2 (cAff x2 p9 c9)::hB b1 [vS p3 Lo c3,z0]::hO τ (vS p1 out c1) cs::hf)) rfl<|yR [hO Int (vS aZ l ba) bD] iR ⟨_,_,_,rfl,rfl,h13⟩
   ·rintro I1 hf af _ _ ⟨aZ,ba,bD,rfl,rfl,h13⟩;exact yV [41,43] rfl<|pG 9 [(44,vA [vS aZ l ba,vI x2.Const])]<|yR [hO Int (vS aZ l ba) bD] iR ⟨_,_,_,rfl,rfl,h13⟩
   ·rintro I1 hf af _ _ ⟨p101,c101,cs41,rfl,rfl,h131⟩;refine yV [44] rfl ?_;have H:=iS I1;refine wA 0 rfl ?_;intro I0 le hl0;have h14:=SL.of_frozen hl0 le h131;have H:=H.trans le;refine mX (rc (zA.mk l x2.Const) (yO ⟨_,rfl,h14⟩) rN) ?_;intro b4 aP af h16;have H:=H.trans af;exact yR [] H ⟨_,rfl,rfl,h16⟩
   rintro I1 hf af _ _ ⟨rfl,rfl⟩ _ _ ⟨b4,rfl,rfl,h16⟩ _ _ rfl;refine yV [37,45] rfl ?_;have h5:=iM af h5;obtain⟨ccs4,k03,k04⟩:=h16;have h16:SL I1 (vS (some ⟨b4,0,none⟩) ([(zA.mk l x2.Const)]:List zA) 1) ([(zA.mk l x2.Const)]:List zA):=⟨_,k03,k04⟩;exact mD 50 2 0 rfl rfl rfl h5 (.inl k03) k04 br λaT aU bG h17=>uY (ai:=(hO zA (vS aT l1 aU) bG::hB b2 (cAff x2 p9 c9)::hB b1 [vS p3 Lo c3,z0]::hO τ (vS p1 out c1) cs::hf)) rfl<|yR [hO zA (vS aT l1 aU) bG] iR ⟨_,_,_,rfl,rfl,h17⟩
  rintro aS aE _ _ ⟨aT,aU,bG,rfl,rfl,h17⟩;refine yV [0,3,4,5,6,46] rfl ?_;have ⟨h,h2,H⟩:=m3 aE h h2 H;exact yG 12 [] [47] rfl<|xW 2 [vS aT l1 aU,z0] rfl<|yB rfl<|zO<|zI<|zL<|yQ [] [6] rfl<|yW<|kJ (zV [0,2,3] rfl (by decide))<|mE<|ih (W (k0+1)) l1 _ N H h h2 h17 hg ho hx
 intro aD N;exact vQ<|yS<|hx _ _ _ _ _ (zB N).symm H h5
def tY(nest:(List zE))(i:Int)(k05:Int)(Hi:List zA):Option (List zA):=do
 let x3<-idx nest i
 if(decide (k05<(x3.Hi.length:Int))) then
  let x4<-idx nest i
  let x5<-idx x4.Hi k05
  let l2<-app 8 ([]:List Int) x5.Coefs
  let l3<-app 32 Hi ([(zA.mk l2 x5.Const)]:List zA)
  tY nest i (W (k05+1)) l3
 else
  pure (id Hi)
 partial_fixpoint
theorem zAS(nest:(List zE))(i:Int):∀(k05:Int) (Hi:List zA) (o:List zA),tY nest i k05 Hi=some o->∀{B}{I0 I:Imm}{Q}{τ:Type} [Rp τ] {out:List τ}{Lo1:List zA}{p c p1 c1 cs}{b1:Nat}{p4 c4 bd bv bc cs6},I0.le I->(S4 I p nest c)->(RL I cs out)->(RL I bd Lo1)->(RL I cs6 Hi)->NG Q->NO Q->(∀(I':Imm) (Hi1:List zA) (bb:Option Addr) (bm:Nat) (cs7:List Value),o=Hi1->I0.le I'->(RL I' cs7 Hi1)->T 83 B Q (.exit 4) I' [hO zA (vS bb Hi1 bm) cs7,hO zA (vS p4 Lo1 c4) bd,hB b1 [vS p4 Lo1 c4,vS bb Hi1 bm],hO τ (vS p1 out c1) cs] [(0,vS p nest c),(3,vS p1 out c1),(4,vI i),(5,vP b1 0)])->J Tryz.prog 83 B (nav (bodyOf f171) [1,1,0,1,0,0,1,0,0,1,1,0,1,0]) Q I [hO zA (vS bv Hi bc) cs6,hO zA (vS p4 Lo1 c4) bd,hB b1 [vS p4 Lo1 c4,vS bv Hi bc],hO τ (vS p1 out c1) cs] [(0,vS p nest c),(3,vS p1 out c1),(4,vI i),(5,vP b1 0),(8,vI k05)]:=by
 refine tY.partial_correctness nest i _ λaN ih k05 Hi o N B I0 I Q τ _ out Lo1 p c p1 c1 cs b1 p4 c4 bd bv bc cs6 H h h2 h6 h19 hg ho hx=>yY hg ho<|yA<|yE<|yG 3 [] [48,49,50] rfl<|bE N λx3 bB N=>wB rfl rfl h bB ?_;intro ad3 ccs5 hat3 bC;obtain⟨p14,c14,p15,c15,rfl,h21,h22⟩:=wJ bC;refine yG 5 [] [52] rfl<|xU 1 hat3 [vS p15 x3.Hi c15] (vS p15 x3.Hi c15) rfl<|yQ [] [55] rfl<|zI<|yC N ?_ ?_
 ·intro aQ N;refine zS<|zW<|yK<|yE<|yG 2 [] [58,59] rfl<|bE N λx4 hy6 N=>wB rfl rfl h hy6 ?_;intro ad4 ccs6 hat4 hrep4;obtain⟨p16,c16,p17,c17,rfl,h23,h24⟩:=wJ hrep4;refine yG 4 [] [61] rfl<|xU 1 hat4 [vS p17 x4.Hi c17] (vS p17 x4.Hi c17) rfl<|yG 6 [] [63] rfl<|bE N λx5 hy7 N=>wB rfl rfl h24 hy7 ?_;intro ad5 ccs7 hat5 hrep5;obtain⟨p18,c18,rfl,h25⟩:=yD hrep5;refine xU 0 hat5 (cAff x5 p18 c18) (vA (cAff x5 p18 c18)) rfl<|vG [z0,vI 0] ?_;intro b5 hb5;refine xW 0 (cAff x5 p18 c18) rfl<|yB rfl<|zI ?_;obtain⟨l2,hy8,N⟩:=zC N;obtain⟨l3,hy9,N⟩:=zC N;refine wU [.p (vP b1 1) [],.p (vS bv Hi bc) [2],.x (λI' v hx=>∃b6,v=vS (some ⟨b6,0,none⟩) ([]:List Int) 0/\hx=[hO Int (vS (some ⟨b6,0,none⟩) ([]:List Int) 0) []]/\(RL I' [] ([]:List Int))),.p (vP b5 0) [],.p (vS p18 x5.Coefs c18) [0],.x (λI' v hx=>∃p19 c19 cs8,v=vS p19 l2 c19/\hx=[hO Int (vS p19 l2 c19) cs8]/\(RL I' cs8 l2)),.p (vP b5 1) [],.p (vI x5.Const) [0],.x (λI' v hx=>∃p191 c191 cs81,v=vA [vS p191 l2 c191,vI x5.Const]/\hx=[hO Int (vS p191 l2 c191) cs81]/\(RL I' cs81 l2)),.x (λI' v hx=>∃b7,v=vS (some ⟨b7,0,none⟩) ([(zA.mk l2 x5.Const)]:List zA) 1/\hx=[]/\(SL I' (vS (some ⟨b7,0,none⟩) ([(zA.mk l2 x5.Const)]:List zA) 1) ([(zA.mk l2 x5.Const)]:List zA))),.x (λI' v hx=>∃p20 c20 cs9,v=vS p20 l3 c20/\hx=[hO zA (vS p20 l3 c20) cs9]/\(RL I' cs9 l3))] [[],[(0,false)],[],[],[(3,false)],[(2,true),(4,false)],[],[(6,false)],[(5,true),(7,false)],[(8,true)],[(1,false),(9,false),(13,true)]] [hB b5 (cAff x5 p18 c18),hO zA (vS p4 Lo1 c4) bd,hB b1 [vS p4 Lo1 c4,vS bv Hi bc],hO τ (vS p1 out c1) cs] [[hO zA (vS bv Hi bc) cs6]] [(10,true)] (zY [0,2,3,4,1]) ?_ ?_
  ·refine Op<|Op<|Ox ?_<|Op<|Op<|Ox ?_<|Op<|Op<|Ox ?_<|Ox ?_<|Ox ?_<|On
   ·intro I1 hf af;refine dD []<|qB [] Int ?_;intro b6 hb6;have h26:RL I1 [] ([]:List Int):=rfl;exact yR [hO Int (vS (some ⟨b6,0,none⟩) ([]:List Int) 0) []] iR ⟨_,rfl,rfl,h26⟩
   ·rintro I1 hf af _ _ ⟨b6,rfl,rfl,h26⟩;refine yV [68,70] rfl ?_;have h25:=h25.mono af;obtain⟨ccs8,k06,k07⟩:=h25;have h25:SL I1 (vS p18 x5.Coefs c18) x5.Coefs:=⟨_,k06,k07⟩;exact mD 3 1 0 rfl rfl rfl h26 (.inl k06) k07 hy8 λp19 c19 cs8 h27=>uY (ai:=(hO Int (vS p19 l2 c19) cs8::hB b5 (cAff x5 p18 c18)::hO zA (vS p4 Lo1 c4) bd::hB b1 [vS p4 Lo1 c4,vS bv Hi bc]::hO τ (vS p1 out c1) cs::hf)) rfl<|yR [hO Int (vS p19 l2 c19) cs8] iR ⟨_,_,_,rfl,rfl,h27⟩
   ·rintro I1 hf af _ _ ⟨p19,c19,cs8,rfl,rfl,h27⟩;exact yV [71,73] rfl<|pG 9 [(74,vA [vS p19 l2 c19,vI x5.Const])]<|yR [hO Int (vS p19 l2 c19) cs8] iR ⟨_,_,_,rfl,rfl,h27⟩
   ·rintro I1 hf af _ _ ⟨p191,c191,cs81,rfl,rfl,h271⟩;refine yV [74] rfl ?_;have H:=iS I1;refine wA 0 rfl ?_;intro bI aX hl02;have h28:=SL.of_frozen hl02 aX h271;have H:=H.trans aX;refine mX (rc (zA.mk l2 x5.Const) (yO ⟨_,rfl,h28⟩) rN) ?_;intro b7 bL bt h30;have H:=H.trans bt;exact yR [] H ⟨_,rfl,rfl,h30⟩
   rintro I1 hf af _ _ ⟨rfl,rfl⟩ _ _ ⟨b7,rfl,rfl,h30⟩ _ _ rfl;refine yV [67,75] rfl ?_;have h19:=iM af h19;obtain⟨ccs9,k08,k09⟩:=h30;have h30:SL I1 (vS (some ⟨b7,0,none⟩) ([(zA.mk l2 x5.Const)]:List zA) 1) ([(zA.mk l2 x5.Const)]:List zA):=⟨_,k08,k09⟩;exact mD 50 2 0 rfl rfl rfl h19 (.inl k08) k09 hy9 λp20 c20 cs9 h31=>uY (ai:=(hO zA (vS p20 l3 c20) cs9::hB b5 (cAff x5 p18 c18)::hO zA (vS p4 Lo1 c4) bd::hB b1 [vS p4 Lo1 c4,vS bv Hi bc]::hO τ (vS p1 out c1) cs::hf)) rfl<|yR [hO zA (vS p20 l3 c20) cs9] iR ⟨_,_,_,rfl,rfl,h31⟩
  rintro I06 bx _ _ ⟨p20,c20,cs9,rfl,rfl,h31⟩;refine yV [0,3,4,5,8,76] rfl ?_;have ⟨h,h2,h6,H⟩:=m4 bx h h2 h6 H;exact yG 12 [] [77] rfl<|xW 3 [vS p4 Lo1 c4,vS p20 l3 c20] rfl<|yB rfl<|zO<|zI<|zL<|yQ [] [8] rfl<|yW<|kJ (zV [0,2,3,4] rfl (by decide))<|mE<|ih (W (k05+1)) l3 _ N H h h2 h6 h31 hg ho hx
 intro aQ N;exact vQ<|yS<|hx _ _ _ _ _ (zB N).symm H h19
def uJ(nest:(List zE))(out:List zE)(i:Int):Option (List zE):=do
 if(decide (i<(nest.length:Int))) then
  let Lo1<-tX nest i 0 ([]:List zA)
  let Hi1<-tY nest i 0 ([]:List zA)
  let aC<-app 48 out ([(zE.mk Lo1 Hi1)]:List zE)
  uJ nest aC (W (i+1))
 else
  pure (id out)
 partial_fixpoint
theorem zD6(nest:(List zE)):∀(out:List zE) (i:Int) (o:List zE),uJ nest out i=some o->∀{B}{I0 I:Imm}{Q p c p1 c1 cs},I0.le I->(S4 I p nest c)->(RL I cs out)->NG Q->NO Q->(∀(I':Imm) (aq:List zE) (p2:Option Addr) (c2:Nat) (aL:List Value),o=aq->I0.le I'->(RL I' aL aq)->T 83 B Q (.exit 0) I' [hO zE (vS p2 aq c2) aL] [(3,vS p2 aq c2)])->J Tryz.prog 83 B (nav (bodyOf f171) [1,1,0,1,0]) Q I [hO zE (vS p1 out c1) cs] [(0,vS p nest c),(3,vS p1 out c1),(4,vI i)]:=by
 refine uJ.partial_correctness nest _ λaN ih out i o N B I0 I Q p c p1 c1 cs H h h2 hg ho hx=>yY hg ho<|yA<|yJ [14] rfl<|zI<|yC N ?_ ?_
 ·intro hc N;refine zS<|zW<|yK<|yE<|yG 1 [] [17] rfl<|vG zTwo ?_;intro b1 hb1;refine dL 0 zTwo [hB b1 zTwo,hO zE (vS p1 out c1) cs] rfl rfl rfl rfl<|yB rfl<|zW<|yJ [6] rfl<|wS<|oR [(0,vS p nest c),(3,vS p1 out c1),(4,vI i),(5,vP b1 0),(6,vI 0)]<|zAm zA λh4=>?_;obtain⟨o0,az,aF⟩:=zC N;refine zAR nest i 0 ([]:List zA) o0 az iR h h2 h4 (λ_ _ _ h=>hg _ _ _ h) (λ_ _ h=>ho _ _ h) ?_;intro bw Lo1 p4 c4 bd heq aJ h6;subst o0;have ⟨h,h2,H⟩:=m3 aJ h h2 H;refine zT<|zW<|yJ [8] rfl<|wS<|oR [(0,vS p nest c),(3,vS p1 out c1),(4,vI i),(5,vP b1 0),(8,vI 0)]<|zAm zA λh18=>?_;obtain⟨aO,aB,hMl1⟩:=zC aF;refine zAS nest i 0 ([]:List zA) aO aB iR h h2 h6 h18 (λ_ _ _ h=>hg _ _ _ h) (λ_ _ h=>ho _ _ h) ?_;intro I07 Hi1 bb bm cs7 heq1 le7 h20;subst aO;have ⟨h,h2,h6,H⟩:=m4 le7 h h2 h6 H;refine zT<|zI<|zL<|qX 2 [2] [(78,vS p1 out c1),(79,vA [vS p4 Lo1 c4,vS bb Hi1 bm])]<|wA 1 rfl ?_;intro I08 le8 hl04;have h32:=SL.of_frozen hl04 le8 h6;have ⟨h,h2,h20,H⟩:=m4 le8 h h2 h20 H;refine wA 0 rfl ?_;intro I09 le9 hl05;have h33:=SL.of_frozen hl05 le9 h20;have ⟨h,h2,h32,H⟩:=m4 le9 h h2 h32 H;refine qB [vS p4 Lo1 c4,vS bb Hi1 bm] zE ?_;intro b8 hb8;have h34:RL I09 [vS p4 Lo1 c4,vS bb Hi1 bm] ([(zE.mk Lo1 Hi1)]:List zE):=⟨[vS p4 Lo1 c4,vS bb Hi1 bm],_,rfl,rfl,(qA ⟨_,_,rfl,h32,h33⟩),rfl⟩;obtain⟨aC,hy10,N⟩:=zC hMl1;exact mD 92 2 2 rfl rfl rfl h2 (.inr ⟨0,rfl⟩) h34 hy10 λp21 c21 cs10 h35=>rS (zY [1,2] (ai:=[hB b1 [vS p4 Lo1 c4,vS bb Hi1 bm],hO zE (vS p21 aC c21) cs10]))<|yQ [] [3] rfl<|zO<|zI<|zL<|yQ [] [4] rfl<|yW<|kJ (zV [1] rfl (by decide))<|mE<|ih aC (W (i+1)) _ N H h h35 hg ho hx
 intro hc N;exact vQ<|yS<|hx _ _ _ _ _ (zB N).symm H h2
def nP(nest:(List zE)):Option ((List zE)):=do
 let aq<-uJ nest ([]:List zE) 0
 pure (id aq)
theorem zBm:∀nest r,nP nest=some r->∀{I:Imm}{p c},(S4 I p nest c)->RT 171 [vS p nest c] I [] (zEW  r):=by
 intro nest r N I p c h;unfold nP at N;refine yP func171 λB=>wM []<|xN<|qB [] zE ?_;intro b hb;have h1:RL I [] ([]:List zE):=rfl;refine yQ [] [3] rfl<|zW<|yJ [4] rfl<|wS<|oR [(0,vS p nest c),(3,vS (some ⟨b,0,none⟩) ([]:List zE) 0),(4,vI 0)] ?_;obtain⟨o02,ho02,hMl2⟩:=zC N;refine zD6 nest ([]:List zE) 0 o02 ho02 iR h h1 (λ_ _ _ h=>h) (λ_ _ h=>h) ?_;intro bN aq p2 c2 aL heq2 le10 h3;subst o02;refine zT<|uN [2] rfl<|xJ<|wH 0 rfl ?_;intro bW le11 hl06;have h36:=SL.of_frozen hl06 le11 h3;obtain rfl:=zB hMl2;exact xL ⟨_,_,(.tmp rfl ResV.nil),zN,⟨_,rfl,rfl,h36⟩⟩
theorem zKJ(xs:List NL)(x:NL):(x.ha++NLs xs).Perm (NLs (xs++[x])):=by
 simp only[NLs,cX,ck,List.flatMap_nil,cq];exact dd
theorem zCl(nest:(List zE)):∀(out:List zE) (i:Int) (o:List zE),uJ nest out i=some o->∀{B}{I0 I:Imm}{Q p c p1 c1 cs}{xs:List NL},I0.le I->(S4 I p nest c)->(RL I cs (xs.map NL.raw))->out=xs.map NL.d->(∀x∈xs,x.ok I)->(∀l a w,¬Q (.goto l) a w)->(∀a w,¬Q .outgrown a w)->(∀(I':Imm) (p2:Option Addr) (c2:Nat) (aL:List Value) (ys:List NL),I0.le I'->o=ys.map NL.d->(RL I' aL (ys.map NL.raw))->(∀x∈ys,x.ok I')->T 83 B Q (.exit 0) I' (hO Raw2 (vS p2 (ys.map NL.raw) c2) aL::NLs ys) [(3,vS p2 (ys.map NL.raw) c2)])->J Tryz.prog 83 B (nav (bodyOf f171) [1,1,0,1,0]) Q I (hO Raw2 (vS p1 (xs.map NL.raw) c1) cs::NLs xs) [(0,vS p nest c),(3,vS p1 (xs.map NL.raw) c1),(4,vI i)]:=by
 refine uJ.partial_correctness nest _ λaN ih out i o N B I0 I Q p c p1 c1 cs xs H h h2 hout bX hg ho hx=>yY hg ho<|yA<|yJ [14] rfl<|zI<|yC N ?_ ?_
 ·intro hc N;refine zS<|zW<|yK<|yE<|yG 1 [] [17] rfl<|vG zTwo ?_;intro b1 hb1;refine dL 0 zTwo (hB b1 zTwo::hO Raw2 (vS p1 (xs.map NL.raw) c1) cs::NLs xs) rfl rfl rfl rfl<|yB rfl<|zW<|yJ [6] rfl<|wS<|oR [(0,vS p nest c),(3,vS p1 (xs.map NL.raw) c1),(4,vI i),(5,vP b1 0),(6,vI 0)]<|zAm zA λh4=>?_;obtain⟨o0,az,aF⟩:=zC N;refine zMT (hs:=[hO zA (vS none ([]:List zA) 0) [],hB b1 zTwo,hO Raw2 (vS p1 (xs.map NL.raw) c1) cs]) (L:=NLs xs) (.exit 2) (λI' ai m'=>∃p4 c4 bd,RL I' bd o0/\ai=[hO zA (vS p4 o0 c4) bd,hB b1 [vS p4 o0 c4,z0],hO Raw2 (vS p1 (xs.map NL.raw) c1) cs]/\m'=[(0,vS p nest c),(3,vS p1 (xs.map NL.raw) c1),(4,vI i),(5,vP b1 0)]) (λB'=>?_) ?_
  ·refine zAR nest i 0 ([]:List zA) o0 az iR h h2 h4 (λ_ _ _ h=>by cases h.1) (λ_ _ h=>by cases h.1) ?_;intro bw Lo1 p4 c4 bd heq aJ h6;subst o0;exact zMU ⟨_,_,_,h6,rfl,rfl⟩
  rintro bw _ _ ⟨p4,c4,bd,h6,rfl,rfl⟩ aJ;have ⟨h,h2⟩:=m2 aJ h h2;have bX:=λx hx=>(bX x hx).mono aJ;have H:=H.trans aJ;refine zT<|zW<|yJ [8] rfl<|wS<|oR [(0,vS p nest c),(3,vS p1 (xs.map NL.raw) c1),(4,vI i),(5,vP b1 0),(8,vI 0)]<|zAm zA λh18=>?_;obtain⟨aO,aB,hMl1⟩:=zC aF;refine zMT (hs:=[hO zA (vS none ([]:List zA) 0) [],hO zA (vS p4 o0 c4) bd,hB b1 [vS p4 o0 c4,z0],hO Raw2 (vS p1 (xs.map NL.raw) c1) cs]) (L:=NLs xs) (.exit 4) (λI' ai m'=>∃bb bm cs7,RL I' cs7 aO/\ai=[hO zA (vS bb aO bm) cs7,hO zA (vS p4 o0 c4) bd,hB b1 [vS p4 o0 c4,vS bb aO bm],hO Raw2 (vS p1 (xs.map NL.raw) c1) cs]/\m'=[(0,vS p nest c),(3,vS p1 (xs.map NL.raw) c1),(4,vI i),(5,vP b1 0)]) (λB'=>?_) ?_
  ·refine zAS nest i 0 ([]:List zA) aO aB iR h h2 h6 h18 (λ_ _ _ h=>by cases h.1) (λ_ _ h=>by cases h.1) ?_;intro I07 Hi1 bb bm cs7 heq1 le7 h20;subst aO;exact zMU ⟨_,_,_,h20,rfl,rfl⟩
  rintro I07 _ _ ⟨bb,bm,cs7,h20,rfl,rfl⟩ le7;have ⟨h,h2,h6⟩:=m3 le7 h h2 h6;have bX:=λx hx=>(bX x hx).mono le7;have H:=H.trans le7;obtain⟨aC,hy10,N⟩:=zC hMl1;have hy11:=zIq (l':=xs.map NL.raw) (m':=[(⟨vS p4 o0 c4,vS bb aO bm⟩:Raw2)]) hy10 (by simp[hout]) rfl;obtain⟨_,rfl⟩:=zA2 hy10;have h34:RL I07 [vS p4 o0 c4,vS bb aO bm] [(⟨vS p4 o0 c4,vS bb aO bm⟩:Raw2)]:=⟨[vS p4 o0 c4,vS bb aO bm],[],rfl,rfl,⟨rfl,rfl,rfl⟩,rfl⟩;refine zT<|zI<|zL<|qX 2 [2] [(78,vS p1 (xs.map NL.raw) c1),(79,vA [vS p4 o0 c4,vS bb aO bm])]<|qB [vS p4 o0 c4,vS bb aO bm] Raw2 ?_;intro b8 hb8;refine mD 92 2 4 rfl rfl rfl h2 (.inr ⟨0,rfl⟩) h34 hy11 ?_;intro p21 c21 cs10 h35;have eR:xs.map NL.raw++[(⟨vS p4 o0 c4,vS bb aO bm⟩:Raw2)]=(xs++[(⟨p4,o0,c4,bd,bb,aO,bm,cs7⟩:NL)]).map NL.raw:=by simp[NL.raw,NL.vl,NL.vh]
  have eD:out++[(⟨o0,aO⟩:zE)]=(xs++[(⟨p4,o0,c4,bd,bb,aO,bm,cs7⟩:NL)]).map NL.d:=by simp[hout,NL.d]
  rw[eR] at h35 ⊢;refine yQ [] [3] rfl<|zO<|zI<|zL<|yQ [] [4] rfl<|yW<|kJ (zDp 0 rfl)<|kJ (zDp 2 rfl)<|zGv _ ?_<|oR [(0,vS p nest c),(3,vS p21 ((xs++[(⟨p4,o0,c4,bd,bb,aO,bm,cs7⟩:NL)]).map NL.raw) c21),(4,vI (W (i+1)))]<|ih _ (W (i+1)) _ N H h h35 eD ?_ hg ho hx
  ·show List.Perm _ (hO zA (vS bb aO bm) cs7::hO zA (vS p4 o0 c4) bd::hO Raw2 (vS p21 ((xs++[(⟨p4,o0,c4,bd,bb,aO,bm,cs7⟩:NL)]).map NL.raw) c21) cs10::NLs xs);exact List.Perm.trans ((zKJ xs ⟨p4,o0,c4,bd,bb,aO,bm,cs7⟩).symm.cons _)<|(List.Perm.swap _ _ _).trans (List.Perm.cons _ (List.Perm.swap _ _ _))
  intro x hx';rcases cF.1 hx' with hx' | hx'
  ·exact bX x hx'
  rw[cA.1 hx'];exact⟨h6,h20⟩
 intro hc N;have:=zB N;simp only[id] at this;exact vQ<|yS<|hx _ _ _ _ _ H (by rw[<- this,hout]) h2 bX
def zD7(r:(List zE)):KT:=λkk I' ai v=>
 ∃(p:Option Addr) (c:Nat) (cs:List Value) (xs:List NL),ai=hO Raw2 (vS p (xs.map NL.raw) c) cs::NLs xs/\v=tupV [vS p (xs.map NL.raw) c]/\RL I' cs (xs.map NL.raw)/\r=xs.map NL.d/\∀x∈xs,x.ok I'
theorem zEt:∀(nest:(List zE)) r,nP nest=some r->∀{I:Imm}{p c},(S4 I p nest c)->RT 171 [vS p nest c] I [] (zD7  r):=by
 intro nest r N I p c h;unfold nP at N;refine yP func171 λB=>wM []<|xN<|qB [] zE ?_;intro b hb;have h1:RL I [] (([]:List NL).map NL.raw):=rfl;refine yQ [] [3] rfl<|zW<|yJ [4] rfl<|wS<|oR [(0,vS p nest c),(3,vS (some ⟨b,0,none⟩) (([]:List NL).map NL.raw) 0),(4,vI 0)] ?_;obtain⟨o02,ho02,hMl2⟩:=zC N;refine zCl nest ([]:List zE) 0 o02 ho02 (xs:=[]) iR h h1 rfl (λ_ h=>by cases h) (λ_ _ _ h=>h) (λ_ _ h=>h) ?_;intro I1 p2 c2 aL ys le10 ho h3 hok;have:=zB hMl2;simp only[id] at this;subst this;exact zT<|uN [2] rfl<|xJ<|xL ⟨_,_,(.tmp rfl ResV.nil),(λ_ g=>g),⟨_,_,_,ys,rfl,rfl,h3,ho,hok⟩⟩
def rK(out:List zE):Option (List zE):=do
 if(decide ((out.length:Int)<=4)) then
  let x<-idx out 0
  let l<-app 48 out ([x]:List zE)
  rK l
 else
  pure (id out)
 partial_fixpoint
def nF(r0:zK)(nest:(List zE)):Option ((List zE)×zK):=do
 let y<-nP nest
 if((y.length:Int)==0) then
  pure (y,r0)
 else
  let (y2,y3)<-xC r0 40
  if(y2==0) then
   let x<-idx y 0
   let (y5,y6)<-xC y3 2
   let y7<-nN y5
   let l<-app 32 x.Lo ([y7]:List zA)
   pure (y.set 0 (zE.mk l x.Hi),y6)
  else
   if(y2==1) then
    let x<-idx y (W ((y.length:Int) - 1))
    pure (y.set (W ((y.length:Int) - 1)).toNat (zE.mk x.Lo []),y3)
   else
    if(y2==2) then
     let x<-idx y (W ((y.length:Int) - 1))
     let y7<-wW 1
     let y8<-wW 2
     let l<-app 32 x.Hi ([y7,y8]:List zA)
     pure (y.set (W ((y.length:Int) - 1)).toNat (zE.mk x.Lo l),y3)
    else
     if(y2==3) then
      let y7<-wW 99
      let x<-idx y 0
      pure (y.set 0 (zE.mk x.Lo [y7]),y3)
     else
      if(y2==4) then
       let z<-rK y
       pure (z,y3)
      else
       pure (y,y3)
theorem zCN:∀(out:List zE) (o:List zE),rK out=some o->∀{B}{I0 I:Imm}{Q}{K:HA}{p1 c1 cs},I0.le I->RL I cs out->(∀l a w,¬Q (.goto l) a w)->(∀a w,¬Q .outgrown a w)->(∀(I':Imm) (p2:Option Addr) (c2:Nat) (aL:List Value),I0.le I'->RL I' aL o->T 73 B Q (.exit 1) I' [hO zE (vS p2 o c2) aL,K] [(5,vS p2 o c2)])->J Tryz.prog 73 B (nav (bodyOf f109) [1,1,1,1,0,1,0,1,1,1,1,1,1,1,1,1,0,0]) Q I [hO zE (vS p1 out c1) cs,K] [(5,vS p1 out c1)]:=by
 refine rK.partial_correctness _ λaN ih out o N B I0 I Q K p1 c1 cs H h hg ho hx=>yY hg ho<|yA<|yJ [65] rfl<|zI<|yC N ?_ ?_
 ·intro hc N;obtain⟨x,hy,N⟩:=zC N;obtain⟨l,ay,N⟩:=zC N;refine zS<|wS<|zL<|yG 2 [] [66,67] rfl<|gR 0 rfl rfl rfl h hy ?_;intro ad aK ar bJ al;obtain⟨p3,c3,p4,c4,rfl,h1,h2⟩:=wJ al;refine zFV 0 0 ar bJ (cLoop x p3 c3 p4 c4) (vA (cLoop x p3 c3 p4 c4)) rfl rfl<|qB (cLoop x p3 c3 p4 c4) zE ?_;intro b2 hb2;have h3:RL I (cLoop x p3 c3 p4 c4) ([x]:List zE):=⟨(cLoop x p3 c3 p4 c4),[],rfl,rfl,qA ⟨_,_,rfl,h1,h2⟩,rfl⟩;exact mD 92 2 1 rfl rfl rfl h (.inr ⟨0,rfl⟩) h3 ay λp5 c5 bG h5=>yQ [] [5] rfl<|zO<|yW<|kJ (zDp 0 rfl)<|mE<|ih l _ N H h5 hg ho hx
 intro hc N;have:=zB N;simp only[id] at this;subst this;exact vQ<|yS<|hx _ _ _ _ H h
def dY(b0:Nat)(r:(List zE)×zK):KT:=λkk I' ai v=>
 ∃v0 k0,ai=[.blk b0 ⟨k0⟩]/\v=tupV [v0]/\SL I' v0 r.1/\Rp.rep I' k0 r.2
theorem zAh{B:Base}{I:Imm}{out:List zE}{p1 c1 cs}{am:Nat}{kl:List Value}{y3:zK}(h:RL I cs out)(hk:Rp.rep I kl y3):
 J Tryz.prog 73 B (nav (bodyOf f109) [1,1,1,1,1]) (QB Tryz.prog f109 B (dY am (out,y3))) I [hO zE (vS p1 out c1) cs,hB am kl] [(5,vS p1 out c1)]:=by
 refine yJ [4] rfl<|xJ<|wH 0 rfl ?_
 intro I1 af hl
 have h1:=SL.of_frozen hl af h
 exact xL ⟨_,_,(.tmp rfl ResV.nil),(λ_ g=>g),⟨_,_,rfl,rfl,h1,Rp.mono af hk⟩⟩
theorem zKK(xs:List NL):((xs.map NL.d).length:Int)=((xs.map NL.raw).length:Int):=by simp
theorem zKx{p c}(xs:List NL):vS p (xs.map NL.raw) c=vS p (xs.map NL.d) c:=by simp[vS]
theorem eC:∀r0 nest r,nF r0 nest=some r->∀{I:Imm}{am:Nat}{p c p1 c1},(S4 I p r0.b c)->(S4 I p1 nest c1)->RT 109 [vP am 0,vS p1 nest c1] I [hB am (cRd r0 p c)] (dY am r):=by
 intro r0 nest r N I am p c p1 c1 h h1;unfold nF at N;refine yP func109 λB=>?_;have H:=iS I;obtain⟨y,hy,N⟩:=zC N;refine yJ [0,1] rfl<|xN<|yG 1 [] [7] rfl<|xX (zEt nest _ hy h1) ?_;rintro I1 ax v2 k2 af - ⟨p2,c2,cs,xs,rfl,rfl,h2,rfl,bX⟩ -;have h:=h.mono af;clear h1 H;simp only[zKK] at N;refine rS (ai:=hO Raw2 (vS p2 (xs.map NL.raw) c2) cs::hB am (cRd r0 p c)::NLs xs) (λw g=>g.perm (List.Perm.cons _ (dd (l₁:=[hB am (cRd r0 p c)]) (l₂:=NLs xs))))<|yQ [] [0,5] rfl<|uN [0,5,6] rfl<|zW<|yJ [0,5,6,12] rfl<|zI<|yC N ?_ ?_
 ·intro hc N;obtain rfl:=zB N;refine zGv (NLs xs++[hO Raw2 (vS p2 (xs.map NL.raw) c2) cs,hB am (cRd r0 p c)]) (dd)<|zA3 xs bX ?_;intro I2 aE hfz;have h:=h.mono aE;have h3:=zF0 hfz;rw[<- jQ h2] at h3;refine yJ [4] rfl<|xJ<|zF<|wH 0 rfl ?_;intro I3 aJ hl;have h4:SL I3 (vS p2 (xs.map NL.raw) c2) (xs.map NL.d):=SL.of_frozen (l:=xs.map NL.d) hl aJ h3;exact xL ⟨_,_,(.tmp rfl ResV.nil),(λ_ g=>g),⟨_,_,rfl,rfl,h4,yZ ⟨_,rfl,h.mono aJ⟩⟩⟩
 intro hc N;obtain⟨⟨y2,y3⟩,ay,N⟩:=zC N;refine zS<|zW<|yE<|yG 1 [] [14] rfl<|rS (ai:=hB am (cRd r0 p c)::hO Raw2 (vS p2 (xs.map NL.raw) c2) cs::NLs xs) (λw g=>g.perm (List.Perm.swap _ _ _))<|sB (xY r0 40 _ ay h) rfl ?_;rintro I2 ax v2 k2 aE - ⟨v0,kk,rfl,rfl,rfl,h3⟩ -;obtain⟨p3,c3,rfl,h4⟩:=zZ h3;clear h3 h;have h2:=iM aE h2;have bX:=λx hx=>(bX x hx).mono aE;refine yQ [] [0,5,6,15] rfl<|wS<|yJ [0,5,6,15,16] rfl<|zI<|zGv (NLs xs++[hO Raw2 (vS p2 (xs.map NL.raw) c2) cs,hB am (cRd y3 p3 c3)]) ((dd).trans (List.Perm.swap _ _ _))<|yC N ?_ ?_
 ·intro hc0 N;obtain⟨x,hx,N⟩:=zC N;obtain⟨⟨y5,y6⟩,bB,N⟩:=zC N;obtain⟨y7,hy7,N⟩:=zC N;obtain⟨l,hl,N⟩:=zC N;obtain⟨x,hx2,rfl⟩:=zFF hx;have hx:=hx2;clear hx2;refine zKG hx bX ?_;intro I3 aJ hfz;obtain⟨xlo,xhi⟩:=bX x (tI hx |>.2.2 |> cK);replace xlo:=iM aJ xlo;replace xhi:=iM aJ xhi;have ⟨h2,h4⟩:=m2 aJ h2 h4;clear bX;refine nU 0 rfl ?_;intro I4 aX hl4;have khi:=SL.of_frozen hl4 aX xhi;replace xlo:=iM aX xlo;have ⟨h2,h4⟩:=m2 aX h2 h4;have hfz:=λj y hj hy=>(hfz j y hj hy).mono aX;have hxr:=zAn (f:=NL.raw) hx;refine oR [(0,vP am 0),(5,vS p2 (xs.map NL.raw) c2)]<|wU [.p (vS p2 (xs.map NL.raw) c2) [],.p (vS p2 (xs.map NL.raw) c2) [],.x (λI' v hx'=>∃ad,v=.pointer (some ad)/\hx'=[]/\AtO (vS p2 (xs.map NL.raw) c2) 2 0 ad),.x (λI' v hx'=>∃ad,v=.pointer (some ad)/\hx'=[]/\AtO (vS p2 (xs.map NL.raw) c2) 2 0 ad),.x (λI' v hx'=>v=x.vl/\hx'=[]),.p (vP am 0) [],.x (λI' v hx'=>∃kk,v=vI y5/\hx'=[hB am kk]/\Rp.rep I' kk y6),.x (λI' v hx'=>∃p5 c5,v=vA (cAff y7 p5 c5)/\hx'=[]/\SL I' (vS p5 y7.Coefs c5) y7.Coefs),.x (λI' v hx'=>∃b4,v=vS (some ⟨b4,0,none⟩) ([y7]:List zA) 1/\hx'=[]/\SL I' (vS (some ⟨b4,0,none⟩) ([y7]:List zA) 1) ([y7]:List zA)),.x (λI' v hx'=>∃p6 c6 cs6,v=vS p6 l c6/\hx'=[hO zA (vS p6 l c6) cs6]/\RL I' cs6 l)]
   [[],[],[(1,false)],[(2,false)],[(3,false)],[],[(5,false),(13,true)],[(6,false)],[(7,false)],[(4,false),(8,false),(14,true)]]
   [hO Raw2 (vS p2 (xs.map NL.raw) c2) cs] [[hB am (cRd y3 p3 c3)],[hO zA x.vl x.csl]] [(0,false),(6,true),(9,true)] (zY [1,2,0]) ?_ ?_
  ·refine Op<|Op<|Ox ?_<|Ox ?_<|Ox ?_<|Op<|Ox ?_<|Ox ?_<|Ox ?_<|Ox ?_<|On
   ·intro I1 hf af;exact yV [19] rfl<|gR 0 rfl rfl rfl (iM af h2) hxr λad aK ar bJ al=>yR [] iR ⟨_,rfl,rfl,ar⟩
   ·rintro I1 hf af _ _ ⟨ad,rfl,rfl,ar⟩;exact gA<|zDE [(20,.pointer (some ad))]<|pG 4 [(21,.pointer (some ad))]<|yR [] iR ⟨_,rfl,rfl,ar⟩
   ·rintro I1 hf af _ _ ⟨ad,rfl,rfl,ar⟩;refine yV [21] rfl ?_;have al:=h2.at (i:=0) (tI hxr).2.2;obtain⟨⟨bJ,o1,o2⟩,_⟩:=al;exact zFV 0 0 ar bJ [x.vl] x.vl rfl rfl<|xA iR
   ·rintro I1 hf af _ _ ⟨rfl,rfl⟩ _ _ rfl;refine yV [23] rfl<|sB (xY y3 2 _ bB (h4.mono af)) rfl ?_;rintro aS ax v2 k2 aE - ⟨v0,kk,rfl,rfl,rfl,h5⟩ -;exact yR [hB am kk] aE ⟨_,rfl,rfl,h5⟩
   ·rintro I1 hf af _ _ ⟨kk,rfl,rfl,h5⟩;refine yV [24] rfl<|xX (gZ y5 _ hy7) ?_;rintro aS ax v2 k2 aE - ⟨v0,rfl,rfl,⟨bf,rfl,h6⟩⟩ -;obtain⟨p5,c5,rfl,h7⟩:=yD h6;exact yR [] aE ⟨_,_,rfl,rfl,h7⟩
   ·rintro I1 hf af _ _ ⟨p5,c5,rfl,rfl,h7⟩;refine yV [25] rfl<|qB (cAff y7 p5 c5) zA ?_;intro b4 hb4;have h15:RL I1 (cAff y7 p5 c5) ([y7]:List zA):=⟨(cAff y7 p5 c5),_,rfl,rfl,(yO ⟨_,rfl,h7⟩),rfl⟩;exact wA 0 rfl λaP le01 hl01=>yR [] le01 ⟨_,rfl,rfl,SL.of_frozen hl01 le01 h15⟩
   rintro I1 hf af _ _ ⟨rfl,rfl⟩ _ _ ⟨b4,rfl,rfl,h16⟩ _ _ rfl;refine yV [22,26] rfl ?_;obtain⟨ccs4,k03,k04⟩:=h16;exact mD 50 2 0 rfl rfl rfl (iM af xlo) (.inl k03) k04 hl λaT aU bG h17=>uY (ai:=(hO zA (vS aT l aU) bG::hO Raw2 (vS p2 (xs.map NL.raw) c2) cs::hf)) rfl<|yR [hO zA (vS aT l aU) bG] iR ⟨_,_,_,rfl,rfl,h17⟩
  rintro I5 bt _ _ ⟨rfl,rfl⟩ _ _ ⟨kk,rfl,rfl,h5⟩ _ _ ⟨p6,c6,cs6,rfl,rfl,h6⟩;have h2:=iM bt h2;refine yV [5,18,27] rfl<|gR 2 rfl rfl rfl h2 hxr ?_;intro ad aK ar bJ al;obtain⟨rfl,o1,o2⟩:=al;refine yG 12 [] [29] rfl<|nV (c:=[vS p6 l c6,x.vh]) (x':=(⟨vS p6 l c6,x.vh⟩:Raw2)) 2 0 rfl rfl rfl ar rfl rfl bJ (by kernel_rfl) (by kernel_rfl) (by kernel_rfl) h2 hxr (by kernel_rfl) ⟨rfl,rfl,rfl⟩ λcs7 h7 bo=>uY (ai:=[hO zA (vS p6 l c6) cs6,hB am kk,hO Raw2 (vS p2 (xs.map NL.raw) c2) cs7]) rfl<|wA 0 rfl ?_;intro I6 bx hl6;have klo:=SL.of_frozen hl6 bx h6;have hpw:=zGw (r:=⟨vS p6 l c6,x.vh⟩) (d:=⟨l,x.hi⟩) (λj y hj hy=>((hfz j y hj hy).mono bt).mono bx) ⟨klo,(khi.mono bt).mono bx⟩;have h8:=hpw.rl;have e8:=jQ h7;obtain rfl:=zB N;have eL:vS p2 (xs.map NL.raw) c2=vS p2 ((xs.map NL.d).set 0 (⟨l,x.hi⟩:zE)) c2:=by simp[vS]
  rw[show (0:Int).toNat=0 from rfl] at e8 h8;rw[<- e8] at h8;rw[eL];exact rS (zY [1,0] (ai:=[hO zE (vS p2 ((xs.map NL.d).set 0 (⟨l,x.hi⟩:zE)) c2) cs7,hB am kk]))<|yQ [] [5] rfl<|zO<|zI<|oR [(5,vS p2 ((xs.map NL.d).set 0 (⟨l,x.hi⟩:zE)) c2)]<|zAh h8 (Rp.mono bx h5)
 intro hc0 N;refine yJ [0,5,6,15,30] rfl<|zI<|yC N ?_ ?_
 ·intro aD N;obtain⟨x,hx,N⟩:=zC N;obtain⟨x,hx2,rfl⟩:=zFF hx;have hx:=hx2;clear hx2;have hxr:=zAn (f:=NL.raw) hx;refine zA3 xs bX ?_;intro I3 aJ hfz;obtain⟨flo,fhi⟩:=hfz x (cK (tI hx).2.2);have ⟨h2,h4⟩:=m2 aJ h2 h4;refine zL<|yG 3 [] [32,34] rfl<|gR 0 rfl rfl rfl h2 hxr ?_;intro ad aK ar bJ al;obtain⟨rfl,o1,o2⟩:=al;refine yG 5 [] [36] rfl<|nV (c:=[x.vl,z0]) (x':=(⟨x.vl,z0⟩:Raw2)) 0 1 rfl rfl rfl ar rfl rfl bJ (by kernel_rfl) (by kernel_rfl) (by kernel_rfl) h2 hxr (by kernel_rfl) ⟨rfl,rfl,rfl⟩ ?_;intro cs7 h7 bo;have hpw:=zGw (k:=(W (((xs.map NL.raw).length:Int) - 1)).toNat) (r:=⟨x.vl,z0⟩) (d:=⟨x.lo,[]⟩) (λj y hj hy=>hfz y (cK hy)) ⟨flo,SL.nil _⟩;have h8:=hpw.rl;rw[<- jQ h7] at h8;obtain rfl:=zB N;have eL:vS p2 (xs.map NL.raw) c2=vS p2 ((xs.map NL.d).set (W (((xs.map NL.raw).length:Int) - 1)).toNat (⟨x.lo,[]⟩:zE)) c2:=by simp only[vS,cQ,cW]
  rw[eL];exact uY (ai:=[hO zE (vS p2 ((xs.map NL.d).set (W (((xs.map NL.raw).length:Int) - 1)).toNat (⟨x.lo,[]⟩:zE)) c2) cs7,hB am (cRd y3 p3 c3)]) rfl<|yQ [] [5] rfl<|zO<|zI<|oR [(5,vS p2 ((xs.map NL.d).set (W (((xs.map NL.raw).length:Int) - 1)).toNat (⟨x.lo,[]⟩:zE)) c2)]<|zAh h8 (yZ ⟨_,rfl,h4⟩)
 intro aD N;refine yJ [0,5,6,15,37] rfl<|zI<|yC N ?_ ?_
 ·intro aQ N;obtain⟨x,hx,N⟩:=zC N;obtain⟨y7,hy7,N⟩:=zC N;obtain⟨y8,hy8,N⟩:=zC N;obtain⟨l,hl,N⟩:=zC N;obtain⟨x,hx2,rfl⟩:=zFF hx;have hx:=hx2;clear hx2;refine zKG hx bX ?_;intro I3 aJ hfz;obtain⟨xlo,xhi⟩:=bX x (tI hx |>.2.2 |> cK);replace xlo:=iM aJ xlo;replace xhi:=iM aJ xhi;have ⟨h2,h4⟩:=m2 aJ h2 h4;clear bX;refine nU 1 rfl ?_;intro I4 aX hl4;have klo:=SL.of_frozen hl4 aX xlo;replace xhi:=iM aX xhi;have ⟨h2,h4⟩:=m2 aX h2 h4;have hfz:=λj y hj hy=>(hfz j y hj hy).mono aX;have hxr:=zAn (f:=NL.raw) hx;refine oR [(5,vS p2 (xs.map NL.raw) c2),(6,vI ((xs.map NL.raw).length:Int))]<|wU [.p (vS p2 (xs.map NL.raw) c2) [],.p (vI ((xs.map NL.raw).length:Int)) [],.p (vI (W (((xs.map NL.raw).length:Int) - 1))) [],.p (vS p2 (xs.map NL.raw) c2) [],.p (vI ((xs.map NL.raw).length:Int)) [],.p (vI (W (((xs.map NL.raw).length:Int) - 1))) [],.x (λI' v hx'=>∃ad,v=.pointer (some ad)/\hx'=[]/\AtO (vS p2 (xs.map NL.raw) c2) 2 (W (((xs.map NL.raw).length:Int) - 1)).toNat ad),.x (λI' v hx'=>∃ad,v=.pointer (some (ad.add 1))/\hx'=[]/\AtO (vS p2 (xs.map NL.raw) c2) 2 (W (((xs.map NL.raw).length:Int) - 1)).toNat ad),.x (λI' v hx'=>v=x.vh/\hx'=[]),.x (λI' v hx'=>∃p5 c5,v=vA (cAff y7 p5 c5)/\hx'=[]/\SL I' (vS p5 y7.Coefs c5) y7.Coefs),.x (λI' v hx'=>∃p5 c5,v=vA (cAff y8 p5 c5)/\hx'=[]/\SL I' (vS p5 y8.Coefs c5) y8.Coefs),.x (λI' v hx'=>∃b4,v=vS (some ⟨b4,0,none⟩) ([y7,y8]:List zA) 2/\hx'=[]/\SL I' (vS (some ⟨b4,0,none⟩) ([y7,y8]:List zA) 2) ([y7,y8]:List zA)),.x (λI' v hx'=>∃p6 c6 cs6,v=vS p6 l c6/\hx'=[hO zA (vS p6 l c6) cs6]/\RL I' cs6 l)]
   [[],[],[(1,false)],[],[],[(4,false)],[(3,false),(5,false)],[(6,false)],[(7,false)],[],[],[(9,false),(10,false)],[(8,false),(11,false),(16,true)]]
   [hO Raw2 (vS p2 (xs.map NL.raw) c2) cs,hB am (cRd y3 p3 c3)] [[hO zA x.vh x.csh]] [(0,false),(2,false),(12,true)] (zY [1,2,0]) ?_ ?_
  ·refine Op<|Op<|Op<|Op<|Op<|Op<|Ox ?_<|Ox ?_<|Ox ?_<|Ox ?_<|Ox ?_<|Ox ?_<|Ox ?_<|On
   ·intro I1 hf af;exact yV [42,44] rfl<|gR 0 rfl rfl rfl (iM af h2) hxr λad aK ar bJ al=>yR [] iR ⟨_,rfl,rfl,ar⟩
   ·rintro I1 hf af _ _ ⟨ad,rfl,rfl,ar⟩;exact gA<|zDE [(45,.pointer (some ad))]<|pG 8 [(46,.pointer (some (ad.add 1)))]<|yR [] iR ⟨_,rfl,rfl,ar⟩
   ·rintro I1 hf af _ _ ⟨ad,rfl,rfl,ar⟩;refine yV [46] rfl ?_;have al:=h2.at (tI hxr).2.2;obtain⟨⟨bJ,o1,o2⟩,_⟩:=al;exact zFV 0 1 ar bJ [x.vh] x.vh rfl rfl<|xA iR
   ·intro I1 hf af;refine dD []<|xX (uH 1 _ hy7) ?_;rintro aS ax v2 k2 aE - ⟨p5,c5,bG,rfl,rfl,h5⟩ -;exact wA 0 rfl λbw aJ hl3=>zE8 (hx:=[]) rfl (aE.trans aJ) rfl (zFP rfl) ⟨_,_,rfl,rfl,SL.of_frozen hl3 aJ h5⟩
   ·intro I1 hf af;refine dD []<|xX (uH 2 _ hy8) ?_;rintro aS ax v2 k2 aE - ⟨p5,c5,bG,rfl,rfl,h5⟩ -;exact wA 0 rfl λbw aJ hl3=>zE8 (hx:=[]) rfl (aE.trans aJ) rfl (zFP rfl) ⟨_,_,rfl,rfl,SL.of_frozen hl3 aJ h5⟩
   ·rintro I1 hf af _ _ ⟨p5,c5,rfl,rfl,h7⟩ _ _ ⟨p6,c6,rfl,rfl,h8⟩;refine yV [48,49] rfl<|qB [vS p5 y7.Coefs c5,vI y7.Const,vS p6 y8.Coefs c6,vI y8.Const] zA ?_;intro b4 hb4;have h15:RL I1 [vS p5 y7.Coefs c5,vI y7.Const,vS p6 y8.Coefs c6,vI y8.Const] ([y7,y8]:List zA):=⟨(cAff y7 p5 c5),_,rfl,rfl,(yO ⟨_,rfl,h7⟩),⟨(cAff y8 p6 c6),_,rfl,rfl,(yO ⟨_,rfl,h8⟩),rfl⟩⟩;exact wA 0 rfl λaP le01 hl01=>yR [] le01 ⟨_,rfl,rfl,SL.of_frozen hl01 le01 h15⟩
   rintro I1 hf af _ _ ⟨rfl,rfl⟩ _ _ ⟨b4,rfl,rfl,h16⟩ _ _ rfl;refine yV [47,50] rfl ?_;obtain⟨ccs4,k03,k04⟩:=h16;exact mD 50 2 0 rfl rfl rfl (iM af xhi) (.inl k03) k04 hl λaT aU bG h17=>uY (ai:=(hO zA (vS aT l aU) bG::hO Raw2 (vS p2 (xs.map NL.raw) c2) cs::hB am (cRd y3 p3 c3)::hf)) rfl<|yR [hO zA (vS aT l aU) bG] iR ⟨_,_,_,rfl,rfl,h17⟩
  rintro I5 bt _ _ ⟨rfl,rfl⟩ _ _ ⟨rfl,rfl⟩ _ _ ⟨p6,c6,cs6,rfl,rfl,h6⟩;have h2:=iM bt h2;refine yV [5,39,41,51] rfl<|gR 1 rfl rfl rfl h2 hxr ?_;intro ad aK ar bJ al;obtain⟨rfl,o1,o2⟩:=al;refine yG 15 [] [53] rfl<|nV (c:=[x.vl,vS p6 l c6]) (x':=(⟨x.vl,vS p6 l c6⟩:Raw2)) 1 1 rfl rfl rfl ar rfl rfl bJ (by kernel_rfl) (by kernel_rfl) (by kernel_rfl) h2 hxr (by kernel_rfl) ⟨rfl,rfl,rfl⟩ λcs7 h7 bo=>uY (ai:=[hO zA (vS p6 l c6) cs6,hO Raw2 (vS p2 (xs.map NL.raw) c2) cs7,hB am (cRd y3 p3 c3)]) rfl<|wA 0 rfl ?_;intro I6 bx hl6;have khi:=SL.of_frozen hl6 bx h6;have hpw:=zGw (k:=(W (((xs.map NL.raw).length:Int) - 1)).toNat) (r:=⟨x.vl,vS p6 l c6⟩) (d:=⟨x.lo,l⟩) (λj y hj hy=>((hfz j y hj hy).mono bt).mono bx) ⟨(klo.mono bt).mono bx,khi⟩;have h8:=hpw.rl;rw[<- jQ h7] at h8;obtain rfl:=zB N;have eL:vS p2 (xs.map NL.raw) c2=vS p2 ((xs.map NL.d).set (W (((xs.map NL.raw).length:Int) - 1)).toNat (⟨x.lo,l⟩:zE)) c2:=by simp only[vS,cQ,cW]
  rw[eL];exact uY (ai:=[hO zE (vS p2 ((xs.map NL.d).set (W (((xs.map NL.raw).length:Int) - 1)).toNat (⟨x.lo,l⟩:zE)) c2) cs7,hB am (cRd y3 p3 c3)]) rfl<|yQ [] [5] rfl<|zO<|zI<|oR [(5,vS p2 ((xs.map NL.d).set (W (((xs.map NL.raw).length:Int) - 1)).toNat (⟨x.lo,l⟩:zE)) c2)]<|zAh h8 (yZ ⟨_,rfl,(h4.mono bt).mono bx⟩)
 intro aQ N;refine zA3 xs bX ?_;intro I3 aJ hfz;have ⟨h2,h4⟩:=m2 aJ h2 h4;clear bX;refine yJ [0,5,6,15,54] rfl<|zI<|yC N ?_ ?_
 ·intro bu N;obtain⟨y7,hy7,N⟩:=zC N;obtain⟨x,hx,N⟩:=zC N;obtain⟨x,hx2,rfl⟩:=zFF hx;have hx:=hx2;clear hx2;have hxr:=zAn (f:=NL.raw) hx;refine zL<|yG 1 [] [56] rfl<|xX (uH 99 _ hy7) ?_;rintro I4 ax v2 k2 aX - ⟨p5,c5,bG,rfl,rfl,h5⟩ -;refine wA 0 rfl ?_;intro I5 bt hl5;have h7:=SL.of_frozen hl5 bt h5;refine qB (cAff y7 p5 c5) zA ?_;intro b4 hb4;have h15:RL I5 (cAff y7 p5 c5) ([y7]:List zA):=⟨(cAff y7 p5 c5),_,rfl,rfl,(yO ⟨_,rfl,h7⟩),rfl⟩;refine wA 0 rfl ?_;intro I6 bx hl6;have khi:SL I6 (vS (some ⟨b4,0,none⟩) ([y7]:List zA) 1) [y7]:=SL.of_frozen hl6 bx h15;have le:=(aX.trans bt).trans bx;have ⟨h2,h4⟩:=m2 le h2 h4;have hfz:=λx hx=>(hfz x hx).mono le;obtain⟨flo,fhi⟩:=hfz x (cK (tI hx).2.2);refine gR 0 rfl rfl rfl h2 hxr ?_;intro ad aK ar bJ al;obtain⟨rfl,o1,o2⟩:=al;refine yG 5 [] [60] rfl<|nV (c:=[x.vl,vS (some ⟨b4,0,none⟩) ([y7]:List zA) 1]) (x':=(⟨x.vl,vS (some ⟨b4,0,none⟩) ([y7]:List zA) 1⟩:Raw2)) 0 1 rfl rfl rfl ar rfl rfl bJ (by kernel_rfl) (by kernel_rfl) (by kernel_rfl) h2 hxr (by kernel_rfl) ⟨rfl,rfl,rfl⟩ ?_;intro cs7 h7 bo;have hpw:=zGw (k:=0) (r:=⟨x.vl,vS (some ⟨b4,0,none⟩) ([y7]:List zA) 1⟩) (d:=⟨x.lo,[y7]⟩) (λj y hj hy=>hfz y (cK hy)) ⟨flo,khi⟩;have h8:=hpw.rl;have e8:=jQ h7;rw[show (0:Int).toNat=0 from rfl] at e8;rw[<- e8] at h8;obtain rfl:=zB N;have eL:vS p2 (xs.map NL.raw) c2=vS p2 ((xs.map NL.d).set 0 (⟨x.lo,[y7]⟩:zE)) c2:=by simp only[vS,cQ,cW]
  rw[eL];exact uY (ai:=[hO zE (vS p2 ((xs.map NL.d).set 0 (⟨x.lo,[y7]⟩:zE)) c2) cs7,hB am (cRd y3 p3 c3)]) rfl<|yQ [] [5] rfl<|zO<|zI<|oR [(5,vS p2 ((xs.map NL.d).set 0 (⟨x.lo,[y7]⟩:zE)) c2)]<|zAh h8 (yZ ⟨_,rfl,h4⟩)
 intro bu N;have h8:=zF0 hfz;rw[<- jQ h2] at h8;rw[zKx];refine yJ [0,5,15,61] rfl<|zI<|yC N ?_ ?_
 ·intro bK N;obtain⟨z,hz,N⟩:=zC N;obtain rfl:=zB N;exact yK<|oR [(5,vS p2 (xs.map NL.d) c2)]<|zCN (xs.map NL.d) z hz iR h8 (λ_ _ _ h=>h) (λ_ _ h=>h) λI4 p6 c6 cs6 aX h9=>zT<|zO<|zI<|oR [(5,vS p6 z c6)]<|zAh h9 (yZ ⟨_,rfl,h4.mono aX⟩)
 intro bK N;obtain rfl:=zB N;exact zS<|zO<|zI<|oR [(5,vS p2 (xs.map NL.d) c2)]<|zAh h8 (yZ ⟨_,rfl,h4⟩)
def eQ(r:zD):KT:=λkk I' ai v=>
 ∃a0_2 c0_2 a0_5 c0_5 a0_6 c0_6 s0_6,ai=[.osl (.slice a0_6 r.Kids.length c0_6) (Rp.sz zD) s0_6]/\v=tupV [(.agg ⟨[.int .i64 r.Kind,.int .i64 r.Num,.slice a0_2 r.Index.Coefs.length c0_2,.int .i64 r.Index.Const,.string ⟨⟨r.Read.Array.l⟩⟩,.slice a0_5 r.Read.Subs.length c0_5,.slice a0_6 r.Kids.length c0_6]⟩)]/\SL I' (.slice a0_2 r.Index.Coefs.length c0_2) r.Index.Coefs/\SL I' (.slice a0_5 r.Read.Subs.length c0_5) r.Read.Subs/\RepL (Rp.rep I') (Rp.sz zD) s0_6 r.Kids
mutual
def qU(e0:zD):Option (zD):=do
 let y<-uX e0.Index
 let y1<-uF e0.Read
 let Kids1<-vZ (same e0) (same 0) ([]:List zD)
 pure (zD.mk e0.Kind e0.Num y (zH.mk y1.Array y1.Subs) Kids1)
 partial_fixpoint
def vZ(e0:zD)(i:Int)(Kids:List zD):Option (List zD):=do
 if(decide (i<(e0.Kids.length:Int))) then
  let x<-idx e0.Kids i
  let y2<-qU (same x)
  let l<-app 112 Kids ([y2]:List zD)
  vZ (same e0) (W (i+1)) (same l)
 else
  pure (id Kids)
 partial_fixpoint
end
theorem zCO:(∀(e0:zD) r,qU e0=some r->∀{I:Imm}{p c p1 c1 p2 c2},(S4 I p e0.Index.Coefs c)->(S4 I p1 e0.Read.Subs c1)->(S4 I p2 e0.Kids c2)->RT 218 [vA (cExpr e0 p c p1 c1 p2 c2)] I [] (eQ  r))/\(∀(e0:zD) (i:Int) (Kids:List zD) o,vZ e0 i Kids=some o->∀{B}{I0 I:Imm}{Q}{y:zA}{y1:zH}{p c p1 c1 p2 c2}{b:Nat}{b1:Nat}{p31 c31 p41 c41 cs11}{b2:Nat}{p5 c5 bf},I0.le I->(S4 I p31 y.Coefs c31)->(RL I cs11 y1.Subs)->(S4 I p e0.Index.Coefs c)->(S4 I p1 e0.Read.Subs c1)->(S4 I p2 e0.Kids c2)->(RL I bf Kids)->NG Q->NO Q->(∀(I':Imm) (Kids1:List zD) (p6:Option Addr) (c6:Nat) (bd:List Value),o=Kids1->I0.le I'->(RL I' bd Kids1)->T 35 B Q (.exit 0) I' [hO zD (vS p6 Kids1 c6) bd,hB b2 [vI e0.Kind,vI e0.Num,vS p31 y.Coefs c31,vI y.Const,vT y1.Array.l,vS p41 y1.Subs c41,vS p6 Kids1 c6],hO zA (vS p41 y1.Subs c41) cs11,hB b1 zExpr] [(2,vP b1 0),(3,vP b2 0)])->J Tryz.prog 35 B (nav (bodyOf f218) [1,1,0,1,0]) Q I [hO zD (vS p5 Kids c5) bf,hB b2 [vI e0.Kind,vI e0.Num,vS p31 y.Coefs c31,vI y.Const,vT y1.Array.l,vS p41 y1.Subs c41,vS p5 Kids c5],hO zA (vS p41 y1.Subs c41) cs11,hB b1 zExpr,hB b (cExpr e0 p c p1 c1 p2 c2)] [(1,vP b 0),(2,vP b1 0),(3,vP b2 0),(4,vI i)]):=by
 refine qU.mutual_partial_correctness _ _ ?_ ?_
 ·intro F_spec_l3CopyExpr_l1 ih_spec_l3CopyExpr_l1 e0 r N I p c p1 c1 p2 c2 h h1 h2;refine yP func218 λB=>?_;have H:=iS I;refine yE<|vM (cExpr e0 p c p1 c1 p2 c2) ?_;intro b hb;refine vG zExpr ?_;intro b1 hb1;refine yB rfl<|zI<|yA ?_;obtain⟨y,hy,N⟩:=zC N;obtain⟨y1,ay,N⟩:=zC N;refine wU [.p (vP b 0) [],.p (vI e0.Kind) [1],.p (vP b 1) [],.p (vI e0.Num) [1],.p (vP b 2) [],.p (vA (cAff e0.Index p c)) [1],.x (eVAff y),.p (vP b 4) [],.p (vA (cAccess e0.Read p1 c1)) [1],.x (λI' v hx=>∃p4 c4 aL,v=vA (cAccess y1 p4 c4)/\hx=[hO zA (vS p4 y1.Subs c4) aL]/\(RL I' aL y1.Subs)),.x (λI' v hx=>∃p31 c31 p41 c41 cs11,v=vA [vI e0.Kind,vI e0.Num,vS p31 y.Coefs c31,vI y.Const,vT y1.Array.l,vS p41 y1.Subs c41,z0]/\hx=[hO zA (vS p41 y1.Subs c41) cs11]/\(S4 I' p31 y.Coefs c31)/\(RL I' cs11 y1.Subs)),.x (λI' v hx=>∃b2,v=vP b2 0/\hx=[hB b2 zExpr])] [[],[(0,false)],[],[(2,false)],[],[(4,false)],[(5,false)],[],[(7,false)],[(8,false)],[(1,false),(3,false),(6,false),(9,true)],[]] [hB b1 zExpr,hB b (cExpr e0 p c p1 c1 p2 c2)] [] [(10,true),(11,true)] (zY [0,1]) ?_ ?_
  ·refine Op<|Op<|Op<|Op<|Op<|Op<|Ox ?_<|Op<|Op<|Ox ?_<|Ox ?_<|Ox ?_<|On
   ·intro I1 hf af;refine yV [10] rfl ?_;have H:=iS I1;have h:=h.mono af;refine xX (eN e0.Index _ hy h) ?_;rintro I0 ax v2 k2 le - ⟨v0,rfl,rfl,⟨cs,rfl,h3⟩⟩ -;have H:=H.trans le;obtain⟨p3,c3,rfl,h4⟩:=yD h3;exact yR [] H ⟨_,_,rfl,rfl,h4⟩
   ·intro I1 hf af;refine yV [13] rfl ?_;have H:=iS I1;have h1:=h1.mono af;refine xX (gJ e0.Read _ ay h1) ?_;rintro aP ax v2 k2 af - ⟨p4,c4,aL,rfl,rfl,h5⟩ -;have H:=H.trans af;exact yR [hO zA (vS p4 y1.Subs c4) aL] H ⟨_,_,_,rfl,rfl,h5⟩
   ·rintro I1 hf af _ _ ⟨rfl,rfl⟩ _ _ ⟨rfl,rfl⟩ _ _ ⟨p3,c3,rfl,rfl,h4⟩ _ _ ⟨p4,c4,aL,rfl,rfl,h5⟩;exact yV [6,8,11,14] rfl<|pG 11 [(15,vA [vI e0.Kind,vI e0.Num,vS p3 y.Coefs c3,vI y.Const,vT y1.Array.l,vS p4 y1.Subs c4,z0])]<|yR [hO zA (vS p4 y1.Subs c4) aL] iR ⟨_,_,_,_,_,rfl,rfl,h4,h5⟩
   intro I1 hf af;refine dD []<|vG zExpr ?_;intro b2 hb2;exact yR [hB b2 zExpr] iR ⟨_,rfl,rfl⟩
  rintro aS aE _ _ ⟨p31,c31,p41,c41,cs11,rfl,rfl,h41,h51⟩ _ _ ⟨b2,rfl,rfl⟩;refine yV [1,2,3,15] rfl ?_;have ⟨h,h1,h2⟩:=m3 aE h h1 h2;refine xW 0 [vI e0.Kind,vI e0.Num,vS p31 y.Coefs c31,vI y.Const,vT y1.Array.l,vS p41 y1.Subs c41,z0] rfl<|yB rfl<|zW<|yJ [4] rfl<|wS<|oR [(1,vP b 0),(2,vP b1 0),(3,vP b2 0),(4,vI 0)]<|zAm zD λh6=>?_;obtain⟨o0,az,aF⟩:=zC N;refine ih_spec_l3CopyExpr_l1 e0 0 ([]:List zD) o0 az iR h41 h51 h h1 h2 h6 (λ_ _ _ h=>h) (λ_ _ h=>h) ?_;intro I07 Kids1 p6 c6 bd heq le7 h8;subst o0;have ⟨h41,h51⟩:=m2 le7 h41 h51;refine zT<|xN<|qX 1 [1] [(34,vA [vI e0.Kind,vI e0.Num,vS p31 y.Coefs c31,vI y.Const,vT y1.Array.l,vS p41 y1.Subs c41,vS p6 Kids1 c6])]<|xW 3 [vI e0.Kind,vI e0.Num,vS p31 y.Coefs c31,vI y.Const,vT y1.Array.l,vS p41 y1.Subs c41,vS p6 Kids1 c6] rfl<|yB rfl<|xJ<|wH 2 rfl ?_;intro I08 le8 hl02;have h19:=SL.of_frozen hl02 le8 h51;have ⟨h8,h41⟩:=m2 le8 h8 h41;obtain rfl:=zB aF;exact xL ⟨_,_,(.cell 2 rfl rfl (by kernel_rfl) ResV.nil),(zV [0] rfl (by decide)),⟨_,_,_,_,_,_,_,rfl,rfl,h41,h19,h8⟩⟩
 intro F_spec_l3CopyExpr F_spec_l3CopyExpr_l1 ih_spec_l3CopyExpr ih_spec_l3CopyExpr_l1 e0 i Kids o N B I0 I Q y y1 p c p1 c1 p2 c2 b b1 p31 c31 p41 c41 cs11 b2 p5 c5 bf H h41 h51 h h1 h2 h7 hg ho hx;refine yY hg ho<|yA<|yE<|yQ [4] [20] rfl<|zI<|yC N ?_ ?_
 ·intro hc N;refine zS<|zW<|yK ?_;obtain⟨x,aI,N⟩:=zC N;obtain⟨y2,aW,N⟩:=zC N;obtain⟨l,br,N⟩:=zC N;refine wU [.p (vP b2 6) [],.p (vS p5 Kids c5) [0],.p (vP b 6) [],.p (vS p2 e0.Kids c2) [3],.p (vI i) [],.x (ePExpr x),.x (eVExpr x),.x (λI' v hx=>∃aZ ba aT aU bv bc bD,v=vA (cExpr y2 aZ ba aT aU bv bc)/\hx=[hO zD (vS bv y2.Kids bc) bD]/\(S4 I' aZ y2.Index.Coefs ba)/\(S4 I' aT y2.Read.Subs aU)/\(RL I' bD y2.Kids)),.x (λI' v hx=>∃b3,v=vS (some ⟨b3,0,none⟩) ([y2]:List zD) 1/\hx=[]/\(SL I' (vS (some ⟨b3,0,none⟩) ([y2]:List zD) 1) ([y2]:List zD))),.x (λI' v hx=>∃bb bm bG,v=vS bb l bm/\hx=[hO zD (vS bb l bm) bG]/\(RL I' bG l))] [[],[(0,false)],[],[(2,false)],[],[(3,false),(4,false)],[(5,false)],[(6,false)],[(7,true)],[(1,false),(8,false),(12,true)]] [hB b2 [vI e0.Kind,vI e0.Num,vS p31 y.Coefs c31,vI y.Const,vT y1.Array.l,vS p41 y1.Subs c41,vS p5 Kids c5],hO zA (vS p41 y1.Subs c41) cs11,hB b1 zExpr,hB b (cExpr e0 p c p1 c1 p2 c2)] [[hO zD (vS p5 Kids c5) bf]] [(9,true)] (zY [1,2,3,4,0]) ?_ ?_
  ·refine Op<|Op<|Op<|Op<|Op<|Ox ?_<|Ox ?_<|Ox ?_<|Ox ?_<|Ox ?_<|On
   ·intro I1 hf af;refine yV [26,27] rfl ?_;have h2:=h2.mono af;refine wB rfl rfl h2 aI ?_;intro ad aK ar al;obtain⟨p7,c7,p8,c8,p9,c9,rfl,h9,h10,h11⟩:=wO al;exact yR [] iR ⟨_,_,_,_,_,_,_,rfl,rfl,ar,h9,h10,h11⟩
   ·rintro I1 hf af _ _ ⟨ad,p7,c7,p8,c8,p9,c9,rfl,rfl,ar,h9,h10,h11⟩;exact yV [28] rfl<|xU 0 ar (cExpr x p7 c7 p8 c8 p9 c9) (vA (cExpr x p7 c7 p8 c8 p9 c9)) rfl<|yR [] iR ⟨_,_,_,_,_,_,rfl,rfl,h9,h10,h11⟩
   ·rintro I1 hf af _ _ ⟨p71,c71,p81,c81,p91,c91,rfl,rfl,h91,h101,h111⟩;refine yV [29] rfl ?_;have H:=iS I1;refine xX (ih_spec_l3CopyExpr x _ aW h91 h101 h111) ?_;rintro bw ax v2 k2 aJ - ⟨aZ,ba,aT,aU,bv,bc,bD,rfl,rfl,h12,h13,h14⟩ -;have H:=H.trans aJ;exact yR [hO zD (vS bv y2.Kids bc) bD] H ⟨_,_,_,_,_,_,_,rfl,rfl,h12,h13,h14⟩
   ·rintro I1 hf af _ _ ⟨aZ,ba,aT,aU,bv,bc,bD,rfl,rfl,h12,h13,h14⟩;refine yV [30] rfl ?_;have H:=iS I1;refine wA 0 rfl ?_;intro bI aX hl0;have h15:=SL.of_frozen hl0 aX h14;have ⟨h12,h13,H⟩:=m3 aX h12 h13 H;refine mX (rc y2 (wK ⟨_,_,_,rfl,h12,h13,h15⟩) rN) ?_;intro b3 bL bt h17;have H:=H.trans bt;exact yR [] H ⟨_,rfl,rfl,h17⟩
   rintro I1 hf af _ _ ⟨rfl,rfl⟩ _ _ ⟨b3,rfl,rfl,h17⟩ _ _ rfl;refine yV [24,31] rfl ?_;have h7:=iM af h7;obtain⟨bi,k0,k01⟩:=h17;have h17:SL I1 (vS (some ⟨b3,0,none⟩) ([y2]:List zD) 1) ([y2]:List zD):=⟨_,k0,k01⟩;exact mD 53 7 0 rfl rfl rfl h7 (.inl k0) k01 br λbb bm bG h18=>uY (ai:=(hO zD (vS bb l bm) bG::hB b2 [vI e0.Kind,vI e0.Num,vS p31 y.Coefs c31,vI y.Const,vT y1.Array.l,vS p41 y1.Subs c41,vS p5 Kids c5]::hO zA (vS p41 y1.Subs c41) cs11::hB b1 zExpr::hB b (cExpr e0 p c p1 c1 p2 c2)::hf)) rfl<|yR [hO zD (vS bb l bm) bG] iR ⟨_,_,_,rfl,rfl,h18⟩
  rintro I06 bx _ _ ⟨bb,bm,bG,rfl,rfl,h18⟩;refine yV [1,2,3,4,32] rfl ?_;have ⟨h41,h51,h,h1,h2,H⟩:=m6 bx h41 h51 h h1 h2 H;exact yG 11 [] [33] rfl<|xW 1 [vI e0.Kind,vI e0.Num,vS p31 y.Coefs c31,vI y.Const,vT y1.Array.l,vS p41 y1.Subs c41,vS bb l bm] rfl<|yB rfl<|zO<|zI<|zL<|yQ [] [4] rfl<|yW<|mE<|ih_spec_l3CopyExpr_l1 e0 (W (i+1)) l _ N H h41 h51 h h1 h2 h18 hg ho hx
 intro hc N;exact vQ<|wD (zV [0,1,2,3] rfl (by decide))<|yS<|hx _ _ _ _ _ (zB N).symm H h7
theorem zCm:∀e0 r,qU e0=some r->∀{I:Imm}{p c p1 c1 p2 c2},(S4 I p e0.Index.Coefs c)->(S4 I p1 e0.Read.Subs c1)->(S4 I p2 e0.Kids c2)->RT 218 [vA (cExpr e0 p c p1 c1 p2 c2)] I [] (eQ  r):=zCO.1
def zEX(r:zM):KT:=λkk I' ai v=>
 ∃a0_1 c0_1 s0_1 a0_4 c0_4 a0_7 c0_7 a0_8 c0_8 s0_8,ai=[.osl (.slice a0_1 r.Write.Subs.length c0_1) (Rp.sz zA) s0_1,.osl (.slice a0_8 r.Value.Kids.length c0_8) (Rp.sz zD) s0_8]/\v=tupV [(.agg ⟨[.string ⟨⟨r.Write.Array.l⟩⟩,.slice a0_1 r.Write.Subs.length c0_1,.int .i64 r.Value.Kind,.int .i64 r.Value.Num,.slice a0_4 r.Value.Index.Coefs.length c0_4,.int .i64 r.Value.Index.Const,.string ⟨⟨r.Value.Read.Array.l⟩⟩,.slice a0_7 r.Value.Read.Subs.length c0_7,.slice a0_8 r.Value.Kids.length c0_8]⟩)]/\RepL (Rp.rep I') (Rp.sz zA) s0_1 r.Write.Subs/\SL I' (.slice a0_4 r.Value.Index.Coefs.length c0_4) r.Value.Index.Coefs/\SL I' (.slice a0_7 r.Value.Read.Subs.length c0_7) r.Value.Read.Subs/\RepL (Rp.rep I') (Rp.sz zD) s0_8 r.Value.Kids
def jX(s:zM):Option (zM):=do
 let y<-uF s.Write
 let y1<-qU s.Value
 pure (zM.mk y y1)
theorem zBn:∀s r,jX s=some r->∀{I:Imm}{p c p1 c1 p2 c2 p3 c3},(S4 I p s.Write.Subs c)->(S4 I p1 s.Value.Index.Coefs c1)->(S4 I p2 s.Value.Read.Subs c2)->(S4 I p3 s.Value.Kids c3)->RT 180 [vA (cStmt s p c p1 c1 p2 c2 p3 c3)] I [] (zEX  r):=by
 intro s r N I p c p1 c1 p2 c2 p3 c3 h h1 h2 h3;unfold jX at N;refine yP func180 λB=>?_;have H:=iS I;refine yE<|vM (cStmt s p c p1 c1 p2 c2 p3 c3) ?_;intro b hb;refine vG [vT ([]),z0,vI 0,vI 0,z0,vI 0,vT ([]),z0,z0] ?_;intro b1 hb1;refine yB rfl<|zI<|yA ?_;obtain⟨y,hy,N⟩:=zC N;obtain⟨y1,ay,N⟩:=zC N;refine wU [.p (vP b 0) [],.p (vA (cAccess s.Write p c)) [1],.x (λI' v hx=>∃p4 c4 cs,v=vA (cAccess y p4 c4)/\hx=[hO zA (vS p4 y.Subs c4) cs]/\(RL I' cs y.Subs)),.p (vP b 2) [],.p (vA (cExpr s.Value p1 c1 p2 c2 p3 c3)) [1],.x (λI' v hx=>∃p5 c5 p6 c6 p7 c7 aL,v=vA (cExpr y1 p5 c5 p6 c6 p7 c7)/\hx=[hO zD (vS p7 y1.Kids c7) aL]/\(S4 I' p5 y1.Index.Coefs c5)/\(S4 I' p6 y1.Read.Subs c6)/\(RL I' aL y1.Kids)),.x (λI' v hx=>∃p41 c41 p51 c51 p61 c61 p71 c71 cs11 bf,v=vA [vT y.Array.l,vS p41 y.Subs c41,vI y1.Kind,vI y1.Num,vS p51 y1.Index.Coefs c51,vI y1.Index.Const,vT y1.Read.Array.l,vS p61 y1.Read.Subs c61,vS p71 y1.Kids c71]/\hx=[hO zD (vS p71 y1.Kids c71) cs11,hO zA (vS p41 y.Subs c41) bf]/\(RL I' bf y.Subs)/\(S4 I' p51 y1.Index.Coefs c51)/\(S4 I' p61 y1.Read.Subs c61)/\(RL I' cs11 y1.Kids))] [[],[(0,false)],[(1,false)],[],[(3,false)],[(4,false)],[(2,true),(5,true)]] [hB b1 [vT ([]),z0,vI 0,vI 0,z0,vI 0,vT ([]),z0,z0],hB b (cStmt s p c p1 c1 p2 c2 p3 c3)] [] [(6,true)] (zY [0,1]) ?_ ?_
 ·refine Op<|Op<|Ox ?_<|Op<|Op<|Ox ?_<|Ox ?_<|On
  ·intro I1 hf af;refine yV [4] rfl ?_;have H:=iS I1;have h:=h.mono af;refine xX (gJ s.Write _ hy h) ?_;rintro I0 ax v2 k2 le - ⟨p4,c4,cs,rfl,rfl,h4⟩ -;have H:=H.trans le;exact yR [hO zA (vS p4 y.Subs c4) cs] H ⟨_,_,_,rfl,rfl,h4⟩
  ·intro I1 hf af;refine yV [7] rfl ?_;have H:=iS I1;have ⟨h1,h2,h3⟩:=m3 af h1 h2 h3;refine xX (zCm s.Value _ ay h1 h2 h3) ?_;rintro aP ax v2 k2 af - ⟨p5,c5,p6,c6,p7,c7,aL,rfl,rfl,h5,h6,h7⟩ -;have H:=H.trans af;exact yR [hO zD (vS p7 y1.Kids c7) aL] H ⟨_,_,_,_,_,_,_,rfl,rfl,h5,h6,h7⟩
  rintro I1 hf af _ _ ⟨p4,c4,cs,rfl,rfl,h4⟩ _ _ ⟨p5,c5,p6,c6,p7,c7,aL,rfl,rfl,h5,h6,h7⟩;exact yV [5,8] rfl<|pG 7 [(9,vA [vT y.Array.l,vS p4 y.Subs c4,vI y1.Kind,vI y1.Num,vS p5 y1.Index.Coefs c5,vI y1.Index.Const,vT y1.Read.Array.l,vS p6 y1.Read.Subs c6,vS p7 y1.Kids c7])]<|yR [hO zD (vS p7 y1.Kids c7) aL,hO zA (vS p4 y.Subs c4) cs] iR ⟨_,_,_,_,_,_,_,_,_,_,rfl,rfl,h4,h5,h6,h7⟩
 rintro aS aE _ _ ⟨p41,c41,p51,c51,p61,c61,p71,c71,cs11,bf,rfl,rfl,h41,h51,h61,h71⟩;refine yV [2,9] rfl ?_;refine xW 2 [vT y.Array.l,vS p41 y.Subs c41,vI y1.Kind,vI y1.Num,vS p51 y1.Index.Coefs c51,vI y1.Index.Const,vT y1.Read.Array.l,vS p61 y1.Read.Subs c61,vS p71 y1.Kids c71] rfl<|yB rfl<|zI<|yX ?_;obtain rfl:=zB N;exact xL ⟨_,_,(.cell 2 rfl rfl (by kernel_rfl) ResV.nil),(zV [1,0] rfl (by decide)),⟨_,_,_,_,_,_,_,_,_,_,rfl,rfl,h41,h51,h61,h71⟩⟩
def zEY(r:zP):KT:=λkk I' ai v=>
 ∃a0_0 c0_0 s0_0 a0_1 c0_1 s0_1,ai=[.osl (.slice a0_0 r.Arrays.length c0_0) (Rp.sz zG) s0_0,.osl (.slice a0_1 r.Parts.length c0_1) (Rp.sz zJ) s0_1]/\v=tupV [(.agg ⟨[.slice a0_0 r.Arrays.length c0_0,.slice a0_1 r.Parts.length c0_1]⟩)]/\RepL (Rp.rep I') (Rp.sz zG) s0_0 r.Arrays/\RepL (Rp.rep I') (Rp.sz zJ) s0_1 r.Parts
def tZ(p:zP)(i:Int)(Arrays:List zG):Option (List zG):=do
 if(decide (i<(p.Arrays.length:Int))) then
  let x<-idx p.Arrays i
  let x1<-idx p.Arrays i
  let l<-app 8 ([]:List Int) x1.Dims
  let l1<-app 40 Arrays ([(zG.mk x.Name l)]:List zG)
  tZ p (W (i+1)) l1
 else
  pure (id Arrays)
 partial_fixpoint
theorem zAT(p:zP):∀(i:Int) (Arrays:List zG) (o:List zG),tZ p i Arrays=some o->∀{B}{I0 I:Imm}{Q p1 c p2 c1}{b:Nat}{b1:Nat}{b2:Nat}{p3 c2 cs},I0.le I->(S4 I p1 p.Arrays c)->(S4 I p2 p.Parts c1)->(RL I cs Arrays)->NG Q->NO Q->(∀(I':Imm) (av:List zG) (p4:Option Addr) (c3:Nat) (aL:List Value),o=av->I0.le I'->(RL I' aL av)->T 84 B Q (.exit 0) I' [hO zG (vS p4 av c3) aL,hB b2 [vS p4 av c3,z0],hB b1 zTwo,hB b (cProg p p1 c p2 c1)] [(1,vP b 0),(2,vP b1 0),(3,vP b2 0)])->J Tryz.prog 84 B (nav (bodyOf f120) [1,1,0,1,0]) Q I [hO zG (vS p3 Arrays c2) cs,hB b2 [vS p3 Arrays c2,z0],hB b1 zTwo,hB b (cProg p p1 c p2 c1)] [(1,vP b 0),(2,vP b1 0),(3,vP b2 0),(4,vI i)]:=by
 refine tZ.partial_correctness p _ λaN ih i Arrays o N B I0 I Q p1 c p2 c1 b b1 b2 p3 c2 cs H h h1 h3 hg ho hx=>yY hg ho<|yA<|yE<|yQ [3] [13] rfl<|zI<|yC N ?_ ?_
 ·intro hc N;refine zS<|zW<|yK ?_;obtain⟨x,hy,N⟩:=zC N;obtain⟨x1,ay,N⟩:=zC N;obtain⟨l,aI,N⟩:=zC N;obtain⟨l1,aW,N⟩:=zC N;refine wU [.p (vP b2 0) [],.p (vS p3 Arrays c2) [0],.p (vP b 0) [],.p (vS p1 p.Arrays c) [2],.p (vI i) [],.x (ePArr x),.x (ePArr x),.q (vT x.Name.l),.x (λI' v hx=>∃b3,v=vS (some ⟨b3,0,none⟩) ([]:List Int) 0/\hx=[hO Int (vS (some ⟨b3,0,none⟩) ([]:List Int) 0) []]/\(RL I' [] ([]:List Int))),.p (vP b 0) [],.p (vS p1 p.Arrays c) [2],.p (vI i) [],.x (ePArr x1),.x (eQArr 1 x1),.x (eS x1.Dims),.x (λI' v hx=>∃p7 c6 bf,v=vS p7 l c6/\hx=[hO Int (vS p7 l c6) bf]/\(RL I' bf l)),.x (λI' v hx=>∃p71 c61 cs21,v=vA [vT x.Name.l,vS p71 l c61]/\hx=[hO Int (vS p71 l c61) cs21]/\(RL I' cs21 l)),.x (λI' v hx=>∃b4,v=vS (some ⟨b4,0,none⟩) ([(zG.mk x.Name l)]:List zG) 1/\hx=[]/\(SL I' (vS (some ⟨b4,0,none⟩) ([(zG.mk x.Name l)]:List zG) 1) ([(zG.mk x.Name l)]:List zG))),.x (λI' v hx=>∃p8 c7 bd,v=vS p8 l1 c7/\hx=[hO zG (vS p8 l1 c7) bd]/\(RL I' bd l1))] [[],[(0,false)],[],[(2,false)],[],[(3,false),(4,false)],[(5,false)],[(6,false)],[],[],[(9,false)],[],[(10,false),(11,false)],[(12,false)],[(13,false)],[(8,true),(14,false)],[(7,false),(15,true)],[(16,true)],[(1,false),(17,false),(21,true)]] [hB b2 [vS p3 Arrays c2,z0],hB b1 zTwo,hB b (cProg p p1 c p2 c1)] [[hO zG (vS p3 Arrays c2) cs]] [(18,true)] (zY [1,2,3,0]) ?_ ?_
  ·refine Op<|Op<|Op<|Op<|Op<|Ox ?_<|Ox ?_<|Oq ?_<|Ox ?_<|Op<|Op<|Op<|Ox ?_<|Ox ?_<|Ox ?_<|Ox ?_<|Ox ?_<|Ox ?_<|Ox ?_<|On
   ·intro I1 hf af;refine yV [19,20] rfl ?_;have h:=h.mono af;refine wB rfl rfl h hy ?_;intro ad aK ar al;obtain⟨p5,c4,rfl,h5⟩:=xQ al;exact yR [] iR ⟨_,_,_,rfl,rfl,ar,h5⟩
   ·rintro I1 hf af _ _ ⟨ad,p5,c4,rfl,rfl,ar,h5⟩;exact yV [21] rfl<|pG 7 [(22,.pointer (some ad))]<|yR [] iR ⟨_,_,_,rfl,rfl,ar,h5⟩
   ·rintro I1 hf af _ _ ⟨ad1,p51,c41,rfl,rfl,ap,h51⟩;exact yV [22] rfl<|xU 0 ap [vT x.Name.l] (vT x.Name.l) rfl<|xA iR
   ·intro I1 hf af;refine dD []<|qB [] Int ?_;intro b3 hb3;have h6:RL I1 [] ([]:List Int):=rfl;exact yR [hO Int (vS (some ⟨b3,0,none⟩) ([]:List Int) 0) []] iR ⟨_,rfl,rfl,h6⟩
   ·intro I1 hf af;refine yV [26,27] rfl ?_;have h:=h.mono af;refine wB rfl rfl h ay ?_;intro ad2 bi bh aw;obtain⟨p6,c5,rfl,h7⟩:=xQ aw;exact yR [] iR ⟨_,_,_,rfl,rfl,bh,h7⟩
   ·rintro I1 hf af _ _ ⟨ad2,p6,c5,rfl,rfl,bh,h7⟩;exact yV [28] rfl<|pG 14 [(29,.pointer (some (ad2.add 1)))]<|yR [] iR ⟨_,_,_,rfl,rfl,bh,h7⟩
   ·rintro I1 hf af _ _ ⟨ad21,p61,c51,rfl,rfl,hat21,h71⟩;exact yV [29] rfl<|xU 1 hat21 [vS p61 x1.Dims c51] (vS p61 x1.Dims c51) rfl<|yR [] iR ⟨_,_,rfl,rfl,h71⟩
   ·rintro I1 hf af _ _ ⟨b3,rfl,rfl,h6⟩ _ _ ⟨p611,c511,rfl,rfl,h711⟩;refine yV [24,30] rfl ?_;obtain⟨bP,k0,k01⟩:=h711;have h711:SL I1 (vS p611 x1.Dims c511) x1.Dims:=⟨_,k0,k01⟩;exact mD 3 1 0 rfl rfl rfl h6 (.inl k0) k01 aI λp7 c6 bf h8=>uY (ai:=(hO Int (vS p7 l c6) bf::hB b2 [vS p3 Arrays c2,z0]::hB b1 zTwo::hB b (cProg p p1 c p2 c1)::hf)) rfl<|yR [hO Int (vS p7 l c6) bf] iR ⟨_,_,_,rfl,rfl,h8⟩
   ·rintro I1 hf af _ _ ⟨rfl,rfl⟩ _ _ ⟨p7,c6,bf,rfl,rfl,h8⟩;exact yV [23,31] rfl<|pG 17 [(32,vA [vT x.Name.l,vS p7 l c6])]<|yR [hO Int (vS p7 l c6) bf] iR ⟨_,_,_,rfl,rfl,h8⟩
   ·rintro I1 hf af _ _ ⟨p71,c61,cs21,rfl,rfl,h81⟩;refine yV [32] rfl ?_;have H:=iS I1;refine wA 0 rfl ?_;intro I0 le hl0;have h9:=SL.of_frozen hl0 le h81;have H:=H.trans le;refine mX (rc (zG.mk x.Name l) (sU ⟨_,rfl,h9⟩) rN) ?_;intro b4 aP af h11;have H:=H.trans af;exact yR [] H ⟨_,rfl,rfl,h11⟩
   rintro I1 hf af _ _ ⟨rfl,rfl⟩ _ _ ⟨b4,rfl,rfl,h11⟩ _ _ rfl;refine yV [17,33] rfl ?_;have h3:=iM af h3;obtain⟨ccs3,k02,k03⟩:=h11;have h11:SL I1 (vS (some ⟨b4,0,none⟩) ([(zG.mk x.Name l)]:List zG) 1) ([(zG.mk x.Name l)]:List zG):=⟨_,k02,k03⟩;exact mD 66 2 0 rfl rfl rfl h3 (.inl k02) k03 aW λp8 c7 bd h12=>uY (ai:=(hO zG (vS p8 l1 c7) bd::hB b2 [vS p3 Arrays c2,z0]::hB b1 zTwo::hB b (cProg p p1 c p2 c1)::hf)) rfl<|yR [hO zG (vS p8 l1 c7) bd] iR ⟨_,_,_,rfl,rfl,h12⟩
  rintro aS aE _ _ ⟨p8,c7,bd,rfl,rfl,h12⟩;refine yV [1,2,3,4,34] rfl ?_;have ⟨h,h1,H⟩:=m3 aE h h1 H;exact yG 20 [] [35] rfl<|xW 1 [vS p8 l1 c7,z0] rfl<|yB rfl<|zO<|zI<|zL<|yQ [] [4] rfl<|yW<|mE<|ih (W (i+1)) l1 _ N H h h1 h12 hg ho hx
 intro hc N;exact vQ<|yS<|hx _ _ _ _ _ (zB N).symm H h3
def sA(p:zP)(i1:Int)(k04:Int)(Body:List zM):Option (List zM):=do
 let x3<-idx p.Parts i1
 if(decide (k04<(x3.Body.length:Int))) then
  let x4<-idx p.Parts i1
  let x5<-idx x4.Body k04
  let y1<-jX x5
  let l2<-app 152 Body ([y1]:List zM)
  sA p i1 (W (k04+1)) l2
 else
  pure (id Body)
 partial_fixpoint
theorem zAU(p:zP)(i1:Int):∀(k04:Int) (Body:List zM) (o:List zM),sA p i1 k04 Body=some o->∀{B}{I0 I:Imm}{Q}{av:List zG}{Parts:List zJ}{y:(List zE)}{p1 c p2 c1}{b:Nat}{b1:Nat}{b2:Nat}{p4 c3 aL p9 c8 bD bb bc}{b5:Nat}{p14 bm cs6},I0.le I->(S4 I bb y bc)->(RL I bD Parts)->(RL I aL av)->(S4 I p1 p.Arrays c)->(S4 I p2 p.Parts c1)->(RL I cs6 Body)->NG Q->NO Q->(∀(I':Imm) (aY:List zM) (p15:Option Addr) (c14:Nat) (cs7:List Value),o=aY->I0.le I'->(RL I' cs7 aY)->T 84 B Q (.exit 4) I' [hO zM (vS p15 aY c14) cs7,hB b5 [vS bb y bc,vS p15 aY c14],hO zJ (vS p9 Parts c8) bD,hO zG (vS p4 av c3) aL,hB b2 [vS p4 av c3,vS p9 Parts c8],hB b1 zTwo,hB b (cProg p p1 c p2 c1)] [(1,vP b 0),(2,vP b1 0),(3,vP b2 0),(5,vI i1),(6,vP b5 0)])->J Tryz.prog 84 B (nav (bodyOf f120) [1,1,1,0,1,0,0,1,0,0,1,0,1,0]) Q I [hO zM (vS p14 Body bm) cs6,hB b5 [vS bb y bc,vS p14 Body bm],hO zJ (vS p9 Parts c8) bD,hO zG (vS p4 av c3) aL,hB b2 [vS p4 av c3,vS p9 Parts c8],hB b1 zTwo,hB b (cProg p p1 c p2 c1)] [(1,vP b 0),(2,vP b1 0),(3,vP b2 0),(5,vI i1),(6,vP b5 0),(7,vI k04)]:=by
 refine sA.partial_correctness p i1 _ λaN ih k04 Body o N B I0 I Q av Parts y p1 c p2 c1 b b1 b2 p4 c3 aL p9 c8 bD bb bc b5 p14 bm cs6 H h18 h14 h4 h h1 h20 hg ho hx=>yY hg ho<|yA<|yE<|yG 4 [6] [51,53,54] rfl<|bE N λx3 hy6 N=>wB rfl rfl h1 hy6 ?_;intro ad4 ccs5 hat4 bC;obtain⟨p16,c15,p17,c16,rfl,h22,h23⟩:=vL bC;refine yG 6 [] [56] rfl<|xU 1 hat4 [vS p17 x3.Body c16] (vS p17 x3.Body c16) rfl<|yQ [] [59] rfl<|zI<|yC N ?_ ?_
 ·intro aQ N;refine zS<|zW<|yK ?_;obtain⟨x4,hy7,N⟩:=zC N;obtain⟨x5,hy8,N⟩:=zC N;obtain⟨y1,hy9,N⟩:=zC N;obtain⟨l2,hy10,N⟩:=zC N;refine wU [.p (vP b5 1) [],.p (vS p14 Body bm) [0],.p (vP b 1) [],.p (vS p2 p.Parts c1) [5],.p (vI i1) [],.x (ePPart x4),.x (eQPart 1 x4),.x (eS x4.Body),.p (vI k04) [],.x (ePStmt x5),.x (eVStmt x5),.x (λI' v hx=>∃p24 c23 p25 c24 p26 c25 p27 c26 cs8 cs9,v=vA (cStmt y1 p24 c23 p25 c24 p26 c25 p27 c26)/\hx=[hO zA (vS p24 y1.Write.Subs c23) cs8,hO zD (vS p27 y1.Value.Kids c26) cs9]/\(RL I' cs8 y1.Write.Subs)/\(S4 I' p25 y1.Value.Index.Coefs c24)/\(S4 I' p26 y1.Value.Read.Subs c25)/\(RL I' cs9 y1.Value.Kids)),.x (λI' v hx=>∃b6,v=vS (some ⟨b6,0,none⟩) ([y1]:List zM) 1/\hx=[]/\(SL I' (vS (some ⟨b6,0,none⟩) ([y1]:List zM) 1) ([y1]:List zM))),.x (λI' v hx=>∃p28 c27 cs10,v=vS p28 l2 c27/\hx=[hO zM (vS p28 l2 c27) cs10]/\(RL I' cs10 l2))] [[],[(0,false)],[],[(2,false)],[],[(3,false),(4,false)],[(5,false)],[(6,false)],[],[(7,false),(8,false)],[(9,false)],[(10,false)],[(11,true)],[(1,false),(12,false),(16,true)]] [hB b5 [vS bb y bc,vS p14 Body bm],hO zJ (vS p9 Parts c8) bD,hO zG (vS p4 av c3) aL,hB b2 [vS p4 av c3,vS p9 Parts c8],hB b1 zTwo,hB b (cProg p p1 c p2 c1)] [[hO zM (vS p14 Body bm) cs6]] [(13,true)] (zY [1,2,3,4,5,6,0]) ?_ ?_
  ·refine Op<|Op<|Op<|Op<|Op<|Ox ?_<|Ox ?_<|Ox ?_<|Op<|Ox ?_<|Ox ?_<|Ox ?_<|Ox ?_<|Ox ?_<|On
   ·intro I1 hf af;refine yV [65,66] rfl ?_;have h1:=h1.mono af;refine wB rfl rfl h1 hy7 ?_;intro ad5 ccs6 hat5 hrep4;obtain⟨p18,c17,p19,c18,rfl,h24,h25⟩:=vL hrep4;exact yR [] iR ⟨_,_,_,_,_,rfl,rfl,hat5,h24,h25⟩
   ·rintro I1 hf af _ _ ⟨ad5,p18,c17,p19,c18,rfl,rfl,hat5,h24,h25⟩;exact yV [67] rfl<|pG 7 [(68,.pointer (some (ad5.add 1)))]<|yR [] iR ⟨_,_,_,_,_,rfl,rfl,hat5,h24,h25⟩
   ·rintro I1 hf af _ _ ⟨ad51,p181,c171,p191,c181,rfl,rfl,hat51,h241,h251⟩;exact yV [68] rfl<|xU 1 hat51 [vS p191 x4.Body c181] (vS p191 x4.Body c181) rfl<|yR [] iR ⟨_,_,rfl,rfl,h251⟩
   ·rintro I1 hf af _ _ ⟨p1911,c1811,rfl,rfl,h2511⟩;refine yV [69,70] rfl<|wB rfl rfl h2511 hy8 ?_;intro ad6 ccs7 hat6 hrep5;obtain⟨p20,c19,p21,c20,p22,c21,p23,c22,rfl,h26,h27,h28,h29⟩:=uP hrep5;exact yR [] iR ⟨_,_,_,_,_,_,_,_,_,rfl,rfl,hat6,h26,h27,h28,h29⟩
   ·rintro I1 hf af _ _ ⟨ad6,p20,c19,p21,c20,p22,c21,p23,c22,rfl,rfl,hat6,h26,h27,h28,h29⟩;exact yV [71] rfl<|xU 0 hat6 (cStmt x5 p20 c19 p21 c20 p22 c21 p23 c22) (vA (cStmt x5 p20 c19 p21 c20 p22 c21 p23 c22)) rfl<|yR [] iR ⟨_,_,_,_,_,_,_,_,rfl,rfl,h26,h27,h28,h29⟩
   ·rintro I1 hf af _ _ ⟨p201,c191,p211,c201,p221,c211,p231,c221,rfl,rfl,h261,h271,h281,h291⟩;refine yV [72] rfl ?_;have H:=iS I1;refine xX (zBn x5 _ hy9 h261 h271 h281 h291) ?_;rintro bL ax v2 k2 bt - ⟨p24,c23,cs8,p25,c24,p26,c25,p27,c26,cs9,rfl,rfl,h30,h31,h32,h33⟩ -;have H:=H.trans bt;exact yR [hO zA (vS p24 y1.Write.Subs c23) cs8,hO zD (vS p27 y1.Value.Kids c26) cs9] H ⟨_,_,_,_,_,_,_,_,_,_,rfl,rfl,h30,h31,h32,h33⟩
   ·rintro I1 hf af _ _ ⟨p24,c23,p25,c24,p26,c25,p27,c26,cs8,cs9,rfl,rfl,h30,h31,h32,h33⟩;refine yV [73] rfl ?_;have H:=iS I1;refine wA 0 rfl ?_;intro I06 bx hl02;have h34:=SL.of_frozen hl02 bx h30;have ⟨h31,h32,h33,H⟩:=m4 bx h31 h32 h33 H;refine wA 0 rfl ?_;intro I07 le7 hl03;have h35:=SL.of_frozen hl03 le7 h33;have ⟨h34,h31,h32,H⟩:=m4 le7 h34 h31 h32 H;refine mX (rc y1 (wV ⟨_,_,_,_,rfl,h34,h31,h32,h35⟩) rN) ?_;intro b6 I08 le8 h37;have H:=H.trans le8;exact yR [] H ⟨_,rfl,rfl,h37⟩
   rintro I1 hf af _ _ ⟨rfl,rfl⟩ _ _ ⟨b6,rfl,rfl,h37⟩ _ _ rfl;refine yV [63,74] rfl ?_;have h20:=iM af h20;obtain⟨ccs8,k05,k06⟩:=h37;have h37:SL I1 (vS (some ⟨b6,0,none⟩) ([y1]:List zM) 1) ([y1]:List zM):=⟨_,k05,k06⟩;exact mD 55 9 0 rfl rfl rfl h20 (.inl k05) k06 hy10 λp28 c27 cs10 h38=>uY (ai:=(hO zM (vS p28 l2 c27) cs10::hB b5 [vS bb y bc,vS p14 Body bm]::hO zJ (vS p9 Parts c8) bD::hO zG (vS p4 av c3) aL::hB b2 [vS p4 av c3,vS p9 Parts c8]::hB b1 zTwo::hB b (cProg p p1 c p2 c1)::hf)) rfl<|yR [hO zM (vS p28 l2 c27) cs10] iR ⟨_,_,_,rfl,rfl,h38⟩
  rintro I09 le9 _ _ ⟨p28,c27,cs10,rfl,rfl,h38⟩;refine yV [1,2,3,5,6,7,75] rfl ?_;have ⟨h18,h14,h4,h,h1,H⟩:=m6 le9 h18 h14 h4 h h1 H;exact yG 15 [] [76] rfl<|xW 1 [vS bb y bc,vS p28 l2 c27] rfl<|yB rfl<|zO<|zI<|zL<|yQ [] [7] rfl<|yW<|mE<|ih (W (k04+1)) l2 _ N H h18 h14 h4 h h1 h38 hg ho hx
 intro aQ N;exact vQ<|yS<|hx _ _ _ _ _ (zB N).symm H h20
def uK(p:zP)(i1:Int)(Parts:List zJ):Option (List zJ):=do
 if(decide (i1<(p.Parts.length:Int))) then
  let x2<-idx p.Parts i1
  let y<-nP x2.Nest
  let aY<-sA p i1 0 ([]:List zM)
  let l3<-app 48 Parts ([(zJ.mk y aY)]:List zJ)
  uK p (W (i1+1)) l3
 else
  pure (id Parts)
 partial_fixpoint
theorem zD8(p:zP):∀(i1:Int) (Parts:List zJ) (o:List zJ),uK p i1 Parts=some o->∀{B}{I0 I:Imm}{Q}{av:List zG}{p1 c p2 c1}{b:Nat}{b1:Nat}{b2:Nat}{p4 c3 aL p9 c8 bD},I0.le I->(RL I aL av)->(S4 I p1 p.Arrays c)->(S4 I p2 p.Parts c1)->(RL I bD Parts)->NG Q->NO Q->(∀(I':Imm) (aR:List zJ) (aZ:Option Addr) (c9:Nat) (bG:List Value),o=aR->I0.le I'->(RL I' bG aR)->T 84 B Q (.exit 2) I' [hO zJ (vS aZ aR c9) bG,hO zG (vS p4 av c3) aL,hB b2 [vS p4 av c3,vS aZ aR c9],hB b1 zTwo] [(2,vP b1 0),(3,vP b2 0)])->J Tryz.prog 84 B (nav (bodyOf f120) [1,1,1,0,1,0]) Q I [hO zJ (vS p9 Parts c8) bD,hO zG (vS p4 av c3) aL,hB b2 [vS p4 av c3,vS p9 Parts c8],hB b1 zTwo,hB b (cProg p p1 c p2 c1)] [(1,vP b 0),(2,vP b1 0),(3,vP b2 0),(5,vI i1)]:=by
 refine uK.partial_correctness p _ λaN ih i1 Parts o N B I0 I Q av p1 c p2 c1 b b1 b2 p4 c3 aL p9 c8 bD H h4 h h1 h14 hg ho hx=>yY hg ho<|yA<|yE<|yQ [4] [40] rfl<|zI<|yC N ?_ ?_
 ·intro aD N;refine zS<|zW<|yK<|yE<|yG 3 [4] [44,45] rfl<|bE N λx2 br N=>wB rfl rfl h1 br ?_;intro ad3 ccs4 hat3 bj;obtain⟨aT,ba,bv,aU,rfl,h16,h17⟩:=vL bj;refine yG 5 [] [47] rfl<|xU 0 hat3 [vS aT x2.Nest ba] (vS aT x2.Nest ba) rfl<|bE N λy bB N=>xX (zBm x2.Nest _ bB h16) ?_;rintro bI ax v2 k2 aX - ⟨v04,rfl,rfl,h18⟩ -;have ⟨h14,h4,h,h1,H⟩:=m5 aX h14 h4 h h1 H;obtain⟨bb,bc,rfl⟩:=h18.form;refine yG 8 [] [50] rfl<|vG zTwo ?_;intro b5 hb5;refine xW 0 [vS bb y bc,z0] rfl<|yB rfl<|zW<|yJ [7] rfl<|wS<|oR [(1,vP b 0),(2,vP b1 0),(3,vP b2 0),(5,vI i1),(6,vP b5 0),(7,vI 0)]<|zAm zM λh19=>?_;obtain⟨aO,aB,hMl1⟩:=zC N;refine zAU p i1 0 ([]:List zM) aO aB iR h18 h14 h4 h h1 h19 (λ_ _ _ h=>hg _ _ _ h) (λ_ _ h=>ho _ _ h) ?_;intro bN aY p15 c14 cs7 heq1 le10 h21;subst aO;have ⟨h18,h14,h4,h,h1,H⟩:=m6 le10 h18 h14 h4 h h1 H;refine zT<|zI<|zL<|qX 3 [4,1] [(78,vS p9 Parts c8),(79,vA [vS bb y bc,vS p15 aY c14])]<|wA 0 rfl ?_;intro bW le11 hl05;have h39:=SL.of_frozen hl05 le11 h21;have ⟨h14,h18,h4,h,h1,H⟩:=m6 le11 h14 h18 h4 h h1 H;refine qB [vS bb y bc,vS p15 aY c14] zJ ?_;intro b7 hb7;have h40:RL bW [vS bb y bc,vS p15 aY c14] ([(zJ.mk y aY)]:List zJ):=⟨[vS bb y bc,vS p15 aY c14],_,rfl,rfl,(uU ⟨_,_,rfl,h18,h39⟩),rfl⟩;obtain⟨l3,hy11,N⟩:=zC hMl1;refine mD 70 2 2 rfl rfl rfl h14 (.inr ⟨0,rfl⟩) h40 hy11 ?_;intro p29 c28 cs11 h41;exact rS (zY [1,2,3,4,5,6] (ai:=[hB b5 [vS bb y bc,vS p15 aY c14],hO zJ (vS p29 l3 c28) cs11,hO zG (vS p4 av c3) aL,hB b2 [vS p4 av c3,vS p9 Parts c8],hB b1 zTwo,hB b (cProg p p1 c p2 c1)]))<|yG 6 [] [82] rfl<|xW 3 [vS p4 av c3,vS p29 l3 c28] rfl<|yB rfl<|zO<|zI<|zL<|yQ [] [5] rfl<|yW<|kJ (zV [1,2,3,4,5] rfl (by decide))<|mE<|ih (W (i1+1)) l3 _ N H h4 h h1 h41 hg ho hx
 intro aD N;exact vQ<|wD (zV [0,1,2,3] rfl (by decide))<|yS<|hx _ _ _ _ _ (zB N).symm H h14
def rX(p:zP):Option (zP):=do
 let av<-tZ p 0 ([]:List zG)
 let aR<-uK p 0 ([]:List zJ)
 pure (zP.mk av aR)
theorem zFd:∀p r,rX p=some r->∀{I:Imm}{p1 c p2 c1},(S4 I p1 p.Arrays c)->(S4 I p2 p.Parts c1)->RT 120 [vA (cProg p p1 c p2 c1)] I [] (zEY  r):=by
 intro p r N I p1 c p2 c1 h h1;unfold rX at N;refine yP func120 λB=>yE<|vM (cProg p p1 c p2 c1) ?_;intro b hb;refine vG zTwo ?_;intro b1 hb1;refine yB rfl<|xN<|yG 1 [] [8] rfl<|vG zTwo ?_;intro b2 hb2;refine dL 0 zTwo [hB b2 zTwo,hB b1 zTwo,hB b (cProg p p1 c p2 c1)] rfl rfl rfl rfl<|yB rfl<|zW<|yJ [4] rfl<|wS<|oR [(1,vP b 0),(2,vP b1 0),(3,vP b2 0),(4,vI 0)]<|zAm zG λh2=>?_;obtain⟨o0,az,aF⟩:=zC N;refine zAT p 0 ([]:List zG) o0 az iR h h1 h2 (λ_ _ _ h=>h) (λ_ _ h=>h) ?_;intro bw av p4 c3 aL heq aJ h4;subst o0;have ⟨h,h1⟩:=m2 aJ h h1;refine zT<|zW<|yJ [5] rfl<|wS<|oR [(1,vP b 0),(2,vP b1 0),(3,vP b2 0),(5,vI 0)]<|zAm zJ λh13=>?_;obtain⟨o02,ho02,hMl2⟩:=zC aF;refine zD8 p 0 ([]:List zJ) o02 ho02 iR h4 h h1 h13 (λ_ _ _ h=>h) (λ_ _ h=>h) ?_;intro bV aR aZ c9 bG heq2 le12 h15;subst o02;have h4:=iM le12 h4;refine zT<|xN<|qX 1 [2] [(83,vA [vS p4 av c3,vS aZ aR c9])]<|xW 3 [vS p4 av c3,vS aZ aR c9] rfl<|yB rfl<|zI<|yX ?_;obtain rfl:=zB hMl2;exact xL ⟨_,_,(.cell 3 rfl rfl (by kernel_rfl) ResV.nil),(zV [1,0] rfl (by decide)),⟨_,_,_,_,_,_,rfl,rfl,h4,h15⟩⟩
end Go.LN
