/- Helper of the proof (see the last text). -/
import Derived.Test.YtkipogionmkncaaGreatDoorHM3
set_option linter.unusedVariables false
set_option linter.unusedSimpArgs false
namespace Go.LN
open Go.Proofs Go.Proofs.Tryz
set_option maxRecDepth 20000
def wI(e0:zB):Option (Str):=do
 if(e0.Kind==1) then
  let y<-wR e0.Num
  pure (id y)
 else
  if(e0.Kind==2) then
   let y1<-tV e0.Index
   let s<-cat (⟨[123]⟩:Str) y1
   let s1<-cat s (⟨[125]⟩:Str)
   pure (id s1)
  else
   if(e0.Kind==3) then
    let y2<-vK e0.Read
    pure (id y2)
   else
    let x<-idx e0.Kids 0
    let y3<-wI (same x)
    let s2<-cat (⟨[40]⟩:Str) y3
    let s3<-sslc (⟨[43,45,42]⟩:Str) (W (e0.Kind - 4)) (W ((W (e0.Kind - 4))+1))
    let s4<-cat s2 s3
    let x1<-idx e0.Kids 1
    let y4<-wI (same x1)
    let s5<-cat s4 y4
    let s6<-cat s5 (⟨[41]⟩:Str)
    pure (id s6)
 partial_fixpoint
theorem zBS:∀e0 r,wI e0=some r->∀{I:Imm}{p c p1 c1 p2 c2},(S4 I p e0.Index.Coefs c)->(S4 I p1 e0.Read.Subs c1)->(S4 I p2 e0.Kids c2)->RT 42 [vA (cExpr e0 p c p1 c1 p2 c2)] I [] (yI  r):=by
 refine wI.partial_correctness _ λF_spec_l3Text ih_spec_l3Text e0 r N I p c p1 c1 p2 c2 h h1 h2=>yK func42 λB=>?_;have H:=iS I;refine yH<|sM (cExpr e0 p c p1 c1 p2 c2) ?_;intro b hb;refine wG [] []<|yL<|yH<|yS [0] [4] rfl<|rX<|xB [5] rfl<|zG<|yJ N ?_ ?_
 ·intro hc N;refine yH<|zX 2 [0] [8] rfl<|bE N λy hy N=>xS (nW e0.Num _ hy ) ?_;rintro I0 aj v2 k2 le - ⟨v0,rfl,rfl,rfl⟩ -;refine yS [] [2] rfl<|xP<|zS<|zF ?_;obtain rfl:=zD N;exact wU
 intro hc N;refine xB [10] rfl<|zG<|yJ N ?_ ?_
 ·intro ay N;refine yH<|sW 2 [0] [(13,vA (cAff e0.Index p c))]<|bE N λy1 au N=>xS (nX e0.Index _ au h) ?_;rintro aI aj v2 k2 ai - ⟨v01,rfl,rfl,rfl⟩ -;obtain⟨s,aB,N⟩:=zC N;refine rM rfl aB<|bE N λs1 aK N=>rM rfl aK<|yS [] [2] rfl<|xP<|zS<|zF ?_;obtain rfl:=zD N;exact wU
 intro ay N;refine xB [17] rfl<|zG<|yJ N ?_ ?_
 ·intro aJ N;refine yH<|sW 2 [0] [(20,vA (cAccess e0.Read p1 c1))]<|bE N λy2 aY N=>xS (oR e0.Read _ aY h1) ?_;rintro aP aj v2 k2 aG - ⟨v02,rfl,rfl,rfl⟩ -;refine yS [] [2] rfl<|xP<|zS<|zF ?_;obtain rfl:=zD N;exact wU
 intro aJ N;refine zO<|zQ<|zG<|yB ?_;obtain⟨x,bo,N⟩:=zC N;obtain⟨y3,hy6,N⟩:=zC N;obtain⟨s2,hy7,N⟩:=zC N;obtain⟨s3,hy8,N⟩:=zC N;obtain⟨s4,hy9,N⟩:=zC N;obtain⟨x1,hy10,N⟩:=zC N;obtain⟨y4,hy11,N⟩:=zC N;obtain⟨s5,hy12,N⟩:=zC N;obtain⟨s6,hy13,N⟩:=zC N;refine sU [.p (vP b 6) [],.p (vS p2 e0.Kids c2) [0],.x (ePExpr x),.x (eVExpr x),.q (vT y3.l),.q (vT s2.l),.p (vP b 0) [],.p (vI e0.Kind) [0],.p (vI (W (e0.Kind - 4))) [],.p (vP b 0) [],.p (vI e0.Kind) [0],.p (vI (W (e0.Kind - 4))) [],.p (vI (W ((W (e0.Kind - 4))+1))) [],.q (vT s3.l),.q (vT s4.l),.p (vP b 6) [],.p (vS p2 e0.Kids c2) [0],.x (ePExpr x1),.x (eVExpr x1),.q (vT y4.l),.q (vT s5.l),.q (vT s6.l)] [[],[(0,false)],[(1,false)],[(2,false)],[(3,false)],[(4,false)],[],[(6,false)],[(7,false)],[],[(9,false)],[(10,false)],[(11,false)],[(8,false),(12,false)],[(5,false),(13,false)],[],[(15,false)],[(16,false)],[(17,false)],[(18,false)],[(14,false),(19,false)],[(20,false)]] [hB b (cExpr e0 p c p1 c1 p2 c2)] [] [(21,false)] (yR [0]) ?_ ?_
 ·refine Op<|Op<|Ox ?_<|Ox ?_<|Oq ?_<|Oq ?_<|Op<|Op<|Op<|Op<|Op<|Op<|Op<|Oq ?_<|Oq ?_<|Op<|Op<|Ox ?_<|Ox ?_<|Oq ?_<|Oq ?_<|Oq ?_<|On
  ·intro I1 hf ai;refine vQ [23] rfl ?_;have h2:=h2.mono ai;refine qY rfl rfl h2 bo ?_;intro ad aA az ap;obtain⟨p3,c3,p4,c4,p5,c5,rfl,h6,h7,h8⟩:=xK ap;exact tS [] iR ⟨_,_,_,_,_,_,_,rfl,rfl,az,h6,h7,h8⟩
  ·rintro I1 hf ai _ _ ⟨ad,p3,c3,p4,c4,p5,c5,rfl,rfl,az,h6,h7,h8⟩;exact vQ [24] rfl<|qU 0 az (cExpr x p3 c3 p4 c4 p5 c5) (vA (cExpr x p3 c3 p4 c4 p5 c5)) rfl<|tS [] iR ⟨_,_,_,_,_,_,rfl,rfl,h6,h7,h8⟩
  ·rintro I1 hf ai _ _ ⟨p31,c31,p41,c41,p51,c51,rfl,rfl,h61,h71,h81⟩;refine vQ [25] rfl ?_;have H:=iS I1;refine xS (ih_spec_l3Text x _ hy6 h61 h71 h81) ?_;rintro aZ aj v2 k2 aL - ⟨v06,rfl,rfl,rfl⟩ -;have H:=H.trans aL;exact vD H
  ·intro I1 hf ai;exact vQ [26] rfl<|rM rfl hy7<|vD iR
  ·intro I1 hf ai;exact vQ [30,34] rfl<|mD rfl hy8<|vD iR
  ·intro I1 hf ai;exact vQ [27,35] rfl<|rM rfl hy9<|vD iR
  ·intro I1 hf ai;refine vQ [38] rfl ?_;have h2:=h2.mono ai;refine qY rfl rfl h2 hy10 ?_;intro ad1 bv aQ aN;obtain⟨p6,c6,p7,c7,p8,c8,rfl,h10,h11,h12⟩:=xK aN;exact tS [] iR ⟨_,_,_,_,_,_,_,rfl,rfl,aQ,h10,h11,h12⟩
  ·rintro I1 hf ai _ _ ⟨ad1,p6,c6,p7,c7,p8,c8,rfl,rfl,aQ,h10,h11,h12⟩;exact vQ [39] rfl<|qU 0 aQ (cExpr x1 p6 c6 p7 c7 p8 c8) (vA (cExpr x1 p6 c6 p7 c7 p8 c8)) rfl<|tS [] iR ⟨_,_,_,_,_,_,rfl,rfl,h10,h11,h12⟩
  ·rintro I1 hf ai _ _ ⟨p61,c61,p71,c71,p81,c81,rfl,rfl,h101,h111,h121⟩;refine vQ [40] rfl ?_;have H:=iS I1;refine xS (ih_spec_l3Text x1 _ hy11 h101 h111 h121) ?_;rintro bq aj v2 k2 aV - ⟨v010,rfl,rfl,rfl⟩ -;have H:=H.trans aV;exact vD H
  ·intro I1 hf ai;exact vQ [36,41] rfl<|rM rfl hy12<|vD iR
  intro I1 hf ai;exact vQ [42] rfl<|rM rfl hy13<|vD iR
 intro bu bj;refine vQ [43] rfl ?_;refine yS [] [2] rfl<|zG<|yX ?_;obtain rfl:=zD N;exact wU
def vO(s:zL):Option (Str):=do
 let y<-uS s 4
 if(!y) then
  pure (⟨[]⟩:Str)
 else
  let y1<-vK s.Write
  let s1<-cat y1 (⟨[61]⟩:Str)
  let y2<-wI s.Value
  let s2<-cat s1 y2
  pure (id s2)
theorem pJ:∀s r,vO s=some r->∀{I:Imm}{p c p1 c1 p2 c2 p3 c3},(S4 I p s.Write.Subs c)->(S4 I p1 s.Value.Index.Coefs c1)->(S4 I p2 s.Value.Read.Subs c2)->(S4 I p3 s.Value.Kids c3)->RT 30 [vA (cStmt s p c p1 c1 p2 c2 p3 c3)] I [] (yI  r):=by
 intro s r N I p c p1 c1 p2 c2 p3 c3 h h1 h2 h3;unfold vO at N;refine yK func30 λB=>?_;have H:=iS I;refine yH<|sM (cStmt s p c p1 c1 p2 c2 p3 c3) ?_;intro b hb;refine wG [] []<|yL<|yH<|sW 1 [0] [(3,vA (cStmt s p c p1 c1 p2 c2 p3 c3))]<|bE N λy hy N=>sD (mJ s 4 _ hy h h1 h2 h3) ?_;intro I0 le;have ⟨h,h1,h2,h3,H⟩:=m5 le h h1 h2 h3 H;refine yS [] [5] rfl<|zG<|yJ N ?_ ?_
 ·intro hc N;refine xB [2] rfl<|xP<|zF ?_;obtain rfl:=zD N;exact wU
 intro hc N;refine zO<|zG<|yB ?_;obtain⟨y1,au,N⟩:=zC N;obtain⟨s1,aB,N⟩:=zC N;obtain⟨y2,aK,N⟩:=zC N;obtain⟨s2,aY,N⟩:=zC N;refine sU [.p (vP b 0) [],.p (vA (cAccess s.Write p c)) [0],.q (vT y1.l),.q (vT s1.l),.p (vP b 2) [],.p (vA (cExpr s.Value p1 c1 p2 c2 p3 c3)) [0],.q (vT y2.l),.q (vT s2.l)] [[],[(0,false)],[(1,false)],[(2,false)],[],[(4,false)],[(5,false)],[(3,false),(6,false)]] [hB b (cStmt s p c p1 c1 p2 c2 p3 c3)] [] [(7,false)] (yR [0]) ?_ ?_
 ·refine Op<|Op<|Oq ?_<|Oq ?_<|Op<|Op<|Oq ?_<|Oq ?_<|On
  ·intro I1 hf ai;refine vQ [7] rfl ?_;have H:=iS I1;have h:=h.mono ai;refine xS (oR s.Write _ au h) ?_;rintro aI aj v2 k2 ai - ⟨v01,rfl,rfl,rfl⟩ -;have H:=H.trans ai;exact vD H
  ·intro I1 hf ai;exact vQ [8] rfl<|rM rfl aB<|vD iR
  ·intro I1 hf ai;refine vQ [11] rfl ?_;have H:=iS I1;have ⟨h1,h2,h3⟩:=m3 ai h1 h2 h3;refine xS (zBS s.Value _ aK h1 h2 h3) ?_;rintro aP aj v2 k2 aG - ⟨v02,rfl,rfl,rfl⟩ -;have H:=H.trans aG;exact vD H
  intro I1 hf ai;exact vQ [9,12] rfl<|rM rfl aY<|vD iR
 intro aZ aL;refine vQ [13] rfl ?_;refine yS [] [2] rfl<|zG<|yX ?_;obtain rfl:=zD N;exact wU
def zAK(r:(List Str)):KT:=λkk I' ag v=>
 ∃v0,ag=[]/\v=tupV [v0]/\SL I' v0 r
def wO(s:Str)(c:UInt8)(aF:List Str)(from0:Int)(i:Int):Option (List Str):=do
 if(decide (i<=(s.l.length:Int))) then
  let t25<-(do
   if(i==(s.l.length:Int)) then
    pure true
   else
    let b1<-sidx s i
    pure ((b1.toNat:Int)==(c.toNat:Int))
     : Option Bool)
  let (aO,from01)<-(do
   if t25 then
    let s1<-sslc s from0 i
    let bx<-app 16 aF ([s1]:List Str)
    pure (bx,(W (i+1)))
   else
    pure (aF,from0)
     : Option (List Str×Int))
  wO s c aO from01 (W (i+1))
 else
  pure (id aF)
 partial_fixpoint
theorem eX(s:Str)(c:UInt8):∀(aF:List Str) (from0:Int) (i:Int) (o:List Str),wO s c aF from0 i=some o->∀{B}{I0 I:Imm}{Q p c1 cs},I0.le I->(RL I cs aF)->NG Q->NO Q->(∀(I':Imm) (aC:List Str) (p1:Option Addr) (c2:Nat) (aH:List Value),o=aC->I0.le I'->(RL I' aH aC)->T 36 B Q (.exit 0) I' [hO Str (vS p1 aC c2) aH] [(5,vS p1 aC c2)])->J Tryz.prog 36 B (nav (bodyOf f55) [1,1,1,0,1,0]) Q I [hO Str (vS p aF c1) cs] [(0,vT s.l),(1,.int .u8 (c.toNat:Int)),(5,vS p aF c1),(6,vI from0),(7,vI i)]:=by
 refine wO.partial_correctness s c _ λaW ih aF from0 i o N B I0 I Q p c1 cs H h1 hg ho hx=>uQ hg ho<|yB<|xB [12] rfl<|zG<|yJ N ?_ ?_
 ·intro hc N;refine zO<|yL<|wM<|yB ?_;refine wT N [hO Str (vS p aF c1) cs] (λt25=>[(0,vT s.l),(1,.int .u8 (c.toNat:Int)),(5,vS p aF c1),(6,vI from0),(7,vI i),(25,.bool t25)]) (λo0 ar=>?_) ?_
  ·have H:=iS I;refine zI<|zX 5 [] [19] rfl<|xE [19] ar ?_ ?_
   ·intro ay N;exact wG [] [(25,vY)]<|yM<|zJ (ct N H)
   intro ay N;exact zX 7 [] [20,21] rfl<|bE N λb1 hy N=>pW rfl rfl hy<|yS [] [25] rfl<|yM<|zJ (ct N H)
  intro t25 I0 le aw;have ⟨h1,H⟩:=m2 le h1 H;refine zG ?_;obtain⟨aS,ax,hMc1⟩:=zC aw;refine rR (λI' ag m'=>∃(aO:List Str) (from01:Int) (p2:Option Addr) (c3:Nat) (aX:List Value),aS=(aO,from01)/\I0.le I'/\(RL I' aX aO)/\ag=[hO Str (vS p2 aO c3) aX]/\m'=[(0,vT s.l),(1,.int .u8 (c.toNat:Int)),(5,vS p2 aO c3),(6,vI from01),(7,vI i)]) ?_ ?_
  ·have H:=iS I0;refine yJ ax ?_ ?_
   ·intro aJ N;refine yH<|zX 4 [] [26,27,28,29] rfl<|bE N λs1 au N=>mD rfl au<|jL [vT s1.l] Str ?_;intro b2 hb1;have h4:RL I0 [vT s1.l] ([s1]:List Str):=rT [s1];obtain⟨bx,aB,N⟩:=zC N;exact zAA 9 1 1 rfl rfl rfl h1 (.inr ⟨0,rfl⟩) h4 aB λp3 c4 br h5=>oW (yR [1] (ag:=[hO Str (vS p3 bx c4) br]))<|yS [] [5] rfl<|zG<|zI<|yS [] [6] rfl<|yM<|zJ ⟨_,_,_,_,_,(zD N).symm,H,h5,rfl,rfl⟩
   intro aJ N;exact zO<|yM<|zJ ⟨_,_,_,_,_,(zD N).symm,H,h1,rfl,rfl⟩
  rintro aI aj m2 ⟨aO,from01,p2,c3,aX,heq1,ai,h3,rfl,rfl⟩;subst aS;have H:=H.trans ai;exact zQ<|zG<|zI<|yS [] [7] rfl<|uK<|fW<|ih aO from01 (W (i+1)) _ hMc1 H h3 hg ho hx
 intro hc N;exact pG<|yM<|hx _ _ _ _ _ (zD N).symm H h1
def rJ(s:Str)(c:UInt8):Option ((List Str)):=do
 let aC<-wO s c ([]:List Str) 0 0
 pure (id aC)
theorem zBT:∀s c r,rJ s c=some r->∀{I:Imm} ,RT 55 [vT s.l,.int .u8 (c.toNat:Int)] I [] (zAK  r):=by
 intro s c r N I;unfold rJ at N;refine yK func55 λB=>tK []<|yW<|jL [] Str ?_;intro b hb;have h:RL I [] ([]:List Str):=rfl;refine yS [] [5] rfl<|qN [6] rfl<|yL<|xB [7] rfl<|rX<|gY [(0,vT s.l),(1,.int .u8 (c.toNat:Int)),(5,vS (some ⟨b,0,none⟩) ([]:List Str) 0),(6,vI 0),(7,vI 0)] ?_;obtain⟨o02,ho02,aM⟩:=zC N;refine eX s c ([]:List Str) 0 0 o02 ho02 iR h (λ_ _ _ h=>h) (λ_ _ h=>h) ?_;intro aP aC p1 c2 aH heq2 aG h2;subst o02;refine yF<|qN [4] rfl<|xP<|tY 0 rfl ?_;intro aZ aL hl0;have h6:=SL.of_frozen hl0 aL h2;obtain rfl:=zD aM;exact xN ⟨_,_,(.tmp rfl ResV.nil),zH,⟨_,rfl,rfl,h6⟩⟩
def oF(r:zA):KT:=λkk I' ag v=>
 ∃a0_0 c0_0 s0_0,ag=[.osl (.slice a0_0 r.Coefs.length c0_0) (Rp.sz Int) s0_0]/\v=tupV [(.agg ⟨[.slice a0_0 r.Coefs.length c0_0,.int .i64 r.Const]⟩)]/\RepL (Rp.rep I') (Rp.sz Int) s0_0 r.Coefs
def tW :Option (zA):=do
 pure (zA.mk ([0,0,0,0]:List Int) 0)
theorem qS:∀r,tW =some r->∀{I:Imm} ,RT 142 [] I [] (oF  r):=by
 intro  r N I;unfold tW at N;refine yK func142 λB=>yH<|uF [z0,vI 0] ?_;intro b hb;refine zV rfl<|yW<|jL [vI 0,vI 0,vI 0,vI 0] Int ?_;intro b1 hb1;have h:RL I [vI 0,vI 0,vI 0,vI 0] ([0,0,0,0]:List Int):=rI [0,0,0,0];refine zX 2 [] [2] rfl<|yT 1 [vS (some ⟨b1,0,none⟩) ([0,0,0,0]:List Int) 4,vI 0] rfl<|zV rfl<|zG<|yX ?_;obtain rfl:=zD N;exact xN ⟨_,_,(.cell 1 rfl rfl (by kernel_rfl) ResV.nil),(zN [0] rfl (by decide)),⟨_,_,_,rfl,rfl,h⟩⟩
def vG(s1:Str)(n0:Int)(i:Int):Option (Out Int (Int×Bool)):=do
 if(decide (i<(s1.l.length:Int))) then
  let t54<-(do
   let b2<-sidx s1 i
   if(decide ((b2.toNat:Int)<48)) then
    pure true
   else
    let b3<-sidx s1 i
    pure (decide ((b3.toNat:Int)>57))
     : Option Bool)
  if t54 then
   pure (.ret (0,false))
  else
   let b4<-sidx s1 i
   vG s1 (W ((W (n0*10))+(W (IntKind.u8.wrap ((b4.toNat:Int) - 48))))) (W (i+1))
 else
  pure (.done n0)
 partial_fixpoint
theorem eY(s1:Str):∀(n0:Int) (i:Int) (o:Out Int (Int×Bool)),vG s1 n0 i=some o->∀{B}{I0 I:Imm}{Q}{neg:Bool} ,I0.le I->NG Q->NO Q->(∀(I':Imm) (n01:Int),o=(.done n01)->I0.le I'->T 67 B Q (.exit 0) I' [] [(4,.bool neg),(5,vI n01)])->(∀r I' ag m',o=(.ret r)->I0.le I'->RS Tryz.prog f170 B (kI  r) I' ag m'->T 67 B Q .ret I' ag m')->J Tryz.prog 67 B (nav (bodyOf f170) [1,1,1,1,1,0,1,0]) Q I [] [(0,vT s1.l),(4,.bool neg),(5,vI n0),(6,vI i)]:=by
 refine vG.partial_correctness s1 _ λaW ih n0 i o N B I0 I Q neg H hg ho hx hr=>uQ hg ho<|yB<|xB [42] rfl<|zG<|yJ N ?_ ?_
 ·intro hc7 N;refine zO<|yL<|wM<|yB<|yB ?_;refine wT N [] (λt54=>[(0,vT s1.l),(4,.bool neg),(5,vI n0),(6,vI i),(54,.bool t54)]) (λo03 ho03=>?_) ?_
  ·have H:=iS I;refine zI<|zX 2 [] [45,46] rfl ?_;obtain⟨b2,aK,N⟩:=zC ho03;refine pW rfl rfl aK<|zX 5 [] [49] rfl<|xE [49] N ?_ ?_
   ·intro hc8 N;exact wG [] [(54,vY)]<|yM<|zJ (ct N H)
   intro hc8 N;exact zX 7 [] [50,51] rfl<|bE N λb3 aY N=>pW rfl rfl aY<|yS [] [54] rfl<|yM<|zJ (ct N H)
  intro t54 aZ aL hMc3;have H:=H.trans aL;refine zG<|yJ hMc3 ?_ ?_
  ·intro hc9 N;exact xB [2,3] rfl<|xP<|zF<|zS<|zF<|zF<|hr _ _ _ _ (zD N).symm H ⟨_,_,(.tmp rfl (.tmp rfl ResV.nil)),zH,⟨_,_,rfl,rfl,rfl,rfl⟩⟩
  intro hc9 N;exact zO<|zG<|zI<|zX 4 [] [56,57,58] rfl<|bE N λb4 bo N=>pW rfl rfl bo<|yS [] [5] rfl<|zQ<|zG<|zI<|yS [] [6] rfl<|uK<|fW<|ih (W ((W (n0*10))+(W (IntKind.u8.wrap ((b4.toNat:Int) - 48))))) (W (i+1)) _ N H  hg ho hx hr
 intro hc7 N;exact pG<|yM<|hx _ _ (zD N).symm H
def rK(s:Str):Option (Int×Bool):=do
 let neg<-(do
  if(decide ((s.l.length:Int)>0)) then
   let b<-sidx s 0
   pure ((b.toNat:Int)==45)
  else
   pure false
    : Option Bool)
 let s1<-(do
  if neg then
   let s2<-sslc s 1 (s.l.length:Int)
   pure (id s2)
  else
   pure (id s)
    : Option Str)
 let t38<-(do
  if((s1.l.length:Int)==0) then
   pure true
  else
   if(decide ((s1.l.length:Int)>17)) then
    pure true
   else
    let b1<-sidx s1 0
    if((b1.toNat:Int)==48) then
     if(decide ((s1.l.length:Int)>1)) then
      pure true
     else
      pure (id neg)
    else
     pure false
    : Option Bool)
 if t38 then
  pure (0,false)
 else
  match<-vG s1 0 0 with
  | .ret r0=>pure r0
  | .done n01=>
   let n02<-(do
    if neg then
     pure (W (0 - n01))
    else
     pure (id n01)
      : Option Int)
   pure (n02,true)
theorem zBU:∀s r,rK s=some r->∀{I:Imm} ,RT 170 [vT s.l] I [] (kI  r):=by
 intro s r N I;unfold rK at N;refine yK func170 λB=>?_;have H:=iS I;refine tK []<|zG<|yB ?_;refine wT N [] (λneg=>[(0,vT s.l),(4,.bool neg)]) (λo0 ar=>?_) ?_
 ·have H:=iS I;refine zI<|zX 4 [] [10] rfl<|xE [10] ar ?_ ?_
  ·intro hc N;exact zX 5 [] [11] rfl<|bE N λb hy N=>pW rfl rfl hy<|yS [] [4] rfl<|yM<|zJ (ct N H)
  intro hc N;exact wG [] [(4,vF)]<|yM<|zJ (ct N H)
 intro neg I0 le aw;have H:=H.trans le;refine yL<|xB [15] rfl<|zG ?_;refine wT aw [] (λs1=>[(0,vT s1.l),(4,.bool neg)]) (λaS ax=>?_) ?_
 ·have H:=iS I0;refine yJ ax ?_ ?_
  ·intro ay N;exact zI<|zX 1 [] [16] rfl<|bE N λs2 au N=>mD rfl au<|yS [] [0] rfl<|yM<|zJ (ct N H)
  intro ay N;exact zO<|yM<|zJ (ct N H)
 intro s1 aI ai hMc1;have H:=H.trans ai;refine yL<|yB ?_;refine wT hMc1 [] (λt38=>[(0,vT s1.l),(4,.bool neg),(38,.bool t38)]) (λo02 ho02=>?_) ?_
 ·have H:=iS aI;refine zI<|zX 4 [] [21] rfl<|xE [21] ho02 ?_ ?_
  ·intro aJ N;exact wG [] [(38,vY)]<|yM<|zJ (ct N H)
  intro aJ N;refine zX 9 [] [26] rfl<|xE [26] N ?_ ?_
  ·intro bd N;exact wG [] [(38,vY)]<|yM<|zJ (ct N H)
  intro bd N;refine zX 10 [] [27] rfl<|bE N λb1 aB N=>pW rfl rfl aB<|zX 13 [] [30] rfl<|xE [30] N ?_ ?_
  ·intro bn N;refine zX 17 [] [34] rfl<|xE [34] N ?_ ?_
   ·intro hc5 N;exact wG [] [(38,vY)]<|yM<|zJ (ct N H)
   intro hc5 N;exact yS [] [38] rfl<|yM<|zJ (ct N H)
  intro bn N;exact wG [] [(38,vF)]<|yM<|zJ (ct N H)
 intro t38 aP aG hMc2;have H:=H.trans aG;refine zG<|yJ hMc2 ?_ ?_
 ·intro hc6 N;refine xB [2,3] rfl<|xP<|zF ?_;obtain rfl:=zD N;exact xN ⟨_,_,(.tmp rfl (.tmp rfl ResV.nil)),zH,⟨_,_,rfl,rfl,rfl,rfl⟩⟩
 intro hc6 N;refine zO<|qN [5] rfl<|yL<|xB [6] rfl<|rX<|gY [(0,vT s1.l),(4,.bool neg),(5,vI 0),(6,vI 0)] ?_;obtain⟨o04,ho04,aM⟩:=zC N;refine eY s1 0 0 o04 ho04 iR  (λ_ _ _ h=>h) (λ_ _ h=>h) ?_ ?_
 ·intro bq n01 heq4 aV;subst o04;have H:=H.trans aV;refine yF<|yL<|xB [63] rfl<|zG ?_;refine wT aM [] (λn02=>[(5,vI n02)]) (λo05 ho05=>?_) ?_
  ·have H:=iS bq;refine yJ ho05 ?_ ?_
   ·intro hc10 N;exact zI<|yS [] [5] rfl<|yM<|zJ (ct N H)
   intro hc10 N;exact zO<|yM<|zJ (ct N H)
  intro n02 bu bj hMc4;refine qN [2,3] rfl<|zG<|yX ?_;obtain rfl:=zD hMc4;exact xN ⟨_,_,(.tmp rfl (.tmp rfl ResV.nil)),zH,⟨_,_,rfl,rfl,rfl,rfl⟩⟩
 intro r0 I9 hs9 m9 bb le9 bc;subst bb;refine zS<|zF ?_;obtain rfl:=zD aM;exact xN bc
def wJ(s:Str)(at0:Int)(end0:Int):Option (Int):=do
 let t31<-(do
  if(decide (end0<(s.l.length:Int))) then
   if(decide (end0<(W (at0+2)))) then
    let b<-sidx s end0
    if(decide ((b.toNat:Int)>=48)) then
     let b1<-sidx s end0
     pure (decide ((b1.toNat:Int)<=57))
    else
     pure false
   else
    pure false
  else
   pure false
    : Option Bool)
 if t31 then
  wJ s at0 (W (end0+1))
 else
  pure (id end0)
 partial_fixpoint
theorem fE(s:Str)(at0:Int):∀(end0:Int) (o:Int),wJ s at0 end0=some o->∀{B}{I0 I:Imm}{Q}  ,I0.le I->NG Q->NO Q->(∀(I':Imm) (end01:Int),o=end01->I0.le I'->T 47 B Q (.exit 0) I' [] [(0,vT s.l),(1,vI at0),(6,vI end01)])->J Tryz.prog 47 B (nav (bodyOf f146) [1,1,0,0]) Q I [] [(0,vT s.l),(1,vI at0),(6,vI end0)]:=by
 refine wJ.partial_correctness s at0 _ λaW ih end0 o N B I0 I Q H hg ho hx=>uQ hg ho<|yB<|yB ?_;refine wT N [] (λt31=>[(0,vT s.l),(1,vI at0),(6,vI end0),(31,.bool t31)]) (λo0 ar=>?_) ?_
 ·have H:=iS I;refine zI<|zX 5 [] [14] rfl<|xE [14] ar ?_ ?_
  ·intro hc N;refine zX 11 [] [20] rfl<|xE [20] N ?_ ?_
   ·intro ay N;refine zX 13 [] [21,22] rfl<|bE N λb hy N=>pW rfl rfl hy<|zX 17 [] [26] rfl<|xE [26] N ?_ ?_
    ·intro aJ N;exact zX 19 [] [27,28] rfl<|bE N λb1 au N=>pW rfl rfl au<|yS [] [31] rfl<|yM<|zJ (ct N H)
    intro aJ N;exact wG [] [(31,vF)]<|yM<|zJ (ct N H)
   intro ay N;exact wG [] [(31,vF)]<|yM<|zJ (ct N H)
  intro hc N;exact wG [] [(31,vF)]<|yM<|zJ (ct N H)
 intro t31 I0 le aw;have H:=H.trans le;refine zG<|yJ aw ?_ ?_
 ·intro bd N;exact zO<|rX<|zI<|yS [] [6] rfl<|zQ<|uK<|fW<|ih (W (end0+1)) _ N H  hg ho hx
 intro bd N;exact pG<|yM<|hx _ _ (zD N).symm H
def uC(s:Str)(at0:Int):Option (Int×Int):=do
 let end01<-wJ s at0 at0
 let s1<-sslc s at0 end01
 let (y1,y2)<-rK s1
 if(!y2) then
  pure (1,at0)
 else
  pure (y1,end01)
theorem kJ:∀s at0 r,uC s at0=some r->∀{I:Imm} ,RT 146 [vT s.l,vI at0] I [] (fA  r):=by
 intro s at0 r N I;unfold uC at N;refine yK func146 λB=>tK []<|qN [6] rfl<|yL<|wM<|gY [(0,vT s.l),(1,vI at0),(6,vI at0)] ?_;obtain⟨aS,ax,aM⟩:=zC N;refine fE s at0 at0 aS ax iR  (λ_ _ _ h=>h) (λ_ _ h=>h) ?_;intro aI end01 heq1 ai;subst aS;refine yF<|yW<|zX 3 [] [35,36,37] rfl ?_;obtain⟨s1,aB,N⟩:=zC aM;refine mD rfl aB ?_;obtain⟨⟨y1,y2⟩,aK,N⟩:=zC N;refine xS (zBU s1 _ aK ) ?_;rintro aP aj v2 k2 aG - ⟨v0,v01,rfl,rfl,rfl,rfl⟩ -;refine yS [] [7,8] rfl<|yL<|xB [43] rfl<|zG<|yJ N ?_ ?_
 ·intro bn N;refine xB [4,5] rfl<|xP<|zF ?_;obtain rfl:=zD N;exact xN ⟨_,_,(.tmp rfl (.tmp rfl ResV.nil)),zH,⟨_,_,rfl,rfl,rfl,rfl⟩⟩
 intro bn N;refine zO<|qN [4,5] rfl<|zG<|yX ?_;obtain rfl:=zD N;exact xN ⟨_,_,(.tmp rfl (.tmp rfl ResV.nil)),zH,⟨_,_,rfl,rfl,rfl,rfl⟩⟩
def sL(s:Str)(at0:Int):Option (Int):=do
 let t20<-(do
  if(decide (at0>=(s.l.length:Int))) then
   pure true
  else
   let b<-sidx s at0
   if(decide ((b.toNat:Int)<105)) then
    pure true
   else
    let b1<-sidx s at0
    pure (decide ((b1.toNat:Int)>108))
    : Option Bool)
 if t20 then
  pure (-1)
 else
  let b2<-sidx s at0
  pure (W ((W (b2.toNat:Int)) - 105))
theorem zBV:∀s at0 r,sL s at0=some r->∀{I:Imm} ,RT 231 [vT s.l,vI at0] I [] (yZ  r):=by
 intro s at0 r N I;unfold sL at N;refine yK func231 λB=>?_;have H:=iS I;refine tK []<|yL<|yB ?_;refine wT N [] (λt20=>[(0,vT s.l),(1,vI at0),(20,.bool t20)]) (λo0 ar=>?_) ?_
 ·have H:=iS I;refine zI<|zX 5 [] [9] rfl<|xE [9] ar ?_ ?_
  ·intro hc N;exact wG [] [(20,vY)]<|yM<|zJ (ct N H)
  intro hc N;refine zX 7 [] [10,11] rfl<|bE N λb hy N=>pW rfl rfl hy<|zX 11 [] [15] rfl<|xE [15] N ?_ ?_
  ·intro ay N;exact wG [] [(20,vY)]<|yM<|zJ (ct N H)
  intro ay N;exact zX 13 [] [16,17] rfl<|bE N λb1 au N=>pW rfl rfl au<|yS [] [20] rfl<|yM<|zJ (ct N H)
 intro t20 I0 le aw;refine zG<|yJ aw ?_ ?_
 ·intro aJ N;refine xB [4] rfl<|xP<|zF ?_;obtain rfl:=zD N;exact wU
 intro aJ N;refine zO<|yW<|zX 2 [] [21,22] rfl<|bE N λb2 aB N=>pW rfl rfl aB<|yS [] [4] rfl<|zG<|yX ?_;obtain rfl:=zD N;exact wU
def eZ(r:zA×Int):KT:=λkk I' ag v=>
 ∃v0 v1,ag=[]/\v=tupV [v0,v1]/\(∃cs,v0=.agg ⟨cs⟩/\Rp.rep I' cs r.1)/\v1=.int .i64 r.2
def uM(a0:zA)(s:Str)(at0:Int):Option (zA×Int):=do
 let b2<-sidx s at0
 let sign<-(do
  if((b2.toNat:Int)==45) then
   pure (-1)
  else
   pure (id 1)
    : Option Int)
 let t27<-(do
  let b3<-sidx s at0
  if((b3.toNat:Int)==45) then
   pure true
  else
   let b4<-sidx s at0
   pure ((b4.toNat:Int)==43)
    : Option Bool)
 let at01<-(do
  if t27 then
   pure (W (at0+1))
  else
   pure (id at0)
    : Option Int)
 let (y1,y2)<-uC s at01
 let t51<-(do
  if(decide (y2>at01)) then
   if(decide (y2<(s.l.length:Int))) then
    let b5<-sidx s y2
    pure ((b5.toNat:Int)==42)
   else
    pure false
  else
   pure false
    : Option Bool)
 let star<-(do
  if t51 then
   pure (W (y2+1))
  else
   pure (id y2)
    : Option Int)
 let y3<-sL s star
 let l<-app 8 ([]:List Int) a0.Coefs
 let t75<-(do
  if(decide (y3>=0)) then
   if(decide (star>y2)) then
    pure true
   else
    pure (y2==at01)
  else
   pure false
    : Option Bool)
 if t75 then
  let x<-idx l y3
  let x1<-idx l y3
  let l1<-pure (l.set y3.toNat (W (x+(W (sign*y1)))))
  pure ((zA.mk l1 a0.Const),(W (star+1)))
 else
  if(y2==at01) then
   pure (a0,(-1))
  else
   pure ((zA.mk l (W (a0.Const+(W (sign*y1))))),y2)
theorem zAn:∀a0 s at0 r,uM a0 s at0=some r->∀{I:Imm}{p c},(S4 I p a0.Coefs c)->RT 193 [vA (cAff a0 p c),vT s.l,vI at0] I [] (eZ  r):=by
 intro a0 s at0 r N I p c h;unfold uM at N;refine yK func193 λB=>?_;have H:=iS I;refine yH<|sM (cAff a0 p c) ?_;intro b hb;refine uF [z0,vI 0] ?_;intro b1 hb1;refine wG [] []<|qN [8] rfl<|yL<|yH<|zX 2 [] [14,15] rfl<|bE N λb2 hy N=>pW rfl rfl hy<|yS [] [17] rfl<|zG ?_;refine wT N [hB b1 [z0,vI 0],hB b (cAff a0 p c)] (λsign=>[(1,vT s.l),(2,vI at0),(3,vP b 0),(6,vP b1 0),(8,vI sign)]) (λo0 ar=>?_) ?_
 ·have H:=iS I;refine yJ ar ?_ ?_
  ·intro hc N;exact zI<|yS [] [8] rfl<|yM<|zJ (ct N H)
  intro hc N;exact zO<|yM<|zJ (ct N H)
 intro sign I0 le aw;have ⟨h,H⟩:=m2 le h H;refine yL<|yB ?_;refine wT aw [hB b1 [z0,vI 0],hB b (cAff a0 p c)] (λt27=>[(1,vT s.l),(2,vI at0),(3,vP b 0),(6,vP b1 0),(8,vI sign),(27,.bool t27)]) (λaS ax=>?_) ?_
 ·have H:=iS I0;refine zI<|zX 2 [] [18,19] rfl ?_;obtain⟨b3,au,N⟩:=zC ax;refine pW rfl rfl au<|zX 5 [] [22] rfl<|xE [22] N ?_ ?_
  ·intro ay N;exact wG [] [(27,vY)]<|yM<|zJ (ct N H)
  intro ay N;exact zX 7 [] [23,24] rfl<|bE N λb4 aB N=>pW rfl rfl aB<|yS [] [27] rfl<|yM<|zJ (ct N H)
 intro t27 aI ai hMc1;have ⟨h,H⟩:=m2 ai h H;refine zG ?_;refine wT hMc1 [hB b1 [z0,vI 0],hB b (cAff a0 p c)] (λat01=>[(1,vT s.l),(2,vI at01),(3,vP b 0),(6,vP b1 0),(8,vI sign)]) (λo02 ho02=>?_) ?_
 ·have H:=iS aI;refine yJ ho02 ?_ ?_
  ·intro aJ N;exact zI<|yS [] [2] rfl<|yM<|zJ (ct N H)
  intro aJ N;exact zO<|yM<|zJ (ct N H)
 intro at01 aP aG hMc2;have ⟨h,H⟩:=m2 aG h H;refine yW<|zX 2 [] [31,32] rfl ?_;obtain⟨⟨y1,y2⟩,aK,N⟩:=zC hMc2;refine xS (kJ s at01 _ aK ) ?_;rintro aZ aj v2 k2 aL - ⟨v0,v01,rfl,rfl,rfl,rfl⟩ -;have ⟨h,H⟩:=m2 aL h H;refine yS [] [9,10] rfl<|qN [11] rfl<|yL<|yB ?_;refine wT N [hB b1 [z0,vI 0],hB b (cAff a0 p c)] (λt51=>[(1,vT s.l),(2,vI at01),(3,vP b 0),(6,vP b1 0),(8,vI sign),(9,vI y1),(10,vI y2),(11,vI y2),(51,.bool t51)]) (λo03 ho03=>?_) ?_
 ·have H:=iS aZ;refine zI<|zX 4 [] [40] rfl<|xE [40] ho03 ?_ ?_
  ·intro bd N;refine zX 10 [] [46] rfl<|xE [46] N ?_ ?_
   ·intro bn N;exact zX 12 [] [47,48] rfl<|bE N λb5 aY N=>pW rfl rfl aY<|yS [] [51] rfl<|yM<|zJ (ct N H)
   intro bn N;exact wG [] [(51,vF)]<|yM<|zJ (ct N H)
  intro bd N;exact wG [] [(51,vF)]<|yM<|zJ (ct N H)
 intro t51 bq aV hMc3;have ⟨h,H⟩:=m2 aV h H;refine zG ?_;refine wT hMc3 [hB b1 [z0,vI 0],hB b (cAff a0 p c)] (λstar=>[(1,vT s.l),(2,vI at01),(3,vP b 0),(6,vP b1 0),(8,vI sign),(9,vI y1),(10,vI y2),(11,vI star)]) (λo04 ho04=>?_) ?_
 ·have H:=iS bq;refine yJ ho04 ?_ ?_
  ·intro hc5 N;exact zI<|yS [] [11] rfl<|yM<|zJ (ct N H)
  intro hc5 N;exact zO<|yM<|zJ (ct N H)
 intro star bu bj hMc4;have ⟨h,H⟩:=m2 bj h H;refine yW<|zX 2 [] [54,55] rfl ?_;obtain⟨y3,bo,N⟩:=zC hMc4;refine zAD (zBV s star _ bo ) ?_;intro I06 bt;have ⟨h,H⟩:=m2 bt h H;refine yS [] [12] rfl<|yL<|bE N λl hy6 N=>sU [.x (λI' v hx=>∃b6,v=vS (some ⟨b6,0,none⟩) ([]:List Int) 0/\hx=[hO Int (vS (some ⟨b6,0,none⟩) ([]:List Int) 0) []]/\(RL I' [] ([]:List Int))),.p (vP b 0) [],.p (vS p a0.Coefs c) [1],.x (λI' v hx=>∃p1 c1 cs,v=vS p1 l c1/\hx=[hO Int (vS p1 l c1) cs]/\(RL I' cs l)),.p (vP b 1) [],.p (vI a0.Const) [1],.x (λI' v hx=>∃aR aT aH,v=vA [vS aR l aT,vI a0.Const]/\hx=[hO Int (vS aR l aT) aH]/\(RL I' aH l)),.x (λI' v hx=>∃b7,v=vP b7 0/\hx=[hB b7 [z0,vI 0]])] [[],[],[(1,false)],[(0,true),(2,false)],[],[(4,false)],[(3,true),(5,false)],[]] [hB b1 [z0,vI 0],hB b (cAff a0 p c)] [] [(6,true),(7,true)] (yR [0,1]) ?_ ?_
 ·refine Ox ?_<|Op<|Op<|Ox ?_<|Op<|Op<|Ox ?_<|Ox ?_<|On
  ·intro I1 hf ai;refine I_h []<|jL [] Int ?_;intro b6 hb2;have h4:RL I1 [] ([]:List Int):=rfl;exact tS [hO Int (vS (some ⟨b6,0,none⟩) ([]:List Int) 0) []] iR ⟨_,rfl,rfl,h4⟩
  ·rintro I1 hf ai _ _ ⟨b6,rfl,rfl,h4⟩;refine vQ [57,59] rfl ?_;have h:=h.mono ai;obtain⟨aA,k0,k01⟩:=h;have h:SL I1 (vS p a0.Coefs c) a0.Coefs:=⟨_,k0,k01⟩;exact zAA 3 1 0 rfl rfl rfl h4 (.inl k0) k01 hy6 λp1 c1 cs h5=>nP (ag:=(hO Int (vS p1 l c1) cs::hB b1 [z0,vI 0]::hB b (cAff a0 p c)::hf)) rfl<|tS [hO Int (vS p1 l c1) cs] iR ⟨_,_,_,rfl,rfl,h5⟩
  ·rintro I1 hf ai _ _ ⟨p1,c1,cs,rfl,rfl,h5⟩;exact vQ [60,62] rfl<|R_p 7 [(63,vA [vS p1 l c1,vI a0.Const])]<|tS [hO Int (vS p1 l c1) cs] iR ⟨_,_,_,rfl,rfl,h5⟩
  intro I1 hf ai;refine I_h []<|uF [z0,vI 0] ?_;intro b7 hb3;exact tS [hB b7 [z0,vI 0]] iR ⟨_,rfl,rfl⟩
 rintro I07 le7 _ _ ⟨aR,aT,aH,rfl,rfl,h51⟩ _ _ ⟨b7,rfl,rfl⟩;refine vQ [2,3,6,8,9,10,11,12,13,63] rfl ?_;have ⟨h,H⟩:=m2 le7 h H;refine yT 0 [vS aR l aT,vI a0.Const] rfl<|zV rfl<|yL<|yB ?_;refine wT N [hB b7 [vS aR l aT,vI a0.Const],hO Int (vS aR l aT) aH,hB b1 [z0,vI 0],hB b (cAff a0 p c)] (λt75=>[(2,vI at01),(3,vP b 0),(6,vP b1 0),(8,vI sign),(9,vI y1),(10,vI y2),(11,vI star),(12,vI y3),(13,vP b7 0),(75,.bool t75)]) (λo05 ho05=>?_) ?_
 ·have H:=iS I07;refine zI<|zX 3 [] [66] rfl<|xE [66] ho05 ?_ ?_
  ·intro hc6 N;refine zX 7 [] [70] rfl<|xE [70] N ?_ ?_
   ·intro hc7 N;exact wG [] [(75,vY)]<|yM<|zJ (ct N H)
   intro hc7 N;exact yS [] [75] rfl<|yM<|zJ (ct N H)
  intro hc6 N;exact wG [] [(75,vF)]<|yM<|zJ (ct N H)
 intro t75 I08 le8 hMc5;have ⟨h51,h⟩:=m2 le8 h51 h;refine zG<|yJ hMc5 ?_ ?_
 ·intro hc8 N;refine yB<|bE N λx hy7 N=>sU [.p (vP b7 0) [],.p (vS aR l aT) [0],.p (vI y3) [],.p (vP b7 0) [],.p (vS aR l aT) [0],.p (vI y3) [],.x (λI' v hx=>∃ad,v=.pointer (some ad)/\hx=[]/\(AtO (vS aR l aT) (Rp.sz Int) y3.toNat ad)/\((aH.drop (y3.toNat*Rp.sz Int)).take (Rp.sz Int)=[vI x])),.q (vI x),.p (vI sign) [],.p (vI y1) [],.p (vI (W (sign*y1))) [],.p (vI (W (x+(W (sign*y1))))) []] [[],[(0,false)],[],[],[(3,false)],[],[(4,false),(5,false)],[(6,false)],[],[],[(8,false),(9,false)],[(7,false),(10,false)]] [hB b7 [vS aR l aT,vI a0.Const],hO Int (vS aR l aT) aH,hB b1 [z0,vI 0],hB b (cAff a0 p c)] [] [(1,false),(2,false),(11,false)] (yR [0,1,2,3]) ?_ ?_
  ·refine Op<|Op<|Op<|Op<|Op<|Op<|Ox ?_<|Oq ?_<|Op<|Op<|Op<|Op<|On
   ·intro I1 hf ai;refine vQ [80,81] rfl ?_;have h51:=iM ai h51;refine zCO 1 rfl rfl rfl h51 hy7 ?_;intro ad bv az bL ap;obtain rfl:=ap;exact tS [] iR ⟨_,rfl,rfl,az,bL⟩
   rintro I1 hf ai _ _ ⟨ad,rfl,rfl,az,bL⟩;exact vQ [82] rfl<|zHm 1 0 az bL [vI x] (vI x) rfl rfl<|vD iR
  intro I09 le9;refine vQ [6,11,13,77,78,87] rfl ?_;have h51:=iM le9 h51;obtain⟨x1,hy8,N⟩:=zC N;refine zCO 1 rfl rfl rfl h51 hy8 ?_;intro ad1 bP aQ hcc1 aN;obtain rfl:=aN;obtain⟨l1,hy9,N⟩:=zC N;refine kQ (c:=[vI (W (x+(W (sign*y1))))]) (x':=(W (x+(W (sign*y1))))) 1 0 rfl rfl rfl aQ rfl rfl hcc1 (by kernel_rfl) (by kernel_rfl) (by kernel_rfl) h51 hy8 (by kernel_rfl) rfl ?_;rw[show l.set y3.toNat (W (x+(W (sign*y1))))=l1 from zD hy9];intro aX h6 hl0;refine mW (m':=[(6,vP b1 0),(11,vI star),(13,vP b7 0),(77,vS aR l aT),(78,vI y3),(87,vI (W (x+(W (sign*y1)))))]) ⟨rfl,rfl,rfl,rfl,rfl,rfl,trivial⟩<|zCa (ag:=[hB b7 [vS aR l1 aT,vI a0.Const],hO Int (vS aR l1 aT) aX,hB b1 [z0,vI 0],hB b (cAff a0 p c)]) (m':=[(6,vP b1 0),(11,vI star),(13,vP b7 0),(77,vS aR l1 aT),(78,vI y3),(87,vI (W (x+(W (sign*y1)))))]) (by first|rfl|simp only[vS,hl0,cq,cy,ec,dt,dy,dz]) (by first|rfl|simp only[vS,hl0])<|zV rfl<|yW<|sW 3 [0] [(89,vA [vS aR l1 aT,vI a0.Const]),(91,vI (W (star+1)))]<|yT 2 [vS aR l1 aT,vI a0.Const] rfl<|yS [] [7] rfl<|xP<|zF<|tY 1 rfl ?_;intro bI le10 hl01;have h7:=SL.of_frozen hl01 le10 h6;obtain rfl:=zD N;exact xN ⟨_,_,(.cell 1 rfl rfl (by kernel_rfl) (.tmp rfl ResV.nil)),zH,⟨_,_,rfl,rfl,⟨_,rfl,(zZ ⟨_,rfl,h7⟩)⟩,rfl⟩⟩
 intro hc8 N;refine zO<|yL<|xB [94] rfl<|zG<|yJ N ?_ ?_
 ·intro hc9 N;refine yH<|sW 1 [3] [(95,vA (cAff a0 p c))]<|yT 2 (cAff a0 p c) rfl<|yS [] [7] rfl<|xP<|zF ?_;obtain rfl:=zD N;exact xN ⟨_,_,(.cell 2 rfl rfl (by kernel_rfl) (.tmp rfl ResV.nil)),zH,⟨_,_,rfl,rfl,⟨_,rfl,(zZ ⟨_,rfl,h⟩)⟩,rfl⟩⟩
 intro hc9 N;refine zO<|yW<|zX 7 [0] [101,102] rfl<|yT 0 [vS aR l aT,vI (W (a0.Const+(W (sign*y1))))] rfl<|zV rfl<|yW<|sW 2 [0] [(103,vA [vS aR l aT,vI (W (a0.Const+(W (sign*y1))))]),(104,vI y2)]<|yT 2 [vS aR l aT,vI (W (a0.Const+(W (sign*y1))))] rfl<|yS [] [7] rfl<|xP<|tY 1 rfl ?_;intro bJ le11 hl02;have h8:=SL.of_frozen hl02 le11 h51;obtain rfl:=zD N;exact xN ⟨_,_,(.cell 1 rfl rfl (by kernel_rfl) (.tmp rfl ResV.nil)),zH,⟨_,_,rfl,rfl,⟨_,rfl,(zZ ⟨_,rfl,h8⟩)⟩,rfl⟩⟩
def uI(a0:zA):Option (Str):=do
 let y<-wX a0
 if(!y) then
  pure (⟨[]⟩:Str)
 else
  let y1<-tV a0
  pure (id y1)
theorem gG:∀a0 r,uI a0=some r->∀{I:Imm}{p c},(S4 I p a0.Coefs c)->RT 194 [vA (cAff a0 p c)] I [] (yI  r):=by
 intro a0 r N I p c h;unfold uI at N;refine yK func194 λB=>yH<|sM (cAff a0 p c) ?_;intro b hb;refine wG [] []<|yL<|yH<|sW 1 [0] [(3,vA (cAff a0 p c))]<|bE N λy hy N=>sD (qZ a0 _ hy h) ?_;intro I0 le;have h:=h.mono le;refine yS [] [5] rfl<|zG<|yJ N ?_ ?_
 ·intro hc N;refine xB [2] rfl<|xP<|zF ?_;obtain rfl:=zD N;exact wU
 intro hc N;refine zO<|yW<|sW 1 [0] [(6,vA (cAff a0 p c))]<|bE N λy1 au N=>xS (nX a0 _ au h) ?_;rintro aI aj v2 k2 ai - ⟨v01,rfl,rfl,rfl⟩ -;refine yS [] [2] rfl<|zG<|yX ?_;obtain rfl:=zD N;exact wU
def qO(r:zA×Bool):KT:=λkk I' ag v=>
 ∃v0 v1,ag=[]/\v=tupV [v0,v1]/\(∃cs,v0=.agg ⟨cs⟩/\Rp.rep I' cs r.1)/\v1=.bool r.2
def yO(ak:Str)(at0:Int)(x:zA):Option (zA):=do
 let t18<-(do
  if(decide (at0>=0)) then
   pure (decide (at0<(ak.l.length:Int)))
  else
   pure false
    : Option Bool)
 if t18 then
  let (y2,y3)<-uM x ak at0
  yO ak y3 y2
 else
  pure (id x)
 partial_fixpoint
theorem kW(ak:Str):∀(at0:Int) (x:zA) (o:zA),yO ak at0 x=some o->∀{B}{I0 I:Imm}{Q}  {b:Nat}{b1:Nat}{p1 c1},I0.le I->(S4 I p1 x.Coefs c1)->NG Q->NO Q->(∀(I':Imm) (x1:zA) (p2:Option Addr) (c2:Nat),o=x1->I0.le I'->(S4 I' p2 x1.Coefs c2)->T 32 B Q (.exit 0) I' [hB b1 (cAff x1 p2 c2),hB b [z0,vI 0]] [(0,vT ak.l),(2,vP b 0),(4,vP b1 0)])->J Tryz.prog 32 B (nav (bodyOf f144) [1,1,1,1,0,0]) Q I [hB b1 (cAff x p1 c1),hB b [z0,vI 0]] [(0,vT ak.l),(2,vP b 0),(4,vP b1 0),(5,vI at0)]:=by
 refine yO.partial_correctness ak _ λaW ih at0 x o N B I0 I Q b b1 p1 c1 H h2 hg ho hx=>uQ hg ho<|yB<|yB ?_;refine wT N [hB b1 (cAff x p1 c1),hB b [z0,vI 0]] (λt18=>[(0,vT ak.l),(2,vP b 0),(4,vP b1 0),(5,vI at0),(18,.bool t18)]) (λo0 ar=>?_) ?_
 ·have H:=iS I;refine zI<|zX 3 [] [13] rfl<|xE [13] ar ?_ ?_
  ·intro ay N;exact yS [] [18] rfl<|yM<|zJ (ct N H)
  intro ay N;exact wG [] [(18,vF)]<|yM<|zJ (ct N H)
 intro t18 aP aG aw;have ⟨h2,H⟩:=m2 aG h2 H;refine zG<|yJ aw ?_ ?_
 ·intro aJ N;refine zO<|rX<|zI<|sW 3 [0] [(20,vA (cAff x p1 c1)),(21,vT ak.l),(22,vI at0)] ?_;obtain⟨⟨y2,y3⟩,au,N⟩:=zC N;refine xS (zAn x ak at0 _ au h2) ?_;rintro aZ aj v2 k2 aL - ⟨v0,v01,rfl,rfl,⟨aH,rfl,h4⟩,rfl⟩ -;have H:=H.trans aL;obtain⟨p3,c3,rfl,h6⟩:=yP h4;exact zX 7 [] [24,25] rfl<|yT 0 (cAff y2 p3 c3) rfl<|yS [] [5] rfl<|zQ<|uK<|fW<|ih y3 y2 _ N H h6 hg ho hx
 intro aJ N;exact pG<|yM<|hx _ _ _ _ (zD N).symm H h2
def vW(ak:Str):Option (zA×Bool):=do
 let y<-tW
 if(decide ((ak.l.length:Int)>40)) then
  pure ((zA.mk ([]:List Int) 0),false)
 else
  let x1<-yO ak 0 (zA.mk y.Coefs y.Const)
  let y4<-uI x1
  if(!(y4.l==ak.l)) then
   pure ((zA.mk ([]:List Int) 0),false)
  else
   pure (x1,true)
theorem nE:∀ak r,vW ak=some r->∀{I:Imm} ,RT 144 [vT ak.l] I [] (qO  r):=by
 intro ak r N I;unfold vW at N;refine yK func144 λB=>yH<|uF [z0,vI 0] ?_;intro b hb;refine wG [] []<|yW<|bE N λy hy N=>xS (qS  _ hy ) ?_;rintro I0 aj v2 k2 le - ⟨p,c,cs,rfl,rfl,h⟩ -;refine uF [z0,vI 0] ?_;intro b1 hb1;refine yT 0 (cAff y p c) rfl<|zV rfl<|yL<|xB [9] rfl<|zG<|yJ N ?_ ?_
 ·intro hc N;refine yH<|zX 1 [] [10] rfl<|yT 2 [z0,vI 0] rfl<|wG [] [(3,vF)]<|xP<|zF ?_;obtain rfl:=zD N;exact xN ⟨_,_,(.cell 2 rfl rfl (by kernel_rfl) (.tmp rfl ResV.nil)),zH,⟨_,_,rfl,rfl,⟨_,rfl,(zZ ⟨_,rfl,(SL.nil _)⟩)⟩,rfl⟩⟩
 intro hc N;refine zO<|qN [5] rfl<|yL<|wM<|eK 1 rfl ?_;intro aI ai hl0;have h1:=SL.of_frozen hl0 ai h;refine gY [(0,vT ak.l),(2,vP b 0),(4,vP b1 0),(5,vI 0)] ?_;obtain⟨aS,ax,aM⟩:=zC N;refine kW ak 0 (zA.mk y.Coefs y.Const) aS ax iR h1 (λ_ _ _ h=>h) (λ_ _ h=>h) ?_;intro bq x1 p2 c2 heq1 aV h3;subst aS;refine yF<|yL<|yH<|sW 1 [0] [(26,vA (cAff x1 p2 c2))] ?_;obtain⟨y4,aB,N⟩:=zC aM;refine xS (gG x1 _ aB h3) ?_;rintro bu aj v2 k2 bj - ⟨v03,rfl,rfl,rfl⟩ -;have h3:=h3.mono bj;refine yS [] [29] rfl<|zG<|yJ N ?_ ?_
 ·intro bd N;refine yH<|zX 1 [] [30] rfl<|yT 1 [z0,vI 0] rfl<|wG [] [(3,vF)]<|xP<|zF ?_;obtain rfl:=zD N;exact xN ⟨_,_,(.cell 1 rfl rfl (by kernel_rfl) (.tmp rfl ResV.nil)),zH,⟨_,_,rfl,rfl,⟨_,rfl,(zZ ⟨_,rfl,(SL.nil _)⟩)⟩,rfl⟩⟩
 intro bd N;refine zO<|yW<|sW 1 [0] [(31,vA (cAff x1 p2 c2))]<|yT 1 (cAff x1 p2 c2) rfl<|wG [] [(3,vY)]<|zG<|yX ?_;obtain rfl:=zD N;exact xN ⟨_,_,(.cell 1 rfl rfl (by kernel_rfl) (.tmp rfl ResV.nil)),zH,⟨_,_,rfl,rfl,⟨_,rfl,(zZ ⟨_,rfl,h3⟩)⟩,rfl⟩⟩
def jP(r:(List zA)):KT:=λkk I' ag v=>
 ∃v0,ag=[]/\v=tupV [v0]/\SL I' v0 r
def xM(y:(List Str))(aF:List zA)(i:Int):Option (List zA):=do
 let t18<-(do
  if(decide (i<(y.length:Int))) then
   pure (decide (i<=2))
  else
   pure false
    : Option Bool)
 if t18 then
  let x<-idx y i
  let (y2,y3)<-vW x
  let aO<-app 32 aF ([y2]:List zA)
  xM y aO (W (i+1))
 else
  pure (id aF)
 partial_fixpoint
theorem kX(y:(List Str)):∀(aF:List zA) (i:Int) (o:List zA),xM y aF i=some o->∀{B}{I0 I:Imm}{Q p c p1 c1 cs},I0.le I->(S4 I p y c)->(RL I cs aF)->NG Q->NO Q->(∀(I':Imm) (aC:List zA) (p2:Option Addr) (c2:Nat) (aH:List Value),o=aC->I0.le I'->(RL I' aH aC)->T 34 B Q (.exit 0) I' [hO zA (vS p2 aC c2) aH] [(3,vS p2 aC c2)])->J Tryz.prog 34 B (nav (bodyOf f119) [1,1,1,0,1,0]) Q I [hO zA (vS p1 aF c1) cs] [(3,vS p1 aF c1),(4,vS p y c),(5,vI i)]:=by
 refine xM.partial_correctness y _ λaW ih aF i o N B I0 I Q p c p1 c1 cs H h1 h2 hg ho hx=>uQ hg ho<|yB<|yB ?_;refine wT N [hO zA (vS p1 aF c1) cs] (λt18=>[(3,vS p1 aF c1),(4,vS p y c),(5,vI i),(18,.bool t18)]) (λo0 ar=>?_) ?_
 ·have H:=iS I;refine zI<|zX 5 [] [15] rfl<|xE [15] ar ?_ ?_
  ·intro hc N;exact yS [] [18] rfl<|yM<|zJ (ct N H)
  intro hc N;exact wG [] [(18,vF)]<|yM<|zJ (ct N H)
 intro t18 aI ai aw;have ⟨h2,h1,H⟩:=m3 ai h2 h1 H;refine zG<|yJ aw ?_ ?_
 ·intro ay N;refine zO<|yL<|wM<|yH<|zX 2 [] [22,23] rfl<|bE N λx au N=>qY rfl rfl h1 au ?_;intro ad aA az ap;obtain rfl:=ap;refine qU 0 az [vT x.l] (vT x.l) rfl ?_;obtain⟨⟨y2,y3⟩,aB,N⟩:=zC N;refine xS (nE x _ aB ) ?_;rintro aP aj v2 k2 aG - ⟨v01,v02,rfl,rfl,⟨aX,rfl,h4⟩,rfl⟩ -;have ⟨h2,h1,H⟩:=m3 aG h2 h1 H;obtain⟨p3,c3,rfl,h6⟩:=yP h4;refine zX 8 [] [27,28] rfl<|uF [z0,vI 0] ?_;intro b1 hb1;refine yT 0 (cAff y2 p3 c3) rfl<|wG [] []<|zG<|zI<|sW 2 [0] [(29,vS p1 aF c1),(30,vA (cAff y2 p3 c3))]<|jL (cAff y2 p3 c3) zA ?_;intro b2 hb2;have h7:RL aP (cAff y2 p3 c3) ([y2]:List zA):=⟨(cAff y2 p3 c3),_,rfl,rfl,(zZ ⟨_,rfl,h6⟩),rfl⟩;obtain⟨aO,aK,N⟩:=zC N;exact zAA 50 2 2 rfl rfl rfl h2 (.inr ⟨0,rfl⟩) h7 aK λp4 c4 br h8=>oW (yR [1,2] (ag:=[hB b1 (cAff y2 p3 c3),hO zA (vS p4 aO c4) br]))<|yS [] [3] rfl<|zQ<|zG<|zI<|yS [] [5] rfl<|uK<|zBv (zN [1] rfl (by decide))<|fW<|ih aO (W (i+1)) _ N H h1 h8 hg ho hx
 intro ay N;exact pG<|yM<|hx _ _ _ _ _ (zD N).symm H h2
def uR(ak:Str):Option ((List zA)):=do
 let y<-rJ ak (44:UInt8)
 let aC<-xM y ([]:List zA) 0
 pure (id aC)
theorem fF:∀ak r,uR ak=some r->∀{I:Imm} ,RT 119 [vT ak.l] I [] (jP  r):=by
 intro ak r N I;unfold uR at N;refine yK func119 λB=>tK []<|yW<|jL [] zA ?_;intro b hb;have h:RL I [] ([]:List zA):=rfl;refine yS [] [3] rfl<|yW<|zX 1 [] [9] rfl<|bE N λy hy N=>xS (zBT ak (44:UInt8) _ hy ) ?_;rintro I0 aj v2 k2 le - ⟨v0,rfl,rfl,h1⟩ -;have h:=iM le h;obtain⟨p,c,rfl⟩:=h1.form;refine yS [] [4] rfl<|yL<|xB [5] rfl<|rX<|gY [(3,vS (some ⟨b,0,none⟩) ([]:List zA) 0),(4,vS p y c),(5,vI 0)] ?_;obtain⟨aS,ax,aM⟩:=zC N;refine kX y ([]:List zA) 0 aS ax iR h1 h (λ_ _ _ h=>h) (λ_ _ h=>h) ?_;intro aZ aC p2 c2 aH heq1 aL h3;subst aS;refine yF<|qN [2] rfl<|xP<|tY 0 rfl ?_;intro bq aV hl0;have h9:=SL.of_frozen hl0 aV h3;obtain rfl:=zD aM;exact xN ⟨_,_,(.tmp rfl ResV.nil),zH,⟨_,rfl,rfl,h9⟩⟩
def wS(s:Str)(end0:UInt8)(i:Int):Option (Out Unit (Int)):=do
 if(decide (i<(s.l.length:Int))) then
  let b<-sidx s i
  if((b.toNat:Int)==(end0.toNat:Int)) then
   pure (.ret i)
  else
   wS s end0 (W (i+1))
 else
  pure (.done ())
 partial_fixpoint
theorem eB(s:Str)(end0:UInt8):∀(i:Int) (o:Out Unit (Int)),wS s end0 i=some o->∀{B}{I0 I:Imm}{Q}  ,I0.le I->NG Q->NO Q->(∀(I':Imm) ,o=(.done ())->I0.le I'->T 21 B Q (.exit 0) I' [] [])->(∀r I' ag m',o=(.ret r)->I0.le I'->RS Tryz.prog f143 B (yZ  r) I' ag m'->T 21 B Q .ret I' ag m')->J Tryz.prog 21 B (nav (bodyOf f143) [1,0,1,0]) Q I [] [(0,vT s.l),(2,.int .u8 (end0.toNat:Int)),(7,vI i)]:=by
 refine wS.partial_correctness s end0 _ λaW ih i o N B I0 I Q H hg ho hx hr=>uQ hg ho<|yB<|xB [12] rfl<|zG<|yJ N ?_ ?_
 ·intro hc N;refine zO<|yL<|wM<|yH<|zX 2 [] [15,16] rfl<|bE N λb hy N=>pW rfl rfl hy<|yS [] [19] rfl<|zG<|yJ N ?_ ?_
  ·intro ay N;exact xB [6] rfl<|xP<|zS<|zF<|zF<|hr _ _ _ _ (zD N).symm H ⟨_,_,(.tmp rfl ResV.nil),zH,⟨_,rfl,rfl,rfl⟩⟩
  intro ay N;exact zO<|zQ<|zG<|zI<|yS [] [7] rfl<|uK<|fW<|ih (W (i+1)) _ N H  hg ho hx hr
 intro hc N;exact pG<|yM<|hx _  (zD N).symm H
def vX(s:Str)(at0:Int)(end0:UInt8):Option (Int):=do
 match<-wS s end0 at0 with
 | .ret r0=>pure r0
 | .done _=>
  pure (-1)
theorem jJ:∀s at0 end0 r,vX s at0 end0=some r->∀{I:Imm} ,RT 143 [vT s.l,vI at0,.int .u8 (end0.toNat:Int)] I [] (yZ  r):=by
 intro s at0 end0 r N I;unfold vX at N;refine yK func143 λB=>tK []<|yL<|xB [7] rfl<|rX<|gY [(0,vT s.l),(2,.int .u8 (end0.toNat:Int)),(7,vI at0)] ?_;obtain⟨o0,ar,aM⟩:=zC N;refine eB s end0 at0 o0 ar iR  (λ_ _ _ h=>h) (λ_ _ h=>h) ?_ ?_
 ·intro I0  heq le;subst o0;refine yF<|qN [6] rfl<|zG<|yX ?_;obtain rfl:=zD aM;exact wU
 intro r0 I9 hs9 m9 bb le9 bc;subst bb;refine zS<|zF ?_;obtain rfl:=zD aM;exact xN bc
def kK(r:zE×Int):KT:=λkk I' ag v=>
 ∃v0 v1,ag=[]/\v=tupV [v0,v1]/\(∃cs,v0=.agg ⟨cs⟩/\Rp.rep I' cs r.1)/\v1=.int .i64 r.2
def xD(s:Str)(at0:Int):Option (zE×Int):=do
 let y<-vX s at0 (93:UInt8)
 let t20<-(do
  if(decide (y<(W (at0+2)))) then
   pure true
  else
   let b1<-sidx s (W (at0+1))
   pure ((b1.toNat:Int) != 91)
    : Option Bool)
 if t20 then
  pure ((zE.mk (⟨[]⟩:Str) ([]:List zA)),(-1))
 else
  let s1<-sslc s at0 (W (at0+1))
  let s2<-sslc s (W (at0+2)) y
  let y1<-uR s2
  pure ((zE.mk s1 y1),(W (y+1)))
theorem pX:∀s at0 r,xD s at0=some r->∀{I:Imm} ,RT 85 [vT s.l,vI at0] I [] (kK  r):=by
 intro s at0 r N I;unfold xD at N;refine yK func85 λB=>?_;have H:=iS I;refine yH<|uF [vT ([]),z0] ?_;intro b hb;refine wG [] []<|yW<|zX 2 [] [7,8] rfl<|bE N λy hy N=>zAD (jJ s at0 (93:UInt8) _ hy ) ?_;intro I0 le;have H:=H.trans le;refine yS [] [6] rfl<|yL<|yB ?_;refine wT N [hB b [vT ([]),z0]] (λt20=>[(0,vT s.l),(1,vI at0),(4,vP b 0),(6,vI y),(20,.bool t20)]) (λo0 ar=>?_) ?_
 ·have H:=iS I0;refine zI<|zX 5 [] [14] rfl<|xE [14] ar ?_ ?_
  ·intro hc N;exact wG [] [(20,vY)]<|yM<|zJ (ct N H)
  intro hc N;exact zX 8 [] [15,17] rfl<|bE N λb1 au N=>pW rfl rfl au<|yS [] [20] rfl<|yM<|zJ (ct N H)
 intro t20 aI ai aw;have H:=H.trans ai;refine zG<|yJ aw ?_ ?_
 ·intro ay N;refine yH<|zX 1 [] [21] rfl<|yT 0 [vT ([]),z0] rfl<|yS [] [5] rfl<|xP<|zF ?_;obtain rfl:=zD N;exact xN ⟨_,_,(.cell 0 rfl rfl (by kernel_rfl) (.tmp rfl ResV.nil)),zH,⟨_,_,rfl,rfl,⟨_,rfl,(qV ⟨_,rfl,(SL.nil _)⟩)⟩,rfl⟩⟩
 intro ay N;refine zO<|zG<|yB ?_;obtain⟨s1,aB,N⟩:=zC N;obtain⟨s2,aK,N⟩:=zC N;obtain⟨y1,aY,N⟩:=zC N;refine sU [.p (vT s.l) [],.p (vI at0) [],.p (vI at0) [],.p (vI (W (at0+1))) [],.q (vT s1.l),.p (vT s.l) [],.p (vI at0) [],.p (vI (W (at0+2))) [],.p (vI y) [],.q (vT s2.l),.x (eS y1),.x (λI' v hx=>∃p1 c1,v=vA [vT s1.l,vS p1 y1 c1]/\hx=[]/\(S4 I' p1 y1 c1)),.p (vI y) [],.p (vI (W (y+1))) [],.x (λI' v hx=>∃aR aT,hx=[hB b [vT s1.l,vS aR y1 aT]]/\(S4 I' aR y1 aT))] [[],[],[],[(2,false)],[(0,false),(1,false),(3,false)],[],[],[(6,false)],[],[(5,false),(7,false),(8,false)],[(9,false)],[(4,false),(10,false)],[],[(12,false)],[(11,false),(16,true)]] [] [[hB b [vT ([]),z0]]] [(13,false),(14,true)] (yR [0]) ?_ ?_
 ·refine Op<|Op<|Op<|Op<|Oq ?_<|Op<|Op<|Op<|Op<|Oq ?_<|Ox ?_<|Ox ?_<|Op<|Op<|Ox ?_<|On
  ·intro I1 hf ai;exact vQ [22,23,25] rfl<|mD rfl aB<|vD iR
  ·intro I1 hf ai;exact vQ [27,29,30] rfl<|mD rfl aK<|vD iR
  ·intro I1 hf ai;refine vQ [31] rfl ?_;have H:=iS I1;refine xS (fF s2 _ aY ) ?_;rintro aP aj v2 k2 aG - ⟨v01,rfl,rfl,h1⟩ -;have H:=H.trans aG;obtain⟨p,c,rfl⟩:=h1.form;exact tS [] H ⟨_,_,rfl,rfl,h1⟩
  ·rintro I1 hf ai _ _ ⟨rfl,rfl⟩ _ _ ⟨p,c,rfl,rfl,h1⟩;exact vQ [26,32] rfl<|R_p 12 [(33,vA [vT s1.l,vS p y1 c])]<|tS [] iR ⟨_,_,rfl,rfl,h1⟩
  rintro I1 hf ai _ _ ⟨p1,c1,rfl,rfl,h11⟩ _ _ rfl;refine vQ [4,33] rfl ?_;have H:=iS I1;exact zBO 0 [vT s1.l,vS p1 y1 c1] (hB b [vT s1.l,vS p1 y1 c1]::hf) rfl rfl rfl rfl<|zDM (hx:=[hB b [vT s1.l,vS p1 y1 c1]]) rfl H rfl (zDN (v:=undef)) ⟨_,_,rfl,h11⟩
 rintro aZ aL _ _ ⟨rfl,rfl⟩ _ _ ⟨aR,aT,rfl,h111⟩;refine vQ [4,35] rfl ?_;refine yS [] [5] rfl<|zG<|yX ?_;obtain rfl:=zD N;exact xN ⟨_,_,(.cell 0 rfl rfl (by kernel_rfl) (.tmp rfl ResV.nil)),zH,⟨_,_,rfl,rfl,⟨_,rfl,(qV ⟨_,rfl,h111⟩)⟩,rfl⟩⟩
def pU(r:zB×Int):KT:=λkk I' ag v=>
 ∃v0 v1,ag=[]/\v=tupV [v0,v1]/\(∃cs,v0=.agg ⟨cs⟩/\Rp.rep I' cs r.1)/\v1=.int .i64 r.2
mutual
def sA(s:Str)(at0:Int)(af:Int):Option (zB×Int):=do
 let (y1,y2)<-xA (same s) (same at0) (same af)
 let t27<-(do
  if(decide (y2<0)) then
   pure true
  else
   pure (decide (y2>=(s.l.length:Int)))
    : Option Bool)
 if t27 then
  pure ((zB.mk 0 0 (zA.mk ([]:List Int) 0) (zE.mk (⟨[]⟩:Str) ([]:List zA)) ([]:List zB)),(-1))
 else
  let b2<-sidx s y2
  let kind<-(do
   if((b2.toNat:Int)==45) then
    pure (id 5)
   else
    let kind1<-(do
     if((b2.toNat:Int)==42) then
      pure (id 6)
     else
      pure (id 4)
       : Option Int)
    pure (id kind1)
     : Option Int)
  let (y4,y5)<-xA (same s) (W (y2+1)) (same af)
  let t51<-(do
   if(decide (y5<0)) then
    pure true
   else
    pure (decide (y5>=(s.l.length:Int)))
     : Option Bool)
  if t51 then
   pure ((zB.mk 0 0 (zA.mk ([]:List Int) 0) (zE.mk (⟨[]⟩:Str) ([]:List zA)) ([]:List zB)),(-1))
  else
   pure ((zB.mk kind 0 (zA.mk ([]:List Int) 0) (zE.mk (⟨[]⟩:Str) ([]:List zA)) ([y1,y4]:List zB)),(W (y5+1)))
 partial_fixpoint
def xA(s:Str)(at0:Int)(af:Int):Option (zB×Int):=do
 let t26<-(do
  if(decide (af<1)) then
   pure true
  else
   if(decide (at0<0)) then
    pure true
   else
    pure (decide (at0>=(s.l.length:Int)))
    : Option Bool)
 if t26 then
  pure ((zB.mk 0 0 (zA.mk ([]:List Int) 0) (zE.mk (⟨[]⟩:Str) ([]:List zA)) ([]:List zB)),(-1))
 else
  let b1<-sidx s at0
  if((b1.toNat:Int)==123) then
   let y<-vX s at0 (125:UInt8)
   if(decide (y<0)) then
    pure ((zB.mk 0 0 (zA.mk ([]:List Int) 0) (zE.mk (⟨[]⟩:Str) ([]:List zA)) ([]:List zB)),(-1))
   else
    let s1<-sslc s (W (at0+1)) y
    let (y2,y3)<-vW s1
    pure ((zB.mk 2 0 y2 (zE.mk (⟨[]⟩:Str) ([]:List zA)) ([]:List zB)),(W (y+1)))
  else
   let t52<-(do
    let b3<-sidx s at0
    if(decide ((b3.toNat:Int)>=65)) then
     let b4<-sidx s at0
     pure (decide ((b4.toNat:Int)<=68))
    else
     pure false
      : Option Bool)
   if t52 then
    let (y5,y6)<-xD s at0
    pure ((zB.mk 3 0 (zA.mk ([]:List Int) 0) y5 ([]:List zB)),y6)
   else
    let b6<-sidx s at0
    if((b6.toNat:Int)==40) then
     let (y8,y9)<-sA (same s) (W (at0+1)) (W (af - 1))
     pure (y8,y9)
    else
     let (y11,y12)<-uC s at0
     if(y12==at0) then
      pure ((zB.mk 0 0 (zA.mk ([]:List Int) 0) (zE.mk (⟨[]⟩:Str) ([]:List zA)) ([]:List zB)),(-1))
     else
      pure ((zB.mk 1 y11 (zA.mk ([]:List Int) 0) (zE.mk (⟨[]⟩:Str) ([]:List zA)) ([]:List zB)),y12)
 partial_fixpoint
end
theorem zAL:(∀(s:Str) (at0:Int) (af:Int) r,sA s at0 af=some r->∀{I:Imm} ,RT 145 [vT s.l,vI at0,vI af] I [] (pU  r))/\(∀(s:Str) (at0:Int) (af:Int) r,xA s at0 af=some r->∀{I:Imm} ,RT 86 [vT s.l,vI at0,vI af] I [] (pU  r)):=by
 refine sA.mutual_partial_correctness _ _ ?_ ?_
 ·intro F_spec_l3Parse ih_spec_l3Parse s at0 af r N I;refine yK func145 λB=>?_;have H:=iS I;refine yH<|uF zExpr ?_;intro b hb;refine wG [] []<|yW<|zX 3 [] [14,15,16] rfl ?_;obtain⟨⟨y1,y2⟩,hy,N⟩:=zC N;refine xS (ih_spec_l3Parse s at0 af _ hy ) ?_;rintro I0 aj v2 k2 le - ⟨v0,v01,rfl,rfl,⟨cs,rfl,h⟩,rfl⟩ -;have H:=H.trans le;obtain⟨p,c,p1,c1,p2,c2,rfl,h2,h3,h4⟩:=xK h;refine zX 7 [] [18,19] rfl<|uF zExpr ?_;intro b1 hb1;refine yT 0 (cExpr y1 p c p1 c1 p2 c2) rfl<|yS [] [9] rfl<|yL<|yB ?_;refine wT N [hB b1 (cExpr y1 p c p1 c1 p2 c2),hB b zExpr] (λt27=>[(0,vT s.l),(2,vI af),(6,vP b 0),(8,vP b1 0),(9,vI y2),(27,.bool t27)]) (λo0 ar=>?_) ?_
  ·have H:=iS I0;refine zI<|zX 3 [] [22] rfl<|xE [22] ar ?_ ?_
   ·intro hc N;exact wG [] [(27,vY)]<|yM<|zJ (ct N H)
   intro hc N;exact yS [] [27] rfl<|yM<|zJ (ct N H)
  intro t27 aI ai aw;have ⟨h2,h3,h4,H⟩:=m4 ai h2 h3 h4 H;refine zG<|yJ aw ?_ ?_
  ·intro ay N;refine yH<|zX 1 [] [28] rfl<|zBO 1 zExpr [hB b1 (cExpr y1 p c p1 c1 p2 c2),hB b zExpr] rfl rfl rfl rfl<|yS [] [7] rfl<|xP<|zF ?_;obtain rfl:=zD N;exact xN ⟨_,_,(.cell 1 rfl rfl (by kernel_rfl) (.tmp rfl ResV.nil)),zH,⟨_,_,rfl,rfl,⟨_,rfl,(yG ⟨_,_,_,rfl,(SL.nil _),(SL.nil _),(SL.nil _)⟩)⟩,rfl⟩⟩
  intro ay N;refine zO<|qN [10] rfl<|yL<|yH<|zX 2 [] [29,30] rfl<|bE N λb2 au N=>pW rfl rfl au<|zV rfl<|rX<|xB [32] rfl<|zG ?_;refine wT N [hB b1 (cExpr y1 p c p1 c1 p2 c2),hB b zExpr] (λkind=>[(0,vT s.l),(2,vI af),(6,vP b 0),(8,vP b1 0),(9,vI y2),(10,vI kind)]) (λaS ax=>?_) ?_
  ·have H:=iS aI;refine yJ ax ?_ ?_
   ·intro aJ N;exact zI<|yS [] [10] rfl<|yM<|zJ (ct N H)
   intro aJ N;refine xB [34] rfl<|zG ?_;refine wT N [hB b1 (cExpr y1 p c p1 c1 p2 c2),hB b zExpr] (λkind1=>[(0,vT s.l),(2,vI af),(6,vP b 0),(8,vP b1 0),(9,vI y2),(10,vI kind1)]) (λo02 ho02=>?_) ?_
   ·have H:=iS aI;refine yJ ho02 ?_ ?_
    ·intro bd N;exact zI<|yS [] [10] rfl<|yM<|zJ (ct N H)
    intro bd N;exact zO<|yM<|zJ (ct N H)
   intro kind1 aZ aG hMc2;have H:=H.trans aG;exact yM<|zJ (ct hMc2 H)
  intro kind aP aL hMc1;have ⟨h2,h3,h4,H⟩:=m4 aL h2 h3 h4 H;refine zQ<|yW<|zX 4 [] [37,39,40] rfl ?_;obtain⟨⟨y4,y5⟩,aB,N⟩:=zC hMc1;refine xS (ih_spec_l3Parse s (W (y2+1)) af _ aB ) ?_;rintro bq aj v2 k2 aV - ⟨v05,v06,rfl,rfl,⟨aH,rfl,h5⟩,rfl⟩ -;have ⟨h2,h3,h4,H⟩:=m4 aV h2 h3 h4 H;obtain⟨p3,c3,p4,c4,p5,c5,rfl,h7,h8,h9⟩:=xK h5;refine zX 8 [] [42,43] rfl<|uF zExpr ?_;intro b3 hb2;refine yT 0 (cExpr y4 p3 c3 p4 c4 p5 c5) rfl<|yS [] [12] rfl<|yL<|yB ?_;refine wT N [hB b3 (cExpr y4 p3 c3 p4 c4 p5 c5),hB b1 (cExpr y1 p c p1 c1 p2 c2),hB b zExpr] (λt51=>[(6,vP b 0),(8,vP b1 0),(10,vI kind),(11,vP b3 0),(12,vI y5),(51,.bool t51)]) (λo03 ho03=>?_) ?_
  ·have H:=iS bq;refine zI<|zX 3 [] [46] rfl<|xE [46] ho03 ?_ ?_
   ·intro bn N;exact wG [] [(51,vY)]<|yM<|zJ (ct N H)
   intro bn N;exact yS [] [51] rfl<|yM<|zJ (ct N H)
  intro t51 bu bj hMc3;have ⟨h7,h8,h9,h2,h3,h4⟩:=m6 bj h7 h8 h9 h2 h3 h4;refine zG<|yJ hMc3 ?_ ?_
  ·intro hc5 N;refine yH<|zX 1 [] [52] rfl<|zBO 2 zExpr [hB b3 (cExpr y4 p3 c3 p4 c4 p5 c5),hB b1 (cExpr y1 p c p1 c1 p2 c2),hB b zExpr] rfl rfl rfl rfl<|yS [] [7] rfl<|xP<|zF ?_;obtain rfl:=zD N;exact xN ⟨_,_,(.cell 2 rfl rfl (by kernel_rfl) (.tmp rfl ResV.nil)),zH,⟨_,_,rfl,rfl,⟨_,rfl,(yG ⟨_,_,_,rfl,(SL.nil _),(SL.nil _),(SL.nil _)⟩)⟩,rfl⟩⟩
  intro hc5 N;refine zO<|yW<|sW 3 [1,0] [(53,vI kind),(54,vA (cExpr y1 p c p1 c1 p2 c2)),(55,vA (cExpr y4 p3 c3 p4 c4 p5 c5))]<|jL [vI y1.Kind,vI y1.Num,vS p y1.Index.Coefs c,vI y1.Index.Const,vT y1.Read.Array.l,vS p1 y1.Read.Subs c1,vS p2 y1.Kids c2,vI y4.Kind,vI y4.Num,vS p3 y4.Index.Coefs c3,vI y4.Index.Const,vT y4.Read.Array.l,vS p4 y4.Read.Subs c4,vS p5 y4.Kids c5] zB ?_;intro b4 hb3;have h10:RL bu [vI y1.Kind,vI y1.Num,vS p y1.Index.Coefs c,vI y1.Index.Const,vT y1.Read.Array.l,vS p1 y1.Read.Subs c1,vS p2 y1.Kids c2,vI y4.Kind,vI y4.Num,vS p3 y4.Index.Coefs c3,vI y4.Index.Const,vT y4.Read.Array.l,vS p4 y4.Read.Subs c4,vS p5 y4.Kids c5] ([y1,y4]:List zB):=⟨(cExpr y1 p c p1 c1 p2 c2),_,rfl,rfl,(yG ⟨_,_,_,rfl,h2,h3,h4⟩),⟨(cExpr y4 p3 c3 p4 c4 p5 c5),_,rfl,rfl,(yG ⟨_,_,_,rfl,h7,h8,h9⟩),rfl⟩⟩;refine zX 7 [] [57,59] rfl<|yT 3 [vI kind,vI 0,z0,vI 0,vT ([]),z0,vS (some ⟨b4,0,none⟩) ([y1,y4]:List zB) 2] rfl<|yS [] [7] rfl<|xP<|tY 0 rfl ?_;intro I06 bt hl0;have h11:=SL.of_frozen hl0 bt h10;obtain rfl:=zD N;exact xN ⟨_,_,(.cell 2 rfl rfl (by kernel_rfl) (.tmp rfl ResV.nil)),zH,⟨_,_,rfl,rfl,⟨_,rfl,(yG ⟨_,_,_,rfl,(SL.nil _),(SL.nil _),h11⟩)⟩,rfl⟩⟩
 intro F_spec_l3Round ih_spec_l3Round s at0 af r N I;refine yK func86 λB=>?_;have H:=iS I;refine yH<|uF zExpr ?_;intro b hb;refine wG [] []<|yL<|yB ?_;refine wT N [hB b zExpr] (λt26=>[(0,vT s.l),(1,vI at0),(2,vI af),(6,vP b 0),(26,.bool t26)]) (λo0 ar=>?_) ?_
 ·have H:=iS I;refine zI<|zX 3 [] [17] rfl<|xE [17] ar ?_ ?_
  ·intro hc N;exact wG [] [(26,vY)]<|yM<|zJ (ct N H)
  intro hc N;refine zX 7 [] [21] rfl<|xE [21] N ?_ ?_
  ·intro ay N;exact wG [] [(26,vY)]<|yM<|zJ (ct N H)
  intro ay N;exact yS [] [26] rfl<|yM<|zJ (ct N H)
 intro t26 I0 le aw;have H:=H.trans le;refine zG<|yJ aw ?_ ?_
 ·intro aJ N;refine yH<|zX 1 [] [27] rfl<|zBO 0 zExpr [hB b zExpr] rfl rfl rfl rfl<|yS [] [7] rfl<|xP<|zF ?_;obtain rfl:=zD N;exact xN ⟨_,_,(.cell 0 rfl rfl (by kernel_rfl) (.tmp rfl ResV.nil)),zH,⟨_,_,rfl,rfl,⟨_,rfl,(yG ⟨_,_,_,rfl,(SL.nil _),(SL.nil _),(SL.nil _)⟩)⟩,rfl⟩⟩
 intro aJ N;refine zO<|yL<|wM<|yH<|zX 2 [] [29,30] rfl<|bE N λb1 hy N=>pW rfl rfl hy<|yS [] [28] rfl<|zG<|yJ N ?_ ?_
 ·intro bd N;refine yH<|zX 2 [] [33,34] rfl<|bE N λy au N=>zAD (jJ s at0 (125:UInt8) _ au ) λaI ai=>wG [] [(8,vI y)]<|yL<|tK [(37,.bool (decide (y<0)))]<|zG<|yJ N ?_ ?_
  ·intro bn N;refine yH<|zX 1 [] [38] rfl<|zBO 0 zExpr [hB b zExpr] rfl rfl rfl rfl<|yS [] [7] rfl<|xP<|zF<|zS<|zF ?_;obtain rfl:=zD N;exact xN ⟨_,_,(.cell 0 rfl rfl (by kernel_rfl) (.tmp rfl ResV.nil)),zH,⟨_,_,rfl,rfl,⟨_,rfl,(yG ⟨_,_,_,rfl,(SL.nil _),(SL.nil _),(SL.nil _)⟩)⟩,rfl⟩⟩
  intro bn N;refine zO<|yW<|zX 4 [] [40,42,43] rfl<|bE N λs1 aB N=>mD rfl aB ?_;obtain⟨⟨y2,y3⟩,aK,N⟩:=zC N;refine xS (nE s1 _ aK ) ?_;rintro aP aj v2 k2 aG - ⟨v01,v02,rfl,rfl,⟨cs,rfl,h1⟩,rfl⟩ -;obtain⟨p,c,rfl,h3⟩:=yP h1;refine zX 9 [] [46,47] rfl<|uF [z0,vI 0] ?_;intro b2 hb1;refine yT 0 (cAff y2 p c) rfl<|wG [] []<|yW<|sW 4 [0] [(49,vA [vI 2,vI 0,vS p y2.Coefs c,vI y2.Const,vT ([]),z0,z0]),(51,vI (W (y+1)))]<|yT 1 [vI 2,vI 0,vS p y2.Coefs c,vI y2.Const,vT ([]),z0,z0] rfl<|yS [] [7] rfl<|xP<|zS<|zF ?_;obtain rfl:=zD N;exact xN ⟨_,_,(.cell 1 rfl rfl (by kernel_rfl) (.tmp rfl ResV.nil)),zH,⟨_,_,rfl,rfl,⟨_,rfl,(yG ⟨_,_,_,rfl,h3,(SL.nil _),(SL.nil _)⟩)⟩,rfl⟩⟩
 intro bd N;refine yB ?_;refine wT N [hB b zExpr] (λt52=>[(0,vT s.l),(1,vI at0),(2,vI af),(6,vP b 0),(52,.bool t52)]) (λaS ax=>?_) ?_
 ·have H:=iS I0;refine zI<|zX 2 [] [53,54] rfl ?_;obtain⟨b3,aY,N⟩:=zC ax;refine pW rfl rfl aY<|zX 5 [] [57] rfl<|xE [57] N ?_ ?_
  ·intro hc5 N;exact zX 7 [] [58,59] rfl<|bE N λb4 bo N=>pW rfl rfl bo<|yS [] [52] rfl<|yM<|zJ (ct N H)
  intro hc5 N;exact wG [] [(52,vF)]<|yM<|zJ (ct N H)
 intro t52 aZ aL hMc1;refine zG<|yJ hMc1 ?_ ?_
 ·intro hc6 N;refine yH<|zX 2 [] [64,65] rfl ?_;obtain⟨⟨y5,y6⟩,hy6,N⟩:=zC N;refine xS (pX s at0 _ hy6 ) ?_;rintro bq aj v2 k2 aV - ⟨v04,v05,rfl,rfl,⟨aH,rfl,h4⟩,rfl⟩ -;obtain⟨p1,c1,rfl,h6⟩:=rS h4;refine zX 6 [] [67,68] rfl<|uF [vT ([]),z0] ?_;intro b5 hb2;refine yT 0 (cAccess y5 p1 c1) rfl<|yS [] [12] rfl<|yW<|sW 3 [0] [(70,vA [vI 3,vI 0,z0,vI 0,vT y5.Array.l,vS p1 y5.Subs c1,z0]),(71,vI y6)]<|yT 1 [vI 3,vI 0,z0,vI 0,vT y5.Array.l,vS p1 y5.Subs c1,z0] rfl<|yS [] [7] rfl<|xP<|zS<|zF ?_;obtain rfl:=zD N;exact xN ⟨_,_,(.cell 1 rfl rfl (by kernel_rfl) (.tmp rfl ResV.nil)),zH,⟨_,_,rfl,rfl,⟨_,rfl,(yG ⟨_,_,_,rfl,(SL.nil _),h6,(SL.nil _)⟩)⟩,rfl⟩⟩
 intro hc6 N;refine yH<|zX 2 [] [73,74] rfl<|bE N λb6 hy7 N=>pW rfl rfl hy7<|yS [] [72] rfl<|zG<|yJ N ?_ ?_
 ·intro hc7 N;refine yH<|zX 5 [] [77,79,81] rfl ?_;obtain⟨⟨y8,y9⟩,hy8,N⟩:=zC N;refine xS (ih_spec_l3Round s (W (at0+1)) (W (af - 1)) _ hy8 ) ?_;rintro bu aj v2 k2 bj - ⟨v07,v08,rfl,rfl,⟨aX,rfl,h7⟩,rfl⟩ -;obtain⟨p2,c2,p3,c3,p4,c4,rfl,h9,h10,h11⟩:=xK h7;refine zX 8 [] [83,84] rfl<|yT 0 (cExpr y8 p2 c2 p3 c3 p4 c4) rfl<|yS [] [7] rfl<|xP<|zS<|zF ?_;obtain rfl:=zD N;exact xN ⟨_,_,(.cell 0 rfl rfl (by kernel_rfl) (.tmp rfl ResV.nil)),zH,⟨_,_,rfl,rfl,⟨_,rfl,(yG ⟨_,_,_,rfl,h9,h10,h11⟩)⟩,rfl⟩⟩
 intro hc7 N;refine zO<|zQ<|yW<|zX 2 [] [86,87] rfl ?_;obtain⟨⟨y11,y12⟩,hy9,N⟩:=zC N;refine xS (kJ s at0 _ hy9 ) ?_;rintro I06 aj v2 k2 bt - ⟨v012,v013,rfl,rfl,rfl,rfl⟩ -;refine yS [] [13,14] rfl<|yL<|xB [93] rfl<|zG<|yJ N ?_ ?_
 ·intro hc8 N;refine yH<|zX 1 [] [94] rfl<|zBO 0 zExpr [hB b zExpr] rfl rfl rfl rfl<|yS [] [7] rfl<|xP<|zF ?_;obtain rfl:=zD N;exact xN ⟨_,_,(.cell 0 rfl rfl (by kernel_rfl) (.tmp rfl ResV.nil)),zH,⟨_,_,rfl,rfl,⟨_,rfl,(yG ⟨_,_,_,rfl,(SL.nil _),(SL.nil _),(SL.nil _)⟩)⟩,rfl⟩⟩
 intro hc8 N;refine zO<|yW<|zX 3 [] [96,97] rfl<|yT 0 [vI 1,vI y11,z0,vI 0,vT ([]),z0,z0] rfl<|yS [] [7] rfl<|zG<|yX ?_;obtain rfl:=zD N;exact xN ⟨_,_,(.cell 0 rfl rfl (by kernel_rfl) (.tmp rfl ResV.nil)),zH,⟨_,_,rfl,rfl,⟨_,rfl,(yG ⟨_,_,_,rfl,(SL.nil _),(SL.nil _),(SL.nil _)⟩)⟩,rfl⟩⟩
theorem zAo:∀s at0 af r,xA s at0 af=some r->∀{I:Imm} ,RT 86 [vT s.l,vI at0,vI af] I [] (pU  r):=zAL.2
def nF(r:zL×Bool):KT:=λkk I' ag v=>
 ∃v0 v1,ag=[]/\v=tupV [v0,v1]/\(∃cs,v0=.agg ⟨cs⟩/\Rp.rep I' cs r.1)/\v1=.bool r.2
def uE(ak:Str):Option (zL×Bool):=do
 if(decide ((ak.l.length:Int)<4)) then
  pure ((zL.mk (zE.mk (⟨[]⟩:Str) ([]:List zA)) (zB.mk 0 0 (zA.mk ([]:List Int) 0) (zE.mk (⟨[]⟩:Str) ([]:List zA)) ([]:List zB))),false)
 else
  let (y1,y2)<-xD ak 0
  let t25<-(do
   if(decide (y2<0)) then
    pure true
   else
    pure (decide (y2>=(ak.l.length:Int)))
     : Option Bool)
  if t25 then
   pure ((zL.mk (zE.mk (⟨[]⟩:Str) ([]:List zA)) (zB.mk 0 0 (zA.mk ([]:List Int) 0) (zE.mk (⟨[]⟩:Str) ([]:List zA)) ([]:List zB))),false)
  else
   let (y4,y5)<-xA ak (W (y2+1)) 5
   let y6<-vO (zL.mk y1 y4)
   if(!(y6.l==ak.l)) then
    pure ((zL.mk (zE.mk (⟨[]⟩:Str) ([]:List zA)) (zB.mk 0 0 (zA.mk ([]:List Int) 0) (zE.mk (⟨[]⟩:Str) ([]:List zA)) ([]:List zB))),false)
   else
    pure ((zL.mk y1 y4),true)
theorem dA:∀ak r,uE ak=some r->∀{I:Imm} ,RT 34 [vT ak.l] I [] (nF  r):=by
 intro ak r N I;unfold uE at N;refine yK func34 λB=>?_;have H:=iS I;refine yH<|uF [vT ([]),z0,vI 0,vI 0,z0,vI 0,vT ([]),z0,z0] ?_;intro b hb;refine wG [] []<|yL<|xB [11] rfl<|zG<|yJ N ?_ ?_
 ·intro hc N;refine yH<|zX 1 [] [12] rfl<|yT 0 [vT ([]),z0,vI 0,vI 0,z0,vI 0,vT ([]),z0,z0] rfl<|wG [] [(3,vF)]<|xP<|zF ?_;obtain rfl:=zD N;exact xN ⟨_,_,(.cell 0 rfl rfl (by kernel_rfl) (.tmp rfl ResV.nil)),zH,⟨_,_,rfl,rfl,⟨_,rfl,(wZ ⟨_,_,_,_,rfl,(SL.nil _),(SL.nil _),(SL.nil _),(SL.nil _)⟩)⟩,rfl⟩⟩
 intro hc N;refine zO<|yW<|zX 1 [] [14] rfl ?_;obtain⟨⟨y1,y2⟩,hy,N⟩:=zC N;refine xS (pX ak 0 _ hy ) ?_;rintro I0 aj v2 k2 le - ⟨v0,v01,rfl,rfl,⟨cs,rfl,h⟩,rfl⟩ -;have H:=H.trans le;obtain⟨p,c,rfl,h2⟩:=rS h;refine zX 5 [] [16,17] rfl<|uF [vT ([]),z0] ?_;intro b1 hb1;refine yT 0 (cAccess y1 p c) rfl<|yS [] [5] rfl<|yL<|yB ?_;refine wT N [hB b1 (cAccess y1 p c),hB b [vT ([]),z0,vI 0,vI 0,z0,vI 0,vT ([]),z0,z0]] (λt25=>[(0,vT ak.l),(2,vP b 0),(4,vP b1 0),(5,vI y2),(25,.bool t25)]) (λo0 ar=>?_) ?_
 ·have H:=iS I0;refine zI<|zX 3 [] [20] rfl<|xE [20] ar ?_ ?_
  ·intro ay N;exact wG [] [(25,vY)]<|yM<|zJ (ct N H)
  intro ay N;exact yS [] [25] rfl<|yM<|zJ (ct N H)
 intro t25 aI ai aw;have h2:=h2.mono ai;refine zG<|yJ aw ?_ ?_
 ·intro aJ N;refine yH<|zX 1 [] [26] rfl<|yT 1 [vT ([]),z0,vI 0,vI 0,z0,vI 0,vT ([]),z0,z0] rfl<|wG [] [(3,vF)]<|xP<|zF ?_;obtain rfl:=zD N;exact xN ⟨_,_,(.cell 1 rfl rfl (by kernel_rfl) (.tmp rfl ResV.nil)),zH,⟨_,_,rfl,rfl,⟨_,rfl,(wZ ⟨_,_,_,_,rfl,(SL.nil _),(SL.nil _),(SL.nil _),(SL.nil _)⟩)⟩,rfl⟩⟩
 intro aJ N;refine zO<|yW<|zX 3 [] [28,30] rfl ?_;obtain⟨⟨y4,y5⟩,au,N⟩:=zC N;refine xS (zAo ak (W (y2+1)) 5 _ au ) ?_;rintro aP aj v2 k2 aG - ⟨v03,v04,rfl,rfl,⟨aH,rfl,h3⟩,rfl⟩ -;have h2:=h2.mono aG;obtain⟨p1,c1,p2,c2,p3,c3,rfl,h5,h6,h7⟩:=xK h3;refine zX 7 [] [32,33] rfl<|uF zExpr ?_;intro b2 hb2;refine yT 0 (cExpr y4 p1 c1 p2 c2 p3 c3) rfl<|wG [] []<|yW<|sW 3 [1,0] [(36,vA [vT y1.Array.l,vS p y1.Subs c,vI y4.Kind,vI y4.Num,vS p1 y4.Index.Coefs c1,vI y4.Index.Const,vT y4.Read.Array.l,vS p2 y4.Read.Subs c2,vS p3 y4.Kids c3])]<|uF [vT ([]),z0,vI 0,vI 0,z0,vI 0,vT ([]),z0,z0] ?_;intro b3 hb3;refine yT 0 [vT y1.Array.l,vS p y1.Subs c,vI y4.Kind,vI y4.Num,vS p1 y4.Index.Coefs c1,vI y4.Index.Const,vT y4.Read.Array.l,vS p2 y4.Read.Subs c2,vS p3 y4.Kids c3] rfl<|zV rfl<|yL<|yH<|sW 1 [0] [(37,vA [vT y1.Array.l,vS p y1.Subs c,vI y4.Kind,vI y4.Num,vS p1 y4.Index.Coefs c1,vI y4.Index.Const,vT y4.Read.Array.l,vS p2 y4.Read.Subs c2,vS p3 y4.Kids c3])]<|bE N λy6 aB N=>xS (pJ (zL.mk y1 y4) _ aB h2 h5 h6 h7) ?_;rintro aZ aj v2 k2 aL - ⟨v08,rfl,rfl,rfl⟩ -;have ⟨h2,h5,h6,h7⟩:=m4 aL h2 h5 h6 h7;refine yS [] [40] rfl<|zG<|yJ N ?_ ?_
 ·intro bd N;refine yH<|zX 1 [] [41] rfl<|yT 3 [vT ([]),z0,vI 0,vI 0,z0,vI 0,vT ([]),z0,z0] rfl<|wG [] [(3,vF)]<|xP<|zF ?_;obtain rfl:=zD N;exact xN ⟨_,_,(.cell 3 rfl rfl (by kernel_rfl) (.tmp rfl ResV.nil)),zH,⟨_,_,rfl,rfl,⟨_,rfl,(wZ ⟨_,_,_,_,rfl,(SL.nil _),(SL.nil _),(SL.nil _),(SL.nil _)⟩)⟩,rfl⟩⟩
 intro bd N;refine zO<|yW<|sW 1 [0] [(42,vA [vT y1.Array.l,vS p y1.Subs c,vI y4.Kind,vI y4.Num,vS p1 y4.Index.Coefs c1,vI y4.Index.Const,vT y4.Read.Array.l,vS p2 y4.Read.Subs c2,vS p3 y4.Kids c3])]<|yT 3 [vT y1.Array.l,vS p y1.Subs c,vI y4.Kind,vI y4.Num,vS p1 y4.Index.Coefs c1,vI y4.Index.Const,vT y4.Read.Array.l,vS p2 y4.Read.Subs c2,vS p3 y4.Kids c3] rfl<|wG [] [(3,vY)]<|zG<|yX ?_;obtain rfl:=zD N;exact xN ⟨_,_,(.cell 3 rfl rfl (by kernel_rfl) (.tmp rfl ResV.nil)),zH,⟨_,_,rfl,rfl,⟨_,rfl,(wZ ⟨_,_,_,_,rfl,h2,h5,h6,h7⟩)⟩,rfl⟩⟩
def qX(v0:Int):Option (zA):=do
 let y<-tW
 let x<-idx y.Coefs v0
 let l<-pure (y.Coefs.set v0.toNat 1)
 pure (zA.mk l y.Const)
theorem fO:∀v0 r,qX v0=some r->∀{I:Imm} ,RT 172 [vI v0] I [] (qF  r):=by
 intro v0 r N I;unfold qX at N;refine yK func172 λB=>yH<|uF [z0,vI 0] ?_;intro b hb;refine zV rfl<|yW<|bE N λy hy N=>xS (qS  _ hy ) ?_;rintro I0 aj v2 k2 le - ⟨p,c,cs,rfl,rfl,h⟩ -;refine uF [z0,vI 0] ?_;intro b1 hb1;refine yT 0 (cAff y p c) rfl<|zV rfl<|yW<|zX 3 [0] [6,7] rfl<|bE N λx au N=>zCO 1 rfl rfl rfl h au ?_;intro ad aA az bL ap;obtain rfl:=ap;obtain⟨l,aB,N⟩:=zC N;refine kQ (c:=[vI 1]) (x':=1) 1 0 rfl rfl rfl az rfl rfl bL (by kernel_rfl) (by kernel_rfl) (by kernel_rfl) h au (by kernel_rfl) rfl ?_;rw[show y.Coefs.set v0.toNat 1=l from zD aB];intro aH h1 hl0;refine mW (m':=[(2,vP b 0),(3,vP b1 0),(6,vS p y.Coefs c),(7,vI v0)]) ⟨rfl,rfl,rfl,rfl,trivial⟩<|zCa (ag:=[hB b1 [vS p l c,vI y.Const],hO Int (vS p l c) aH,hB b [z0,vI 0]]) (m':=[(2,vP b 0),(3,vP b1 0),(6,vS p l c),(7,vI v0)]) (by first|rfl|simp only[vS,hl0,cq,cy,ec,dt,dy,dz]) (by first|rfl|simp only[vS,hl0])<|zV rfl<|yW<|sW 1 [0] [(9,vA [vS p l c,vI y.Const])]<|yT 2 [vS p l c,vI y.Const] rfl<|zV rfl<|xP<|tY 1 rfl ?_;intro aI ai hl01;have h2:=SL.of_frozen hl01 ai h1;obtain rfl:=zD N;exact xN ⟨_,_,(.cell 1 rfl rfl (by kernel_rfl) ResV.nil),zH,⟨_,rfl,rfl,⟨_,rfl,(zZ ⟨_,rfl,h2⟩)⟩⟩⟩
def sP(n0:Int):Option (zA):=do
 let y<-tW
 pure (zA.mk y.Coefs n0)
theorem oZ:∀n0 r,sP n0=some r->∀{I:Imm} ,RT 173 [vI n0] I [] (oF  r):=by
 intro n0 r N I;unfold sP at N;refine yK func173 λB=>yH<|uF [z0,vI 0] ?_;intro b hb;refine zV rfl<|yW<|bE N λy hy N=>xS (qS  _ hy ) ?_;rintro I0 aj v2 k2 le - ⟨p,c,cs,rfl,rfl,h⟩ -;refine uF [z0,vI 0] ?_;intro b1 hb1;refine yT 0 (cAff y p c) rfl<|zV rfl<|yW<|zX 2 [] [5,6] rfl<|yT 0 [vS p y.Coefs c,vI n0] rfl<|zV rfl<|yW<|sW 1 [0] [(7,vA [vS p y.Coefs c,vI n0])]<|yT 2 [vS p y.Coefs c,vI n0] rfl<|zV rfl<|zG<|yX ?_;obtain rfl:=zD N;exact xN ⟨_,_,(.cell 2 rfl rfl (by kernel_rfl) ResV.nil),(zN [1] rfl (by decide)),⟨_,_,_,rfl,rfl,h⟩⟩
def uJ(a0:zA)(x:Int)(b:zA)(y:Int)(i:Int)(Coefs:List Int):Option (List Int):=do
 if(decide (i<4)) then
  let x1<-idx a0.Coefs i
  let x2<-idx b.Coefs i
  let l<-app 8 Coefs ([(W ((W (x*x1))+(W (y*x2))))]:List Int)
  uJ a0 x b y (W (i+1)) l
 else
  pure (id Coefs)
 partial_fixpoint
theorem gH(a0:zA)(x:Int)(b:zA)(y:Int):∀(i:Int) (Coefs:List Int) (o:List Int),uJ a0 x b y i Coefs=some o->∀{B}{I0 I:Imm}{Q p c p1 c1}{b1:Nat}{b2:Nat}{b3:Nat}{b4:Nat}{p2 c2 cs},I0.le I->(S4 I p1 b.Coefs c1)->(S4 I p a0.Coefs c)->(RL I cs Coefs)->NG Q->NO Q->(∀(I':Imm) (Coefs1:List Int) (p3:Option Addr) (c3:Nat) (aH:List Value),o=Coefs1->I0.le I'->(RL I' aH Coefs1)->T 46 B Q (.exit 0) I' [hO Int (vS p3 Coefs1 c3) aH,hB b4 [vS p3 Coefs1 c3,vI (W ((W (x*a0.Const))+(W (y*b.Const))))],hB b3 [z0,vI 0]] [(8,vP b3 0),(9,vP b4 0)])->J Tryz.prog 46 B (nav (bodyOf f179) [1,1,0,1,0]) Q I [hO Int (vS p2 Coefs c2) cs,hB b4 [vS p2 Coefs c2,vI (W ((W (x*a0.Const))+(W (y*b.Const))))],hB b3 [z0,vI 0],hB b2 (cAff b p1 c1),hB b1 (cAff a0 p c)] [(1,vI x),(3,vI y),(4,vP b1 0),(6,vP b2 0),(8,vP b3 0),(9,vP b4 0),(10,vI i)]:=by
 refine uJ.partial_correctness a0 x b y _ λaW ih i Coefs o N B I0 I Q p c p1 c1 b1 b2 b3 b4 p2 c2 cs H h1 h h3 hg ho hx=>uQ hg ho<|yB<|xB [22] rfl<|zG<|yJ N ?_ ?_
 ·intro hc N;refine zO<|yL<|wM ?_;obtain⟨x1,hy,N⟩:=zC N;obtain⟨x2,au,N⟩:=zC N;obtain⟨l,aB,N⟩:=zC N;refine sU [.p (vP b4 0) [],.p (vS p2 Coefs c2) [0],.p (vI x) [],.p (vP b1 0) [],.p (vS p a0.Coefs c) [3],.p (vI i) [],.x (λI' v hx=>∃ad,v=.pointer (some ad)/\hx=[]/\(At I' ad [vI x1])),.q (vI x1),.p (vI (W (x*x1))) [],.p (vI y) [],.p (vP b2 0) [],.p (vS p1 b.Coefs c1) [2],.p (vI i) [],.x (λI' v hx=>∃ad1,v=.pointer (some ad1)/\hx=[]/\(At I' ad1 [vI x2])),.q (vI x2),.p (vI (W (y*x2))) [],.p (vI (W ((W (x*x1))+(W (y*x2))))) [],.x (λI' v hx=>∃b5,v=vS (some ⟨b5,0,none⟩) ([(W ((W (x*x1))+(W (y*x2))))]:List Int) 1/\hx=[]/\(SL I' (vS (some ⟨b5,0,none⟩) ([(W ((W (x*x1))+(W (y*x2))))]:List Int) 1) ([(W ((W (x*x1))+(W (y*x2))))]:List Int))),.x (λI' v hx=>∃p4 c4 aX,v=vS p4 l c4/\hx=[hO Int (vS p4 l c4) aX]/\(RL I' aX l))] [[],[(0,false)],[],[],[(3,false)],[],[(4,false),(5,false)],[(6,false)],[(2,false),(7,false)],[],[],[(10,false)],[],[(11,false),(12,false)],[(13,false)],[(9,false),(14,false)],[(8,false),(15,false)],[(16,false)],[(1,false),(17,false),(21,true)]] [hB b4 [vS p2 Coefs c2,vI (W ((W (x*a0.Const))+(W (y*b.Const))))],hB b3 [z0,vI 0],hB b2 (cAff b p1 c1),hB b1 (cAff a0 p c)] [[hO Int (vS p2 Coefs c2) cs]] [(18,true)] (yR [1,2,3,4,0]) ?_ ?_
  ·refine Op<|Op<|Op<|Op<|Op<|Op<|Ox ?_<|Oq ?_<|Op<|Op<|Op<|Op<|Op<|Ox ?_<|Oq ?_<|Op<|Op<|Ox ?_<|Ox ?_<|On
   ·intro I1 hf ai;refine vQ [29,30] rfl ?_;have h:=h.mono ai;refine qY rfl rfl h hy ?_;intro ad aA az ap;obtain rfl:=ap;exact tS [] iR ⟨_,rfl,rfl,az⟩
   ·rintro I1 hf ai _ _ ⟨ad,rfl,rfl,az⟩;exact vQ [31] rfl<|qU 0 az [vI x1] (vI x1) rfl<|vD iR
   ·intro I1 hf ai;refine vQ [36,37] rfl ?_;have h1:=h1.mono ai;refine qY rfl rfl h1 au ?_;intro ad1 bv aQ aN;obtain rfl:=aN;exact tS [] iR ⟨_,rfl,rfl,aQ⟩
   ·rintro I1 hf ai _ _ ⟨ad1,rfl,rfl,aQ⟩;exact vQ [38] rfl<|qU 0 aQ [vI x2] (vI x2) rfl<|vD iR
   ·intro I1 hf ai;refine vQ [41] rfl ?_;have H:=iS I1;refine mY (rI [(W ((W (x*x1))+(W (y*x2))))]) ?_;intro b5 I0 le h6;have H:=H.trans le;exact tS [] H ⟨_,rfl,rfl,h6⟩
   rintro I1 hf ai _ _ ⟨rfl,rfl⟩ _ _ ⟨b5,rfl,rfl,h6⟩ _ _ rfl;refine vQ [26,42] rfl ?_;have h3:=iM ai h3;obtain⟨bP,k0,k01⟩:=h6;have h6:SL I1 (vS (some ⟨b5,0,none⟩) ([(W ((W (x*x1))+(W (y*x2))))]:List Int) 1) ([(W ((W (x*x1))+(W (y*x2))))]:List Int):=⟨_,k0,k01⟩;exact zAA 3 1 0 rfl rfl rfl h3 (.inl k0) k01 aB λp4 c4 aX h7=>nP (ag:=(hO Int (vS p4 l c4) aX::hB b4 [vS p2 Coefs c2,vI (W ((W (x*a0.Const))+(W (y*b.Const))))]::hB b3 [z0,vI 0]::hB b2 (cAff b p1 c1)::hB b1 (cAff a0 p c)::hf)) rfl<|tS [hO Int (vS p4 l c4) aX] iR ⟨_,_,_,rfl,rfl,h7⟩
  rintro aI ai _ _ ⟨p4,c4,aX,rfl,rfl,h7⟩;refine vQ [1,3,4,6,8,9,10,43] rfl ?_;have ⟨h1,h,H⟩:=m3 ai h1 h H;exact zX 20 [] [44] rfl<|yT 1 [vS p4 l c4,vI (W ((W (x*a0.Const))+(W (y*b.Const))))] rfl<|zV rfl<|zQ<|zG<|zI<|yS [] [10] rfl<|uK<|fW<|ih (W (i+1)) l _ N H h1 h h7 hg ho hx
 intro hc N;exact pG<|xW (zN [0,1,2] rfl (by decide))<|yM<|hx _ _ _ _ _ (zD N).symm H h3
def rW(a0:zA)(x:Int)(b:zA)(y:Int):Option (zA):=do
 let Coefs1<-uJ a0 x b y 0 ([]:List Int)
 pure (zA.mk Coefs1 (W ((W (x*a0.Const))+(W (y*b.Const)))))
theorem dB:∀a0 x b y r,rW a0 x b y=some r->∀{I:Imm}{p c p1 c1},(S4 I p a0.Coefs c)->(S4 I p1 b.Coefs c1)->RT 179 [vA (cAff a0 p c),vI x,vA (cAff b p1 c1),vI y] I [] (qF  r):=by
 intro a0 x b y r N I p c p1 c1 h h1;unfold rW at N;refine yK func179 λB=>yH<|sM (cAff a0 p c) ?_;intro b1 hb;refine sM (cAff b p1 c1) ?_;intro b2 hb1;refine uF [z0,vI 0] ?_;intro b3 hb2;refine zV rfl<|yW<|sW 10 [2,1] [(20,vA [z0,vI (W ((W (x*a0.Const))+(W (y*b.Const))))])]<|uF [z0,vI 0] ?_;intro b4 hb3;refine yT 0 [z0,vI (W ((W (x*a0.Const))+(W (y*b.Const))))] rfl<|zV rfl<|yL<|xB [10] rfl<|rX<|gY [(1,vI x),(3,vI y),(4,vP b1 0),(6,vP b2 0),(8,vP b3 0),(9,vP b4 0),(10,vI 0)]<|zED Int λh2=>?_;obtain⟨o0,ar,aM⟩:=zC N;refine gH a0 x b y 0 ([]:List Int) o0 ar iR h1 h h2 (λ_ _ _ h=>h) (λ_ _ h=>h) ?_;intro aP Coefs1 p3 c3 aH heq aG h4;subst o0;refine yF<|yW<|sW 1 [1] [(45,vA [vS p3 Coefs1 c3,vI (W ((W (x*a0.Const))+(W (y*b.Const))))])]<|yT 2 [vS p3 Coefs1 c3,vI (W ((W (x*a0.Const))+(W (y*b.Const))))] rfl<|zV rfl<|xP<|tY 0 rfl ?_;intro aZ aL hl01;have h8:=SL.of_frozen hl01 aL h4;obtain rfl:=zD aM;exact xN ⟨_,_,(.cell 1 rfl rfl (by kernel_rfl) ResV.nil),zH,⟨_,rfl,rfl,⟨_,rfl,(zZ ⟨_,rfl,h8⟩)⟩⟩⟩
def eC(b0:Nat)(r:Str×zK):KT:=λkk I' ag v=>
 ∃v0 k0,ag=[.blk b0 ⟨k0⟩]/\v=tupV [v0]/\v0=.string ⟨⟨r.1.l⟩⟩/\Rp.rep I' k0 r.2
def sI(r0:zK)(aq:(List Str)):Option (Str×zK):=do
 let (y1,y2)<-yV r0 (aq.length:Int)
 let x<-idx aq y1
 pure (x,y2)
theorem oG:∀r0 aq r,sI r0 aq=some r->∀{I:Imm}{al:Nat}{p c p1 c1},(S4 I p r0.b c)->(S4 I p1 aq c1)->RT 103 [vP al 0,vS p1 aq c1] I [hB al (cRd r0 p c)] (eC al r):=by
 intro r0 aq r N I al p c p1 c1 h h1;unfold sI at N;refine yK func103 λB=>tK []<|yW<|zX 4 [] [5,6,8] rfl ?_;obtain⟨⟨y1,y2⟩,hy,N⟩:=zC N;refine tT (xT r0 (aq.length:Int) _ hy h) rfl ?_;rintro I0 aj v2 k2 le - ⟨v0,kk,rfl,rfl,rfl,h3⟩ -;have h1:=h1.mono le;obtain⟨p2,c2,rfl,h4⟩:=zW h3;obtain⟨x,au,N⟩:=zC N;refine qY rfl rfl h1 au ?_;intro ad aA az ap;obtain rfl:=ap;refine qU 0 az [vT x.l] (vT x.l) rfl<|yS [] [4] rfl<|zG<|yX ?_;obtain rfl:=zD N;exact xN ⟨_,_,(.tmp rfl ResV.nil),(zN [0] rfl (by decide)),⟨_,_,rfl,rfl,rfl,(xH ⟨_,rfl,h4⟩)⟩⟩
def zAM(b0:Nat)(r:zE×zK):KT:=λkk I' ag v=>
 ∃v0 k0,ag=[.blk b0 ⟨k0⟩]/\v=tupV [v0]/\(∃cs,v0=.agg ⟨cs⟩/\Rp.rep I' cs r.1)/\Rp.rep I' k0 r.2
def tO(ae:Int)(n0:Int)(i:Int)(Subs:List zA)(x:zK):Option ((List zA×zK)):=do
 if(decide (i<n0)) then
  let (y4,y5)<-xC x ([0,1,0,2]:List Int)
  let y6<-sP y4
  let (t32,x2)<-(do
   if(decide (ae>0)) then
    let (y8,y9)<-yV y5 5
    pure ((decide (y8>0)),y9)
   else
    pure (false,y5)
     : Option (Bool×zK))
  let (x3,x4)<-(do
   if t32 then
    let (y11,y12)<-yV x2 ae
    let y13<-qX y11
    let (y15,y16)<-xC y12 ([1,1,1,2,(-1)]:List Int)
    let (y18,y19)<-xC y16 ([0,1,0,0,2]:List Int)
    let y20<-sP y18
    let y21<-rW y13 y15 y20 1
    pure (y21,y19)
   else
    pure ((zA.mk y6.Coefs y6.Const),x2)
     : Option (zA×zK))
  let l<-app 32 Subs ([x3]:List zA)
  tO ae n0 (W (i+1)) l x4
 else
  pure (Subs,x)
 partial_fixpoint
theorem dC(ae:Int)(n0:Int):∀(i:Int) (Subs:List zA) (x:zK) (o:(List zA×zK)),tO ae n0 i Subs x=some o->∀{B}{I0 I:Imm}{Q}{y1:Str}{al:Nat}{b:Nat}{b2:Nat}{p2 c2 cs p3 c3},I0.le I->(RL I cs Subs)->(S4 I p3 x.b c3)->NG Q->NO Q->(∀(I':Imm) (Subs1:List zA) (x1:zK) (p4:Option Addr) (c4:Nat) (aH:List Value) (p5:Option Addr) (c5:Nat),o=(Subs1,x1)->I0.le I'->(RL I' aH Subs1)->(S4 I' p5 x1.b c5)->T 53 B Q (.exit 0) I' [hO zA (vS p4 Subs1 c4) aH,hB b2 [vT y1.l,vS p4 Subs1 c4],hB al (cRd x1 p5 c5),hB b [vT ([]),z0]] [(4,vP b 0),(5,vP b2 0)])->J Tryz.prog 53 B (nav (bodyOf f140) [1,1,1,1,0,1,0]) Q I [hO zA (vS p2 Subs c2) cs,hB b2 [vT y1.l,vS p2 Subs c2],hB al (cRd x p3 c3),hB b [vT ([]),z0]] [(0,vP al 0),(1,vI ae),(4,vP b 0),(5,vP b2 0),(6,vI n0),(7,vI i)]:=by
 refine tO.partial_correctness ae n0 _ λaW ih i Subs x o N B I0 I Q y1 al b b2 p2 c2 cs p3 c3 H h7 h8 hg ho hx=>uQ hg ho<|yB<|xB [19] rfl<|zG<|yJ N ?_ ?_
 ·intro ay N;refine zO<|yL<|wM<|yH<|zX 1 [] [22] rfl<|mY (rI [0,1,0,2]) ?_;intro b3 aZ aL h12;have ⟨h7,h8,H⟩:=m3 aL h7 h8 H;refine oW (yR [2,0,1,3] (ag:=[hB al (cRd x p3 c3),hO zA (vS p2 Subs c2) cs,hB b2 [vT y1.l,vS p2 Subs c2],hB b [vT ([]),z0]])) ?_;obtain⟨⟨y4,y5⟩,au,N⟩:=zC N;refine tT (wC x ([0,1,0,2]:List Int) _ au h8 h12) rfl ?_;rintro bq aj v2 k2 aV - ⟨v02,kk1,rfl,rfl,rfl,h14⟩ -;have ⟨h7,H⟩:=m2 aV h7 H;obtain⟨p6,c6,rfl,h15⟩:=zW h14;obtain⟨y6,aB,N⟩:=zC N;refine xS (oZ y4 _ aB ) ?_;rintro bu aj v2 k2 bj - ⟨p7,c7,aX,rfl,rfl,h16⟩ -;have ⟨h15,h7,H⟩:=m3 bj h15 h7 H;refine uF [z0,vI 0] ?_;intro b4 hb4;refine yT 0 (cAff y6 p7 c7) rfl<|zV rfl<|yL<|yB ?_;obtain⟨aS,ax,hMc1⟩:=zC N;refine rR (λI' ag m'=>∃(t32:Bool) (x2:zK) (p8:Option Addr) (c8:Nat),aS=(t32,x2)/\bu.le I'/\(S4 I' p8 x2.b c8)/\ag=[hB b4 (cAff y6 p7 c7),hO Int (vS p7 y6.Coefs c7) aX,hB al (cRd x2 p8 c8),hO zA (vS p2 Subs c2) cs,hB b2 [vT y1.l,vS p2 Subs c2],hB b [vT ([]),z0]]/\m'=[(0,vP al 0),(1,vI ae),(4,vP b 0),(5,vP b2 0),(6,vI n0),(7,vI i),(8,vP b4 0),(32,.bool t32)]) ?_ ?_
  ·have H:=iS bu;refine zI<|zX 3 [] [28] rfl<|xE [28] ax ?_ ?_
   ·intro aJ N;refine zX 4 [] [29] rfl<|oW (yR [2,0,1,3,4,5] (ag:=[hB al (cRd y5 p6 c6),hB b4 (cAff y6 p7 c7),hO Int (vS p7 y6.Coefs c7) aX,hO zA (vS p2 Subs c2) cs,hB b2 [vT y1.l,vS p2 Subs c2],hB b [vT ([]),z0]])) ?_;obtain⟨⟨y8,y9⟩,aK,N⟩:=zC N;refine tT (xT y5 5 _ aK h15) rfl ?_;rintro I07 aj v2 k2 bt - ⟨v04,kk2,rfl,rfl,rfl,h19⟩ -;have H:=H.trans bt;obtain⟨p9,c9,rfl,h20⟩:=zW h19;exact yS [] [32] rfl<|xW (zN [1,2,0,3,4,5] rfl (by decide))<|yM<|zJ ⟨_,_,_,_,(zD N).symm,H,h20,rfl,rfl⟩
   intro aJ N;exact wG [] [(32,vF)]<|yM<|zJ ⟨_,_,_,_,(zD N).symm,H,h15,rfl,rfl⟩
  rintro I06 aj m2 ⟨t32,x2,p8,c8,heq1,le7,h17,rfl,rfl⟩;subst aS;have ⟨h16,h7,H⟩:=m3 le7 h16 h7 H;refine zG<|eK 1 rfl ?_;intro I08 le8 hl02;have h21:=SL.of_frozen hl02 le8 h16;have ⟨h17,h7,H⟩:=m3 le8 h17 h7 H;obtain⟨o02,ho02,hMc2⟩:=zC hMc1;refine rR (λI' ag m'=>∃(x3:zA) (x4:zK) (bg:Option Addr) (bf:Nat) (aR:Option Addr) (aT:Nat),o02=(x3,x4)/\I08.le I'/\(S4 I' bg x3.Coefs bf)/\(S4 I' aR x4.b aT)/\ag=[hB b4 (cAff x3 bg bf),hB al (cRd x4 aR aT),hO zA (vS p2 Subs c2) cs,hB b2 [vT y1.l,vS p2 Subs c2],hB b [vT ([]),z0]]/\m'=[(0,vP al 0),(1,vI ae),(4,vP b 0),(5,vP b2 0),(6,vI n0),(7,vI i),(8,vP b4 0)]) ?_ ?_
  ·have H:=iS I08;refine yJ ho02 ?_ ?_
   ·intro bd N;refine yH<|zX 2 [] [33,34] rfl<|oW (yR [1,0,2,3,4] (ag:=[hB al (cRd x2 p8 c8),hB b4 (cAff y6 p7 c7),hO zA (vS p2 Subs c2) cs,hB b2 [vT y1.l,vS p2 Subs c2],hB b [vT ([]),z0]])) ?_;obtain⟨⟨y11,y12⟩,aY,N⟩:=zC N;refine tT (xT x2 ae _ aY h17) rfl ?_;rintro bI aj v2 k2 le9 - ⟨v06,kk3,rfl,rfl,rfl,h25⟩ -;have H:=H.trans le9;obtain⟨bD,bC,rfl,h26⟩:=zW h25;refine yS [] [9] rfl<|zG<|zI<|zX 1 [] [36] rfl<|bE N λy13 bo N=>xS (fO y11 _ bo ) ?_;rintro bJ aj v2 k2 le10 - ⟨v08,rfl,rfl,⟨br,rfl,h27⟩⟩ -;have ⟨h26,H⟩:=m2 le10 h26 H;obtain⟨bB,bz,rfl,h28⟩:=yP h27;refine zX 3 [] [38] rfl<|mY (rI [1,1,1,2,(-1)]) ?_;intro b5 bG le11 h30;have ⟨h28,h26,H⟩:=m3 le11 h28 h26 H;obtain⟨⟨y15,y16⟩,hy6,N⟩:=zC N;refine tT (wC y12 ([1,1,1,2,(-1)]:List Int) _ hy6 h26 h30) rfl ?_;rintro I013 aj v2 k2 le12 - ⟨v010,kk4,rfl,rfl,rfl,h32⟩ -;have ⟨h28,H⟩:=m2 le12 h28 H;obtain⟨p14,c14,rfl,h33⟩:=zW h32;refine zX 6 [] [41] rfl<|mY (rI [0,1,0,0,2]) ?_;intro b6 I014 le13 h35;have ⟨h28,h33,H⟩:=m3 le13 h28 h33 H;obtain⟨⟨y18,y19⟩,hy7,N⟩:=zC N;refine tT (wC y16 ([0,1,0,0,2]:List Int) _ hy7 h33 h35) rfl ?_;rintro I015 aj v2 k2 le14 - ⟨v012,kk5,rfl,rfl,rfl,h37⟩ -;have ⟨h28,H⟩:=m2 le14 h28 H;obtain⟨p15,c15,rfl,h38⟩:=zW h37;obtain⟨y20,hy8,N⟩:=zC N;refine xS (oZ y18 _ hy8 ) ?_;rintro I016 aj v2 k2 le15 - ⟨p16,c16,bM,rfl,rfl,h39⟩ -;have ⟨h28,h38,H⟩:=m3 le15 h28 h38 H;refine nN 0 rfl ?_;intro I017 le16 hl05;have h40:=SL.of_frozen hl05 le16 h39;have ⟨h28,h38,H⟩:=m3 le16 h28 h38 H;obtain⟨y21,hy9,N⟩:=zC N;refine xS (dB y13 y15 y20 1 _ hy9 h28 h40) ?_;rintro I018 aj v2 k2 le17 - ⟨v014,rfl,rfl,⟨bK,rfl,h41⟩⟩ -;have ⟨h38,H⟩:=m2 le17 h38 H;obtain⟨p17,c17,rfl,h42⟩:=yP h41;exact yT 1 (cAff y21 p17 c17) rfl<|zV rfl<|xW (zN [1,0,2,3,4] rfl (by decide))<|yM<|zJ ⟨_,_,_,_,_,_,(zD N).symm,H,h42,h38,rfl,rfl⟩
   intro bd N;exact zO<|yM<|zJ ⟨_,_,_,_,_,_,(zD N).symm,H,h21,h17,rfl,rfl⟩
  rintro I09 aj m2 ⟨x3,x4,bg,bf,aR,aT,heq2,le18,h22,h23,rfl,rfl⟩;subst o02;have ⟨h7,H⟩:=m2 le18 h7 H;refine zG<|zI<|sW 3 [3,0] [(47,vS p2 Subs c2),(48,vA (cAff x3 bg bf))]<|jL (cAff x3 bg bf) zA ?_;intro b7 hb7;have h43:RL I09 (cAff x3 bg bf) ([x3]:List zA):=⟨(cAff x3 bg bf),_,rfl,rfl,(zZ ⟨_,rfl,h22⟩),rfl⟩;obtain⟨l,hy10,N⟩:=zC hMc2;refine zAA 50 2 3 rfl rfl rfl h7 (.inr ⟨0,rfl⟩) h43 hy10 ?_;intro p18 c18 cs6 h44;exact oW (yR [1,2,3,4,5] (ag:=[hB b4 (cAff x3 bg bf),hB al (cRd x4 aR aT),hO zA (vS p18 l c18) cs6,hB b2 [vT y1.l,vS p2 Subs c2],hB b [vT ([]),z0]]))<|zX 6 [] [51] rfl<|yT 3 [vT y1.l,vS p18 l c18] rfl<|zV rfl<|zQ<|zG<|zI<|yS [] [7] rfl<|uK<|zBv (zN [2,3,1,4] rfl (by decide))<|fW<|ih (W (i+1)) l x4 _ N H h44 h23 hg ho hx
 intro ay N;exact pG<|yM<|hx _ _ _ _ _ _ _ _ (zD N).symm H h7 h8
def rL(r0:zK)(ae:Int):Option (zE×zK):=do
 let (y1,y2)<-sI r0 ([(⟨[65]⟩:Str),(⟨[66]⟩:Str),(⟨[65]⟩:Str),(⟨[67]⟩:Str)]:List Str)
 let n0<-(do
  if(y1.l==([66]:List UInt8)) then
   pure (id 2)
  else
   pure (id 1)
    : Option Int)
 let (Subs1,x1)<-tO ae n0 0 ([]:List zA) y2
 pure ((zE.mk y1 Subs1),x1)
theorem gI:∀r0 ae r,rL r0 ae=some r->∀{I:Imm}{al:Nat}{p c},(S4 I p r0.b c)->RT 140 [vP al 0,vI ae] I [hB al (cRd r0 p c)] (zAM al r):=by
 intro r0 ae r N I al p c h;unfold rL at N;refine yK func140 λB=>?_;have H:=iS I;refine yH<|uF [vT ([]),z0] ?_;intro b hb;refine zV rfl<|yW<|zX 1 [] [10] rfl<|mY (rT [(⟨[65]⟩:Str),(⟨[66]⟩:Str),(⟨[65]⟩:Str),(⟨[67]⟩:Str)]) ?_;intro b1 I0 le h2;have ⟨h,H⟩:=m2 le h H;refine oW (yR [1,0] (ag:=[hB al (cRd r0 p c),hB b [vT ([]),z0]])) ?_;obtain⟨⟨y1,y2⟩,hy,N⟩:=zC N;refine tT (oG r0 ([(⟨[65]⟩:Str),(⟨[66]⟩:Str),(⟨[65]⟩:Str),(⟨[67]⟩:Str)]:List Str) _ hy h h2) rfl ?_;rintro aI aj v2 k2 ai - ⟨v0,kk,rfl,rfl,rfl,h4⟩ -;have H:=H.trans ai;obtain⟨p1,c1,rfl,h5⟩:=zW h4;refine zX 4 [] [13] rfl<|uF [vT ([]),z0] ?_;intro b2 hb2;refine yT 0 [vT y1.l,z0] rfl<|zV rfl<|qN [6] rfl<|yL<|yH<|yS [0] [16] rfl<|zG ?_;refine wT N [hB b2 [vT y1.l,z0],hB al (cRd y2 p1 c1),hB b [vT ([]),z0]] (λn0=>[(0,vP al 0),(1,vI ae),(4,vP b 0),(5,vP b2 0),(6,vI n0)]) (λo0 ar=>?_) ?_
 ·have H:=iS aI;refine yJ ar ?_ ?_
  ·intro hc N;exact zI<|yS [] [6] rfl<|yM<|zJ (ct N H)
  intro hc N;exact zO<|yM<|zJ (ct N H)
 intro n0 aP aG aw;have h5:=h5.mono aG;refine yL<|xB [7] rfl<|rX<|gY [(0,vP al 0),(1,vI ae),(4,vP b 0),(5,vP b2 0),(6,vI n0),(7,vI 0)]<|zED zA λh6=>?_;obtain⟨o03,ho03,aM⟩:=zC aw;refine dC ae n0 0 ([]:List zA) y2 o03 ho03 iR h6 h5 (λ_ _ _ h=>h) (λ_ _ h=>h) ?_;intro I019 Subs1 x1 p4 c4 aH p5 c5 heq3 le19 h9 h10;subst o03;refine yF<|yW<|sW 1 [1] [(52,vA [vT y1.l,vS p4 Subs1 c4])]<|yT 3 [vT y1.l,vS p4 Subs1 c4] rfl<|zV rfl<|xP<|tY 0 rfl ?_;intro I020 le20 hl06;have h45:=SL.of_frozen hl06 le20 h9;have h10:=h10.mono le20;obtain rfl:=zD aM;exact xN ⟨_,_,(.cell 2 rfl rfl (by kernel_rfl) ResV.nil),(zN [1] rfl (by decide)),⟨_,_,rfl,rfl,⟨_,rfl,(qV ⟨_,rfl,h45⟩)⟩,(xH ⟨_,rfl,h10⟩)⟩⟩
def zAN(b0:Nat)(r:zA×zK):KT:=λkk I' ag v=>
 ∃v0 k0,ag=[.blk b0 ⟨k0⟩]/\v=tupV [v0]/\(∃cs,v0=.agg ⟨cs⟩/\Rp.rep I' cs r.1)/\Rp.rep I' k0 r.2
def tP(ae:Int)(i:Int)(Coefs:List Int)(x:zK):Option ((List Int×zK)):=do
 if(decide (i<ae)) then
  let (y5,y6)<-xC x ([0,1,0,(-1),2,0,9]:List Int)
  let x2<-idx Coefs i
  let l<-pure (Coefs.set i.toNat y5)
  tP ae (W (i+1)) l y6
 else
  pure (Coefs,x)
 partial_fixpoint
theorem dD(ae:Int):∀(i:Int) (Coefs:List Int) (x:zK) (o:(List Int×zK)),tP ae i Coefs x=some o->∀{B}{I0 I:Imm}{Q}{y3:zA}{al:Nat}{b:Nat}{b2:Nat}{p3 c3 aH p4 c4},I0.le I->(RL I aH Coefs)->(S4 I p4 x.b c4)->NG Q->NO Q->(∀(I':Imm) (Coefs1:List Int) (x1:zK) (p5:Option Addr) (c5:Nat) (aX:List Value) (p6:Option Addr) (c6:Nat),o=(Coefs1,x1)->I0.le I'->(RL I' aX Coefs1)->(S4 I' p6 x1.b c6)->T 24 B Q (.exit 0) I' [hB b2 [vS p5 Coefs1 c5,vI y3.Const],hO Int (vS p5 Coefs1 c5) aX,hB al (cRd x1 p6 c6),hB b [z0,vI 0]] [(4,vP b 0),(5,vP b2 0)])->J Tryz.prog 24 B (nav (bodyOf f192) [1,1,0,1,0]) Q I [hB b2 [vS p3 Coefs c3,vI y3.Const],hO Int (vS p3 Coefs c3) aH,hB al (cRd x p4 c4),hB b [z0,vI 0]] [(0,vP al 0),(1,vI ae),(4,vP b 0),(5,vP b2 0),(6,vI i)]:=by
 refine tP.partial_correctness ae _ λaW ih i Coefs x o N B I0 I Q y3 al b b2 p3 c3 aH p4 c4 H h7 h8 hg ho hx=>uQ hg ho<|yB<|xB [13] rfl<|zG<|yJ N ?_ ?_
 ·intro hc N;refine zO<|yL<|wM ?_;obtain⟨⟨y5,y6⟩,aB,N⟩:=zC N;refine sU [.p (vP b2 0) [],.p (vS p3 Coefs c3) [0],.p (vI i) [],.p (vP al 0) [],.x (λI' v hx=>∃b3,v=vS (some ⟨b3,0,none⟩) ([0,1,0,(-1),2,0,9]:List Int) 7/\hx=[]/\(SL I' (vS (some ⟨b3,0,none⟩) ([0,1,0,(-1),2,0,9]:List Int) 7) ([0,1,0,(-1),2,0,9]:List Int))),.x (λI' v hx=>∃p7 c7,v=vI y5/\hx=[hB al (cRd y6 p7 c7)]/\(S4 I' p7 y6.b c7))] [[],[(0,false)],[],[],[],[(3,false),(4,false),(8,true)]] [hB b2 [vS p3 Coefs c3,vI y3.Const],hO Int (vS p3 Coefs c3) aH,hB b [z0,vI 0]] [[hB al (cRd x p4 c4)]] [(1,false),(2,false),(5,true)] (yR [0,1,3,2]) ?_ ?_
  ·refine Op<|Op<|Op<|Op<|Ox ?_<|Ox ?_<|On
   ·intro I1 hf ai;refine I_h [] ?_;have H:=iS I1;refine mY (rI [0,1,0,(-1),2,0,9]) ?_;intro b3 aZ aL h12;have H:=H.trans aL;exact tS [] H ⟨_,rfl,rfl,h12⟩
   rintro I1 hf ai _ _ ⟨rfl,rfl⟩ _ _ ⟨b3,rfl,rfl,h12⟩ _ _ rfl;refine vQ [19,20] rfl ?_;have H:=iS I1;have h8:=h8.mono ai;refine tT (wC x ([0,1,0,(-1),2,0,9]:List Int) _ aB h8 h12) rfl ?_;rintro bq aj v2 k2 aV - ⟨v02,kk1,rfl,rfl,rfl,h14⟩ -;have H:=H.trans aV;obtain⟨p7,c7,rfl,h15⟩:=zW h14;exact tS [hB al (cRd y6 p7 c7)] H ⟨_,_,rfl,rfl,h15⟩
  rintro bu bj _ _ ⟨rfl,rfl⟩ _ _ ⟨rfl,rfl⟩ _ _ ⟨p7,c7,rfl,rfl,h15⟩;refine vQ [0,1,4,5,6,17,18,21] rfl ?_;have ⟨h7,H⟩:=m2 bj h7 H;obtain⟨x2,aK,N⟩:=zC N;refine zCO 2 rfl rfl rfl h7 aK ?_;intro ad aA az bL ap;obtain rfl:=ap;obtain⟨l,aY,N⟩:=zC N;refine kQ (c:=[vI y5]) (x':=y5) 2 0 rfl rfl rfl az rfl rfl bL (by kernel_rfl) (by kernel_rfl) (by kernel_rfl) h7 aK (by kernel_rfl) rfl ?_;rw[show Coefs.set i.toNat y5=l from zD aY];intro br h16 hl02;exact mW (m':=[(0,vP al 0),(1,vI ae),(4,vP b 0),(5,vP b2 0),(6,vI i),(17,vS p3 Coefs c3),(18,vI i),(21,vI y5)]) ⟨rfl,rfl,rfl,rfl,rfl,rfl,rfl,rfl,trivial⟩<|zCa (ag:=[hB al (cRd y6 p7 c7),hB b2 [vS p3 l c3,vI y3.Const],hO Int (vS p3 l c3) br,hB b [z0,vI 0]]) (m':=[(0,vP al 0),(1,vI ae),(4,vP b 0),(5,vP b2 0),(6,vI i),(17,vS p3 l c3),(18,vI i),(21,vI y5)]) (by first|rfl|simp only[vS,hl02,cq,cy,ec,dt,dy,dz]) (by first|rfl|simp only[vS,hl02])<|zV rfl<|zQ<|zG<|zI<|yS [] [6] rfl<|uK<|zBv (zN [1,2,0,3] rfl (by decide))<|fW<|ih (W (i+1)) l y6 _ N H h16 h15 hg ho hx
 intro hc N;exact pG<|yM<|hx _ _ _ _ _ _ _ _ (zD N).symm H h7 h8
def qJ(r0:zK)(ae:Int):Option (zA×zK):=do
 let (y1,y2)<-xC r0 ([0,1,(-1),2,0,5,(-9),99]:List Int)
 let y3<-sP y1
 let (Coefs1,x1)<-tP ae 0 y3.Coefs y2
 pure ((zA.mk Coefs1 y3.Const),x1)
theorem zBW:∀r0 ae r,qJ r0 ae=some r->∀{I:Imm}{al:Nat}{p c},(S4 I p r0.b c)->RT 192 [vP al 0,vI ae] I [hB al (cRd r0 p c)] (zAN al r):=by
 intro r0 ae r N I al p c h;unfold qJ at N;refine yK func192 λB=>yH<|uF [z0,vI 0] ?_;intro b hb;refine zV rfl<|yW<|zX 1 [] [7] rfl<|mY (rI [0,1,(-1),2,0,5,(-9),99]) ?_;intro b1 I0 le h2;have h:=h.mono le;refine oW (yR [1,0] (ag:=[hB al (cRd r0 p c),hB b [z0,vI 0]])) ?_;obtain⟨⟨y1,y2⟩,hy,N⟩:=zC N;refine tT (wC r0 ([0,1,(-1),2,0,5,(-9),99]:List Int) _ hy h h2) rfl ?_;rintro aI aj v2 k2 ai - ⟨v0,kk,rfl,rfl,rfl,h4⟩ -;obtain⟨p1,c1,rfl,h5⟩:=zW h4;obtain⟨y3,au,N⟩:=zC N;refine xS (oZ y1 _ au ) ?_;rintro aP aj v2 k2 aG - ⟨p2,c2,cs,rfl,rfl,h6⟩ -;have h5:=h5.mono aG;refine uF [z0,vI 0] ?_;intro b2 hb2;refine yT 0 (cAff y3 p2 c2) rfl<|zV rfl<|yL<|xB [6] rfl<|rX<|gY [(0,vP al 0),(1,vI ae),(4,vP b 0),(5,vP b2 0),(6,vI 0)] ?_;obtain⟨o0,ar,aM⟩:=zC N;refine dD ae 0 y3.Coefs y2 o0 ar iR h6 h5 (λ_ _ _ h=>h) (λ_ _ h=>h) ?_;intro I06 Coefs1 x1 p5 c5 aX p6 c6 heq bt h9 h10;subst o0;refine yF<|yW<|sW 1 [0] [(23,vA [vS p5 Coefs1 c5,vI y3.Const])]<|yT 3 [vS p5 Coefs1 c5,vI y3.Const] rfl<|zV rfl<|xP<|tY 1 rfl ?_;intro I07 le7 hl03;have h17:=SL.of_frozen hl03 le7 h9;have h10:=h10.mono le7;obtain rfl:=zD aM;exact xN ⟨_,_,(.cell 2 rfl rfl (by kernel_rfl) ResV.nil),(zN [1] rfl (by decide)),⟨_,_,rfl,rfl,⟨_,rfl,(zZ ⟨_,rfl,h17⟩)⟩,(xH ⟨_,rfl,h10⟩)⟩⟩
end Go.LN
