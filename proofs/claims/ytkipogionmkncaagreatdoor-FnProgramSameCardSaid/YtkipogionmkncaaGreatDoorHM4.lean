/- Helper of the proof (see the last text). -/
import Derived.Test.YtkipogionmkncaaGreatDoorHM3
set_option linter.unusedVariables false
set_option linter.unusedSimpArgs false
namespace Go.LN
open Go.Proofs Go.Proofs.Tryz
set_option maxRecDepth 20000
def rW(e0:zD):Option (Str):=do
 if(e0.Kind==1) then
  let y<-rV e0.Num
  pure (id y)
 else
  if(e0.Kind==2) then
   let y1<-kF e0.Index
   let s<-cat (⟨[123]⟩:Str) y1
   let s1<-cat s (⟨[125]⟩:Str)
   pure (id s1)
  else
   if(e0.Kind==3) then
    let y2<-pA e0.Read
    pure (id y2)
   else
    let x<-idx e0.Kids 0
    let y3<-rW (same x)
    let s2<-cat (⟨[40]⟩:Str) y3
    let s3<-sslc (⟨[43,45,42]⟩:Str) (W (e0.Kind - 4)) (W ((W (e0.Kind - 4))+1))
    let s4<-cat s2 s3
    let x1<-idx e0.Kids 1
    let y4<-rW (same x1)
    let s5<-cat s4 y4
    let s6<-cat s5 (⟨[41]⟩:Str)
    pure (id s6)
 partial_fixpoint
theorem zF4:∀e0 r,rW e0=some r->∀{I:Imm}{p c p1 c1 p2 c2},(S4 I p e0.Index.Coefs c)->(S4 I p1 e0.Read.Subs c1)->(S4 I p2 e0.Kids c2)->RT 42 [vA (cExpr e0 p c p1 c1 p2 c2)] I [] (xT  r):=by
 refine rW.partial_correctness _ λF_spec_l3Text ih_spec_l3Text e0 r N I p c p1 c1 p2 c2 h h1 h2=>yP func42 λB=>?_;have H:=iS I;refine yE<|vM (cExpr e0 p c p1 c1 p2 c2) ?_;intro b hb;refine wN [] []<|zW<|yE<|yQ [0] [4] rfl<|wS<|yJ [5] rfl<|zI<|yC N ?_ ?_
 ·intro hc N;refine yE<|yG 2 [0] [8] rfl<|bE N λy hy N=>xX (dW e0.Num _ hy ) ?_;rintro I0 ax v2 k2 le - ⟨v0,rfl,rfl,rfl⟩ -;refine yQ [] [2] rfl<|xJ<|zR<|zF ?_;obtain rfl:=zB N;exact wI
 intro hc N;refine yJ [10] rfl<|zI<|yC N ?_ ?_
 ·intro aD N;refine yE<|qX 2 [0] [(13,vA (cAff e0.Index p c))]<|bE N λy1 ay N=>xX (dX e0.Index _ ay h) ?_;rintro aP ax v2 k2 af - ⟨v01,rfl,rfl,rfl⟩ -;obtain⟨s,aI,N⟩:=zC N;refine oL rfl aI<|bE N λs1 aW N=>oL rfl aW<|yQ [] [2] rfl<|xJ<|zR<|zF ?_;obtain rfl:=zB N;exact wI
 intro aD N;refine yJ [17] rfl<|zI<|yC N ?_ ?_
 ·intro aQ N;refine yE<|qX 2 [0] [(20,vA (cAccess e0.Read p1 c1))]<|bE N λy2 br N=>xX (eO e0.Read _ br h1) ?_;rintro aS ax v2 k2 aE - ⟨v02,rfl,rfl,rfl⟩ -;refine yQ [] [2] rfl<|xJ<|zR<|zF ?_;obtain rfl:=zB N;exact wI
 intro aQ N;refine zS<|zO<|zI<|yA ?_;obtain⟨x,bB,N⟩:=zC N;obtain⟨y3,hy6,N⟩:=zC N;obtain⟨s2,hy7,N⟩:=zC N;obtain⟨s3,hy8,N⟩:=zC N;obtain⟨s4,hy9,N⟩:=zC N;obtain⟨x1,hy10,N⟩:=zC N;obtain⟨y4,hy11,N⟩:=zC N;obtain⟨s5,hy12,N⟩:=zC N;obtain⟨s6,hy13,N⟩:=zC N;refine wU [.p (vP b 6) [],.p (vS p2 e0.Kids c2) [0],.x (ePExpr x),.x (eVExpr x),.q (vT y3.l),.q (vT s2.l),.p (vP b 0) [],.p (vI e0.Kind) [0],.p (vI (W (e0.Kind - 4))) [],.p (vP b 0) [],.p (vI e0.Kind) [0],.p (vI (W (e0.Kind - 4))) [],.p (vI (W ((W (e0.Kind - 4))+1))) [],.q (vT s3.l),.q (vT s4.l),.p (vP b 6) [],.p (vS p2 e0.Kids c2) [0],.x (ePExpr x1),.x (eVExpr x1),.q (vT y4.l),.q (vT s5.l),.q (vT s6.l)] [[],[(0,false)],[(1,false)],[(2,false)],[(3,false)],[(4,false)],[],[(6,false)],[(7,false)],[],[(9,false)],[(10,false)],[(11,false)],[(8,false),(12,false)],[(5,false),(13,false)],[],[(15,false)],[(16,false)],[(17,false)],[(18,false)],[(14,false),(19,false)],[(20,false)]] [hB b (cExpr e0 p c p1 c1 p2 c2)] [] [(21,false)] (zY [0]) ?_ ?_
 ·refine Op<|Op<|Ox ?_<|Ox ?_<|Oq ?_<|Oq ?_<|Op<|Op<|Op<|Op<|Op<|Op<|Op<|Oq ?_<|Oq ?_<|Op<|Op<|Ox ?_<|Ox ?_<|Oq ?_<|Oq ?_<|Oq ?_<|On
  ·intro I1 hf af;refine yV [23] rfl ?_;have h2:=h2.mono af;refine wB rfl rfl h2 bB ?_;intro ad aK ar al;obtain⟨p3,c3,p4,c4,p5,c5,rfl,h6,h7,h8⟩:=wO al;exact yR [] iR ⟨_,_,_,_,_,_,_,rfl,rfl,ar,h6,h7,h8⟩
  ·rintro I1 hf af _ _ ⟨ad,p3,c3,p4,c4,p5,c5,rfl,rfl,ar,h6,h7,h8⟩;exact yV [24] rfl<|xU 0 ar (cExpr x p3 c3 p4 c4 p5 c5) (vA (cExpr x p3 c3 p4 c4 p5 c5)) rfl<|yR [] iR ⟨_,_,_,_,_,_,rfl,rfl,h6,h7,h8⟩
  ·rintro I1 hf af _ _ ⟨p31,c31,p41,c41,p51,c51,rfl,rfl,h61,h71,h81⟩;refine yV [25] rfl ?_;have H:=iS I1;refine xX (ih_spec_l3Text x _ hy6 h61 h71 h81) ?_;rintro bw ax v2 k2 aJ - ⟨v06,rfl,rfl,rfl⟩ -;have H:=H.trans aJ;exact xA H
  ·intro I1 hf af;exact yV [26] rfl<|oL rfl hy7<|xA iR
  ·intro I1 hf af;exact yV [30,34] rfl<|zEd rfl hy8<|xA iR
  ·intro I1 hf af;exact yV [27,35] rfl<|oL rfl hy9<|xA iR
  ·intro I1 hf af;refine yV [38] rfl ?_;have h2:=h2.mono af;refine wB rfl rfl h2 hy10 ?_;intro ad1 bi ap aw;obtain⟨p6,c6,p7,c7,p8,c8,rfl,h10,h11,h12⟩:=wO aw;exact yR [] iR ⟨_,_,_,_,_,_,_,rfl,rfl,ap,h10,h11,h12⟩
  ·rintro I1 hf af _ _ ⟨ad1,p6,c6,p7,c7,p8,c8,rfl,rfl,ap,h10,h11,h12⟩;exact yV [39] rfl<|xU 0 ap (cExpr x1 p6 c6 p7 c7 p8 c8) (vA (cExpr x1 p6 c6 p7 c7 p8 c8)) rfl<|yR [] iR ⟨_,_,_,_,_,_,rfl,rfl,h10,h11,h12⟩
  ·rintro I1 hf af _ _ ⟨p61,c61,p71,c71,p81,c81,rfl,rfl,h101,h111,h121⟩;refine yV [40] rfl ?_;have H:=iS I1;refine xX (ih_spec_l3Text x1 _ hy11 h101 h111 h121) ?_;rintro bI ax v2 k2 aX - ⟨v010,rfl,rfl,rfl⟩ -;have H:=H.trans aX;exact xA H
  ·intro I1 hf af;exact yV [36,41] rfl<|oL rfl hy12<|xA iR
  intro I1 hf af;exact yV [42] rfl<|oL rfl hy13<|xA iR
 intro bL bt;refine yV [43] rfl ?_;refine yQ [] [2] rfl<|zI<|yX ?_;obtain rfl:=zB N;exact wI
def mS(s:zM):Option (Str):=do
 let y<-pO s 4
 if(!y) then
  pure (⟨[]⟩:Str)
 else
  let y1<-pA s.Write
  let s1<-cat y1 (⟨[61]⟩:Str)
  let y2<-rW s.Value
  let s2<-cat s1 y2
  pure (id s2)
theorem zCh:∀s r,mS s=some r->∀{I:Imm}{p c p1 c1 p2 c2 p3 c3},(S4 I p s.Write.Subs c)->(S4 I p1 s.Value.Index.Coefs c1)->(S4 I p2 s.Value.Read.Subs c2)->(S4 I p3 s.Value.Kids c3)->RT 30 [vA (cStmt s p c p1 c1 p2 c2 p3 c3)] I [] (xT  r):=by
 intro s r N I p c p1 c1 p2 c2 p3 c3 h h1 h2 h3;unfold mS at N;refine yP func30 λB=>?_;have H:=iS I;refine yE<|vM (cStmt s p c p1 c1 p2 c2 p3 c3) ?_;intro b hb;refine wN [] []<|zW<|yE<|qX 1 [0] [(3,vA (cStmt s p c p1 c1 p2 c2 p3 c3))]<|bE N λy hy N=>vH (fT s 4 _ hy h h1 h2 h3) ?_;intro I0 le;have ⟨h,h1,h2,h3,H⟩:=m5 le h h1 h2 h3 H;refine yQ [] [5] rfl<|zI<|yC N ?_ ?_
 ·intro hc N;refine yJ [2] rfl<|xJ<|zF ?_;obtain rfl:=zB N;exact wI
 intro hc N;refine zS<|zI<|yA ?_;obtain⟨y1,ay,N⟩:=zC N;obtain⟨s1,aI,N⟩:=zC N;obtain⟨y2,aW,N⟩:=zC N;obtain⟨s2,br,N⟩:=zC N;refine wU [.p (vP b 0) [],.p (vA (cAccess s.Write p c)) [0],.q (vT y1.l),.q (vT s1.l),.p (vP b 2) [],.p (vA (cExpr s.Value p1 c1 p2 c2 p3 c3)) [0],.q (vT y2.l),.q (vT s2.l)] [[],[(0,false)],[(1,false)],[(2,false)],[],[(4,false)],[(5,false)],[(3,false),(6,false)]] [hB b (cStmt s p c p1 c1 p2 c2 p3 c3)] [] [(7,false)] (zY [0]) ?_ ?_
 ·refine Op<|Op<|Oq ?_<|Oq ?_<|Op<|Op<|Oq ?_<|Oq ?_<|On
  ·intro I1 hf af;refine yV [7] rfl ?_;have H:=iS I1;have h:=h.mono af;refine xX (eO s.Write _ ay h) ?_;rintro aP ax v2 k2 af - ⟨v01,rfl,rfl,rfl⟩ -;have H:=H.trans af;exact xA H
  ·intro I1 hf af;exact yV [8] rfl<|oL rfl aI<|xA iR
  ·intro I1 hf af;refine yV [11] rfl ?_;have H:=iS I1;have ⟨h1,h2,h3⟩:=m3 af h1 h2 h3;refine xX (zF4 s.Value _ aW h1 h2 h3) ?_;rintro aS ax v2 k2 aE - ⟨v02,rfl,rfl,rfl⟩ -;have H:=H.trans aE;exact xA H
  intro I1 hf af;exact yV [9,12] rfl<|oL rfl br<|xA iR
 intro bw aJ;refine yV [13] rfl ?_;refine yQ [] [2] rfl<|zI<|yX ?_;obtain rfl:=zB N;exact wI
def zEN(r:(List Str)):KT:=λkk I' ai v=>
 ∃v0,ai=[]/\v=tupV [v0]/\SL I' v0 r
def pZ(s:Str)(c:UInt8)(out:List Str)(from0:Int)(i:Int):Option (List Str):=do
 if(decide (i<=(s.l.length:Int))) then
  let t25<-(do
   if(i==(s.l.length:Int)) then
    pure true
   else
    let b1<-sidx s i
    pure ((b1.toNat:Int)==(c.toNat:Int))
     : Option Bool)
  let (aC,from01)<-(do
   if t25 then
    let s1<-sslc s from0 i
    let bz<-app 16 out ([s1]:List Str)
    pure (bz,(W (i+1)))
   else
    pure (out,from0)
     : Option (List Str×Int))
  pZ s c aC from01 (W (i+1))
 else
  pure (id out)
 partial_fixpoint
theorem zDV(s:Str)(c:UInt8):∀(out:List Str) (from0:Int) (i:Int) (o:List Str),pZ s c out from0 i=some o->∀{B}{I0 I:Imm}{Q p c1 cs},I0.le I->(RL I cs out)->NG Q->NO Q->(∀(I':Imm) (aq:List Str) (p1:Option Addr) (c2:Nat) (aL:List Value),o=aq->I0.le I'->(RL I' aL aq)->T 36 B Q (.exit 0) I' [hO Str (vS p1 aq c2) aL] [(5,vS p1 aq c2)])->J Tryz.prog 36 B (nav (bodyOf f55) [1,1,1,0,1,0]) Q I [hO Str (vS p out c1) cs] [(0,vT s.l),(1,.int .u8 (c.toNat:Int)),(5,vS p out c1),(6,vI from0),(7,vI i)]:=by
 refine pZ.partial_correctness s c _ λaN ih out from0 i o N B I0 I Q p c1 cs H h1 hg ho hx=>yY hg ho<|yA<|yJ [12] rfl<|zI<|yC N ?_ ?_
 ·intro hc N;refine zS<|zW<|yK<|yA ?_;refine wQ N [hO Str (vS p out c1) cs] (λt25=>[(0,vT s.l),(1,.int .u8 (c.toNat:Int)),(5,vS p out c1),(6,vI from0),(7,vI i),(25,.bool t25)]) (λo0 az=>?_) ?_
  ·have H:=iS I;refine zL<|yG 5 [] [19] rfl<|wC [19] az ?_ ?_
   ·intro aD N;exact wN [] [(25,vY)]<|yS<|zU (ct N H)
   intro aD N;exact yG 7 [] [20,21] rfl<|bE N λb1 hy N=>zAD rfl rfl hy<|yQ [] [25] rfl<|yS<|zU (ct N H)
  intro t25 I0 le aM;have ⟨h1,H⟩:=m2 le h1 H;refine zI ?_;obtain⟨aO,aB,hMc1⟩:=zC aM;refine nH (λI' ai m'=>∃(aC:List Str) (from01:Int) (p2:Option Addr) (c3:Nat) (bf:List Value),aO=(aC,from01)/\I0.le I'/\(RL I' bf aC)/\ai=[hO Str (vS p2 aC c3) bf]/\m'=[(0,vT s.l),(1,.int .u8 (c.toNat:Int)),(5,vS p2 aC c3),(6,vI from01),(7,vI i)]) ?_ ?_
  ·have H:=iS I0;refine yC aB ?_ ?_
   ·intro aQ N;refine yE<|yG 4 [] [26,27,28,29] rfl<|bE N λs1 ay N=>zEd rfl ay<|qB [vT s1.l] Str ?_;intro b2 hb1;have h4:RL I0 [vT s1.l] ([s1]:List Str):=rT [s1];obtain⟨bz,aI,N⟩:=zC N;exact mD 9 1 1 rfl rfl rfl h1 (.inr ⟨0,rfl⟩) h4 aI λp3 c4 bd h5=>rS (zY [1] (ai:=[hO Str (vS p3 bz c4) bd]))<|yQ [] [5] rfl<|zI<|zL<|yQ [] [6] rfl<|yS<|zU ⟨_,_,_,_,_,(zB N).symm,H,h5,rfl,rfl⟩
   intro aQ N;exact zS<|yS<|zU ⟨_,_,_,_,_,(zB N).symm,H,h1,rfl,rfl⟩
  rintro aP ax m2 ⟨aC,from01,p2,c3,bf,heq1,af,h3,rfl,rfl⟩;subst aO;have H:=H.trans af;exact zO<|zI<|zL<|yQ [] [7] rfl<|yW<|mE<|ih aC from01 (W (i+1)) _ hMc1 H h3 hg ho hx
 intro hc N;exact vQ<|yS<|hx _ _ _ _ _ (zB N).symm H h1
def gY(s:Str)(c:UInt8):Option ((List Str)):=do
 let aq<-pZ s c ([]:List Str) 0 0
 pure (id aq)
theorem zF5:∀s c r,gY s c=some r->∀{I:Imm} ,RT 55 [vT s.l,.int .u8 (c.toNat:Int)] I [] (zEN  r):=by
 intro s c r N I;unfold gY at N;refine yP func55 λB=>wM []<|xN<|qB [] Str ?_;intro b hb;have h:RL I [] ([]:List Str):=rfl;refine yQ [] [5] rfl<|uN [6] rfl<|zW<|yJ [7] rfl<|wS<|oR [(0,vT s.l),(1,.int .u8 (c.toNat:Int)),(5,vS (some ⟨b,0,none⟩) ([]:List Str) 0),(6,vI 0),(7,vI 0)] ?_;obtain⟨o02,ho02,aF⟩:=zC N;refine zDV s c ([]:List Str) 0 0 o02 ho02 iR h (λ_ _ _ h=>h) (λ_ _ h=>h) ?_;intro aS aq p1 c2 aL heq2 aE h2;subst o02;refine zT<|uN [4] rfl<|xJ<|wH 0 rfl ?_;intro bw aJ hl0;have h6:=SL.of_frozen hl0 aJ h2;obtain rfl:=zB aF;exact xL ⟨_,_,(.tmp rfl ResV.nil),zN,⟨_,rfl,rfl,h6⟩⟩
def zAd(r:zA):KT:=λkk I' ai v=>
 ∃a0_0 c0_0 s0_0,ai=[.osl (.slice a0_0 r.Coefs.length c0_0) (Rp.sz Int) s0_0]/\v=tupV [(.agg ⟨[.slice a0_0 r.Coefs.length c0_0,.int .i64 r.Const]⟩)]/\RepL (Rp.rep I') (Rp.sz Int) s0_0 r.Coefs
def oQ :Option (zA):=do
 pure (zA.mk ([0,0,0,0]:List Int) 0)
theorem kT:∀r,oQ =some r->∀{I:Imm} ,RT 142 [] I [] (zAd  r):=by
 intro  r N I;unfold oQ at N;refine yP func142 λB=>yE<|vG [z0,vI 0] ?_;intro b hb;refine yB rfl<|xN<|qB [vI 0,vI 0,vI 0,vI 0] Int ?_;intro b1 hb1;have h:RL I [vI 0,vI 0,vI 0,vI 0] ([0,0,0,0]:List Int):=rI [0,0,0,0];refine yG 2 [] [2] rfl<|xW 1 [vS (some ⟨b1,0,none⟩) ([0,0,0,0]:List Int) 4,vI 0] rfl<|yB rfl<|zI<|yX ?_;obtain rfl:=zB N;exact xL ⟨_,_,(.cell 1 rfl rfl (by kernel_rfl) ResV.nil),(zV [0] rfl (by decide)),⟨_,_,_,rfl,rfl,h⟩⟩
def uV(s1:Str)(n0:Int)(i:Int):Option (Out Int (Int×Bool)):=do
 if(decide (i<(s1.l.length:Int))) then
  let t54<-(do
   let b2<-sidx s1 i
   if(decide ((b2.toNat:Int)<48)) then
    pure true
   else
    let b3<-sidx s1 i
    pure (decide ((b3.toNat:Int)>57))
     : Option Bool)
  if t54 then
   pure (.ret (0,false))
  else
   let b4<-sidx s1 i
   uV s1 (W ((W (n0*10))+(W (IntKind.u8.wrap ((b4.toNat:Int) - 48))))) (W (i+1))
 else
  pure (.done n0)
 partial_fixpoint
theorem zDW(s1:Str):∀(n0:Int) (i:Int) (o:Out Int (Int×Bool)),uV s1 n0 i=some o->∀{B}{I0 I:Imm}{Q}{neg:Bool} ,I0.le I->NG Q->NO Q->(∀(I':Imm) (n01:Int),o=(.done n01)->I0.le I'->T 67 B Q (.exit 0) I' [] [(4,.bool neg),(5,vI n01)])->(∀r I' ai m',o=(.ret r)->I0.le I'->RS Tryz.prog f170 B (kS  r) I' ai m'->T 67 B Q .ret I' ai m')->J Tryz.prog 67 B (nav (bodyOf f170) [1,1,1,1,1,0,1,0]) Q I [] [(0,vT s1.l),(4,.bool neg),(5,vI n0),(6,vI i)]:=by
 refine uV.partial_correctness s1 _ λaN ih n0 i o N B I0 I Q neg H hg ho hx hr=>yY hg ho<|yA<|yJ [42] rfl<|zI<|yC N ?_ ?_
 ·intro hc7 N;refine zS<|zW<|yK<|yA<|yA ?_;refine wQ N [] (λt54=>[(0,vT s1.l),(4,.bool neg),(5,vI n0),(6,vI i),(54,.bool t54)]) (λo03 ho03=>?_) ?_
  ·have H:=iS I;refine zL<|yG 2 [] [45,46] rfl ?_;obtain⟨b2,aW,N⟩:=zC ho03;refine zAD rfl rfl aW<|yG 5 [] [49] rfl<|wC [49] N ?_ ?_
   ·intro hc8 N;exact wN [] [(54,vY)]<|yS<|zU (ct N H)
   intro hc8 N;exact yG 7 [] [50,51] rfl<|bE N λb3 br N=>zAD rfl rfl br<|yQ [] [54] rfl<|yS<|zU (ct N H)
  intro t54 bw aJ hMc3;have H:=H.trans aJ;refine zI<|yC hMc3 ?_ ?_
  ·intro hc9 N;exact yJ [2,3] rfl<|xJ<|zF<|zR<|zF<|zF<|hr _ _ _ _ (zB N).symm H ⟨_,_,(.tmp rfl (.tmp rfl ResV.nil)),zN,⟨_,_,rfl,rfl,rfl,rfl⟩⟩
  intro hc9 N;exact zS<|zI<|zL<|yG 4 [] [56,57,58] rfl<|bE N λb4 bB N=>zAD rfl rfl bB<|yQ [] [5] rfl<|zO<|zI<|zL<|yQ [] [6] rfl<|yW<|mE<|ih (W ((W (n0*10))+(W (IntKind.u8.wrap ((b4.toNat:Int) - 48))))) (W (i+1)) _ N H  hg ho hx hr
 intro hc7 N;exact vQ<|yS<|hx _ _ (zB N).symm H
def kG(s:Str):Option (Int×Bool):=do
 let neg<-(do
  if(decide ((s.l.length:Int)>0)) then
   let b<-sidx s 0
   pure ((b.toNat:Int)==45)
  else
   pure false
    : Option Bool)
 let s1<-(do
  if neg then
   let s2<-sslc s 1 (s.l.length:Int)
   pure (id s2)
  else
   pure (id s)
    : Option Str)
 let t38<-(do
  if((s1.l.length:Int)==0) then
   pure true
  else
   if(decide ((s1.l.length:Int)>17)) then
    pure true
   else
    let b1<-sidx s1 0
    if((b1.toNat:Int)==48) then
     if(decide ((s1.l.length:Int)>1)) then
      pure true
     else
      pure (id neg)
    else
     pure false
    : Option Bool)
 if t38 then
  pure (0,false)
 else
  match<-uV s1 0 0 with
  | .ret r0=>pure r0
  | .done n01=>
   let n02<-(do
    if neg then
     pure (W (0 - n01))
    else
     pure (id n01)
      : Option Int)
   pure (n02,true)
theorem zF6:∀s r,kG s=some r->∀{I:Imm} ,RT 170 [vT s.l] I [] (kS  r):=by
 intro s r N I;unfold kG at N;refine yP func170 λB=>?_;have H:=iS I;refine wM []<|zI<|yA ?_;refine wQ N [] (λneg=>[(0,vT s.l),(4,.bool neg)]) (λo0 az=>?_) ?_
 ·have H:=iS I;refine zL<|yG 4 [] [10] rfl<|wC [10] az ?_ ?_
  ·intro hc N;exact yG 5 [] [11] rfl<|bE N λb hy N=>zAD rfl rfl hy<|yQ [] [4] rfl<|yS<|zU (ct N H)
  intro hc N;exact wN [] [(4,vF)]<|yS<|zU (ct N H)
 intro neg I0 le aM;have H:=H.trans le;refine zW<|yJ [15] rfl<|zI ?_;refine wQ aM [] (λs1=>[(0,vT s1.l),(4,.bool neg)]) (λaO aB=>?_) ?_
 ·have H:=iS I0;refine yC aB ?_ ?_
  ·intro aD N;exact zL<|yG 1 [] [16] rfl<|bE N λs2 ay N=>zEd rfl ay<|yQ [] [0] rfl<|yS<|zU (ct N H)
  intro aD N;exact zS<|yS<|zU (ct N H)
 intro s1 aP af hMc1;have H:=H.trans af;refine zW<|yA ?_;refine wQ hMc1 [] (λt38=>[(0,vT s1.l),(4,.bool neg),(38,.bool t38)]) (λo02 ho02=>?_) ?_
 ·have H:=iS aP;refine zL<|yG 4 [] [21] rfl<|wC [21] ho02 ?_ ?_
  ·intro aQ N;exact wN [] [(38,vY)]<|yS<|zU (ct N H)
  intro aQ N;refine yG 9 [] [26] rfl<|wC [26] N ?_ ?_
  ·intro bu N;exact wN [] [(38,vY)]<|yS<|zU (ct N H)
  intro bu N;refine yG 10 [] [27] rfl<|bE N λb1 aI N=>zAD rfl rfl aI<|yG 13 [] [30] rfl<|wC [30] N ?_ ?_
  ·intro bK N;refine yG 17 [] [34] rfl<|wC [34] N ?_ ?_
   ·intro hc5 N;exact wN [] [(38,vY)]<|yS<|zU (ct N H)
   intro hc5 N;exact yQ [] [38] rfl<|yS<|zU (ct N H)
  intro bK N;exact wN [] [(38,vF)]<|yS<|zU (ct N H)
 intro t38 aS aE hMc2;have H:=H.trans aE;refine zI<|yC hMc2 ?_ ?_
 ·intro hc6 N;refine yJ [2,3] rfl<|xJ<|zF ?_;obtain rfl:=zB N;exact xL ⟨_,_,(.tmp rfl (.tmp rfl ResV.nil)),zN,⟨_,_,rfl,rfl,rfl,rfl⟩⟩
 intro hc6 N;refine zS<|uN [5] rfl<|zW<|yJ [6] rfl<|wS<|oR [(0,vT s1.l),(4,.bool neg),(5,vI 0),(6,vI 0)] ?_;obtain⟨o04,ho04,aF⟩:=zC N;refine zDW s1 0 0 o04 ho04 iR  (λ_ _ _ h=>h) (λ_ _ h=>h) ?_ ?_
 ·intro bI n01 heq4 aX;subst o04;have H:=H.trans aX;refine zT<|zW<|yJ [63] rfl<|zI ?_;refine wQ aF [] (λn02=>[(5,vI n02)]) (λo05 ho05=>?_) ?_
  ·have H:=iS bI;refine yC ho05 ?_ ?_
   ·intro hc10 N;exact zL<|yQ [] [5] rfl<|yS<|zU (ct N H)
   intro hc10 N;exact zS<|yS<|zU (ct N H)
  intro n02 bL bt hMc4;refine uN [2,3] rfl<|zI<|yX ?_;obtain rfl:=zB hMc4;exact xL ⟨_,_,(.tmp rfl (.tmp rfl ResV.nil)),zN,⟨_,_,rfl,rfl,rfl,rfl⟩⟩
 intro r0 I9 hs9 m9 aG le9 aH;subst aG;refine zR<|zF ?_;obtain rfl:=zB aF;exact xL aH
def uD(s:Str)(at0:Int)(end0:Int):Option (Int):=do
 let t31<-(do
  if(decide (end0<(s.l.length:Int))) then
   if(decide (end0<(W (at0+2)))) then
    let b<-sidx s end0
    if(decide ((b.toNat:Int)>=48)) then
     let b1<-sidx s end0
     pure (decide ((b1.toNat:Int)<=57))
    else
     pure false
   else
    pure false
  else
   pure false
    : Option Bool)
 if t31 then
  uD s at0 (W (end0+1))
 else
  pure (id end0)
 partial_fixpoint
theorem zCK(s:Str)(at0:Int):∀(end0:Int) (o:Int),uD s at0 end0=some o->∀{B}{I0 I:Imm}{Q}  ,I0.le I->NG Q->NO Q->(∀(I':Imm) (end01:Int),o=end01->I0.le I'->T 47 B Q (.exit 0) I' [] [(0,vT s.l),(1,vI at0),(6,vI end01)])->J Tryz.prog 47 B (nav (bodyOf f146) [1,1,0,0]) Q I [] [(0,vT s.l),(1,vI at0),(6,vI end0)]:=by
 refine uD.partial_correctness s at0 _ λaN ih end0 o N B I0 I Q H hg ho hx=>yY hg ho<|yA<|yA ?_;refine wQ N [] (λt31=>[(0,vT s.l),(1,vI at0),(6,vI end0),(31,.bool t31)]) (λo0 az=>?_) ?_
 ·have H:=iS I;refine zL<|yG 5 [] [14] rfl<|wC [14] az ?_ ?_
  ·intro hc N;refine yG 11 [] [20] rfl<|wC [20] N ?_ ?_
   ·intro aD N;refine yG 13 [] [21,22] rfl<|bE N λb hy N=>zAD rfl rfl hy<|yG 17 [] [26] rfl<|wC [26] N ?_ ?_
    ·intro aQ N;exact yG 19 [] [27,28] rfl<|bE N λb1 ay N=>zAD rfl rfl ay<|yQ [] [31] rfl<|yS<|zU (ct N H)
    intro aQ N;exact wN [] [(31,vF)]<|yS<|zU (ct N H)
   intro aD N;exact wN [] [(31,vF)]<|yS<|zU (ct N H)
  intro hc N;exact wN [] [(31,vF)]<|yS<|zU (ct N H)
 intro t31 I0 le aM;have H:=H.trans le;refine zI<|yC aM ?_ ?_
 ·intro bu N;exact zS<|wS<|zL<|yQ [] [6] rfl<|zO<|yW<|mE<|ih (W (end0+1)) _ N H  hg ho hx
 intro bu N;exact vQ<|yS<|hx _ _ (zB N).symm H
def sX(s:Str)(at0:Int):Option (Int×Int):=do
 let end01<-uD s at0 at0
 let s1<-sslc s at0 end01
 let (y1,y2)<-kG s1
 if(!y2) then
  pure (1,at0)
 else
  pure (y1,end01)
theorem zAe:∀s at0 r,sX s at0=some r->∀{I:Imm} ,RT 146 [vT s.l,vI at0] I [] (gS  r):=by
 intro s at0 r N I;unfold sX at N;refine yP func146 λB=>wM []<|uN [6] rfl<|zW<|yK<|oR [(0,vT s.l),(1,vI at0),(6,vI at0)] ?_;obtain⟨aO,aB,aF⟩:=zC N;refine zCK s at0 at0 aO aB iR  (λ_ _ _ h=>h) (λ_ _ h=>h) ?_;intro aP end01 heq1 af;subst aO;refine zT<|xN<|yG 3 [] [35,36,37] rfl ?_;obtain⟨s1,aI,N⟩:=zC aF;refine zEd rfl aI ?_;obtain⟨⟨y1,y2⟩,aW,N⟩:=zC N;refine xX (zF6 s1 _ aW ) ?_;rintro aS ax v2 k2 aE - ⟨v0,v01,rfl,rfl,rfl,rfl⟩ -;refine yQ [] [7,8] rfl<|zW<|yJ [43] rfl<|zI<|yC N ?_ ?_
 ·intro bK N;refine yJ [4,5] rfl<|xJ<|zF ?_;obtain rfl:=zB N;exact xL ⟨_,_,(.tmp rfl (.tmp rfl ResV.nil)),zN,⟨_,_,rfl,rfl,rfl,rfl⟩⟩
 intro bK N;refine zS<|uN [4,5] rfl<|zI<|yX ?_;obtain rfl:=zB N;exact xL ⟨_,_,(.tmp rfl (.tmp rfl ResV.nil)),zN,⟨_,_,rfl,rfl,rfl,rfl⟩⟩
def nO(s:Str)(at0:Int):Option (Int):=do
 let t20<-(do
  if(decide (at0>=(s.l.length:Int))) then
   pure true
  else
   let b<-sidx s at0
   if(decide ((b.toNat:Int)<105)) then
    pure true
   else
    let b1<-sidx s at0
    pure (decide ((b1.toNat:Int)>108))
    : Option Bool)
 if t20 then
  pure (-1)
 else
  let b2<-sidx s at0
  pure (W ((W (b2.toNat:Int)) - 105))
theorem zF7:∀s at0 r,nO s at0=some r->∀{I:Imm} ,RT 231 [vT s.l,vI at0] I [] (yT  r):=by
 intro s at0 r N I;unfold nO at N;refine yP func231 λB=>?_;have H:=iS I;refine wM []<|zW<|yA ?_;refine wQ N [] (λt20=>[(0,vT s.l),(1,vI at0),(20,.bool t20)]) (λo0 az=>?_) ?_
 ·have H:=iS I;refine zL<|yG 5 [] [9] rfl<|wC [9] az ?_ ?_
  ·intro hc N;exact wN [] [(20,vY)]<|yS<|zU (ct N H)
  intro hc N;refine yG 7 [] [10,11] rfl<|bE N λb hy N=>zAD rfl rfl hy<|yG 11 [] [15] rfl<|wC [15] N ?_ ?_
  ·intro aD N;exact wN [] [(20,vY)]<|yS<|zU (ct N H)
  intro aD N;exact yG 13 [] [16,17] rfl<|bE N λb1 ay N=>zAD rfl rfl ay<|yQ [] [20] rfl<|yS<|zU (ct N H)
 intro t20 I0 le aM;refine zI<|yC aM ?_ ?_
 ·intro aQ N;refine yJ [4] rfl<|xJ<|zF ?_;obtain rfl:=zB N;exact wI
 intro aQ N;refine zS<|xN<|yG 2 [] [21,22] rfl<|bE N λb2 aI N=>zAD rfl rfl aI<|yQ [] [4] rfl<|zI<|yX ?_;obtain rfl:=zB N;exact wI
def zDX(r:zA×Int):KT:=λkk I' ai v=>
 ∃v0 v1,ai=[]/\v=tupV [v0,v1]/\(∃cs,v0=.agg ⟨cs⟩/\Rp.rep I' cs r.1)/\v1=.int .i64 r.2
def sS(a0:zA)(s:Str)(at0:Int):Option (zA×Int):=do
 let b2<-sidx s at0
 let sign<-(do
  if((b2.toNat:Int)==45) then
   pure (-1)
  else
   pure (id 1)
    : Option Int)
 let t27<-(do
  let b3<-sidx s at0
  if((b3.toNat:Int)==45) then
   pure true
  else
   let b4<-sidx s at0
   pure ((b4.toNat:Int)==43)
    : Option Bool)
 let at01<-(do
  if t27 then
   pure (W (at0+1))
  else
   pure (id at0)
    : Option Int)
 let (y1,y2)<-sX s at01
 let t51<-(do
  if(decide (y2>at01)) then
   if(decide (y2<(s.l.length:Int))) then
    let b5<-sidx s y2
    pure ((b5.toNat:Int)==42)
   else
    pure false
  else
   pure false
    : Option Bool)
 let star<-(do
  if t51 then
   pure (W (y2+1))
  else
   pure (id y2)
    : Option Int)
 let y3<-nO s star
 let l<-app 8 ([]:List Int) a0.Coefs
 let t75<-(do
  if(decide (y3>=0)) then
   if(decide (star>y2)) then
    pure true
   else
    pure (y2==at01)
  else
   pure false
    : Option Bool)
 if t75 then
  let x<-idx l y3
  let x1<-idx l y3
  let l1<-pure (l.set y3.toNat (W (x+(W (sign*y1)))))
  pure ((zA.mk l1 a0.Const),(W (star+1)))
 else
  if(y2==at01) then
   pure (a0,(-1))
  else
   pure ((zA.mk l (W (a0.Const+(W (sign*y1))))),y2)
theorem zEp:∀a0 s at0 r,sS a0 s at0=some r->∀{I:Imm}{p c},(S4 I p a0.Coefs c)->RT 193 [vA (cAff a0 p c),vT s.l,vI at0] I [] (zDX  r):=by
 intro a0 s at0 r N I p c h;unfold sS at N;refine yP func193 λB=>?_;have H:=iS I;refine yE<|vM (cAff a0 p c) ?_;intro b hb;refine vG [z0,vI 0] ?_;intro b1 hb1;refine wN [] []<|uN [8] rfl<|zW<|yE<|yG 2 [] [14,15] rfl<|bE N λb2 hy N=>zAD rfl rfl hy<|yQ [] [17] rfl<|zI ?_;refine wQ N [hB b1 [z0,vI 0],hB b (cAff a0 p c)] (λsign=>[(1,vT s.l),(2,vI at0),(3,vP b 0),(6,vP b1 0),(8,vI sign)]) (λo0 az=>?_) ?_
 ·have H:=iS I;refine yC az ?_ ?_
  ·intro hc N;exact zL<|yQ [] [8] rfl<|yS<|zU (ct N H)
  intro hc N;exact zS<|yS<|zU (ct N H)
 intro sign I0 le aM;have ⟨h,H⟩:=m2 le h H;refine zW<|yA ?_;refine wQ aM [hB b1 [z0,vI 0],hB b (cAff a0 p c)] (λt27=>[(1,vT s.l),(2,vI at0),(3,vP b 0),(6,vP b1 0),(8,vI sign),(27,.bool t27)]) (λaO aB=>?_) ?_
 ·have H:=iS I0;refine zL<|yG 2 [] [18,19] rfl ?_;obtain⟨b3,ay,N⟩:=zC aB;refine zAD rfl rfl ay<|yG 5 [] [22] rfl<|wC [22] N ?_ ?_
  ·intro aD N;exact wN [] [(27,vY)]<|yS<|zU (ct N H)
  intro aD N;exact yG 7 [] [23,24] rfl<|bE N λb4 aI N=>zAD rfl rfl aI<|yQ [] [27] rfl<|yS<|zU (ct N H)
 intro t27 aP af hMc1;have ⟨h,H⟩:=m2 af h H;refine zI ?_;refine wQ hMc1 [hB b1 [z0,vI 0],hB b (cAff a0 p c)] (λat01=>[(1,vT s.l),(2,vI at01),(3,vP b 0),(6,vP b1 0),(8,vI sign)]) (λo02 ho02=>?_) ?_
 ·have H:=iS aP;refine yC ho02 ?_ ?_
  ·intro aQ N;exact zL<|yQ [] [2] rfl<|yS<|zU (ct N H)
  intro aQ N;exact zS<|yS<|zU (ct N H)
 intro at01 aS aE hMc2;have ⟨h,H⟩:=m2 aE h H;refine xN<|yG 2 [] [31,32] rfl ?_;obtain⟨⟨y1,y2⟩,aW,N⟩:=zC hMc2;refine xX (zAe s at01 _ aW ) ?_;rintro bw ax v2 k2 aJ - ⟨v0,v01,rfl,rfl,rfl,rfl⟩ -;have ⟨h,H⟩:=m2 aJ h H;refine yQ [] [9,10] rfl<|uN [11] rfl<|zW<|yA ?_;refine wQ N [hB b1 [z0,vI 0],hB b (cAff a0 p c)] (λt51=>[(1,vT s.l),(2,vI at01),(3,vP b 0),(6,vP b1 0),(8,vI sign),(9,vI y1),(10,vI y2),(11,vI y2),(51,.bool t51)]) (λo03 ho03=>?_) ?_
 ·have H:=iS bw;refine zL<|yG 4 [] [40] rfl<|wC [40] ho03 ?_ ?_
  ·intro bu N;refine yG 10 [] [46] rfl<|wC [46] N ?_ ?_
   ·intro bK N;exact yG 12 [] [47,48] rfl<|bE N λb5 br N=>zAD rfl rfl br<|yQ [] [51] rfl<|yS<|zU (ct N H)
   intro bK N;exact wN [] [(51,vF)]<|yS<|zU (ct N H)
  intro bu N;exact wN [] [(51,vF)]<|yS<|zU (ct N H)
 intro t51 bI aX hMc3;have ⟨h,H⟩:=m2 aX h H;refine zI ?_;refine wQ hMc3 [hB b1 [z0,vI 0],hB b (cAff a0 p c)] (λstar=>[(1,vT s.l),(2,vI at01),(3,vP b 0),(6,vP b1 0),(8,vI sign),(9,vI y1),(10,vI y2),(11,vI star)]) (λo04 ho04=>?_) ?_
 ·have H:=iS bI;refine yC ho04 ?_ ?_
  ·intro hc5 N;exact zL<|yQ [] [11] rfl<|yS<|zU (ct N H)
  intro hc5 N;exact zS<|yS<|zU (ct N H)
 intro star bL bt hMc4;have ⟨h,H⟩:=m2 bt h H;refine xN<|yG 2 [] [54,55] rfl ?_;obtain⟨y3,bB,N⟩:=zC hMc4;refine fN (zF7 s star _ bB ) ?_;intro I06 bx;have ⟨h,H⟩:=m2 bx h H;refine yQ [] [12] rfl<|zW<|bE N λl hy6 N=>wU [.x (λI' v hx=>∃b6,v=vS (some ⟨b6,0,none⟩) ([]:List Int) 0/\hx=[hO Int (vS (some ⟨b6,0,none⟩) ([]:List Int) 0) []]/\(RL I' [] ([]:List Int))),.p (vP b 0) [],.p (vS p a0.Coefs c) [1],.x (λI' v hx=>∃p1 c1 cs,v=vS p1 l c1/\hx=[hO Int (vS p1 l c1) cs]/\(RL I' cs l)),.p (vP b 1) [],.p (vI a0.Const) [1],.x (λI' v hx=>∃aT aU aL,v=vA [vS aT l aU,vI a0.Const]/\hx=[hO Int (vS aT l aU) aL]/\(RL I' aL l)),.x (λI' v hx=>∃b7,v=vP b7 0/\hx=[hB b7 [z0,vI 0]])] [[],[],[(1,false)],[(0,true),(2,false)],[],[(4,false)],[(3,true),(5,false)],[]] [hB b1 [z0,vI 0],hB b (cAff a0 p c)] [] [(6,true),(7,true)] (zY [0,1]) ?_ ?_
 ·refine Ox ?_<|Op<|Op<|Ox ?_<|Op<|Op<|Ox ?_<|Ox ?_<|On
  ·intro I1 hf af;refine dD []<|qB [] Int ?_;intro b6 hb2;have h4:RL I1 [] ([]:List Int):=rfl;exact yR [hO Int (vS (some ⟨b6,0,none⟩) ([]:List Int) 0) []] iR ⟨_,rfl,rfl,h4⟩
  ·rintro I1 hf af _ _ ⟨b6,rfl,rfl,h4⟩;refine yV [57,59] rfl ?_;have h:=h.mono af;obtain⟨aK,k0,k01⟩:=h;have h:SL I1 (vS p a0.Coefs c) a0.Coefs:=⟨_,k0,k01⟩;exact mD 3 1 0 rfl rfl rfl h4 (.inl k0) k01 hy6 λp1 c1 cs h5=>uY (ai:=(hO Int (vS p1 l c1) cs::hB b1 [z0,vI 0]::hB b (cAff a0 p c)::hf)) rfl<|yR [hO Int (vS p1 l c1) cs] iR ⟨_,_,_,rfl,rfl,h5⟩
  ·rintro I1 hf af _ _ ⟨p1,c1,cs,rfl,rfl,h5⟩;exact yV [60,62] rfl<|pG 7 [(63,vA [vS p1 l c1,vI a0.Const])]<|yR [hO Int (vS p1 l c1) cs] iR ⟨_,_,_,rfl,rfl,h5⟩
  intro I1 hf af;refine dD []<|vG [z0,vI 0] ?_;intro b7 hb3;exact yR [hB b7 [z0,vI 0]] iR ⟨_,rfl,rfl⟩
 rintro I07 le7 _ _ ⟨aT,aU,aL,rfl,rfl,h51⟩ _ _ ⟨b7,rfl,rfl⟩;refine yV [2,3,6,8,9,10,11,12,13,63] rfl ?_;have ⟨h,H⟩:=m2 le7 h H;refine xW 0 [vS aT l aU,vI a0.Const] rfl<|yB rfl<|zW<|yA ?_;refine wQ N [hB b7 [vS aT l aU,vI a0.Const],hO Int (vS aT l aU) aL,hB b1 [z0,vI 0],hB b (cAff a0 p c)] (λt75=>[(2,vI at01),(3,vP b 0),(6,vP b1 0),(8,vI sign),(9,vI y1),(10,vI y2),(11,vI star),(12,vI y3),(13,vP b7 0),(75,.bool t75)]) (λo05 ho05=>?_) ?_
 ·have H:=iS I07;refine zL<|yG 3 [] [66] rfl<|wC [66] ho05 ?_ ?_
  ·intro hc6 N;refine yG 7 [] [70] rfl<|wC [70] N ?_ ?_
   ·intro hc7 N;exact wN [] [(75,vY)]<|yS<|zU (ct N H)
   intro hc7 N;exact yQ [] [75] rfl<|yS<|zU (ct N H)
  intro hc6 N;exact wN [] [(75,vF)]<|yS<|zU (ct N H)
 intro t75 I08 le8 hMc5;have ⟨h51,h⟩:=m2 le8 h51 h;refine zI<|yC hMc5 ?_ ?_
 ·intro hc8 N;refine yA<|bE N λx hy7 N=>wU [.p (vP b7 0) [],.p (vS aT l aU) [0],.p (vI y3) [],.p (vP b7 0) [],.p (vS aT l aU) [0],.p (vI y3) [],.x (λI' v hx=>∃ad,v=.pointer (some ad)/\hx=[]/\(AtO (vS aT l aU) (Rp.sz Int) y3.toNat ad)/\((aL.drop (y3.toNat*Rp.sz Int)).take (Rp.sz Int)=[vI x])),.q (vI x),.p (vI sign) [],.p (vI y1) [],.p (vI (W (sign*y1))) [],.p (vI (W (x+(W (sign*y1))))) []] [[],[(0,false)],[],[],[(3,false)],[],[(4,false),(5,false)],[(6,false)],[],[],[(8,false),(9,false)],[(7,false),(10,false)]] [hB b7 [vS aT l aU,vI a0.Const],hO Int (vS aT l aU) aL,hB b1 [z0,vI 0],hB b (cAff a0 p c)] [] [(1,false),(2,false),(11,false)] (zY [0,1,2,3]) ?_ ?_
  ·refine Op<|Op<|Op<|Op<|Op<|Op<|Ox ?_<|Oq ?_<|Op<|Op<|Op<|Op<|On
   ·intro I1 hf af;refine yV [80,81] rfl ?_;have h51:=iM af h51;refine gR 1 rfl rfl rfl h51 hy7 ?_;intro ad bi ar bJ al;obtain rfl:=al;exact yR [] iR ⟨_,rfl,rfl,ar,bJ⟩
   rintro I1 hf af _ _ ⟨ad,rfl,rfl,ar,bJ⟩;exact yV [82] rfl<|zFV 1 0 ar bJ [vI x] (vI x) rfl rfl<|xA iR
  intro I09 le9;refine yV [6,11,13,77,78,87] rfl ?_;have h51:=iM le9 h51;obtain⟨x1,hy8,N⟩:=zC N;refine gR 1 rfl rfl rfl h51 hy8 ?_;intro ad1 bP ap hcc1 aw;obtain rfl:=aw;obtain⟨l1,hy9,N⟩:=zC N;refine nV (c:=[vI (W (x+(W (sign*y1))))]) (x':=(W (x+(W (sign*y1))))) 1 0 rfl rfl rfl ap rfl rfl hcc1 (by kernel_rfl) (by kernel_rfl) (by kernel_rfl) h51 hy8 (by kernel_rfl) rfl ?_;rw[show l.set y3.toNat (W (x+(W (sign*y1))))=l1 from zB hy9];intro bf h6 hl0;refine fM (m':=[(6,vP b1 0),(11,vI star),(13,vP b7 0),(77,vS aT l aU),(78,vI y3),(87,vI (W (x+(W (sign*y1)))))]) ⟨rfl,rfl,rfl,rfl,rfl,rfl,trivial⟩<|zDs (ai:=[hB b7 [vS aT l1 aU,vI a0.Const],hO Int (vS aT l1 aU) bf,hB b1 [z0,vI 0],hB b (cAff a0 p c)]) (m':=[(6,vP b1 0),(11,vI star),(13,vP b7 0),(77,vS aT l1 aU),(78,vI y3),(87,vI (W (x+(W (sign*y1)))))]) (by first|rfl|simp only[vS,hl0,cM,cy,d5,dl,di,dj]) (by first|rfl|simp only[vS,hl0])<|yB rfl<|xN<|qX 3 [0] [(89,vA [vS aT l1 aU,vI a0.Const]),(91,vI (W (star+1)))]<|xW 2 [vS aT l1 aU,vI a0.Const] rfl<|yQ [] [7] rfl<|xJ<|zF<|wH 1 rfl ?_;intro bN le10 hl01;have h7:=SL.of_frozen hl01 le10 h6;obtain rfl:=zB N;exact xL ⟨_,_,(.cell 1 rfl rfl (by kernel_rfl) (.tmp rfl ResV.nil)),zN,⟨_,_,rfl,rfl,⟨_,rfl,(yO ⟨_,rfl,h7⟩)⟩,rfl⟩⟩
 intro hc8 N;refine zS<|zW<|yJ [94] rfl<|zI<|yC N ?_ ?_
 ·intro hc9 N;refine yE<|qX 1 [3] [(95,vA (cAff a0 p c))]<|xW 2 (cAff a0 p c) rfl<|yQ [] [7] rfl<|xJ<|zF ?_;obtain rfl:=zB N;exact xL ⟨_,_,(.cell 2 rfl rfl (by kernel_rfl) (.tmp rfl ResV.nil)),zN,⟨_,_,rfl,rfl,⟨_,rfl,(yO ⟨_,rfl,h⟩)⟩,rfl⟩⟩
 intro hc9 N;refine zS<|xN<|yG 7 [0] [101,102] rfl<|xW 0 [vS aT l aU,vI (W (a0.Const+(W (sign*y1))))] rfl<|yB rfl<|xN<|qX 2 [0] [(103,vA [vS aT l aU,vI (W (a0.Const+(W (sign*y1))))]),(104,vI y2)]<|xW 2 [vS aT l aU,vI (W (a0.Const+(W (sign*y1))))] rfl<|yQ [] [7] rfl<|xJ<|wH 1 rfl ?_;intro bW le11 hl02;have h8:=SL.of_frozen hl02 le11 h51;obtain rfl:=zB N;exact xL ⟨_,_,(.cell 1 rfl rfl (by kernel_rfl) (.tmp rfl ResV.nil)),zN,⟨_,_,rfl,rfl,⟨_,rfl,(yO ⟨_,rfl,h8⟩)⟩,rfl⟩⟩
def nM(a0:zA):Option (Str):=do
 let y<-tM a0
 if(!y) then
  pure (⟨[]⟩:Str)
 else
  let y1<-kF a0
  pure (id y1)
theorem zBi:∀a0 r,nM a0=some r->∀{I:Imm}{p c},(S4 I p a0.Coefs c)->RT 194 [vA (cAff a0 p c)] I [] (xT  r):=by
 intro a0 r N I p c h;unfold nM at N;refine yP func194 λB=>yE<|vM (cAff a0 p c) ?_;intro b hb;refine wN [] []<|zW<|yE<|qX 1 [0] [(3,vA (cAff a0 p c))]<|bE N λy hy N=>vH (kI a0 _ hy h) ?_;intro I0 le;have h:=h.mono le;refine yQ [] [5] rfl<|zI<|yC N ?_ ?_
 ·intro hc N;refine yJ [2] rfl<|xJ<|zF ?_;obtain rfl:=zB N;exact wI
 intro hc N;refine zS<|xN<|qX 1 [0] [(6,vA (cAff a0 p c))]<|bE N λy1 ay N=>xX (dX a0 _ ay h) ?_;rintro aP ax v2 k2 af - ⟨v01,rfl,rfl,rfl⟩ -;refine yQ [] [2] rfl<|zI<|yX ?_;obtain rfl:=zB N;exact wI
def zBT(r:zA×Bool):KT:=λkk I' ai v=>
 ∃v0 v1,ai=[]/\v=tupV [v0,v1]/\(∃cs,v0=.agg ⟨cs⟩/\Rp.rep I' cs r.1)/\v1=.bool r.2
def xZ(bq:Str)(at0:Int)(x:zA):Option (zA):=do
 let t18<-(do
  if(decide (at0>=0)) then
   pure (decide (at0<(bq.l.length:Int)))
  else
   pure false
    : Option Bool)
 if t18 then
  let (y2,y3)<-sS x bq at0
  xZ bq y3 y2
 else
  pure (id x)
 partial_fixpoint
theorem zAy(bq:Str):∀(at0:Int) (x:zA) (o:zA),xZ bq at0 x=some o->∀{B}{I0 I:Imm}{Q}  {b:Nat}{b1:Nat}{p1 c1},I0.le I->(S4 I p1 x.Coefs c1)->NG Q->NO Q->(∀(I':Imm) (x1:zA) (p2:Option Addr) (c2:Nat),o=x1->I0.le I'->(S4 I' p2 x1.Coefs c2)->T 32 B Q (.exit 0) I' [hB b1 (cAff x1 p2 c2),hB b [z0,vI 0]] [(0,vT bq.l),(2,vP b 0),(4,vP b1 0)])->J Tryz.prog 32 B (nav (bodyOf f144) [1,1,1,1,0,0]) Q I [hB b1 (cAff x p1 c1),hB b [z0,vI 0]] [(0,vT bq.l),(2,vP b 0),(4,vP b1 0),(5,vI at0)]:=by
 refine xZ.partial_correctness bq _ λaN ih at0 x o N B I0 I Q b b1 p1 c1 H h2 hg ho hx=>yY hg ho<|yA<|yA ?_;refine wQ N [hB b1 (cAff x p1 c1),hB b [z0,vI 0]] (λt18=>[(0,vT bq.l),(2,vP b 0),(4,vP b1 0),(5,vI at0),(18,.bool t18)]) (λo0 az=>?_) ?_
 ·have H:=iS I;refine zL<|yG 3 [] [13] rfl<|wC [13] az ?_ ?_
  ·intro aD N;exact yQ [] [18] rfl<|yS<|zU (ct N H)
  intro aD N;exact wN [] [(18,vF)]<|yS<|zU (ct N H)
 intro t18 aS aE aM;have ⟨h2,H⟩:=m2 aE h2 H;refine zI<|yC aM ?_ ?_
 ·intro aQ N;refine zS<|wS<|zL<|qX 3 [0] [(20,vA (cAff x p1 c1)),(21,vT bq.l),(22,vI at0)] ?_;obtain⟨⟨y2,y3⟩,ay,N⟩:=zC N;refine xX (zEp x bq at0 _ ay h2) ?_;rintro bw ax v2 k2 aJ - ⟨v0,v01,rfl,rfl,⟨aL,rfl,h4⟩,rfl⟩ -;have H:=H.trans aJ;obtain⟨p3,c3,rfl,h6⟩:=yD h4;exact yG 7 [] [24,25] rfl<|xW 0 (cAff y2 p3 c3) rfl<|yQ [] [5] rfl<|zO<|yW<|mE<|ih y3 y2 _ N H h6 hg ho hx
 intro aQ N;exact vQ<|yS<|hx _ _ _ _ (zB N).symm H h2
def oA(bq:Str):Option (zA×Bool):=do
 let y<-oQ
 if(decide ((bq.l.length:Int)>40)) then
  pure ((zA.mk ([]:List Int) 0),false)
 else
  let x1<-xZ bq 0 (zA.mk y.Coefs y.Const)
  let y4<-nM x1
  if(!(y4.l==bq.l)) then
   pure ((zA.mk ([]:List Int) 0),false)
  else
   pure (x1,true)
theorem dE:∀bq r,oA bq=some r->∀{I:Imm} ,RT 144 [vT bq.l] I [] (zBT  r):=by
 intro bq r N I;unfold oA at N;refine yP func144 λB=>yE<|vG [z0,vI 0] ?_;intro b hb;refine wN [] []<|xN<|bE N λy hy N=>xX (kT  _ hy ) ?_;rintro I0 ax v2 k2 le - ⟨p,c,cs,rfl,rfl,h⟩ -;refine vG [z0,vI 0] ?_;intro b1 hb1;refine xW 0 (cAff y p c) rfl<|yB rfl<|zW<|yJ [9] rfl<|zI<|yC N ?_ ?_
 ·intro hc N;refine yE<|yG 1 [] [10] rfl<|xW 2 [z0,vI 0] rfl<|wN [] [(3,vF)]<|xJ<|zF ?_;obtain rfl:=zB N;exact xL ⟨_,_,(.cell 2 rfl rfl (by kernel_rfl) (.tmp rfl ResV.nil)),zN,⟨_,_,rfl,rfl,⟨_,rfl,(yO ⟨_,rfl,(SL.nil _)⟩)⟩,rfl⟩⟩
 intro hc N;refine zS<|uN [5] rfl<|zW<|yK<|nU 1 rfl ?_;intro aP af hl0;have h1:=SL.of_frozen hl0 af h;refine oR [(0,vT bq.l),(2,vP b 0),(4,vP b1 0),(5,vI 0)] ?_;obtain⟨aO,aB,aF⟩:=zC N;refine zAy bq 0 (zA.mk y.Coefs y.Const) aO aB iR h1 (λ_ _ _ h=>h) (λ_ _ h=>h) ?_;intro bI x1 p2 c2 heq1 aX h3;subst aO;refine zT<|zW<|yE<|qX 1 [0] [(26,vA (cAff x1 p2 c2))] ?_;obtain⟨y4,aI,N⟩:=zC aF;refine xX (zBi x1 _ aI h3) ?_;rintro bL ax v2 k2 bt - ⟨v03,rfl,rfl,rfl⟩ -;have h3:=h3.mono bt;refine yQ [] [29] rfl<|zI<|yC N ?_ ?_
 ·intro bu N;refine yE<|yG 1 [] [30] rfl<|xW 1 [z0,vI 0] rfl<|wN [] [(3,vF)]<|xJ<|zF ?_;obtain rfl:=zB N;exact xL ⟨_,_,(.cell 1 rfl rfl (by kernel_rfl) (.tmp rfl ResV.nil)),zN,⟨_,_,rfl,rfl,⟨_,rfl,(yO ⟨_,rfl,(SL.nil _)⟩)⟩,rfl⟩⟩
 intro bu N;refine zS<|xN<|qX 1 [0] [(31,vA (cAff x1 p2 c2))]<|xW 1 (cAff x1 p2 c2) rfl<|wN [] [(3,vY)]<|zI<|yX ?_;obtain rfl:=zB N;exact xL ⟨_,_,(.cell 1 rfl rfl (by kernel_rfl) (.tmp rfl ResV.nil)),zN,⟨_,_,rfl,rfl,⟨_,rfl,(yO ⟨_,rfl,h3⟩)⟩,rfl⟩⟩
def zBU(r:(List zA)):KT:=λkk I' ai v=>
 ∃v0,ai=[]/\v=tupV [v0]/\SL I' v0 r
def tF(y:(List Str))(out:List zA)(i:Int):Option (List zA):=do
 let t18<-(do
  if(decide (i<(y.length:Int))) then
   pure (decide (i<=2))
  else
   pure false
    : Option Bool)
 if t18 then
  let x<-idx y i
  let (y2,y3)<-oA x
  let aC<-app 32 out ([y2]:List zA)
  tF y aC (W (i+1))
 else
  pure (id out)
 partial_fixpoint
theorem zAz(y:(List Str)):∀(out:List zA) (i:Int) (o:List zA),tF y out i=some o->∀{B}{I0 I:Imm}{Q p c p1 c1 cs},I0.le I->(S4 I p y c)->(RL I cs out)->NG Q->NO Q->(∀(I':Imm) (aq:List zA) (p2:Option Addr) (c2:Nat) (aL:List Value),o=aq->I0.le I'->(RL I' aL aq)->T 34 B Q (.exit 0) I' [hO zA (vS p2 aq c2) aL] [(3,vS p2 aq c2)])->J Tryz.prog 34 B (nav (bodyOf f119) [1,1,1,0,1,0]) Q I [hO zA (vS p1 out c1) cs] [(3,vS p1 out c1),(4,vS p y c),(5,vI i)]:=by
 refine tF.partial_correctness y _ λaN ih out i o N B I0 I Q p c p1 c1 cs H h1 h2 hg ho hx=>yY hg ho<|yA<|yA ?_;refine wQ N [hO zA (vS p1 out c1) cs] (λt18=>[(3,vS p1 out c1),(4,vS p y c),(5,vI i),(18,.bool t18)]) (λo0 az=>?_) ?_
 ·have H:=iS I;refine zL<|yG 5 [] [15] rfl<|wC [15] az ?_ ?_
  ·intro hc N;exact yQ [] [18] rfl<|yS<|zU (ct N H)
  intro hc N;exact wN [] [(18,vF)]<|yS<|zU (ct N H)
 intro t18 aP af aM;have ⟨h2,h1,H⟩:=m3 af h2 h1 H;refine zI<|yC aM ?_ ?_
 ·intro aD N;refine zS<|zW<|yK<|yE<|yG 2 [] [22,23] rfl<|bE N λx ay N=>wB rfl rfl h1 ay ?_;intro ad aK ar al;obtain rfl:=al;refine xU 0 ar [vT x.l] (vT x.l) rfl ?_;obtain⟨⟨y2,y3⟩,aI,N⟩:=zC N;refine xX (dE x _ aI ) ?_;rintro aS ax v2 k2 aE - ⟨v01,v02,rfl,rfl,⟨bf,rfl,h4⟩,rfl⟩ -;have ⟨h2,h1,H⟩:=m3 aE h2 h1 H;obtain⟨p3,c3,rfl,h6⟩:=yD h4;refine yG 8 [] [27,28] rfl<|vG [z0,vI 0] ?_;intro b1 hb1;refine xW 0 (cAff y2 p3 c3) rfl<|wN [] []<|zI<|zL<|qX 2 [0] [(29,vS p1 out c1),(30,vA (cAff y2 p3 c3))]<|qB (cAff y2 p3 c3) zA ?_;intro b2 hb2;have h7:RL aS (cAff y2 p3 c3) ([y2]:List zA):=⟨(cAff y2 p3 c3),_,rfl,rfl,(yO ⟨_,rfl,h6⟩),rfl⟩;obtain⟨aC,aW,N⟩:=zC N;exact mD 50 2 2 rfl rfl rfl h2 (.inr ⟨0,rfl⟩) h7 aW λp4 c4 bd h8=>rS (zY [1,2] (ai:=[hB b1 (cAff y2 p3 c3),hO zA (vS p4 aC c4) bd]))<|yQ [] [3] rfl<|zO<|zI<|zL<|yQ [] [5] rfl<|yW<|kJ (zV [1] rfl (by decide))<|mE<|ih aC (W (i+1)) _ N H h1 h8 hg ho hx
 intro aD N;exact vQ<|yS<|hx _ _ _ _ _ (zB N).symm H h2
def mC(bq:Str):Option ((List zA)):=do
 let y<-gY bq (44:UInt8)
 let aq<-tF y ([]:List zA) 0
 pure (id aq)
theorem zCL:∀bq r,mC bq=some r->∀{I:Imm} ,RT 119 [vT bq.l] I [] (zBU  r):=by
 intro bq r N I;unfold mC at N;refine yP func119 λB=>wM []<|xN<|qB [] zA ?_;intro b hb;have h:RL I [] ([]:List zA):=rfl;refine yQ [] [3] rfl<|xN<|yG 1 [] [9] rfl<|bE N λy hy N=>xX (zF5 bq (44:UInt8) _ hy ) ?_;rintro I0 ax v2 k2 le - ⟨v0,rfl,rfl,h1⟩ -;have h:=iM le h;obtain⟨p,c,rfl⟩:=h1.form;refine yQ [] [4] rfl<|zW<|yJ [5] rfl<|wS<|oR [(3,vS (some ⟨b,0,none⟩) ([]:List zA) 0),(4,vS p y c),(5,vI 0)] ?_;obtain⟨aO,aB,aF⟩:=zC N;refine zAz y ([]:List zA) 0 aO aB iR h1 h (λ_ _ _ h=>h) (λ_ _ h=>h) ?_;intro bw aq p2 c2 aL heq1 aJ h3;subst aO;refine zT<|uN [2] rfl<|xJ<|wH 0 rfl ?_;intro bI aX hl0;have h9:=SL.of_frozen hl0 aX h3;obtain rfl:=zB aF;exact xL ⟨_,_,(.tmp rfl ResV.nil),zN,⟨_,rfl,rfl,h9⟩⟩
def qQ(s:Str)(end0:UInt8)(i:Int):Option (Out Unit (Int)):=do
 if(decide (i<(s.l.length:Int))) then
  let b<-sidx s i
  if((b.toNat:Int)==(end0.toNat:Int)) then
   pure (.ret i)
  else
   qQ s end0 (W (i+1))
 else
  pure (.done ())
 partial_fixpoint
theorem zCi(s:Str)(end0:UInt8):∀(i:Int) (o:Out Unit (Int)),qQ s end0 i=some o->∀{B}{I0 I:Imm}{Q}  ,I0.le I->NG Q->NO Q->(∀(I':Imm) ,o=(.done ())->I0.le I'->T 21 B Q (.exit 0) I' [] [])->(∀r I' ai m',o=(.ret r)->I0.le I'->RS Tryz.prog f143 B (yT  r) I' ai m'->T 21 B Q .ret I' ai m')->J Tryz.prog 21 B (nav (bodyOf f143) [1,0,1,0]) Q I [] [(0,vT s.l),(2,.int .u8 (end0.toNat:Int)),(7,vI i)]:=by
 refine qQ.partial_correctness s end0 _ λaN ih i o N B I0 I Q H hg ho hx hr=>yY hg ho<|yA<|yJ [12] rfl<|zI<|yC N ?_ ?_
 ·intro hc N;refine zS<|zW<|yK<|yE<|yG 2 [] [15,16] rfl<|bE N λb hy N=>zAD rfl rfl hy<|yQ [] [19] rfl<|zI<|yC N ?_ ?_
  ·intro aD N;exact yJ [6] rfl<|xJ<|zR<|zF<|zF<|hr _ _ _ _ (zB N).symm H ⟨_,_,(.tmp rfl ResV.nil),zN,⟨_,rfl,rfl,rfl⟩⟩
  intro aD N;exact zS<|zO<|zI<|zL<|yQ [] [7] rfl<|yW<|mE<|ih (W (i+1)) _ N H  hg ho hx hr
 intro hc N;exact vQ<|yS<|hx _  (zB N).symm H
def kU(s:Str)(at0:Int)(end0:UInt8):Option (Int):=do
 match<-qQ s end0 at0 with
 | .ret r0=>pure r0
 | .done _=>
  pure (-1)
theorem zBK:∀s at0 end0 r,kU s at0 end0=some r->∀{I:Imm} ,RT 143 [vT s.l,vI at0,.int .u8 (end0.toNat:Int)] I [] (yT  r):=by
 intro s at0 end0 r N I;unfold kU at N;refine yP func143 λB=>wM []<|zW<|yJ [7] rfl<|wS<|oR [(0,vT s.l),(2,.int .u8 (end0.toNat:Int)),(7,vI at0)] ?_;obtain⟨o0,az,aF⟩:=zC N;refine zCi s end0 at0 o0 az iR  (λ_ _ _ h=>h) (λ_ _ h=>h) ?_ ?_
 ·intro I0  heq le;subst o0;refine zT<|uN [6] rfl<|zI<|yX ?_;obtain rfl:=zB aF;exact wI
 intro r0 I9 hs9 m9 aG le9 aH;subst aG;refine zR<|zF ?_;obtain rfl:=zB aF;exact xL aH
def zAf(r:zH×Int):KT:=λkk I' ai v=>
 ∃v0 v1,ai=[]/\v=tupV [v0,v1]/\(∃cs,v0=.agg ⟨cs⟩/\Rp.rep I' cs r.1)/\v1=.int .i64 r.2
def rP(s:Str)(at0:Int):Option (zH×Int):=do
 let y<-kU s at0 (93:UInt8)
 let t20<-(do
  if(decide (y<(W (at0+2)))) then
   pure true
  else
   let b1<-sidx s (W (at0+1))
   pure ((b1.toNat:Int) != 91)
    : Option Bool)
 if t20 then
  pure ((zH.mk (⟨[]⟩:Str) ([]:List zA)),(-1))
 else
  let s1<-sslc s at0 (W (at0+1))
  let s2<-sslc s (W (at0+2)) y
  let y1<-mC s2
  pure ((zH.mk s1 y1),(W (y+1)))
theorem fX:∀s at0 r,rP s at0=some r->∀{I:Imm} ,RT 85 [vT s.l,vI at0] I [] (zAf  r):=by
 intro s at0 r N I;unfold rP at N;refine yP func85 λB=>?_;have H:=iS I;refine yE<|vG [vT ([]),z0] ?_;intro b hb;refine wN [] []<|xN<|yG 2 [] [7,8] rfl<|bE N λy hy N=>fN (zBK s at0 (93:UInt8) _ hy ) ?_;intro I0 le;have H:=H.trans le;refine yQ [] [6] rfl<|zW<|yA ?_;refine wQ N [hB b [vT ([]),z0]] (λt20=>[(0,vT s.l),(1,vI at0),(4,vP b 0),(6,vI y),(20,.bool t20)]) (λo0 az=>?_) ?_
 ·have H:=iS I0;refine zL<|yG 5 [] [14] rfl<|wC [14] az ?_ ?_
  ·intro hc N;exact wN [] [(20,vY)]<|yS<|zU (ct N H)
  intro hc N;exact yG 8 [] [15,17] rfl<|bE N λb1 ay N=>zAD rfl rfl ay<|yQ [] [20] rfl<|yS<|zU (ct N H)
 intro t20 aP af aM;have H:=H.trans af;refine zI<|yC aM ?_ ?_
 ·intro aD N;refine yE<|yG 1 [] [21] rfl<|xW 0 [vT ([]),z0] rfl<|yQ [] [5] rfl<|xJ<|zF ?_;obtain rfl:=zB N;exact xL ⟨_,_,(.cell 0 rfl rfl (by kernel_rfl) (.tmp rfl ResV.nil)),zN,⟨_,_,rfl,rfl,⟨_,rfl,(nQ ⟨_,rfl,(SL.nil _)⟩)⟩,rfl⟩⟩
 intro aD N;refine zS<|zI<|yA ?_;obtain⟨s1,aI,N⟩:=zC N;obtain⟨s2,aW,N⟩:=zC N;obtain⟨y1,br,N⟩:=zC N;refine wU [.p (vT s.l) [],.p (vI at0) [],.p (vI at0) [],.p (vI (W (at0+1))) [],.q (vT s1.l),.p (vT s.l) [],.p (vI at0) [],.p (vI (W (at0+2))) [],.p (vI y) [],.q (vT s2.l),.x (eS y1),.x (λI' v hx=>∃p1 c1,v=vA [vT s1.l,vS p1 y1 c1]/\hx=[]/\(S4 I' p1 y1 c1)),.p (vI y) [],.p (vI (W (y+1))) [],.x (λI' v hx=>∃aT aU,hx=[hB b [vT s1.l,vS aT y1 aU]]/\(S4 I' aT y1 aU))] [[],[],[],[(2,false)],[(0,false),(1,false),(3,false)],[],[],[(6,false)],[],[(5,false),(7,false),(8,false)],[(9,false)],[(4,false),(10,false)],[],[(12,false)],[(11,false),(16,true)]] [] [[hB b [vT ([]),z0]]] [(13,false),(14,true)] (zY [0]) ?_ ?_
 ·refine Op<|Op<|Op<|Op<|Oq ?_<|Op<|Op<|Op<|Op<|Oq ?_<|Ox ?_<|Ox ?_<|Op<|Op<|Ox ?_<|On
  ·intro I1 hf af;exact yV [22,23,25] rfl<|zEd rfl aI<|xA iR
  ·intro I1 hf af;exact yV [27,29,30] rfl<|zEd rfl aW<|xA iR
  ·intro I1 hf af;refine yV [31] rfl ?_;have H:=iS I1;refine xX (zCL s2 _ br ) ?_;rintro aS ax v2 k2 aE - ⟨v01,rfl,rfl,h1⟩ -;have H:=H.trans aE;obtain⟨p,c,rfl⟩:=h1.form;exact yR [] H ⟨_,_,rfl,rfl,h1⟩
  ·rintro I1 hf af _ _ ⟨rfl,rfl⟩ _ _ ⟨p,c,rfl,rfl,h1⟩;exact yV [26,32] rfl<|pG 12 [(33,vA [vT s1.l,vS p y1 c])]<|yR [] iR ⟨_,_,rfl,rfl,h1⟩
  rintro I1 hf af _ _ ⟨p1,c1,rfl,rfl,h11⟩ _ _ rfl;refine yV [4,33] rfl ?_;have H:=iS I1;exact dL 0 [vT s1.l,vS p1 y1 c1] (hB b [vT s1.l,vS p1 y1 c1]::hf) rfl rfl rfl rfl<|zE8 (hx:=[hB b [vT s1.l,vS p1 y1 c1]]) rfl H rfl (zFQ (v:=undef)) ⟨_,_,rfl,h11⟩
 rintro bw aJ _ _ ⟨rfl,rfl⟩ _ _ ⟨aT,aU,rfl,h111⟩;refine yV [4,35] rfl ?_;refine yQ [] [5] rfl<|zI<|yX ?_;obtain rfl:=zB N;exact xL ⟨_,_,(.cell 0 rfl rfl (by kernel_rfl) (.tmp rfl ResV.nil)),zN,⟨_,_,rfl,rfl,⟨_,rfl,(nQ ⟨_,rfl,h111⟩)⟩,rfl⟩⟩
def fV(r:zD×Int):KT:=λkk I' ai v=>
 ∃v0 v1,ai=[]/\v=tupV [v0,v1]/\(∃cs,v0=.agg ⟨cs⟩/\Rp.rep I' cs r.1)/\v1=.int .i64 r.2
mutual
def gN(s:Str)(at0:Int)(aj:Int):Option (zD×Int):=do
 let (y1,y2)<-qR (same s) (same at0) (same aj)
 let t27<-(do
  if(decide (y2<0)) then
   pure true
  else
   pure (decide (y2>=(s.l.length:Int)))
    : Option Bool)
 if t27 then
  pure ((zD.mk 0 0 (zA.mk ([]:List Int) 0) (zH.mk (⟨[]⟩:Str) ([]:List zA)) ([]:List zD)),(-1))
 else
  let b2<-sidx s y2
  let kind<-(do
   if((b2.toNat:Int)==45) then
    pure (id 5)
   else
    let kind1<-(do
     if((b2.toNat:Int)==42) then
      pure (id 6)
     else
      pure (id 4)
       : Option Int)
    pure (id kind1)
     : Option Int)
  let (y4,y5)<-qR (same s) (W (y2+1)) (same aj)
  let t51<-(do
   if(decide (y5<0)) then
    pure true
   else
    pure (decide (y5>=(s.l.length:Int)))
     : Option Bool)
  if t51 then
   pure ((zD.mk 0 0 (zA.mk ([]:List Int) 0) (zH.mk (⟨[]⟩:Str) ([]:List zA)) ([]:List zD)),(-1))
  else
   pure ((zD.mk kind 0 (zA.mk ([]:List Int) 0) (zH.mk (⟨[]⟩:Str) ([]:List zA)) ([y1,y4]:List zD)),(W (y5+1)))
 partial_fixpoint
def qR(s:Str)(at0:Int)(aj:Int):Option (zD×Int):=do
 let t26<-(do
  if(decide (aj<1)) then
   pure true
  else
   if(decide (at0<0)) then
    pure true
   else
    pure (decide (at0>=(s.l.length:Int)))
    : Option Bool)
 if t26 then
  pure ((zD.mk 0 0 (zA.mk ([]:List Int) 0) (zH.mk (⟨[]⟩:Str) ([]:List zA)) ([]:List zD)),(-1))
 else
  let b1<-sidx s at0
  if((b1.toNat:Int)==123) then
   let y<-kU s at0 (125:UInt8)
   if(decide (y<0)) then
    pure ((zD.mk 0 0 (zA.mk ([]:List Int) 0) (zH.mk (⟨[]⟩:Str) ([]:List zA)) ([]:List zD)),(-1))
   else
    let s1<-sslc s (W (at0+1)) y
    let (y2,y3)<-oA s1
    pure ((zD.mk 2 0 y2 (zH.mk (⟨[]⟩:Str) ([]:List zA)) ([]:List zD)),(W (y+1)))
  else
   let t52<-(do
    let b3<-sidx s at0
    if(decide ((b3.toNat:Int)>=65)) then
     let b4<-sidx s at0
     pure (decide ((b4.toNat:Int)<=68))
    else
     pure false
      : Option Bool)
   if t52 then
    let (y5,y6)<-rP s at0
    pure ((zD.mk 3 0 (zA.mk ([]:List Int) 0) y5 ([]:List zD)),y6)
   else
    let b6<-sidx s at0
    if((b6.toNat:Int)==40) then
     let (y8,y9)<-gN (same s) (W (at0+1)) (W (aj - 1))
     pure (y8,y9)
    else
     let (y11,y12)<-sX s at0
     if(y12==at0) then
      pure ((zD.mk 0 0 (zA.mk ([]:List Int) 0) (zH.mk (⟨[]⟩:Str) ([]:List zA)) ([]:List zD)),(-1))
     else
      pure ((zD.mk 1 y11 (zA.mk ([]:List Int) 0) (zH.mk (⟨[]⟩:Str) ([]:List zA)) ([]:List zD)),y12)
 partial_fixpoint
end
theorem zEO:(∀(s:Str) (at0:Int) (aj:Int) r,gN s at0 aj=some r->∀{I:Imm} ,RT 145 [vT s.l,vI at0,vI aj] I [] (fV  r))/\(∀(s:Str) (at0:Int) (aj:Int) r,qR s at0 aj=some r->∀{I:Imm} ,RT 86 [vT s.l,vI at0,vI aj] I [] (fV  r)):=by
 refine gN.mutual_partial_correctness _ _ ?_ ?_
 ·intro F_spec_l3Parse ih_spec_l3Parse s at0 aj r N I;refine yP func145 λB=>?_;have H:=iS I;refine yE<|vG zExpr ?_;intro b hb;refine wN [] []<|xN<|yG 3 [] [14,15,16] rfl ?_;obtain⟨⟨y1,y2⟩,hy,N⟩:=zC N;refine xX (ih_spec_l3Parse s at0 aj _ hy ) ?_;rintro I0 ax v2 k2 le - ⟨v0,v01,rfl,rfl,⟨cs,rfl,h⟩,rfl⟩ -;have H:=H.trans le;obtain⟨p,c,p1,c1,p2,c2,rfl,h2,h3,h4⟩:=wO h;refine yG 7 [] [18,19] rfl<|vG zExpr ?_;intro b1 hb1;refine xW 0 (cExpr y1 p c p1 c1 p2 c2) rfl<|yQ [] [9] rfl<|zW<|yA ?_;refine wQ N [hB b1 (cExpr y1 p c p1 c1 p2 c2),hB b zExpr] (λt27=>[(0,vT s.l),(2,vI aj),(6,vP b 0),(8,vP b1 0),(9,vI y2),(27,.bool t27)]) (λo0 az=>?_) ?_
  ·have H:=iS I0;refine zL<|yG 3 [] [22] rfl<|wC [22] az ?_ ?_
   ·intro hc N;exact wN [] [(27,vY)]<|yS<|zU (ct N H)
   intro hc N;exact yQ [] [27] rfl<|yS<|zU (ct N H)
  intro t27 aP af aM;have ⟨h2,h3,h4,H⟩:=m4 af h2 h3 h4 H;refine zI<|yC aM ?_ ?_
  ·intro aD N;refine yE<|yG 1 [] [28] rfl<|dL 1 zExpr [hB b1 (cExpr y1 p c p1 c1 p2 c2),hB b zExpr] rfl rfl rfl rfl<|yQ [] [7] rfl<|xJ<|zF ?_;obtain rfl:=zB N;exact xL ⟨_,_,(.cell 1 rfl rfl (by kernel_rfl) (.tmp rfl ResV.nil)),zN,⟨_,_,rfl,rfl,⟨_,rfl,(wK ⟨_,_,_,rfl,(SL.nil _),(SL.nil _),(SL.nil _)⟩)⟩,rfl⟩⟩
  intro aD N;refine zS<|uN [10] rfl<|zW<|yE<|yG 2 [] [29,30] rfl<|bE N λb2 ay N=>zAD rfl rfl ay<|yB rfl<|wS<|yJ [32] rfl<|zI ?_;refine wQ N [hB b1 (cExpr y1 p c p1 c1 p2 c2),hB b zExpr] (λkind=>[(0,vT s.l),(2,vI aj),(6,vP b 0),(8,vP b1 0),(9,vI y2),(10,vI kind)]) (λaO aB=>?_) ?_
  ·have H:=iS aP;refine yC aB ?_ ?_
   ·intro aQ N;exact zL<|yQ [] [10] rfl<|yS<|zU (ct N H)
   intro aQ N;refine yJ [34] rfl<|zI ?_;refine wQ N [hB b1 (cExpr y1 p c p1 c1 p2 c2),hB b zExpr] (λkind1=>[(0,vT s.l),(2,vI aj),(6,vP b 0),(8,vP b1 0),(9,vI y2),(10,vI kind1)]) (λo02 ho02=>?_) ?_
   ·have H:=iS aP;refine yC ho02 ?_ ?_
    ·intro bu N;exact zL<|yQ [] [10] rfl<|yS<|zU (ct N H)
    intro bu N;exact zS<|yS<|zU (ct N H)
   intro kind1 bw aE hMc2;have H:=H.trans aE;exact yS<|zU (ct hMc2 H)
  intro kind aS aJ hMc1;have ⟨h2,h3,h4,H⟩:=m4 aJ h2 h3 h4 H;refine zO<|xN<|yG 4 [] [37,39,40] rfl ?_;obtain⟨⟨y4,y5⟩,aI,N⟩:=zC hMc1;refine xX (ih_spec_l3Parse s (W (y2+1)) aj _ aI ) ?_;rintro bI ax v2 k2 aX - ⟨v05,v06,rfl,rfl,⟨aL,rfl,h5⟩,rfl⟩ -;have ⟨h2,h3,h4,H⟩:=m4 aX h2 h3 h4 H;obtain⟨p3,c3,p4,c4,p5,c5,rfl,h7,h8,h9⟩:=wO h5;refine yG 8 [] [42,43] rfl<|vG zExpr ?_;intro b3 hb2;refine xW 0 (cExpr y4 p3 c3 p4 c4 p5 c5) rfl<|yQ [] [12] rfl<|zW<|yA ?_;refine wQ N [hB b3 (cExpr y4 p3 c3 p4 c4 p5 c5),hB b1 (cExpr y1 p c p1 c1 p2 c2),hB b zExpr] (λt51=>[(6,vP b 0),(8,vP b1 0),(10,vI kind),(11,vP b3 0),(12,vI y5),(51,.bool t51)]) (λo03 ho03=>?_) ?_
  ·have H:=iS bI;refine zL<|yG 3 [] [46] rfl<|wC [46] ho03 ?_ ?_
   ·intro bK N;exact wN [] [(51,vY)]<|yS<|zU (ct N H)
   intro bK N;exact yQ [] [51] rfl<|yS<|zU (ct N H)
  intro t51 bL bt hMc3;have ⟨h7,h8,h9,h2,h3,h4⟩:=m6 bt h7 h8 h9 h2 h3 h4;refine zI<|yC hMc3 ?_ ?_
  ·intro hc5 N;refine yE<|yG 1 [] [52] rfl<|dL 2 zExpr [hB b3 (cExpr y4 p3 c3 p4 c4 p5 c5),hB b1 (cExpr y1 p c p1 c1 p2 c2),hB b zExpr] rfl rfl rfl rfl<|yQ [] [7] rfl<|xJ<|zF ?_;obtain rfl:=zB N;exact xL ⟨_,_,(.cell 2 rfl rfl (by kernel_rfl) (.tmp rfl ResV.nil)),zN,⟨_,_,rfl,rfl,⟨_,rfl,(wK ⟨_,_,_,rfl,(SL.nil _),(SL.nil _),(SL.nil _)⟩)⟩,rfl⟩⟩
  intro hc5 N;refine zS<|xN<|qX 3 [1,0] [(53,vI kind),(54,vA (cExpr y1 p c p1 c1 p2 c2)),(55,vA (cExpr y4 p3 c3 p4 c4 p5 c5))]<|qB [vI y1.Kind,vI y1.Num,vS p y1.Index.Coefs c,vI y1.Index.Const,vT y1.Read.Array.l,vS p1 y1.Read.Subs c1,vS p2 y1.Kids c2,vI y4.Kind,vI y4.Num,vS p3 y4.Index.Coefs c3,vI y4.Index.Const,vT y4.Read.Array.l,vS p4 y4.Read.Subs c4,vS p5 y4.Kids c5] zD ?_;intro b4 hb3;have h10:RL bL [vI y1.Kind,vI y1.Num,vS p y1.Index.Coefs c,vI y1.Index.Const,vT y1.Read.Array.l,vS p1 y1.Read.Subs c1,vS p2 y1.Kids c2,vI y4.Kind,vI y4.Num,vS p3 y4.Index.Coefs c3,vI y4.Index.Const,vT y4.Read.Array.l,vS p4 y4.Read.Subs c4,vS p5 y4.Kids c5] ([y1,y4]:List zD):=⟨(cExpr y1 p c p1 c1 p2 c2),_,rfl,rfl,(wK ⟨_,_,_,rfl,h2,h3,h4⟩),⟨(cExpr y4 p3 c3 p4 c4 p5 c5),_,rfl,rfl,(wK ⟨_,_,_,rfl,h7,h8,h9⟩),rfl⟩⟩;refine yG 7 [] [57,59] rfl<|xW 3 [vI kind,vI 0,z0,vI 0,vT ([]),z0,vS (some ⟨b4,0,none⟩) ([y1,y4]:List zD) 2] rfl<|yQ [] [7] rfl<|xJ<|wH 0 rfl ?_;intro I06 bx hl0;have h11:=SL.of_frozen hl0 bx h10;obtain rfl:=zB N;exact xL ⟨_,_,(.cell 2 rfl rfl (by kernel_rfl) (.tmp rfl ResV.nil)),zN,⟨_,_,rfl,rfl,⟨_,rfl,(wK ⟨_,_,_,rfl,(SL.nil _),(SL.nil _),h11⟩)⟩,rfl⟩⟩
 intro F_spec_l3Round ih_spec_l3Round s at0 aj r N I;refine yP func86 λB=>?_;have H:=iS I;refine yE<|vG zExpr ?_;intro b hb;refine wN [] []<|zW<|yA ?_;refine wQ N [hB b zExpr] (λt26=>[(0,vT s.l),(1,vI at0),(2,vI aj),(6,vP b 0),(26,.bool t26)]) (λo0 az=>?_) ?_
 ·have H:=iS I;refine zL<|yG 3 [] [17] rfl<|wC [17] az ?_ ?_
  ·intro hc N;exact wN [] [(26,vY)]<|yS<|zU (ct N H)
  intro hc N;refine yG 7 [] [21] rfl<|wC [21] N ?_ ?_
  ·intro aD N;exact wN [] [(26,vY)]<|yS<|zU (ct N H)
  intro aD N;exact yQ [] [26] rfl<|yS<|zU (ct N H)
 intro t26 I0 le aM;have H:=H.trans le;refine zI<|yC aM ?_ ?_
 ·intro aQ N;refine yE<|yG 1 [] [27] rfl<|dL 0 zExpr [hB b zExpr] rfl rfl rfl rfl<|yQ [] [7] rfl<|xJ<|zF ?_;obtain rfl:=zB N;exact xL ⟨_,_,(.cell 0 rfl rfl (by kernel_rfl) (.tmp rfl ResV.nil)),zN,⟨_,_,rfl,rfl,⟨_,rfl,(wK ⟨_,_,_,rfl,(SL.nil _),(SL.nil _),(SL.nil _)⟩)⟩,rfl⟩⟩
 intro aQ N;refine zS<|zW<|yK<|yE<|yG 2 [] [29,30] rfl<|bE N λb1 hy N=>zAD rfl rfl hy<|yQ [] [28] rfl<|zI<|yC N ?_ ?_
 ·intro bu N;refine yE<|yG 2 [] [33,34] rfl<|bE N λy ay N=>fN (zBK s at0 (125:UInt8) _ ay ) λaP af=>wN [] [(8,vI y)]<|zW<|wM [(37,.bool (decide (y<0)))]<|zI<|yC N ?_ ?_
  ·intro bK N;refine yE<|yG 1 [] [38] rfl<|dL 0 zExpr [hB b zExpr] rfl rfl rfl rfl<|yQ [] [7] rfl<|xJ<|zF<|zR<|zF ?_;obtain rfl:=zB N;exact xL ⟨_,_,(.cell 0 rfl rfl (by kernel_rfl) (.tmp rfl ResV.nil)),zN,⟨_,_,rfl,rfl,⟨_,rfl,(wK ⟨_,_,_,rfl,(SL.nil _),(SL.nil _),(SL.nil _)⟩)⟩,rfl⟩⟩
  intro bK N;refine zS<|xN<|yG 4 [] [40,42,43] rfl<|bE N λs1 aI N=>zEd rfl aI ?_;obtain⟨⟨y2,y3⟩,aW,N⟩:=zC N;refine xX (dE s1 _ aW ) ?_;rintro aS ax v2 k2 aE - ⟨v01,v02,rfl,rfl,⟨cs,rfl,h1⟩,rfl⟩ -;obtain⟨p,c,rfl,h3⟩:=yD h1;refine yG 9 [] [46,47] rfl<|vG [z0,vI 0] ?_;intro b2 hb1;refine xW 0 (cAff y2 p c) rfl<|wN [] []<|xN<|qX 4 [0] [(49,vA [vI 2,vI 0,vS p y2.Coefs c,vI y2.Const,vT ([]),z0,z0]),(51,vI (W (y+1)))]<|xW 1 [vI 2,vI 0,vS p y2.Coefs c,vI y2.Const,vT ([]),z0,z0] rfl<|yQ [] [7] rfl<|xJ<|zR<|zF ?_;obtain rfl:=zB N;exact xL ⟨_,_,(.cell 1 rfl rfl (by kernel_rfl) (.tmp rfl ResV.nil)),zN,⟨_,_,rfl,rfl,⟨_,rfl,(wK ⟨_,_,_,rfl,h3,(SL.nil _),(SL.nil _)⟩)⟩,rfl⟩⟩
 intro bu N;refine yA ?_;refine wQ N [hB b zExpr] (λt52=>[(0,vT s.l),(1,vI at0),(2,vI aj),(6,vP b 0),(52,.bool t52)]) (λaO aB=>?_) ?_
 ·have H:=iS I0;refine zL<|yG 2 [] [53,54] rfl ?_;obtain⟨b3,br,N⟩:=zC aB;refine zAD rfl rfl br<|yG 5 [] [57] rfl<|wC [57] N ?_ ?_
  ·intro hc5 N;exact yG 7 [] [58,59] rfl<|bE N λb4 bB N=>zAD rfl rfl bB<|yQ [] [52] rfl<|yS<|zU (ct N H)
  intro hc5 N;exact wN [] [(52,vF)]<|yS<|zU (ct N H)
 intro t52 bw aJ hMc1;refine zI<|yC hMc1 ?_ ?_
 ·intro hc6 N;refine yE<|yG 2 [] [64,65] rfl ?_;obtain⟨⟨y5,y6⟩,hy6,N⟩:=zC N;refine xX (fX s at0 _ hy6 ) ?_;rintro bI ax v2 k2 aX - ⟨v04,v05,rfl,rfl,⟨aL,rfl,h4⟩,rfl⟩ -;obtain⟨p1,c1,rfl,h6⟩:=nW h4;refine yG 6 [] [67,68] rfl<|vG [vT ([]),z0] ?_;intro b5 hb2;refine xW 0 (cAccess y5 p1 c1) rfl<|yQ [] [12] rfl<|xN<|qX 3 [0] [(70,vA [vI 3,vI 0,z0,vI 0,vT y5.Array.l,vS p1 y5.Subs c1,z0]),(71,vI y6)]<|xW 1 [vI 3,vI 0,z0,vI 0,vT y5.Array.l,vS p1 y5.Subs c1,z0] rfl<|yQ [] [7] rfl<|xJ<|zR<|zF ?_;obtain rfl:=zB N;exact xL ⟨_,_,(.cell 1 rfl rfl (by kernel_rfl) (.tmp rfl ResV.nil)),zN,⟨_,_,rfl,rfl,⟨_,rfl,(wK ⟨_,_,_,rfl,(SL.nil _),h6,(SL.nil _)⟩)⟩,rfl⟩⟩
 intro hc6 N;refine yE<|yG 2 [] [73,74] rfl<|bE N λb6 hy7 N=>zAD rfl rfl hy7<|yQ [] [72] rfl<|zI<|yC N ?_ ?_
 ·intro hc7 N;refine yE<|yG 5 [] [77,79,81] rfl ?_;obtain⟨⟨y8,y9⟩,hy8,N⟩:=zC N;refine xX (ih_spec_l3Round s (W (at0+1)) (W (aj - 1)) _ hy8 ) ?_;rintro bL ax v2 k2 bt - ⟨v07,v08,rfl,rfl,⟨bf,rfl,h7⟩,rfl⟩ -;obtain⟨p2,c2,p3,c3,p4,c4,rfl,h9,h10,h11⟩:=wO h7;refine yG 8 [] [83,84] rfl<|xW 0 (cExpr y8 p2 c2 p3 c3 p4 c4) rfl<|yQ [] [7] rfl<|xJ<|zR<|zF ?_;obtain rfl:=zB N;exact xL ⟨_,_,(.cell 0 rfl rfl (by kernel_rfl) (.tmp rfl ResV.nil)),zN,⟨_,_,rfl,rfl,⟨_,rfl,(wK ⟨_,_,_,rfl,h9,h10,h11⟩)⟩,rfl⟩⟩
 intro hc7 N;refine zS<|zO<|xN<|yG 2 [] [86,87] rfl ?_;obtain⟨⟨y11,y12⟩,hy9,N⟩:=zC N;refine xX (zAe s at0 _ hy9 ) ?_;rintro I06 ax v2 k2 bx - ⟨v012,v013,rfl,rfl,rfl,rfl⟩ -;refine yQ [] [13,14] rfl<|zW<|yJ [93] rfl<|zI<|yC N ?_ ?_
 ·intro hc8 N;refine yE<|yG 1 [] [94] rfl<|dL 0 zExpr [hB b zExpr] rfl rfl rfl rfl<|yQ [] [7] rfl<|xJ<|zF ?_;obtain rfl:=zB N;exact xL ⟨_,_,(.cell 0 rfl rfl (by kernel_rfl) (.tmp rfl ResV.nil)),zN,⟨_,_,rfl,rfl,⟨_,rfl,(wK ⟨_,_,_,rfl,(SL.nil _),(SL.nil _),(SL.nil _)⟩)⟩,rfl⟩⟩
 intro hc8 N;refine zS<|xN<|yG 3 [] [96,97] rfl<|xW 0 [vI 1,vI y11,z0,vI 0,vT ([]),z0,z0] rfl<|yQ [] [7] rfl<|zI<|yX ?_;obtain rfl:=zB N;exact xL ⟨_,_,(.cell 0 rfl rfl (by kernel_rfl) (.tmp rfl ResV.nil)),zN,⟨_,_,rfl,rfl,⟨_,rfl,(wK ⟨_,_,_,rfl,(SL.nil _),(SL.nil _),(SL.nil _)⟩)⟩,rfl⟩⟩
theorem zEq:∀s at0 aj r,qR s at0 aj=some r->∀{I:Imm} ,RT 86 [vT s.l,vI at0,vI aj] I [] (fV  r):=zEO.2
def zCM(r:zM×Bool):KT:=λkk I' ai v=>
 ∃v0 v1,ai=[]/\v=tupV [v0,v1]/\(∃cs,v0=.agg ⟨cs⟩/\Rp.rep I' cs r.1)/\v1=.bool r.2
def kV(bq:Str):Option (zM×Bool):=do
 if(decide ((bq.l.length:Int)<4)) then
  pure ((zM.mk (zH.mk (⟨[]⟩:Str) ([]:List zA)) (zD.mk 0 0 (zA.mk ([]:List Int) 0) (zH.mk (⟨[]⟩:Str) ([]:List zA)) ([]:List zD))),false)
 else
  let (y1,y2)<-rP bq 0
  let t25<-(do
   if(decide (y2<0)) then
    pure true
   else
    pure (decide (y2>=(bq.l.length:Int)))
     : Option Bool)
  if t25 then
   pure ((zM.mk (zH.mk (⟨[]⟩:Str) ([]:List zA)) (zD.mk 0 0 (zA.mk ([]:List Int) 0) (zH.mk (⟨[]⟩:Str) ([]:List zA)) ([]:List zD))),false)
  else
   let (y4,y5)<-qR bq (W (y2+1)) 5
   let y6<-mS (zM.mk y1 y4)
   if(!(y6.l==bq.l)) then
    pure ((zM.mk (zH.mk (⟨[]⟩:Str) ([]:List zA)) (zD.mk 0 0 (zA.mk ([]:List Int) 0) (zH.mk (⟨[]⟩:Str) ([]:List zA)) ([]:List zD))),false)
   else
    pure ((zM.mk y1 y4),true)
theorem zDY:∀bq r,kV bq=some r->∀{I:Imm} ,RT 34 [vT bq.l] I [] (zCM  r):=by
 intro bq r N I;unfold kV at N;refine yP func34 λB=>?_;have H:=iS I;refine yE<|vG [vT ([]),z0,vI 0,vI 0,z0,vI 0,vT ([]),z0,z0] ?_;intro b hb;refine wN [] []<|zW<|yJ [11] rfl<|zI<|yC N ?_ ?_
 ·intro hc N;refine yE<|yG 1 [] [12] rfl<|xW 0 [vT ([]),z0,vI 0,vI 0,z0,vI 0,vT ([]),z0,z0] rfl<|wN [] [(3,vF)]<|xJ<|zF ?_;obtain rfl:=zB N;exact xL ⟨_,_,(.cell 0 rfl rfl (by kernel_rfl) (.tmp rfl ResV.nil)),zN,⟨_,_,rfl,rfl,⟨_,rfl,(wV ⟨_,_,_,_,rfl,(SL.nil _),(SL.nil _),(SL.nil _),(SL.nil _)⟩)⟩,rfl⟩⟩
 intro hc N;refine zS<|xN<|yG 1 [] [14] rfl ?_;obtain⟨⟨y1,y2⟩,hy,N⟩:=zC N;refine xX (fX bq 0 _ hy ) ?_;rintro I0 ax v2 k2 le - ⟨v0,v01,rfl,rfl,⟨cs,rfl,h⟩,rfl⟩ -;have H:=H.trans le;obtain⟨p,c,rfl,h2⟩:=nW h;refine yG 5 [] [16,17] rfl<|vG [vT ([]),z0] ?_;intro b1 hb1;refine xW 0 (cAccess y1 p c) rfl<|yQ [] [5] rfl<|zW<|yA ?_;refine wQ N [hB b1 (cAccess y1 p c),hB b [vT ([]),z0,vI 0,vI 0,z0,vI 0,vT ([]),z0,z0]] (λt25=>[(0,vT bq.l),(2,vP b 0),(4,vP b1 0),(5,vI y2),(25,.bool t25)]) (λo0 az=>?_) ?_
 ·have H:=iS I0;refine zL<|yG 3 [] [20] rfl<|wC [20] az ?_ ?_
  ·intro aD N;exact wN [] [(25,vY)]<|yS<|zU (ct N H)
  intro aD N;exact yQ [] [25] rfl<|yS<|zU (ct N H)
 intro t25 aP af aM;have h2:=h2.mono af;refine zI<|yC aM ?_ ?_
 ·intro aQ N;refine yE<|yG 1 [] [26] rfl<|xW 1 [vT ([]),z0,vI 0,vI 0,z0,vI 0,vT ([]),z0,z0] rfl<|wN [] [(3,vF)]<|xJ<|zF ?_;obtain rfl:=zB N;exact xL ⟨_,_,(.cell 1 rfl rfl (by kernel_rfl) (.tmp rfl ResV.nil)),zN,⟨_,_,rfl,rfl,⟨_,rfl,(wV ⟨_,_,_,_,rfl,(SL.nil _),(SL.nil _),(SL.nil _),(SL.nil _)⟩)⟩,rfl⟩⟩
 intro aQ N;refine zS<|xN<|yG 3 [] [28,30] rfl ?_;obtain⟨⟨y4,y5⟩,ay,N⟩:=zC N;refine xX (zEq bq (W (y2+1)) 5 _ ay ) ?_;rintro aS ax v2 k2 aE - ⟨v03,v04,rfl,rfl,⟨aL,rfl,h3⟩,rfl⟩ -;have h2:=h2.mono aE;obtain⟨p1,c1,p2,c2,p3,c3,rfl,h5,h6,h7⟩:=wO h3;refine yG 7 [] [32,33] rfl<|vG zExpr ?_;intro b2 hb2;refine xW 0 (cExpr y4 p1 c1 p2 c2 p3 c3) rfl<|wN [] []<|xN<|qX 3 [1,0] [(36,vA [vT y1.Array.l,vS p y1.Subs c,vI y4.Kind,vI y4.Num,vS p1 y4.Index.Coefs c1,vI y4.Index.Const,vT y4.Read.Array.l,vS p2 y4.Read.Subs c2,vS p3 y4.Kids c3])]<|vG [vT ([]),z0,vI 0,vI 0,z0,vI 0,vT ([]),z0,z0] ?_;intro b3 hb3;refine xW 0 [vT y1.Array.l,vS p y1.Subs c,vI y4.Kind,vI y4.Num,vS p1 y4.Index.Coefs c1,vI y4.Index.Const,vT y4.Read.Array.l,vS p2 y4.Read.Subs c2,vS p3 y4.Kids c3] rfl<|yB rfl<|zW<|yE<|qX 1 [0] [(37,vA [vT y1.Array.l,vS p y1.Subs c,vI y4.Kind,vI y4.Num,vS p1 y4.Index.Coefs c1,vI y4.Index.Const,vT y4.Read.Array.l,vS p2 y4.Read.Subs c2,vS p3 y4.Kids c3])]<|bE N λy6 aI N=>xX (zCh (zM.mk y1 y4) _ aI h2 h5 h6 h7) ?_;rintro bw ax v2 k2 aJ - ⟨v08,rfl,rfl,rfl⟩ -;have ⟨h2,h5,h6,h7⟩:=m4 aJ h2 h5 h6 h7;refine yQ [] [40] rfl<|zI<|yC N ?_ ?_
 ·intro bu N;refine yE<|yG 1 [] [41] rfl<|xW 3 [vT ([]),z0,vI 0,vI 0,z0,vI 0,vT ([]),z0,z0] rfl<|wN [] [(3,vF)]<|xJ<|zF ?_;obtain rfl:=zB N;exact xL ⟨_,_,(.cell 3 rfl rfl (by kernel_rfl) (.tmp rfl ResV.nil)),zN,⟨_,_,rfl,rfl,⟨_,rfl,(wV ⟨_,_,_,_,rfl,(SL.nil _),(SL.nil _),(SL.nil _),(SL.nil _)⟩)⟩,rfl⟩⟩
 intro bu N;refine zS<|xN<|qX 1 [0] [(42,vA [vT y1.Array.l,vS p y1.Subs c,vI y4.Kind,vI y4.Num,vS p1 y4.Index.Coefs c1,vI y4.Index.Const,vT y4.Read.Array.l,vS p2 y4.Read.Subs c2,vS p3 y4.Kids c3])]<|xW 3 [vT y1.Array.l,vS p y1.Subs c,vI y4.Kind,vI y4.Num,vS p1 y4.Index.Coefs c1,vI y4.Index.Const,vT y4.Read.Array.l,vS p2 y4.Read.Subs c2,vS p3 y4.Kids c3] rfl<|wN [] [(3,vY)]<|zI<|yX ?_;obtain rfl:=zB N;exact xL ⟨_,_,(.cell 3 rfl rfl (by kernel_rfl) (.tmp rfl ResV.nil)),zN,⟨_,_,rfl,rfl,⟨_,rfl,(wV ⟨_,_,_,_,rfl,h2,h5,h6,h7⟩)⟩,rfl⟩⟩
def nN(v0:Int):Option (zA):=do
 let y<-oQ
 let x<-idx y.Coefs v0
 let l<-pure (y.Coefs.set v0.toNat 1)
 pure (zA.mk l y.Const)
theorem gZ:∀v0 r,nN v0=some r->∀{I:Imm} ,RT 172 [vI v0] I [] (jG  r):=by
 intro v0 r N I;unfold nN at N;refine yP func172 λB=>yE<|vG [z0,vI 0] ?_;intro b hb;refine yB rfl<|xN<|bE N λy hy N=>xX (kT  _ hy ) ?_;rintro I0 ax v2 k2 le - ⟨p,c,cs,rfl,rfl,h⟩ -;refine vG [z0,vI 0] ?_;intro b1 hb1;refine xW 0 (cAff y p c) rfl<|yB rfl<|xN<|yG 3 [0] [6,7] rfl<|bE N λx ay N=>gR 1 rfl rfl rfl h ay ?_;intro ad aK ar bJ al;obtain rfl:=al;obtain⟨l,aI,N⟩:=zC N;refine nV (c:=[vI 1]) (x':=1) 1 0 rfl rfl rfl ar rfl rfl bJ (by kernel_rfl) (by kernel_rfl) (by kernel_rfl) h ay (by kernel_rfl) rfl ?_;rw[show y.Coefs.set v0.toNat 1=l from zB aI];intro aL h1 hl0;refine fM (m':=[(2,vP b 0),(3,vP b1 0),(6,vS p y.Coefs c),(7,vI v0)]) ⟨rfl,rfl,rfl,rfl,trivial⟩<|zDs (ai:=[hB b1 [vS p l c,vI y.Const],hO Int (vS p l c) aL,hB b [z0,vI 0]]) (m':=[(2,vP b 0),(3,vP b1 0),(6,vS p l c),(7,vI v0)]) (by first|rfl|simp only[vS,hl0,cM,cy,d5,dl,di,dj]) (by first|rfl|simp only[vS,hl0])<|yB rfl<|xN<|qX 1 [0] [(9,vA [vS p l c,vI y.Const])]<|xW 2 [vS p l c,vI y.Const] rfl<|yB rfl<|xJ<|wH 1 rfl ?_;intro aP af hl01;have h2:=SL.of_frozen hl01 af h1;obtain rfl:=zB N;exact xL ⟨_,_,(.cell 1 rfl rfl (by kernel_rfl) ResV.nil),zN,⟨_,rfl,rfl,⟨_,rfl,(yO ⟨_,rfl,h2⟩)⟩⟩⟩
def wW(n0:Int):Option (zA):=do
 let y<-oQ
 pure (zA.mk y.Coefs n0)
theorem uH:∀n0 r,wW n0=some r->∀{I:Imm} ,RT 173 [vI n0] I [] (zAd  r):=by
 intro n0 r N I;unfold wW at N;refine yP func173 λB=>yE<|vG [z0,vI 0] ?_;intro b hb;refine yB rfl<|xN<|bE N λy hy N=>xX (kT  _ hy ) ?_;rintro I0 ax v2 k2 le - ⟨p,c,cs,rfl,rfl,h⟩ -;refine vG [z0,vI 0] ?_;intro b1 hb1;refine xW 0 (cAff y p c) rfl<|yB rfl<|xN<|yG 2 [] [5,6] rfl<|xW 0 [vS p y.Coefs c,vI n0] rfl<|yB rfl<|xN<|qX 1 [0] [(7,vA [vS p y.Coefs c,vI n0])]<|xW 2 [vS p y.Coefs c,vI n0] rfl<|yB rfl<|zI<|yX ?_;obtain rfl:=zB N;exact xL ⟨_,_,(.cell 2 rfl rfl (by kernel_rfl) ResV.nil),(zV [1] rfl (by decide)),⟨_,_,_,rfl,rfl,h⟩⟩
def sI(a0:zA)(x:Int)(b:zA)(y:Int)(i:Int)(Coefs:List Int):Option (List Int):=do
 if(decide (i<4)) then
  let x1<-idx a0.Coefs i
  let x2<-idx b.Coefs i
  let l<-app 8 Coefs ([(W ((W (x*x1))+(W (y*x2))))]:List Int)
  sI a0 x b y (W (i+1)) l
 else
  pure (id Coefs)
 partial_fixpoint
theorem zBj(a0:zA)(x:Int)(b:zA)(y:Int):∀(i:Int) (Coefs:List Int) (o:List Int),sI a0 x b y i Coefs=some o->∀{B}{I0 I:Imm}{Q p c p1 c1}{b1:Nat}{b2:Nat}{b3:Nat}{b4:Nat}{p2 c2 cs},I0.le I->(S4 I p1 b.Coefs c1)->(S4 I p a0.Coefs c)->(RL I cs Coefs)->NG Q->NO Q->(∀(I':Imm) (Coefs1:List Int) (p3:Option Addr) (c3:Nat) (aL:List Value),o=Coefs1->I0.le I'->(RL I' aL Coefs1)->T 46 B Q (.exit 0) I' [hO Int (vS p3 Coefs1 c3) aL,hB b4 [vS p3 Coefs1 c3,vI (W ((W (x*a0.Const))+(W (y*b.Const))))],hB b3 [z0,vI 0]] [(8,vP b3 0),(9,vP b4 0)])->J Tryz.prog 46 B (nav (bodyOf f179) [1,1,0,1,0]) Q I [hO Int (vS p2 Coefs c2) cs,hB b4 [vS p2 Coefs c2,vI (W ((W (x*a0.Const))+(W (y*b.Const))))],hB b3 [z0,vI 0],hB b2 (cAff b p1 c1),hB b1 (cAff a0 p c)] [(1,vI x),(3,vI y),(4,vP b1 0),(6,vP b2 0),(8,vP b3 0),(9,vP b4 0),(10,vI i)]:=by
 refine sI.partial_correctness a0 x b y _ λaN ih i Coefs o N B I0 I Q p c p1 c1 b1 b2 b3 b4 p2 c2 cs H h1 h h3 hg ho hx=>yY hg ho<|yA<|yJ [22] rfl<|zI<|yC N ?_ ?_
 ·intro hc N;refine zS<|zW<|yK ?_;obtain⟨x1,hy,N⟩:=zC N;obtain⟨x2,ay,N⟩:=zC N;obtain⟨l,aI,N⟩:=zC N;refine wU [.p (vP b4 0) [],.p (vS p2 Coefs c2) [0],.p (vI x) [],.p (vP b1 0) [],.p (vS p a0.Coefs c) [3],.p (vI i) [],.x (λI' v hx=>∃ad,v=.pointer (some ad)/\hx=[]/\(At I' ad [vI x1])),.q (vI x1),.p (vI (W (x*x1))) [],.p (vI y) [],.p (vP b2 0) [],.p (vS p1 b.Coefs c1) [2],.p (vI i) [],.x (λI' v hx=>∃ad1,v=.pointer (some ad1)/\hx=[]/\(At I' ad1 [vI x2])),.q (vI x2),.p (vI (W (y*x2))) [],.p (vI (W ((W (x*x1))+(W (y*x2))))) [],.x (λI' v hx=>∃b5,v=vS (some ⟨b5,0,none⟩) ([(W ((W (x*x1))+(W (y*x2))))]:List Int) 1/\hx=[]/\(SL I' (vS (some ⟨b5,0,none⟩) ([(W ((W (x*x1))+(W (y*x2))))]:List Int) 1) ([(W ((W (x*x1))+(W (y*x2))))]:List Int))),.x (λI' v hx=>∃p4 c4 bf,v=vS p4 l c4/\hx=[hO Int (vS p4 l c4) bf]/\(RL I' bf l))] [[],[(0,false)],[],[],[(3,false)],[],[(4,false),(5,false)],[(6,false)],[(2,false),(7,false)],[],[],[(10,false)],[],[(11,false),(12,false)],[(13,false)],[(9,false),(14,false)],[(8,false),(15,false)],[(16,false)],[(1,false),(17,false),(21,true)]] [hB b4 [vS p2 Coefs c2,vI (W ((W (x*a0.Const))+(W (y*b.Const))))],hB b3 [z0,vI 0],hB b2 (cAff b p1 c1),hB b1 (cAff a0 p c)] [[hO Int (vS p2 Coefs c2) cs]] [(18,true)] (zY [1,2,3,4,0]) ?_ ?_
  ·refine Op<|Op<|Op<|Op<|Op<|Op<|Ox ?_<|Oq ?_<|Op<|Op<|Op<|Op<|Op<|Ox ?_<|Oq ?_<|Op<|Op<|Ox ?_<|Ox ?_<|On
   ·intro I1 hf af;refine yV [29,30] rfl ?_;have h:=h.mono af;refine wB rfl rfl h hy ?_;intro ad aK ar al;obtain rfl:=al;exact yR [] iR ⟨_,rfl,rfl,ar⟩
   ·rintro I1 hf af _ _ ⟨ad,rfl,rfl,ar⟩;exact yV [31] rfl<|xU 0 ar [vI x1] (vI x1) rfl<|xA iR
   ·intro I1 hf af;refine yV [36,37] rfl ?_;have h1:=h1.mono af;refine wB rfl rfl h1 ay ?_;intro ad1 bi ap aw;obtain rfl:=aw;exact yR [] iR ⟨_,rfl,rfl,ap⟩
   ·rintro I1 hf af _ _ ⟨ad1,rfl,rfl,ap⟩;exact yV [38] rfl<|xU 0 ap [vI x2] (vI x2) rfl<|xA iR
   ·intro I1 hf af;refine yV [41] rfl ?_;have H:=iS I1;refine mX (rI [(W ((W (x*x1))+(W (y*x2))))]) ?_;intro b5 I0 le h6;have H:=H.trans le;exact yR [] H ⟨_,rfl,rfl,h6⟩
   rintro I1 hf af _ _ ⟨rfl,rfl⟩ _ _ ⟨b5,rfl,rfl,h6⟩ _ _ rfl;refine yV [26,42] rfl ?_;have h3:=iM af h3;obtain⟨bP,k0,k01⟩:=h6;have h6:SL I1 (vS (some ⟨b5,0,none⟩) ([(W ((W (x*x1))+(W (y*x2))))]:List Int) 1) ([(W ((W (x*x1))+(W (y*x2))))]:List Int):=⟨_,k0,k01⟩;exact mD 3 1 0 rfl rfl rfl h3 (.inl k0) k01 aI λp4 c4 bf h7=>uY (ai:=(hO Int (vS p4 l c4) bf::hB b4 [vS p2 Coefs c2,vI (W ((W (x*a0.Const))+(W (y*b.Const))))]::hB b3 [z0,vI 0]::hB b2 (cAff b p1 c1)::hB b1 (cAff a0 p c)::hf)) rfl<|yR [hO Int (vS p4 l c4) bf] iR ⟨_,_,_,rfl,rfl,h7⟩
  rintro aP af _ _ ⟨p4,c4,bf,rfl,rfl,h7⟩;refine yV [1,3,4,6,8,9,10,43] rfl ?_;have ⟨h1,h,H⟩:=m3 af h1 h H;exact yG 20 [] [44] rfl<|xW 1 [vS p4 l c4,vI (W ((W (x*a0.Const))+(W (y*b.Const))))] rfl<|yB rfl<|zO<|zI<|zL<|yQ [] [10] rfl<|yW<|mE<|ih (W (i+1)) l _ N H h1 h h7 hg ho hx
 intro hc N;exact vQ<|wD (zV [0,1,2] rfl (by decide))<|yS<|hx _ _ _ _ _ (zB N).symm H h3
def nS(a0:zA)(x:Int)(b:zA)(y:Int):Option (zA):=do
 let Coefs1<-sI a0 x b y 0 ([]:List Int)
 pure (zA.mk Coefs1 (W ((W (x*a0.Const))+(W (y*b.Const)))))
theorem zAO:∀a0 x b y r,nS a0 x b y=some r->∀{I:Imm}{p c p1 c1},(S4 I p a0.Coefs c)->(S4 I p1 b.Coefs c1)->RT 179 [vA (cAff a0 p c),vI x,vA (cAff b p1 c1),vI y] I [] (jG  r):=by
 intro a0 x b y r N I p c p1 c1 h h1;unfold nS at N;refine yP func179 λB=>yE<|vM (cAff a0 p c) ?_;intro b1 hb;refine vM (cAff b p1 c1) ?_;intro b2 hb1;refine vG [z0,vI 0] ?_;intro b3 hb2;refine yB rfl<|xN<|qX 10 [2,1] [(20,vA [z0,vI (W ((W (x*a0.Const))+(W (y*b.Const))))])]<|vG [z0,vI 0] ?_;intro b4 hb3;refine xW 0 [z0,vI (W ((W (x*a0.Const))+(W (y*b.Const))))] rfl<|yB rfl<|zW<|yJ [10] rfl<|wS<|oR [(1,vI x),(3,vI y),(4,vP b1 0),(6,vP b2 0),(8,vP b3 0),(9,vP b4 0),(10,vI 0)]<|zAm Int λh2=>?_;obtain⟨o0,az,aF⟩:=zC N;refine zBj a0 x b y 0 ([]:List Int) o0 az iR h1 h h2 (λ_ _ _ h=>h) (λ_ _ h=>h) ?_;intro aS Coefs1 p3 c3 aL heq aE h4;subst o0;refine zT<|xN<|qX 1 [1] [(45,vA [vS p3 Coefs1 c3,vI (W ((W (x*a0.Const))+(W (y*b.Const))))])]<|xW 2 [vS p3 Coefs1 c3,vI (W ((W (x*a0.Const))+(W (y*b.Const))))] rfl<|yB rfl<|xJ<|wH 0 rfl ?_;intro bw aJ hl01;have h8:=SL.of_frozen hl01 aJ h4;obtain rfl:=zB aF;exact xL ⟨_,_,(.cell 1 rfl rfl (by kernel_rfl) ResV.nil),zN,⟨_,rfl,rfl,⟨_,rfl,(yO ⟨_,rfl,h8⟩)⟩⟩⟩
def zEP(b0:Nat)(r:zE×zK):KT:=λkk I' ai v=>
 ∃v0 k0,ai=[.blk b0 ⟨k0⟩]/\v=tupV [v0]/\(∃cs,v0=.agg ⟨cs⟩/\Rp.rep I' cs r.1)/\Rp.rep I' k0 r.2
def fA(r0:zK)(aa:Int):Option (zE×zK):=do
 let (y1,y2)<-xD r0 ([0,0,1,0,(-1)]:List Int)
 let y3<-wW y1
 let (y5,y6)<-xD y2 ([3,4,2,3,1]:List Int)
 let y7<-wW y5
 let (t23,x)<-(do
  if(decide (aa>0)) then
   let (y9,y10)<-xC y6 4
   pure ((y9==0),y10)
  else
   pure (false,y6)
    : Option (Bool×zK))
 let (x1,x2,x3)<-(do
  if t23 then
   let (y12,y13)<-xC x aa
   let (y15,y16)<-xC y13 2
   let (x4,x5)<-(do
    if(y15==0) then
     let y17<-nN y12
     pure (y17,(zA.mk y7.Coefs y7.Const))
    else
     let y18<-nN y12
     let y19<-wW 1
     let y20<-nS y18 1 y19 1
     pure ((zA.mk y3.Coefs y3.Const),y20)
      : Option (zA×zA))
   pure (x4,x5,y16)
  else
   pure ((zA.mk y3.Coefs y3.Const),(zA.mk y7.Coefs y7.Const),x)
    : Option (zA×zA×zK))
 let (y22,y23)<-xC x3 12
 let (Lo,Hi,x6)<-(do
  if(y22==0) then
   let (y25,y26)<-xD y23 ([3,2,4]:List Int)
   let y27<-wW y25
   let l<-app 32 ([x2]:List zA) ([y27]:List zA)
   pure (([x1]:List zA),l,y26)
  else
   let (Lo1,x7)<-(do
    if(y22==1) then
     let (y29,y30)<-xD y23 ([0,1]:List Int)
     let y31<-wW y29
     let l1<-app 32 ([x1]:List zA) ([y31]:List zA)
     pure (l1,y30)
    else
     pure (([x1]:List zA),y23)
      : Option (List zA×zK))
   pure (Lo1,([x2]:List zA),x7)
    : Option (List zA×List zA×zK))
 pure ((zE.mk Lo Hi),x6)
theorem zF8:∀r0 aa r,fA r0 aa=some r->∀{I:Imm}{am:Nat}{p c},(S4 I p r0.b c)->RT 118 [vP am 0,vI aa] I [hB am (cRd r0 p c)] (zEP am r):=by
 intro r0 aa r N I am p c h;unfold fA at N;refine yP func118 λB=>?_;have H:=iS I;refine yE<|vG zTwo ?_;intro b hb;refine yB rfl<|xN<|yG 1 [] [9] rfl<|mX (rI [0,0,1,0,(-1)]) ?_;intro b1 I0 le h2;have ⟨h,H⟩:=m2 le h H;refine rS (zY [1,0] (ai:=[hB am (cRd r0 p c),hB b zTwo])) ?_;obtain⟨⟨y1,y2⟩,hy,N⟩:=zC N;refine sB (xP r0 ([0,0,1,0,(-1)]:List Int) _ hy h h2) rfl ?_;rintro aP ax v2 k2 af - ⟨v0,kk,rfl,rfl,rfl,h4⟩ -;have H:=H.trans af;obtain⟨p1,c1,rfl,h5⟩:=zZ h4;obtain⟨y3,ay,N⟩:=zC N;refine xX (uH y1 _ ay ) ?_;rintro aS ax v2 k2 aE - ⟨p2,c2,cs,rfl,rfl,h6⟩ -;have ⟨h5,H⟩:=m2 aE h5 H;refine vG [z0,vI 0] ?_;intro b2 hb2;refine xW 0 (cAff y3 p2 c2) rfl<|yB rfl<|xN<|yG 1 [] [13] rfl<|mX (rI [3,4,2,3,1]) ?_;intro b3 bw aJ h8;have ⟨h6,h5,H⟩:=m3 aJ h6 h5 H;refine rS (zY [2,0,1,3] (ai:=[hB am (cRd y2 p1 c1),hB b2 (cAff y3 p2 c2),hO Int (vS p2 y3.Coefs c2) cs,hB b zTwo])) ?_;obtain⟨⟨y5,y6⟩,aI,N⟩:=zC N;refine sB (xP y2 ([3,4,2,3,1]:List Int) _ aI h5 h8) rfl ?_;rintro bI ax v2 k2 aX - ⟨v02,kk1,rfl,rfl,rfl,h10⟩ -;have ⟨h6,H⟩:=m2 aX h6 H;obtain⟨p3,c3,rfl,h11⟩:=zZ h10;obtain⟨y7,aW,N⟩:=zC N;refine xX (uH y5 _ aW ) ?_;rintro bL ax v2 k2 bt - ⟨p4,c4,aL,rfl,rfl,h12⟩ -;have ⟨h11,h6,H⟩:=m3 bt h11 h6 H;refine vG [z0,vI 0] ?_;intro b4 hb4;refine xW 0 (cAff y7 p4 c4) rfl<|yB rfl<|zW<|yA ?_;obtain⟨o0,az,aM⟩:=zC N;refine nH (λI' ai m'=>∃(t23:Bool) (x:zK) (p5:Option Addr) (c5:Nat),o0=(t23,x)/\bL.le I'/\(S4 I' p5 x.b c5)/\ai=[hB b4 (cAff y7 p4 c4),hO Int (vS p4 y7.Coefs c4) aL,hB am (cRd x p5 c5),hB b2 (cAff y3 p2 c2),hO Int (vS p2 y3.Coefs c2) cs,hB b zTwo]/\m'=[(0,vP am 0),(1,vI aa),(4,vP b 0),(5,vP b2 0),(6,vP b4 0),(23,.bool t23)]) ?_ ?_
 ·have H:=iS bL;refine zL<|yG 3 [] [19] rfl<|wC [19] az ?_ ?_
  ·intro hc N;refine yG 4 [] [20] rfl<|rS (zY [2,0,1,3,4,5] (ai:=[hB am (cRd y6 p3 c3),hB b4 (cAff y7 p4 c4),hO Int (vS p4 y7.Coefs c4) aL,hB b2 (cAff y3 p2 c2),hO Int (vS p2 y3.Coefs c2) cs,hB b zTwo])) ?_;obtain⟨⟨y9,y10⟩,br,N⟩:=zC N;refine sB (xY y6 4 _ br h11) rfl ?_;rintro I07 ax v2 k2 bx - ⟨v04,kk2,rfl,rfl,rfl,h15⟩ -;have H:=H.trans bx;obtain⟨p6,c6,rfl,h16⟩:=zZ h15;exact yQ [] [23] rfl<|wD (zV [1,2,0,3,4,5] rfl (by decide))<|yS<|zU ⟨_,_,_,_,(zB N).symm,H,h16,rfl,rfl⟩
  intro hc N;exact wN [] [(23,vF)]<|yS<|zU ⟨_,_,_,_,(zB N).symm,H,h11,rfl,rfl⟩
 rintro I06 ax m2 ⟨t23,x,p5,c5,heq,le7,h13,rfl,rfl⟩;subst o0;have ⟨h12,h6,H⟩:=m3 le7 h12 h6 H;refine zI<|nU 4 rfl ?_;intro I08 le8 hl02;have h17:=SL.of_frozen hl02 le8 h6;have ⟨h12,h13,H⟩:=m3 le8 h12 h13 H;refine nU 1 rfl ?_;intro I09 le9 hl03;have h18:=SL.of_frozen hl03 le9 h12;have ⟨h13,h17,H⟩:=m3 le9 h13 h17 H;obtain⟨aO,aB,hMc1⟩:=zC aM;refine nH (λI' ai m'=>∃(x1:zA) (x2:zA) (x3:zK) (p7:Option Addr) (c7:Nat) (p8:Option Addr) (c8:Nat) (p9:Option Addr) (c9:Nat),aO=(x1,x2,x3)/\I09.le I'/\(S4 I' p7 x1.Coefs c7)/\(S4 I' p8 x2.Coefs c8)/\(S4 I' p9 x3.b c9)/\ai=[hB b4 (cAff x2 p8 c8),hB am (cRd x3 p9 c9),hB b2 (cAff x1 p7 c7),hB b zTwo]/\m'=[(0,vP am 0),(4,vP b 0),(5,vP b2 0),(6,vP b4 0)]) ?_ ?_
 ·have H:=iS I09;refine yC aB ?_ ?_
  ·intro aD N;refine yE<|yG 2 [] [24,25] rfl<|rS (zY [1,0,2,3] (ai:=[hB am (cRd x p5 c5),hB b4 (cAff y7 p4 c4),hB b2 (cAff y3 p2 c2),hB b zTwo])) ?_;obtain⟨⟨y12,y13⟩,bB,N⟩:=zC N;refine sB (xY x aa _ bB h13) rfl ?_;rintro bW ax v2 k2 le10 - ⟨v06,kk3,rfl,rfl,rfl,h23⟩ -;have ⟨h18,h17,H⟩:=m3 le10 h18 h17 H;obtain⟨aZ,ba,rfl,h24⟩:=zZ h23;refine yQ [] [7] rfl<|xN<|yG 1 [] [27] rfl ?_;obtain⟨⟨y15,y16⟩,hy6,N⟩:=zC N;refine sB (xY y13 2 _ hy6 h24) rfl ?_;rintro bV ax v2 k2 le11 - ⟨v08,kk4,rfl,rfl,rfl,h26⟩ -;have ⟨h18,h17,H⟩:=m3 le11 h18 h17 H;obtain⟨aT,aU,rfl,h27⟩:=zZ h26;refine yQ [] [29] rfl<|zI ?_;obtain⟨o02,ho02,hMc2⟩:=zC N;refine nH (λI' ai m'=>∃(x4:zA) (x5:zA) (bv:Option Addr) (bc:Nat) (bb:Option Addr) (bm:Nat),o02=(x4,x5)/\bV.le I'/\(S4 I' bv x4.Coefs bc)/\(S4 I' bb x5.Coefs bm)/\ai=[hB am (cRd y16 aT aU),hB b4 (cAff x5 bb bm),hB b2 (cAff x4 bv bc),hB b zTwo]/\m'=[(0,vP am 0),(4,vP b 0),(5,vP b2 0),(6,vP b4 0)]) ?_ ?_
   ·have H:=iS bV;refine yC ho02 ?_ ?_
    ·intro aQ N;refine zL<|yG 1 [] [30] rfl<|bE N λy17 hy7 N=>xX (gZ y12 _ hy7 ) ?_;rintro I014 ax v2 k2 le12 - ⟨v010,rfl,rfl,⟨bf,rfl,h30⟩⟩ -;have ⟨h18,H⟩:=m2 le12 h18 H;obtain⟨p14,c14,rfl,h31⟩:=yD h30;exact xW 2 (cAff y17 p14 c14) rfl<|yB rfl<|yS<|zU ⟨_,_,_,_,_,_,(zB N).symm,H,h31,h18,rfl,rfl⟩
    intro aQ N;refine zL<|yG 1 [] [32] rfl<|bE N λy18 hy8 N=>xX (gZ y12 _ hy8 ) ?_;rintro I015 ax v2 k2 le13 - ⟨v012,rfl,rfl,⟨bd,rfl,h32⟩⟩ -;have ⟨h17,H⟩:=m2 le13 h17 H;obtain⟨p15,c15,rfl,h33⟩:=yD h32;obtain⟨y19,hy9,N⟩:=zC N;refine xX (uH 1 _ hy9 ) ?_;rintro I016 ax v2 k2 le14 - ⟨p16,c16,bD,rfl,rfl,h34⟩ -;have ⟨h33,h17,H⟩:=m3 le14 h33 h17 H;refine wA 0 rfl ?_;intro I017 le15 hl04;have h35:=SL.of_frozen hl04 le15 h34;have ⟨h33,h17,H⟩:=m3 le15 h33 h17 H;obtain⟨y20,hy10,N⟩:=zC N;refine xX (zAO y18 1 y19 1 _ hy10 h33 h35) ?_;rintro I018 ax v2 k2 le16 - ⟨v014,rfl,rfl,⟨bG,rfl,h36⟩⟩ -;have ⟨h17,H⟩:=m2 le16 h17 H;obtain⟨p17,c17,rfl,h37⟩:=yD h36;exact xW 1 (cAff y20 p17 c17) rfl<|yB rfl<|yS<|zU ⟨_,_,_,_,_,_,(zB N).symm,H,h17,h37,rfl,rfl⟩
   rintro I013 ax m2 ⟨x4,x5,bv,bc,bb,bm,heq1,le17,h28,h29,rfl,rfl⟩;subst o02;have ⟨h27,H⟩:=m2 le17 h27 H;exact wD (zV [1,0,2,3] rfl (by decide))<|yS<|zU ⟨_,_,_,_,_,_,_,_,_,(zB hMc2).symm,H,h28,h29,h27,rfl,rfl⟩
  intro aD N;exact zS<|yS<|zU ⟨_,_,_,_,_,_,_,_,_,(zB N).symm,H,h17,h18,h13,rfl,rfl⟩
 rintro bN ax m2 ⟨x1,x2,x3,p7,c7,p8,c8,p9,c9,heq2,le18,h19,h20,h21,rfl,rfl⟩;subst aO;have H:=H.trans le18;refine xN<|qX 1 [2] [(36,vA (cAff x1 p7 c7))]<|qB (cAff x1 p7 c7) zA ?_;intro b5 hb5;have h38:RL bN (cAff x1 p7 c7) ([x1]:List zA):=⟨(cAff x1 p7 c7),_,rfl,rfl,(yO ⟨_,rfl,h19⟩),rfl⟩;refine qX 3 [1] [(38,vA (cAff x2 p8 c8))]<|qB (cAff x2 p8 c8) zA ?_;intro b6 hb6;have h39:RL bN (cAff x2 p8 c8) ([x2]:List zA):=⟨(cAff x2 p8 c8),_,rfl,rfl,(yO ⟨_,rfl,h20⟩),rfl⟩;refine yG 5 [] [40] rfl<|vG zTwo ?_;intro b7 hb7;refine xW 0 [vS (some ⟨b5,0,none⟩) ([x1]:List zA) 1,vS (some ⟨b6,0,none⟩) ([x2]:List zA) 1] rfl<|yB rfl<|zW<|yE<|yG 1 [] [41] rfl<|rS (zY [4,0,1,2,3,5,6] (ai:=[hB am (cRd x3 p9 c9),hB b7 [vS (some ⟨b5,0,none⟩) ([x1]:List zA) 1,vS (some ⟨b6,0,none⟩) ([x2]:List zA) 1],hO zA (vS (some ⟨b6,0,none⟩) ([x2]:List zA) 1) (cAff x2 p8 c8),hO zA (vS (some ⟨b5,0,none⟩) ([x1]:List zA) 1) (cAff x1 p7 c7),hB b4 (cAff x2 p8 c8),hB b2 (cAff x1 p7 c7),hB b zTwo])) ?_;obtain⟨⟨y22,y23⟩,hy11,N⟩:=zC hMc1;refine sB (xY x3 12 _ hy11 h21) rfl ?_;rintro I019 ax v2 k2 le19 - ⟨v016,kk5,rfl,rfl,rfl,h41⟩ -;have ⟨h38,h39,H⟩:=m3 le19 h38 h39 H;obtain⟨p18,c18,rfl,h42⟩:=zZ h41;refine yB rfl<|wS<|yJ [43] rfl<|zI<|nU 4 rfl ?_;intro I020 le20 hl05;have ar:At I020 ⟨b4,0,none⟩ (cAff x2 p8 c8):=At.of_blk hl05;have ⟨h42,h38,h39,H⟩:=m4 le20 h42 h38 h39 H;refine nU 4 rfl ?_;intro I021 le21 hl06;have ap:At I021 ⟨b2,0,none⟩ (cAff x1 p7 c7):=At.of_blk hl06;have ⟨h42,h38,h39,H⟩:=m4 le21 h42 h38 h39 H;obtain⟨o03,ho03,hMc3⟩:=zC N;refine nH (λI' ai m'=>∃(Lo:List zA) (Hi:List zA) (x6:zK) (p19:Option Addr) (c19:Nat) (cs6:List Value) (p20:Option Addr) (c20:Nat) (cs7:List Value) (p21:Option Addr) (c21:Nat),o03=(Lo,Hi,x6)/\I021.le I'/\(RL I' cs6 Lo)/\(RL I' cs7 Hi)/\(S4 I' p21 x6.b c21)/\ai=[hB am (cRd x6 p21 c21),hB b7 [vS p19 Lo c19,vS p20 Hi c20],hO zA (vS p20 Hi c20) cs7,hO zA (vS p19 Lo c19) cs6,hB b zTwo]/\m'=[(4,vP b 0),(8,vP b7 0)]) ?_ ?_
 ·have H:=iS I021;refine yC ho03 ?_ ?_
  ·intro bu N;obtain⟨⟨y25,y26⟩,hy12,N⟩:=zC N;obtain⟨y27,hy13,N⟩:=zC N;obtain⟨l,hy14,N⟩:=zC N;refine wU [.p (vP b7 1) [],.p (vS (some ⟨b6,0,none⟩) ([x2]:List zA) 1) [0],.p (vP am 0) [],.x (λI' v hx=>∃b8,v=vS (some ⟨b8,0,none⟩) ([3,2,4]:List Int) 3/\hx=[]/\(SL I' (vS (some ⟨b8,0,none⟩) ([3,2,4]:List Int) 3) ([3,2,4]:List Int))),.x (λI' v hx=>∃p22 c22,v=vI y25/\hx=[hB am (cRd y26 p22 c22)]/\(S4 I' p22 y26.b c22)),.x (λI' v hx=>∃p23 c23 cs8,v=vA (cAff y27 p23 c23)/\hx=[hO Int (vS p23 y27.Coefs c23) cs8]/\(RL I' cs8 y27.Coefs)),.x (λI' v hx=>∃b9,v=vS (some ⟨b9,0,none⟩) ([y27]:List zA) 1/\hx=[]/\(SL I' (vS (some ⟨b9,0,none⟩) ([y27]:List zA) 1) ([y27]:List zA))),.x (λI' v hx=>∃p24 c24 cs9,v=vS p24 l c24/\hx=[hO zA (vS p24 l c24) cs9]/\(RL I' cs9 l))] [[],[(0,false)],[],[],[(2,false),(3,false),(10,true)],[(4,false)],[(5,true)],[(1,false),(6,false),(11,true)]] [hB b7 [vS (some ⟨b5,0,none⟩) ([x1]:List zA) 1,vS (some ⟨b6,0,none⟩) ([x2]:List zA) 1],hO zA (vS (some ⟨b5,0,none⟩) ([x1]:List zA) 1) (cAff x1 p7 c7),hB b zTwo] [[hB am (cRd y23 p18 c18)],[hO zA (vS (some ⟨b6,0,none⟩) ([x2]:List zA) 1) (cAff x2 p8 c8)]] [(4,true),(7,true)] (zY [1,3,4,0,2]) ?_ ?_
   ·refine Op<|Op<|Op<|Ox ?_<|Ox ?_<|Ox ?_<|Ox ?_<|Ox ?_<|On
    ·intro I1 hf af;refine dD [] ?_;have H:=iS I1;refine mX (rI [3,2,4]) ?_;intro b8 I023 le22 h47;have H:=H.trans le22;exact yR [] H ⟨_,rfl,rfl,h47⟩
    ·rintro I1 hf af _ _ ⟨rfl,rfl⟩ _ _ ⟨b8,rfl,rfl,h47⟩ _ _ rfl;refine yV [47,48] rfl ?_;have H:=iS I1;have h42:=h42.mono af;refine sB (xP y23 ([3,2,4]:List Int) _ hy12 h42 h47) rfl ?_;rintro I024 ax v2 k2 le23 - ⟨v018,kk6,rfl,rfl,rfl,h49⟩ -;have H:=H.trans le23;obtain⟨p22,c22,rfl,h50⟩:=zZ h49;exact yR [hB am (cRd y26 p22 c22)] H ⟨_,_,rfl,rfl,h50⟩
    ·rintro I1 hf af _ _ ⟨p22,c22,rfl,rfl,h50⟩;refine yV [49] rfl ?_;have H:=iS I1;refine xX (uH y25 _ hy13 ) ?_;rintro I025 ax v2 k2 le24 - ⟨p23,c23,cs8,rfl,rfl,h51⟩ -;have H:=H.trans le24;exact yR [hO Int (vS p23 y27.Coefs c23) cs8] H ⟨_,_,_,rfl,rfl,h51⟩
    ·rintro I1 hf af _ _ ⟨p23,c23,cs8,rfl,rfl,h51⟩;refine yV [50] rfl ?_;have H:=iS I1;refine wA 0 rfl ?_;intro I026 le25 hl08;have h52:=SL.of_frozen hl08 le25 h51;have H:=H.trans le25;refine mX (rc y27 (yO ⟨_,rfl,h52⟩) rN) ?_;intro b9 I027 le26 h54;have H:=H.trans le26;exact yR [] H ⟨_,rfl,rfl,h54⟩
    rintro I1 hf af _ _ ⟨rfl,rfl⟩ _ _ ⟨b9,rfl,rfl,h54⟩ _ _ rfl;refine yV [46,51] rfl ?_;have h39:=iM af h39;obtain⟨aK,k0,k01⟩:=h54;have h54:SL I1 (vS (some ⟨b9,0,none⟩) ([y27]:List zA) 1) ([y27]:List zA):=⟨_,k0,k01⟩;exact mD 50 2 0 rfl rfl rfl h39 (.inl k0) k01 hy14 λp24 c24 cs9 h55=>uY (ai:=(hO zA (vS p24 l c24) cs9::hB b7 [vS (some ⟨b5,0,none⟩) ([x1]:List zA) 1,vS (some ⟨b6,0,none⟩) ([x2]:List zA) 1]::hO zA (vS (some ⟨b5,0,none⟩) ([x1]:List zA) 1) (cAff x1 p7 c7)::hB b zTwo::hf)) rfl<|yR [hO zA (vS p24 l c24) cs9] iR ⟨_,_,_,rfl,rfl,h55⟩
   rintro I028 le27 _ _ ⟨p22,c22,rfl,rfl,h50⟩ _ _ ⟨p24,c24,cs9,rfl,rfl,h55⟩;refine yV [4,8,52] rfl ?_;have ⟨h38,H⟩:=m2 le27 h38 H;exact yG 9 [] [53] rfl<|xW 2 [vS (some ⟨b5,0,none⟩) ([x1]:List zA) 1,vS p24 l c24] rfl<|yB rfl<|wD (zV [1,2,0,3,4] rfl (by decide))<|yS<|zU ⟨_,_,_,_,_,_,_,_,_,_,_,(zB N).symm,H,h38,h55,h50,rfl,rfl⟩
  intro bu N;refine yJ [54] rfl<|zI ?_;obtain⟨o04,ho04,hMc4⟩:=zC N;refine nH (λI' ai m'=>∃(Lo1:List zA) (x7:zK) (p25:Option Addr) (c25:Nat) (cs10:List Value) (p26:Option Addr) (c26:Nat),o04=(Lo1,x7)/\I021.le I'/\(RL I' cs10 Lo1)/\(S4 I' p26 x7.b c26)/\ai=[hB am (cRd x7 p26 c26),hB b7 [vS p25 Lo1 c25,vS (some ⟨b6,0,none⟩) ([x2]:List zA) 1],hO zA (vS (some ⟨b6,0,none⟩) ([x2]:List zA) 1) (cAff x2 p8 c8),hO zA (vS p25 Lo1 c25) cs10,hB b zTwo]/\m'=[(4,vP b 0),(8,vP b7 0)]) ?_ ?_
  ·have H:=iS I021;refine yC ho04 ?_ ?_
   ·intro bK N;obtain⟨⟨y29,y30⟩,hy15,N⟩:=zC N;obtain⟨y31,hy16,N⟩:=zC N;obtain⟨l1,hy17,N⟩:=zC N;refine wU [.p (vP b7 0) [],.p (vS (some ⟨b5,0,none⟩) ([x1]:List zA) 1) [0],.p (vP am 0) [],.x (λI' v hx=>∃b10,v=vS (some ⟨b10,0,none⟩) ([0,1]:List Int) 2/\hx=[]/\(SL I' (vS (some ⟨b10,0,none⟩) ([0,1]:List Int) 2) ([0,1]:List Int))),.x (λI' v hx=>∃p27 c27,v=vI y29/\hx=[hB am (cRd y30 p27 c27)]/\(S4 I' p27 y30.b c27)),.x (λI' v hx=>∃p28 c28 cs11,v=vA (cAff y31 p28 c28)/\hx=[hO Int (vS p28 y31.Coefs c28) cs11]/\(RL I' cs11 y31.Coefs)),.x (λI' v hx=>∃b11,v=vS (some ⟨b11,0,none⟩) ([y31]:List zA) 1/\hx=[]/\(SL I' (vS (some ⟨b11,0,none⟩) ([y31]:List zA) 1) ([y31]:List zA))),.x (λI' v hx=>∃p29 c29 cs12,v=vS p29 l1 c29/\hx=[hO zA (vS p29 l1 c29) cs12]/\(RL I' cs12 l1))] [[],[(0,false)],[],[],[(2,false),(3,false),(10,true)],[(4,false)],[(5,true)],[(1,false),(6,false),(11,true)]] [hB b7 [vS (some ⟨b5,0,none⟩) ([x1]:List zA) 1,vS (some ⟨b6,0,none⟩) ([x2]:List zA) 1],hO zA (vS (some ⟨b6,0,none⟩) ([x2]:List zA) 1) (cAff x2 p8 c8),hB b zTwo] [[hB am (cRd y23 p18 c18)],[hO zA (vS (some ⟨b5,0,none⟩) ([x1]:List zA) 1) (cAff x1 p7 c7)]] [(4,true),(7,true)] (zY [1,2,4,0,3]) ?_ ?_
    ·refine Op<|Op<|Op<|Ox ?_<|Ox ?_<|Ox ?_<|Ox ?_<|Ox ?_<|On
     ·intro I1 hf af;refine dD [] ?_;have H:=iS I1;refine mX (rI [0,1]) ?_;intro b10 I030 le28 h59;have H:=H.trans le28;exact yR [] H ⟨_,rfl,rfl,h59⟩
     ·rintro I1 hf af _ _ ⟨rfl,rfl⟩ _ _ ⟨b10,rfl,rfl,h59⟩ _ _ rfl;refine yV [58,59] rfl ?_;have H:=iS I1;have h42:=h42.mono af;refine sB (xP y23 ([0,1]:List Int) _ hy15 h42 h59) rfl ?_;rintro I031 ax v2 k2 le29 - ⟨v020,kk7,rfl,rfl,rfl,h61⟩ -;have H:=H.trans le29;obtain⟨p27,c27,rfl,h62⟩:=zZ h61;exact yR [hB am (cRd y30 p27 c27)] H ⟨_,_,rfl,rfl,h62⟩
     ·rintro I1 hf af _ _ ⟨p27,c27,rfl,rfl,h62⟩;refine yV [60] rfl ?_;have H:=iS I1;refine xX (uH y29 _ hy16 ) ?_;rintro I032 ax v2 k2 le30 - ⟨p28,c28,cs11,rfl,rfl,h63⟩ -;have H:=H.trans le30;exact yR [hO Int (vS p28 y31.Coefs c28) cs11] H ⟨_,_,_,rfl,rfl,h63⟩
     ·rintro I1 hf af _ _ ⟨p28,c28,cs11,rfl,rfl,h63⟩;refine yV [61] rfl ?_;have H:=iS I1;refine wA 0 rfl ?_;intro I033 le31 hl011;have h64:=SL.of_frozen hl011 le31 h63;have H:=H.trans le31;refine mX (rc y31 (yO ⟨_,rfl,h64⟩) rN) ?_;intro b11 I034 le32 h66;have H:=H.trans le32;exact yR [] H ⟨_,rfl,rfl,h66⟩
     rintro I1 hf af _ _ ⟨rfl,rfl⟩ _ _ ⟨b11,rfl,rfl,h66⟩ _ _ rfl;refine yV [57,62] rfl ?_;have h38:=iM af h38;obtain⟨bi,k02,k03⟩:=h66;have h66:SL I1 (vS (some ⟨b11,0,none⟩) ([y31]:List zA) 1) ([y31]:List zA):=⟨_,k02,k03⟩;exact mD 50 2 0 rfl rfl rfl h38 (.inl k02) k03 hy17 λp29 c29 cs12 h67=>uY (ai:=(hO zA (vS p29 l1 c29) cs12::hB b7 [vS (some ⟨b5,0,none⟩) ([x1]:List zA) 1,vS (some ⟨b6,0,none⟩) ([x2]:List zA) 1]::hO zA (vS (some ⟨b6,0,none⟩) ([x2]:List zA) 1) (cAff x2 p8 c8)::hB b zTwo::hf)) rfl<|yR [hO zA (vS p29 l1 c29) cs12] iR ⟨_,_,_,rfl,rfl,h67⟩
    rintro I035 le33 _ _ ⟨p27,c27,rfl,rfl,h62⟩ _ _ ⟨p29,c29,cs12,rfl,rfl,h67⟩;refine yV [4,8,63] rfl ?_;have H:=H.trans le33;exact yG 9 [] [64] rfl<|xW 2 [vS p29 l1 c29,vS (some ⟨b6,0,none⟩) ([x2]:List zA) 1] rfl<|yB rfl<|wD (zV [1,2,3,0,4] rfl (by decide))<|yS<|zU ⟨_,_,_,_,_,_,_,(zB N).symm,H,h67,h62,rfl,rfl⟩
   intro bK N;exact zS<|yS<|zU ⟨_,_,_,_,_,_,_,(zB N).symm,H,h38,h42,rfl,rfl⟩
  rintro I029 ax m2 ⟨Lo1,x7,p25,c25,cs10,p26,c26,heq3,le34,h56,h57,rfl,rfl⟩;subst o04;have ⟨h39,H⟩:=m2 le34 h39 H;exact yS<|zU ⟨_,_,_,_,_,_,_,_,_,_,_,(zB hMc4).symm,H,h56,h39,h57,rfl,rfl⟩
 rintro I022 ax m2 ⟨Lo,Hi,x6,p19,c19,cs6,p20,c20,cs7,p21,c21,heq4,le35,h43,h44,h45,rfl,rfl⟩;subst o03;refine zO<|xN<|qX 1 [1] [(65,vA [vS p19 Lo c19,vS p20 Hi c20])]<|xW 4 [vS p19 Lo c19,vS p20 Hi c20] rfl<|yB rfl<|xJ<|wH 3 rfl ?_;intro I036 le36 hl013;have h68:=SL.of_frozen hl013 le36 h43;have ⟨h45,h44⟩:=m2 le36 h45 h44;refine wH 2 rfl ?_;intro I037 le37 hl014;have h69:=SL.of_frozen hl014 le37 h44;have ⟨h45,h68⟩:=m2 le37 h45 h68;obtain rfl:=zB hMc3;exact xL ⟨_,_,(.cell 2 rfl rfl (by kernel_rfl) ResV.nil),(zV [0] rfl (by decide)),⟨_,_,rfl,rfl,⟨_,rfl,(qA ⟨_,_,rfl,h68,h69⟩)⟩,(yZ ⟨_,rfl,h45⟩)⟩⟩
def zEQ(b0:Nat)(r:(List zE)×zK):KT:=λkk I' ai v=>
 ∃v0 k0,ai=[.blk b0 ⟨k0⟩]/\v=tupV [v0]/\SL I' v0 r.1/\Rp.rep I' k0 r.2
def oC(out:List zE)(i:Int)(x:zK):Option ((List zE×zK)):=do
 if(decide (i>0)) then
  let (y4,y5)<-fA x (out.length:Int)
  let aC<-app 48 out ([y4]:List zE)
  oC aC (W (i - 1)) y5
 else
  pure (out,x)
 partial_fixpoint
theorem zDZ :∀(out:List zE) (i:Int) (x:zK) (o:(List zE×zK)),oC out i x=some o->∀{B}{I0 I:Imm}{Q}  {am:Nat}{p2 c2 cs p3 c3},I0.le I->(RL I cs out)->(S4 I p3 x.b c3)->NG Q->NO Q->(∀(I':Imm) (aq:List zE) (x1:zK) (p4:Option Addr) (c4:Nat) (aL:List Value) (p5:Option Addr) (c5:Nat),o=(aq,x1)->I0.le I'->(RL I' aL aq)->(S4 I' p5 x1.b c5)->T 21 B Q (.exit 0) I' [hB am (cRd x1 p5 c5),hO zE (vS p4 aq c4) aL] [(3,vS p4 aq c4)])->J Tryz.prog 21 B (nav (bodyOf f66) [1,1,0,1,0]) Q I [hB am (cRd x p3 c3),hO zE (vS p2 out c2) cs] [(0,vP am 0),(3,vS p2 out c2),(4,vI i)]:=by
 refine oC.partial_correctness  _ λaN ih out i x o N B I0 I Q am p2 c2 cs p3 c3 H h7 h8 hg ho hx=>yY hg ho<|yA<|yJ [10] rfl<|zI<|yC N ?_ ?_
 ·intro hc N;refine zS<|zW<|yK<|zL<|yG 4 [] [13,14,16] rfl ?_;obtain⟨⟨y4,y5⟩,ay,N⟩:=zC N;refine sB (zF8 x (out.length:Int) _ ay h8) rfl ?_;rintro aS ax v2 k2 aE - ⟨v02,kk1,rfl,rfl,⟨bf,rfl,h11⟩,h12⟩ -;have ⟨h7,H⟩:=m2 aE h7 H;obtain⟨p6,c6,p7,c7,rfl,h13,h14⟩:=wJ h11;obtain⟨p8,c8,rfl,h15⟩:=zZ h12;refine qB (cLoop y4 p6 c6 p7 c7) zE ?_;intro b2 hb2;have h16:RL aS (cLoop y4 p6 c6 p7 c7) ([y4]:List zE):=⟨(cLoop y4 p6 c6 p7 c7),_,rfl,rfl,(qA ⟨_,_,rfl,h13,h14⟩),rfl⟩;obtain⟨aC,aI,N⟩:=zC N;exact mD 92 2 2 rfl rfl rfl h7 (.inr ⟨0,rfl⟩) h16 aI λp9 c9 bd h17=>rS (zY [1,2] (ai:=[hB am (cRd y5 p8 c8),hO zE (vS p9 aC c9) bd]))<|yQ [] [3] rfl<|zO<|zI<|zL<|yQ [] [4] rfl<|yW<|mE<|ih aC (W (i - 1)) y5 _ N H h17 h15 hg ho hx
 intro hc N;exact vQ<|yS<|hx _ _ _ _ _ _ _ _ (zB N).symm H h7 h8
def fB(r0:zK):Option ((List zE)×zK):=do
 let (y1,y2)<-xD r0 ([2,1,2,3]:List Int)
 let (aq,x1)<-oC ([]:List zE) y1 y2
 pure (aq,x1)
theorem zF9:∀r0 r,fB r0=some r->∀{I:Imm}{am:Nat}{p c},(S4 I p r0.b c)->RT 66 [vP am 0] I [hB am (cRd r0 p c)] (zEQ am r):=by
 intro r0 r N I am p c h;unfold fB at N;refine yP func66 λB=>wM []<|xN<|qB [] zE ?_;intro b hb;have h1:RL I [] ([]:List zE):=rfl;refine yQ [] [3] rfl<|zW<|yE<|yG 1 [] [6] rfl<|mX (rI [2,1,2,3]) ?_;intro b1 I0 le h3;have ⟨h1,h⟩:=m2 le h1 h;refine rS (zY [1,0] (ai:=[hB am (cRd r0 p c),hO zE (vS (some ⟨b,0,none⟩) ([]:List zE) 0) []])) ?_;obtain⟨⟨y1,y2⟩,hy,N⟩:=zC N;refine sB (xP r0 ([2,1,2,3]:List Int) _ hy h h3) rfl ?_;rintro aP ax v2 k2 af - ⟨v0,kk,rfl,rfl,rfl,h5⟩ -;have h1:=iM af h1;obtain⟨p1,c1,rfl,h6⟩:=zZ h5;refine yQ [] [4] rfl<|wS<|oR [(0,vP am 0),(3,vS (some ⟨b,0,none⟩) ([]:List zE) 0),(4,vI y1)] ?_;obtain⟨o0,az,aF⟩:=zC N;refine zDZ ([]:List zE) y1 y2 o0 az iR h1 h6 (λ_ _ _ h=>h) (λ_ _ h=>h) ?_;intro bw aq x1 p4 c4 aL p5 c5 heq aJ h9 h10;subst o0;refine zT<|uN [2] rfl<|xJ<|wH 1 rfl ?_;intro bI aX hl01;have h18:=SL.of_frozen hl01 aX h9;have h10:=h10.mono aX;obtain rfl:=zB aF;exact xL ⟨_,_,(.tmp rfl ResV.nil),(zV [0] rfl (by decide)),⟨_,_,rfl,rfl,h18,(yZ ⟨_,rfl,h10⟩)⟩⟩
def zCj(b0:Nat)(r:Str×zK):KT:=λkk I' ai v=>
 ∃v0 k0,ai=[.blk b0 ⟨k0⟩]/\v=tupV [v0]/\v0=.string ⟨⟨r.1.l⟩⟩/\Rp.rep I' k0 r.2
def nE(r0:zK)(ah:(List Str)):Option (Str×zK):=do
 let (y1,y2)<-xC r0 (ah.length:Int)
 let x<-idx ah y1
 pure (x,y2)
theorem eA:∀r0 ah r,nE r0 ah=some r->∀{I:Imm}{am:Nat}{p c p1 c1},(S4 I p r0.b c)->(S4 I p1 ah c1)->RT 103 [vP am 0,vS p1 ah c1] I [hB am (cRd r0 p c)] (zCj am r):=by
 intro r0 ah r N I am p c p1 c1 h h1;unfold nE at N;refine yP func103 λB=>wM []<|xN<|yG 4 [] [5,6,8] rfl ?_;obtain⟨⟨y1,y2⟩,hy,N⟩:=zC N;refine sB (xY r0 (ah.length:Int) _ hy h) rfl ?_;rintro I0 ax v2 k2 le - ⟨v0,kk,rfl,rfl,rfl,h3⟩ -;have h1:=h1.mono le;obtain⟨p2,c2,rfl,h4⟩:=zZ h3;obtain⟨x,ay,N⟩:=zC N;refine wB rfl rfl h1 ay ?_;intro ad aK ar al;obtain rfl:=al;refine xU 0 ar [vT x.l] (vT x.l) rfl<|yQ [] [4] rfl<|zI<|yX ?_;obtain rfl:=zB N;exact xL ⟨_,_,(.tmp rfl ResV.nil),(zV [0] rfl (by decide)),⟨_,_,rfl,rfl,rfl,(yZ ⟨_,rfl,h4⟩)⟩⟩
def zER(b0:Nat)(r:zH×zK):KT:=λkk I' ai v=>
 ∃v0 k0,ai=[.blk b0 ⟨k0⟩]/\v=tupV [v0]/\(∃cs,v0=.agg ⟨cs⟩/\Rp.rep I' cs r.1)/\Rp.rep I' k0 r.2
def oD(aa:Int)(n0:Int)(i:Int)(Subs:List zA)(x:zK):Option ((List zA×zK)):=do
 if(decide (i<n0)) then
  let (y4,y5)<-xD x ([0,1,0,2]:List Int)
  let y6<-wW y4
  let (t32,x2)<-(do
   if(decide (aa>0)) then
    let (y8,y9)<-xC y5 5
    pure ((decide (y8>0)),y9)
   else
    pure (false,y5)
     : Option (Bool×zK))
  let (x3,x4)<-(do
   if t32 then
    let (y11,y12)<-xC x2 aa
    let y13<-nN y11
    let (y15,y16)<-xD y12 ([1,1,1,2,(-1)]:List Int)
    let (y18,y19)<-xD y16 ([0,1,0,0,2]:List Int)
    let y20<-wW y18
    let y21<-nS y13 y15 y20 1
    pure (y21,y19)
   else
    pure ((zA.mk y6.Coefs y6.Const),x2)
     : Option (zA×zK))
  let l<-app 32 Subs ([x3]:List zA)
  oD aa n0 (W (i+1)) l x4
 else
  pure (Subs,x)
 partial_fixpoint
theorem zD0(aa:Int)(n0:Int):∀(i:Int) (Subs:List zA) (x:zK) (o:(List zA×zK)),oD aa n0 i Subs x=some o->∀{B}{I0 I:Imm}{Q}{y1:Str}{am:Nat}{b:Nat}{b2:Nat}{p2 c2 cs p3 c3},I0.le I->(RL I cs Subs)->(S4 I p3 x.b c3)->NG Q->NO Q->(∀(I':Imm) (Subs1:List zA) (x1:zK) (p4:Option Addr) (c4:Nat) (aL:List Value) (p5:Option Addr) (c5:Nat),o=(Subs1,x1)->I0.le I'->(RL I' aL Subs1)->(S4 I' p5 x1.b c5)->T 53 B Q (.exit 0) I' [hO zA (vS p4 Subs1 c4) aL,hB b2 [vT y1.l,vS p4 Subs1 c4],hB am (cRd x1 p5 c5),hB b [vT ([]),z0]] [(4,vP b 0),(5,vP b2 0)])->J Tryz.prog 53 B (nav (bodyOf f140) [1,1,1,1,0,1,0]) Q I [hO zA (vS p2 Subs c2) cs,hB b2 [vT y1.l,vS p2 Subs c2],hB am (cRd x p3 c3),hB b [vT ([]),z0]] [(0,vP am 0),(1,vI aa),(4,vP b 0),(5,vP b2 0),(6,vI n0),(7,vI i)]:=by
 refine oD.partial_correctness aa n0 _ λaN ih i Subs x o N B I0 I Q y1 am b b2 p2 c2 cs p3 c3 H h7 h8 hg ho hx=>yY hg ho<|yA<|yJ [19] rfl<|zI<|yC N ?_ ?_
 ·intro aD N;refine zS<|zW<|yK<|yE<|yG 1 [] [22] rfl<|mX (rI [0,1,0,2]) ?_;intro b3 bw aJ h12;have ⟨h7,h8,H⟩:=m3 aJ h7 h8 H;refine rS (zY [2,0,1,3] (ai:=[hB am (cRd x p3 c3),hO zA (vS p2 Subs c2) cs,hB b2 [vT y1.l,vS p2 Subs c2],hB b [vT ([]),z0]])) ?_;obtain⟨⟨y4,y5⟩,ay,N⟩:=zC N;refine sB (xP x ([0,1,0,2]:List Int) _ ay h8 h12) rfl ?_;rintro bI ax v2 k2 aX - ⟨v02,kk1,rfl,rfl,rfl,h14⟩ -;have ⟨h7,H⟩:=m2 aX h7 H;obtain⟨p6,c6,rfl,h15⟩:=zZ h14;obtain⟨y6,aI,N⟩:=zC N;refine xX (uH y4 _ aI ) ?_;rintro bL ax v2 k2 bt - ⟨p7,c7,bf,rfl,rfl,h16⟩ -;have ⟨h15,h7,H⟩:=m3 bt h15 h7 H;refine vG [z0,vI 0] ?_;intro b4 hb4;refine xW 0 (cAff y6 p7 c7) rfl<|yB rfl<|zW<|yA ?_;obtain⟨aO,aB,hMc1⟩:=zC N;refine nH (λI' ai m'=>∃(t32:Bool) (x2:zK) (p8:Option Addr) (c8:Nat),aO=(t32,x2)/\bL.le I'/\(S4 I' p8 x2.b c8)/\ai=[hB b4 (cAff y6 p7 c7),hO Int (vS p7 y6.Coefs c7) bf,hB am (cRd x2 p8 c8),hO zA (vS p2 Subs c2) cs,hB b2 [vT y1.l,vS p2 Subs c2],hB b [vT ([]),z0]]/\m'=[(0,vP am 0),(1,vI aa),(4,vP b 0),(5,vP b2 0),(6,vI n0),(7,vI i),(8,vP b4 0),(32,.bool t32)]) ?_ ?_
  ·have H:=iS bL;refine zL<|yG 3 [] [28] rfl<|wC [28] aB ?_ ?_
   ·intro aQ N;refine yG 4 [] [29] rfl<|rS (zY [2,0,1,3,4,5] (ai:=[hB am (cRd y5 p6 c6),hB b4 (cAff y6 p7 c7),hO Int (vS p7 y6.Coefs c7) bf,hO zA (vS p2 Subs c2) cs,hB b2 [vT y1.l,vS p2 Subs c2],hB b [vT ([]),z0]])) ?_;obtain⟨⟨y8,y9⟩,aW,N⟩:=zC N;refine sB (xY y5 5 _ aW h15) rfl ?_;rintro I07 ax v2 k2 bx - ⟨v04,kk2,rfl,rfl,rfl,h19⟩ -;have H:=H.trans bx;obtain⟨p9,c9,rfl,h20⟩:=zZ h19;exact yQ [] [32] rfl<|wD (zV [1,2,0,3,4,5] rfl (by decide))<|yS<|zU ⟨_,_,_,_,(zB N).symm,H,h20,rfl,rfl⟩
   intro aQ N;exact wN [] [(32,vF)]<|yS<|zU ⟨_,_,_,_,(zB N).symm,H,h15,rfl,rfl⟩
  rintro I06 ax m2 ⟨t32,x2,p8,c8,heq1,le7,h17,rfl,rfl⟩;subst aO;have ⟨h16,h7,H⟩:=m3 le7 h16 h7 H;refine zI<|nU 1 rfl ?_;intro I08 le8 hl02;have h21:=SL.of_frozen hl02 le8 h16;have ⟨h17,h7,H⟩:=m3 le8 h17 h7 H;obtain⟨o02,ho02,hMc2⟩:=zC hMc1;refine nH (λI' ai m'=>∃(x3:zA) (x4:zK) (aZ:Option Addr) (ba:Nat) (aT:Option Addr) (aU:Nat),o02=(x3,x4)/\I08.le I'/\(S4 I' aZ x3.Coefs ba)/\(S4 I' aT x4.b aU)/\ai=[hB b4 (cAff x3 aZ ba),hB am (cRd x4 aT aU),hO zA (vS p2 Subs c2) cs,hB b2 [vT y1.l,vS p2 Subs c2],hB b [vT ([]),z0]]/\m'=[(0,vP am 0),(1,vI aa),(4,vP b 0),(5,vP b2 0),(6,vI n0),(7,vI i),(8,vP b4 0)]) ?_ ?_
  ·have H:=iS I08;refine yC ho02 ?_ ?_
   ·intro bu N;refine yE<|yG 2 [] [33,34] rfl<|rS (zY [1,0,2,3,4] (ai:=[hB am (cRd x2 p8 c8),hB b4 (cAff y6 p7 c7),hO zA (vS p2 Subs c2) cs,hB b2 [vT y1.l,vS p2 Subs c2],hB b [vT ([]),z0]])) ?_;obtain⟨⟨y11,y12⟩,br,N⟩:=zC N;refine sB (xY x2 aa _ br h17) rfl ?_;rintro bN ax v2 k2 le9 - ⟨v06,kk3,rfl,rfl,rfl,h25⟩ -;have H:=H.trans le9;obtain⟨bv,bc,rfl,h26⟩:=zZ h25;refine yQ [] [9] rfl<|zI<|zL<|yG 1 [] [36] rfl<|bE N λy13 bB N=>xX (gZ y11 _ bB ) ?_;rintro bW ax v2 k2 le10 - ⟨v08,rfl,rfl,⟨bd,rfl,h27⟩⟩ -;have ⟨h26,H⟩:=m2 le10 h26 H;obtain⟨bb,bm,rfl,h28⟩:=yD h27;refine yG 3 [] [38] rfl<|mX (rI [1,1,1,2,(-1)]) ?_;intro b5 bV le11 h30;have ⟨h28,h26,H⟩:=m3 le11 h28 h26 H;obtain⟨⟨y15,y16⟩,hy6,N⟩:=zC N;refine sB (xP y12 ([1,1,1,2,(-1)]:List Int) _ hy6 h26 h30) rfl ?_;rintro I013 ax v2 k2 le12 - ⟨v010,kk4,rfl,rfl,rfl,h32⟩ -;have ⟨h28,H⟩:=m2 le12 h28 H;obtain⟨p14,c14,rfl,h33⟩:=zZ h32;refine yG 6 [] [41] rfl<|mX (rI [0,1,0,0,2]) ?_;intro b6 I014 le13 h35;have ⟨h28,h33,H⟩:=m3 le13 h28 h33 H;obtain⟨⟨y18,y19⟩,hy7,N⟩:=zC N;refine sB (xP y16 ([0,1,0,0,2]:List Int) _ hy7 h33 h35) rfl ?_;rintro I015 ax v2 k2 le14 - ⟨v012,kk5,rfl,rfl,rfl,h37⟩ -;have ⟨h28,H⟩:=m2 le14 h28 H;obtain⟨p15,c15,rfl,h38⟩:=zZ h37;obtain⟨y20,hy8,N⟩:=zC N;refine xX (uH y18 _ hy8 ) ?_;rintro I016 ax v2 k2 le15 - ⟨p16,c16,bD,rfl,rfl,h39⟩ -;have ⟨h28,h38,H⟩:=m3 le15 h28 h38 H;refine wA 0 rfl ?_;intro I017 le16 hl05;have h40:=SL.of_frozen hl05 le16 h39;have ⟨h28,h38,H⟩:=m3 le16 h28 h38 H;obtain⟨y21,hy9,N⟩:=zC N;refine xX (zAO y13 y15 y20 1 _ hy9 h28 h40) ?_;rintro I018 ax v2 k2 le17 - ⟨v014,rfl,rfl,⟨bG,rfl,h41⟩⟩ -;have ⟨h38,H⟩:=m2 le17 h38 H;obtain⟨p17,c17,rfl,h42⟩:=yD h41;exact xW 1 (cAff y21 p17 c17) rfl<|yB rfl<|wD (zV [1,0,2,3,4] rfl (by decide))<|yS<|zU ⟨_,_,_,_,_,_,(zB N).symm,H,h42,h38,rfl,rfl⟩
   intro bu N;exact zS<|yS<|zU ⟨_,_,_,_,_,_,(zB N).symm,H,h21,h17,rfl,rfl⟩
  rintro I09 ax m2 ⟨x3,x4,aZ,ba,aT,aU,heq2,le18,h22,h23,rfl,rfl⟩;subst o02;have ⟨h7,H⟩:=m2 le18 h7 H;refine zI<|zL<|qX 3 [3,0] [(47,vS p2 Subs c2),(48,vA (cAff x3 aZ ba))]<|qB (cAff x3 aZ ba) zA ?_;intro b7 hb7;have h43:RL I09 (cAff x3 aZ ba) ([x3]:List zA):=⟨(cAff x3 aZ ba),_,rfl,rfl,(yO ⟨_,rfl,h22⟩),rfl⟩;obtain⟨l,hy10,N⟩:=zC hMc2;refine mD 50 2 3 rfl rfl rfl h7 (.inr ⟨0,rfl⟩) h43 hy10 ?_;intro p18 c18 cs6 h44;exact rS (zY [1,2,3,4,5] (ai:=[hB b4 (cAff x3 aZ ba),hB am (cRd x4 aT aU),hO zA (vS p18 l c18) cs6,hB b2 [vT y1.l,vS p2 Subs c2],hB b [vT ([]),z0]]))<|yG 6 [] [51] rfl<|xW 3 [vT y1.l,vS p18 l c18] rfl<|yB rfl<|zO<|zI<|zL<|yQ [] [7] rfl<|yW<|kJ (zV [2,3,1,4] rfl (by decide))<|mE<|ih (W (i+1)) l x4 _ N H h44 h23 hg ho hx
 intro aD N;exact vQ<|yS<|hx _ _ _ _ _ _ _ _ (zB N).symm H h7 h8
def kH(r0:zK)(aa:Int):Option (zH×zK):=do
 let (y1,y2)<-nE r0 ([(⟨[65]⟩:Str),(⟨[66]⟩:Str),(⟨[65]⟩:Str),(⟨[67]⟩:Str)]:List Str)
 let n0<-(do
  if(y1.l==([66]:List UInt8)) then
   pure (id 2)
  else
   pure (id 1)
    : Option Int)
 let (Subs1,x1)<-oD aa n0 0 ([]:List zA) y2
 pure ((zH.mk y1 Subs1),x1)
theorem zBk:∀r0 aa r,kH r0 aa=some r->∀{I:Imm}{am:Nat}{p c},(S4 I p r0.b c)->RT 140 [vP am 0,vI aa] I [hB am (cRd r0 p c)] (zER am r):=by
 intro r0 aa r N I am p c h;unfold kH at N;refine yP func140 λB=>?_;have H:=iS I;refine yE<|vG [vT ([]),z0] ?_;intro b hb;refine yB rfl<|xN<|yG 1 [] [10] rfl<|mX (rT [(⟨[65]⟩:Str),(⟨[66]⟩:Str),(⟨[65]⟩:Str),(⟨[67]⟩:Str)]) ?_;intro b1 I0 le h2;have ⟨h,H⟩:=m2 le h H;refine rS (zY [1,0] (ai:=[hB am (cRd r0 p c),hB b [vT ([]),z0]])) ?_;obtain⟨⟨y1,y2⟩,hy,N⟩:=zC N;refine sB (eA r0 ([(⟨[65]⟩:Str),(⟨[66]⟩:Str),(⟨[65]⟩:Str),(⟨[67]⟩:Str)]:List Str) _ hy h h2) rfl ?_;rintro aP ax v2 k2 af - ⟨v0,kk,rfl,rfl,rfl,h4⟩ -;have H:=H.trans af;obtain⟨p1,c1,rfl,h5⟩:=zZ h4;refine yG 4 [] [13] rfl<|vG [vT ([]),z0] ?_;intro b2 hb2;refine xW 0 [vT y1.l,z0] rfl<|yB rfl<|uN [6] rfl<|zW<|yE<|yQ [0] [16] rfl<|zI ?_;refine wQ N [hB b2 [vT y1.l,z0],hB am (cRd y2 p1 c1),hB b [vT ([]),z0]] (λn0=>[(0,vP am 0),(1,vI aa),(4,vP b 0),(5,vP b2 0),(6,vI n0)]) (λo0 az=>?_) ?_
 ·have H:=iS aP;refine yC az ?_ ?_
  ·intro hc N;exact zL<|yQ [] [6] rfl<|yS<|zU (ct N H)
  intro hc N;exact zS<|yS<|zU (ct N H)
 intro n0 aS aE aM;have h5:=h5.mono aE;refine zW<|yJ [7] rfl<|wS<|oR [(0,vP am 0),(1,vI aa),(4,vP b 0),(5,vP b2 0),(6,vI n0),(7,vI 0)]<|zAm zA λh6=>?_;obtain⟨o03,ho03,aF⟩:=zC aM;refine zD0 aa n0 0 ([]:List zA) y2 o03 ho03 iR h6 h5 (λ_ _ _ h=>h) (λ_ _ h=>h) ?_;intro I019 Subs1 x1 p4 c4 aL p5 c5 heq3 le19 h9 h10;subst o03;refine zT<|xN<|qX 1 [1] [(52,vA [vT y1.l,vS p4 Subs1 c4])]<|xW 3 [vT y1.l,vS p4 Subs1 c4] rfl<|yB rfl<|xJ<|wH 0 rfl ?_;intro I020 le20 hl06;have h45:=SL.of_frozen hl06 le20 h9;have h10:=h10.mono le20;obtain rfl:=zB aF;exact xL ⟨_,_,(.cell 2 rfl rfl (by kernel_rfl) ResV.nil),(zV [1] rfl (by decide)),⟨_,_,rfl,rfl,⟨_,rfl,(nQ ⟨_,rfl,h45⟩)⟩,(yZ ⟨_,rfl,h10⟩)⟩⟩
def zES(b0:Nat)(r:zA×zK):KT:=λkk I' ai v=>
 ∃v0 k0,ai=[.blk b0 ⟨k0⟩]/\v=tupV [v0]/\(∃cs,v0=.agg ⟨cs⟩/\Rp.rep I' cs r.1)/\Rp.rep I' k0 r.2
def oE(aa:Int)(i:Int)(Coefs:List Int)(x:zK):Option ((List Int×zK)):=do
 if(decide (i<aa)) then
  let (y5,y6)<-xD x ([0,1,0,(-1),2,0,9]:List Int)
  let x2<-idx Coefs i
  let l<-pure (Coefs.set i.toNat y5)
  oE aa (W (i+1)) l y6
 else
  pure (Coefs,x)
 partial_fixpoint
theorem zD1(aa:Int):∀(i:Int) (Coefs:List Int) (x:zK) (o:(List Int×zK)),oE aa i Coefs x=some o->∀{B}{I0 I:Imm}{Q}{y3:zA}{am:Nat}{b:Nat}{b2:Nat}{p3 c3 aL p4 c4},I0.le I->(RL I aL Coefs)->(S4 I p4 x.b c4)->NG Q->NO Q->(∀(I':Imm) (Coefs1:List Int) (x1:zK) (p5:Option Addr) (c5:Nat) (bf:List Value) (p6:Option Addr) (c6:Nat),o=(Coefs1,x1)->I0.le I'->(RL I' bf Coefs1)->(S4 I' p6 x1.b c6)->T 24 B Q (.exit 0) I' [hB b2 [vS p5 Coefs1 c5,vI y3.Const],hO Int (vS p5 Coefs1 c5) bf,hB am (cRd x1 p6 c6),hB b [z0,vI 0]] [(4,vP b 0),(5,vP b2 0)])->J Tryz.prog 24 B (nav (bodyOf f192) [1,1,0,1,0]) Q I [hB b2 [vS p3 Coefs c3,vI y3.Const],hO Int (vS p3 Coefs c3) aL,hB am (cRd x p4 c4),hB b [z0,vI 0]] [(0,vP am 0),(1,vI aa),(4,vP b 0),(5,vP b2 0),(6,vI i)]:=by
 refine oE.partial_correctness aa _ λaN ih i Coefs x o N B I0 I Q y3 am b b2 p3 c3 aL p4 c4 H h7 h8 hg ho hx=>yY hg ho<|yA<|yJ [13] rfl<|zI<|yC N ?_ ?_
 ·intro hc N;refine zS<|zW<|yK ?_;obtain⟨⟨y5,y6⟩,aI,N⟩:=zC N;refine wU [.p (vP b2 0) [],.p (vS p3 Coefs c3) [0],.p (vI i) [],.p (vP am 0) [],.x (λI' v hx=>∃b3,v=vS (some ⟨b3,0,none⟩) ([0,1,0,(-1),2,0,9]:List Int) 7/\hx=[]/\(SL I' (vS (some ⟨b3,0,none⟩) ([0,1,0,(-1),2,0,9]:List Int) 7) ([0,1,0,(-1),2,0,9]:List Int))),.x (λI' v hx=>∃p7 c7,v=vI y5/\hx=[hB am (cRd y6 p7 c7)]/\(S4 I' p7 y6.b c7))] [[],[(0,false)],[],[],[],[(3,false),(4,false),(8,true)]] [hB b2 [vS p3 Coefs c3,vI y3.Const],hO Int (vS p3 Coefs c3) aL,hB b [z0,vI 0]] [[hB am (cRd x p4 c4)]] [(1,false),(2,false),(5,true)] (zY [0,1,3,2]) ?_ ?_
  ·refine Op<|Op<|Op<|Op<|Ox ?_<|Ox ?_<|On
   ·intro I1 hf af;refine dD [] ?_;have H:=iS I1;refine mX (rI [0,1,0,(-1),2,0,9]) ?_;intro b3 bw aJ h12;have H:=H.trans aJ;exact yR [] H ⟨_,rfl,rfl,h12⟩
   rintro I1 hf af _ _ ⟨rfl,rfl⟩ _ _ ⟨b3,rfl,rfl,h12⟩ _ _ rfl;refine yV [19,20] rfl ?_;have H:=iS I1;have h8:=h8.mono af;refine sB (xP x ([0,1,0,(-1),2,0,9]:List Int) _ aI h8 h12) rfl ?_;rintro bI ax v2 k2 aX - ⟨v02,kk1,rfl,rfl,rfl,h14⟩ -;have H:=H.trans aX;obtain⟨p7,c7,rfl,h15⟩:=zZ h14;exact yR [hB am (cRd y6 p7 c7)] H ⟨_,_,rfl,rfl,h15⟩
  rintro bL bt _ _ ⟨rfl,rfl⟩ _ _ ⟨rfl,rfl⟩ _ _ ⟨p7,c7,rfl,rfl,h15⟩;refine yV [0,1,4,5,6,17,18,21] rfl ?_;have ⟨h7,H⟩:=m2 bt h7 H;obtain⟨x2,aW,N⟩:=zC N;refine gR 2 rfl rfl rfl h7 aW ?_;intro ad aK ar bJ al;obtain rfl:=al;obtain⟨l,br,N⟩:=zC N;refine nV (c:=[vI y5]) (x':=y5) 2 0 rfl rfl rfl ar rfl rfl bJ (by kernel_rfl) (by kernel_rfl) (by kernel_rfl) h7 aW (by kernel_rfl) rfl ?_;rw[show Coefs.set i.toNat y5=l from zB br];intro bd h16 hl02;exact fM (m':=[(0,vP am 0),(1,vI aa),(4,vP b 0),(5,vP b2 0),(6,vI i),(17,vS p3 Coefs c3),(18,vI i),(21,vI y5)]) ⟨rfl,rfl,rfl,rfl,rfl,rfl,rfl,rfl,trivial⟩<|zDs (ai:=[hB am (cRd y6 p7 c7),hB b2 [vS p3 l c3,vI y3.Const],hO Int (vS p3 l c3) bd,hB b [z0,vI 0]]) (m':=[(0,vP am 0),(1,vI aa),(4,vP b 0),(5,vP b2 0),(6,vI i),(17,vS p3 l c3),(18,vI i),(21,vI y5)]) (by first|rfl|simp only[vS,hl02,cM,cy,d5,dl,di,dj]) (by first|rfl|simp only[vS,hl02])<|yB rfl<|zO<|zI<|zL<|yQ [] [6] rfl<|yW<|kJ (zV [1,2,0,3] rfl (by decide))<|mE<|ih (W (i+1)) l y6 _ N H h16 h15 hg ho hx
 intro hc N;exact vQ<|yS<|hx _ _ _ _ _ _ _ _ (zB N).symm H h7 h8
def jV(r0:zK)(aa:Int):Option (zA×zK):=do
 let (y1,y2)<-xD r0 ([0,1,(-1),2,0,5,(-9),99]:List Int)
 let y3<-wW y1
 let (Coefs1,x1)<-oE aa 0 y3.Coefs y2
 pure ((zA.mk Coefs1 y3.Const),x1)
theorem zFa:∀r0 aa r,jV r0 aa=some r->∀{I:Imm}{am:Nat}{p c},(S4 I p r0.b c)->RT 192 [vP am 0,vI aa] I [hB am (cRd r0 p c)] (zES am r):=by
 intro r0 aa r N I am p c h;unfold jV at N;refine yP func192 λB=>yE<|vG [z0,vI 0] ?_;intro b hb;refine yB rfl<|xN<|yG 1 [] [7] rfl<|mX (rI [0,1,(-1),2,0,5,(-9),99]) ?_;intro b1 I0 le h2;have h:=h.mono le;refine rS (zY [1,0] (ai:=[hB am (cRd r0 p c),hB b [z0,vI 0]])) ?_;obtain⟨⟨y1,y2⟩,hy,N⟩:=zC N;refine sB (xP r0 ([0,1,(-1),2,0,5,(-9),99]:List Int) _ hy h h2) rfl ?_;rintro aP ax v2 k2 af - ⟨v0,kk,rfl,rfl,rfl,h4⟩ -;obtain⟨p1,c1,rfl,h5⟩:=zZ h4;obtain⟨y3,ay,N⟩:=zC N;refine xX (uH y1 _ ay ) ?_;rintro aS ax v2 k2 aE - ⟨p2,c2,cs,rfl,rfl,h6⟩ -;have h5:=h5.mono aE;refine vG [z0,vI 0] ?_;intro b2 hb2;refine xW 0 (cAff y3 p2 c2) rfl<|yB rfl<|zW<|yJ [6] rfl<|wS<|oR [(0,vP am 0),(1,vI aa),(4,vP b 0),(5,vP b2 0),(6,vI 0)] ?_;obtain⟨o0,az,aF⟩:=zC N;refine zD1 aa 0 y3.Coefs y2 o0 az iR h6 h5 (λ_ _ _ h=>h) (λ_ _ h=>h) ?_;intro I06 Coefs1 x1 p5 c5 bf p6 c6 heq bx h9 h10;subst o0;refine zT<|xN<|qX 1 [0] [(23,vA [vS p5 Coefs1 c5,vI y3.Const])]<|xW 3 [vS p5 Coefs1 c5,vI y3.Const] rfl<|yB rfl<|xJ<|wH 1 rfl ?_;intro I07 le7 hl03;have h17:=SL.of_frozen hl03 le7 h9;have h10:=h10.mono le7;obtain rfl:=zB aF;exact xL ⟨_,_,(.cell 2 rfl rfl (by kernel_rfl) ResV.nil),(zV [1] rfl (by decide)),⟨_,_,rfl,rfl,⟨_,rfl,(yO ⟨_,rfl,h17⟩)⟩,(yZ ⟨_,rfl,h10⟩)⟩⟩
end Go.LN
