/- Helper of the proof (see the last text). -/
import Derived.Test.YtkipogionmkncaaGreatHM1
set_option linter.unusedVariables false
set_option linter.unusedSimpArgs false
namespace Go.LN
open Go.Proofs Go.Proofs.Tryz
set_option maxRecDepth 20000
def zBO(r:(List Int)×Int×Bool):KT:=λkk I' aj v=>
 ∃v0 v1 v2,aj=[]/\v=tupV [v0,v1,v2]/\SL I' v0 r.1/\v1=.int .i64 r.2.1/\v2=.bool r.2.2
def qP(ag:(List zI))(ah:(List Int))(y:(List zK))(out:List Int)(i:Int):Option (Out (List Int) ((List Int)×Int×Bool)):=do
 if(decide (i<(y.length:Int))) then
  let x<-idx y i
  let y1<-fA ag x ah
  if(decide (y1<0)) then
   pure (.ret (([]:List Int),0,false))
  else
   let ar<-app 8 out ([y1]:List Int)
   qP ag ah y ar (W (i+1))
 else
  pure (.done out)
 partial_fixpoint
theorem zDu(ag:(List zI))(ah:(List Int))(y:(List zK)):∀(out:List Int) (i:Int) (o:Out (List Int) ((List Int)×Int×Bool)),qP ag ah y out i=some o->∀{B}{I0 I:Imm}{Q}{s:zJ}{p c p1 c1 p2 c2 p3 c3 p4 c4 p5 c5}{b:Nat}{p6 c6 cs p7 c7 aM},I0.le I->(S4 I p ag c)->(S4 I p5 ah c5)->(RL I cs y)->(S4 I p1 s.Write.Subs c1)->(S4 I p2 s.Value.Index.Coefs c2)->(S4 I p3 s.Value.Read.Subs c3)->(S4 I p4 s.Value.Kids c4)->(RL I aM out)->NG Q->NO Q->(∀(I':Imm) (ak:List Int) (p8:Option Addr) (c8:Nat) (aV:List Value),o=(.done ak)->I0.le I'->(RL I' aV ak)->T 49 B Q (.exit 0) I' [hO Int (vS p8 ak c8) aV,hB b (cStmt s p1 c1 p2 c2 p3 c3 p4 c4)] [(0,vS p ag c),(2,vS p5 ah c5),(4,vP b 0),(9,vS p8 ak c8)])->(∀r I' aj m',o=(.ret r)->I0.le I'->RS Tryz.prog f61 B (zBO  r) I' aj m'->T 49 B Q .ret I' aj m')->J Tryz.prog 49 B (nav (bodyOf f61) [1,1,1,0,1,0]) Q I [hO zK (vS p6 y c6) cs,hO Int (vS p7 out c7) aM,hB b (cStmt s p1 c1 p2 c2 p3 c3 p4 c4)] [(0,vS p ag c),(2,vS p5 ah c5),(4,vP b 0),(9,vS p7 out c7),(10,vS p6 y c6),(11,vI i)]:=by
 refine qP.partial_correctness ag ah y _ λaG ih out i o N B I0 I Q s p c p1 c1 p2 c2 p3 c3 p4 c4 p5 c5 b p6 c6 cs p7 c7 aM H h h5 h8 h1 h2 h3 h4 h9 hg ho hx hr=>yK hg ho<|zM<|yG [22] rfl<|zH<|yD N ?_ ?_
 ·intro hc N;refine zT<|yE<|zZ<|yJ<|yR 3 [] [25,26,27] rfl<|bE N λx aw N=>zIK 0 rfl rfl rfl h8 aw ?_;intro ad aF av bP aq;obtain⟨p9,c9,rfl,h11⟩:=rD aq;refine zKx 0 0 av bP (cAccess x p9 c9) (vA (cAccess x p9 c9)) rfl rfl<|yR 6 [] [30] rfl<|bE N λy1 aI N=>qJ (zCl ag x ah _ aI h h11 h5) ?_;intro aN ai;have ⟨h,h5,h9,h8,h1,h2⟩:=m6 ai h h5 h9 h8 h1 h2;have ⟨h3,h4,H⟩:=m3 ai h3 h4 H;refine yW [] [12] rfl<|yE<|yG [33] rfl<|zH<|yD N ?_ ?_
  ·intro aE N;refine yJ<|jJ [] Int ?_;intro b3 hb3;have h13:RL aN [] ([]:List Int):=rfl;refine yW [] [6,7,8] rfl<|yS<|zG<|zR<|zG<|zG<|uY 0 rfl ?_;intro bf ax hl0;have h14:=SL.of_frozen hl0 ax h13;have H:=H.trans ax;exact hr _ _ _ _ (zB N).symm H ⟨_,_,(.tmp rfl (.tmp rfl (.tmp rfl ResV.nil))),zO,⟨_,_,_,rfl,rfl,h14,rfl,rfl⟩⟩
  intro aE N;refine zT<|zH<|zE<|yR 2 [] [35,36] rfl<|jJ [vI y1] Int ?_;intro b4 hb4;have h15:RL aN [vI y1] ([y1]:List Int):=rI [y1];obtain⟨ar,aW,N⟩:=zF N;exact fU 3 1 2 rfl rfl rfl h9 (.inr ⟨0,rfl⟩) h15 aW λaX a8 bb h16=>dY (xD [1,2,3] (aj:=[hO zK (vS p6 y c6) cs,hO Int (vS aX ar a8) bb,hB b (cStmt s p1 c1 p2 c2 p3 c3 p4 c4)]))<|yW [] [9] rfl<|zQ<|zH<|zE<|yW [] [11] rfl<|yL<|gJ<|ih ar (W (i+1)) _ N H h h5 h8 h1 h2 h3 h4 h16 hg ho hx hr
 intro hc N;exact uQ<|wM (yN [1,2] rfl (by decide))<|xM<|hx _ _ _ _ _ (zB N).symm H h9
def fX(ag:(List zI))(s:zJ)(ah:(List Int)):Option ((List Int)×Int×Bool):=do
 let y<-mJ ([]:List zK) s.Value
 match<-qP ag ah y ([]:List Int) 0 with
 | .ret r0=>pure r0
 | .done ak=>
  let y2<-fA ag s.Write ah
  if(decide (y2<0)) then
   pure (([]:List Int),0,false)
  else
   pure (ak,y2,true)
theorem zFl:∀ag s ah r,fX ag s ah=some r->∀{I:Imm}{p c p1 c1 p2 c2 p3 c3 p4 c4 p5 c5},(S4 I p ag c)->(S4 I p1 s.Write.Subs c1)->(S4 I p2 s.Value.Index.Coefs c2)->(S4 I p3 s.Value.Read.Subs c3)->(S4 I p4 s.Value.Kids c4)->(S4 I p5 ah c5)->RT 61 [vS p ag c,vA (cStmt s p1 c1 p2 c2 p3 c3 p4 c4),vS p5 ah c5] I [] (zBO  r):=by
 intro ag s ah r N I p c p1 c1 p2 c2 p3 c3 p4 c4 p5 c5 h h1 h2 h3 h4 h5;unfold fX at N;refine yM func61 λB=>yJ<|uA (cStmt s p1 c1 p2 c2 p3 c3 p4 c4) ?_;intro b hb;refine yO [] []<|wG<|jJ [] Int ?_;intro b1 hb1;have h6:RL I [] ([]:List Int):=rfl;refine yW [] [9] rfl<|wG<|jJ [] zK ?_;intro b2 hb2;have h7:RL I [] ([]:List zK):=rfl;refine xF 3 [2] [(17,vA (cExpr s.Value p2 c2 p3 c3 p4 c4))]<|bE N λy hy N=>zH8 (zFk ([]:List zK) s.Value _ hy h7 h2 h3 h4) rfl ?_;rintro I0 aK v2 k2 le - ⟨p6,c6,cs,rfl,rfl,h8⟩ -;have ⟨h,h5,h6,h1,h2,h3⟩:=m6 le h h5 h6 h1 h2 h3;have h4:=h4.mono le;refine yW [] [10] rfl<|yE<|yG [11] rfl<|uP<|rX [(0,vS p ag c),(2,vS p5 ah c5),(4,vP b 0),(9,vS (some ⟨b1,0,none⟩) ([]:List Int) 0),(10,vS p6 y c6),(11,vI 0)] ?_;obtain⟨o0,ay,aB⟩:=zF N;refine zDu ag ah y ([]:List Int) 0 o0 ay iR h h5 h8 h1 h2 h3 h4 h6 (λ_ _ _ h=>h) (λ_ _ h=>h) ?_ ?_
 ·intro bq ak p8 c8 aV heq aR h10;subst o0;have ⟨h,h5,h1⟩:=m3 aR h h5 h1;refine zU<|wG<|xF 4 [1] [(39,vS p ag c),(41,vA (cAccess s.Write p1 c1)),(42,vS p5 ah c5)] ?_;obtain⟨y2,bk,N⟩:=zF aB;refine qJ (zCl ag s.Write ah _ bk h h1 h5) ?_;intro bG bg;have h10:=iM bg h10;refine yW [] [13] rfl<|yE<|yG [45] rfl<|zH<|yD N ?_ ?_
  ·intro aQ N;refine yJ<|jJ [] Int ?_;intro b5 hb5;have h18:RL bG [] ([]:List Int):=rfl;refine yW [] [6,7,8] rfl<|yS<|zG<|uY 0 rfl ?_;intro bL bo hl01;have h19:=SL.of_frozen hl01 bo h18;obtain rfl:=zB N;exact yV ⟨_,_,(.tmp rfl (.tmp rfl (.tmp rfl ResV.nil))),zO,⟨_,_,_,rfl,rfl,h19,rfl,rfl⟩⟩
  intro aQ N;refine zT<|wJ [6,7,8] rfl<|yS<|uY 0 rfl ?_;intro I06 bB hl02;have h20:=SL.of_frozen hl02 bB h10;obtain rfl:=zB N;exact yV ⟨_,_,(.tmp rfl (.tmp rfl (.tmp rfl ResV.nil))),zO,⟨_,_,_,rfl,rfl,h20,rfl,rfl⟩⟩
 intro r0 I9 hs9 m9 aC le9 aD;subst aC;refine zR<|zG ?_;obtain rfl:=zB aB;exact yV aD
def qQ(p:(List Int))(i:Int):Option (Out Unit (Bool)):=do
 if(decide (i<(p.length:Int))) then
  let x<-idx p i
  let y<-tB x 9999
  if(!y) then
   pure (.ret false)
  else
   qQ p (W (i+1))
 else
  pure (.done ())
 partial_fixpoint
theorem zDv(p:(List Int)):∀(i:Int) (o:Out Unit (Bool)),qQ p i=some o->∀{B}{I0 I:Imm}{Q p1 c},I0.le I->(S4 I p1 p c)->NG Q->NO Q->(∀(I':Imm) ,o=(.done ())->I0.le I'->T 19 B Q (.exit 0) I' [] [(0,vS p1 p c)])->(∀r I' aj m',o=(.ret r)->I0.le I'->RS Tryz.prog f62 B (zS  r) I' aj m'->T 19 B Q .ret I' aj m')->J Tryz.prog 19 B (nav (bodyOf f62) [1,0,1,0]) Q I [] [(0,vS p1 p c),(3,vI i)]:=by
 refine qQ.partial_correctness p _ λaG ih i o N B I0 I Q p1 c H h hg ho hx hr=>yK hg ho<|zM<|yG [7] rfl<|zH<|yD N ?_ ?_
 ·intro hc N;refine zT<|yE<|zZ<|yJ<|yR 2 [] [10,11] rfl<|bE N λx hy N=>xL rfl rfl h hy ?_;intro ad aF av aq;obtain rfl:=aq;refine yY 0 av [vI x] (vI x) rfl<|bE N λy aw N=>vJ (zAN x 9999 _ aw ) ?_;intro I0 le;have ⟨h,H⟩:=m2 le h H;refine yW [] [15] rfl<|zH<|yD N ?_ ?_
  ·intro aE N;exact xZ [(2,vF)]<|yS<|zR<|zG<|zG<|hr _ _ _ _ (zB N).symm H ⟨_,_,(.tmp rfl ResV.nil),zO,⟨_,rfl,rfl,rfl⟩⟩
  intro aE N;exact zT<|zQ<|zH<|zE<|yW [] [3] rfl<|yL<|gJ<|ih (W (i+1)) _ N H h hg ho hx hr
 intro hc N;exact uQ<|xM<|hx _  (zB N).symm H
def fY(p:(List Int)):Option (Bool):=do
 match<-qQ p 0 with
 | .ret r0=>pure r0
 | .done _=>
  pure (decide ((p.length:Int)<=4))
theorem zFm:∀p r,fY p=some r->∀{I:Imm}{p1 c},(S4 I p1 p c)->RT 62 [vS p1 p c] I [] (zS  r):=by
 intro p r N I p1 c h;unfold fY at N;refine yM func62 λB=>xZ []<|yE<|yG [3] rfl<|uP<|rX [(0,vS p1 p c),(3,vI 0)] ?_;obtain⟨o0,ay,aB⟩:=zF N;refine zDv p 0 o0 ay iR h (λ_ _ _ h=>h) (λ_ _ h=>h) ?_ ?_
 ·intro aN  heq ai;subst o0;refine zU<|wJ [2] rfl<|zH<|yF ?_;obtain rfl:=zB aB;exact xH
 intro r0 I9 hs9 m9 aC le9 aD;subst aC;refine zR<|zG ?_;obtain rfl:=zB aB;exact yV aD
def zAO(r:Int×Bool):KT:=λkk I' aj v=>
 ∃v0 v1,aj=[]/\v=tupV [v0,v1]/\v0=.int .i64 r.1/\v1=.bool r.2
def qB(ag:(List zI))(part:zN)(y1:(List (List Int)))(i:Int)(k0:Int):Option (Out Unit (Int×Bool)):=do
 if(decide (k0<(y1.length:Int))) then
  let x1<-idx part.Body i
  let x2<-idx y1 k0
  let (y5,y6,y7)<-fX ag x1 x2
  let t80<-(do
   if(!y7) then
    pure true
   else
    let x3<-idx y1 k0
    let y8<-fY x3
    pure (!y8)
     : Option Bool)
  if t80 then
   pure (.ret (0,false))
  else
   qB ag part y1 i (W (k0+1))
 else
  pure (.done ())
 partial_fixpoint
theorem zEg(ag:(List zI))(part:zN)(y1:(List (List Int)))(i:Int):∀(k0:Int) (o:Out Unit (Int×Bool)),qB ag part y1 i k0=some o->∀{B}{I0 I:Imm}{Q p c p1 c1 p2 c2}{b:Nat}{p3 c3},I0.le I->(S4 I p ag c)->(S4 I p3 y1 c3)->(S4 I p1 part.Nest c1)->(S4 I p2 part.Body c2)->NG Q->NO Q->(∀(I':Imm) ,o=(.done ())->I0.le I'->T 87 B Q (.exit 2) I' [hB b (cPart part p1 c1 p2 c2)] [(0,vS p ag c),(3,vP b 0),(6,vS p3 y1 c3),(8,vI i)])->(∀r I' aj m',o=(.ret r)->I0.le I'->RS Tryz.prog f33 B (zAO  r) I' aj m'->T 87 B Q .ret I' aj m')->J Tryz.prog 87 B (nav (bodyOf f33) [1,1,1,0,1,0,0,1,0,0,1,1,0]) Q I [hB b (cPart part p1 c1 p2 c2)] [(0,vS p ag c),(3,vP b 0),(6,vS p3 y1 c3),(8,vI i),(9,vI k0)]:=by
 refine qB.partial_correctness ag part y1 i _ λaG ih k0 o N B I0 I Q p c p1 c1 p2 c2 b p3 c3 H h h3 h1 h2 hg ho hx hr=>yK hg ho<|zM<|yG [53] rfl<|zH<|yD N ?_ ?_
 ·intro hc5 N;refine zT<|yE<|zZ<|zM ?_;obtain⟨x1,aW,N⟩:=zF N;obtain⟨x2,bk,N⟩:=zF N;obtain⟨⟨y5,y6,y7⟩,bC,N⟩:=zF N;refine uX [.p (vS p ag c) [],.p (vP b 1) [],.p (vS p2 part.Body c2) [0],.p (vI i) [],.x (ePStmt x1),.x (eVStmt x1),.p (vS p3 y1 c3) [],.p (vI k0) [],.x (λI' v hx=>∃ad2 bu bc,v=.pointer (some ad2)/\hx=[]/\(At I' ad2 [vS bu x2 bc])/\(S4 I' bu x2 bc)),.x (eS x2),.x (λI' v hx=>∃aZ bm,v=.tuple ⟨[vS aZ y5 bm,vI y6,.bool y7]⟩/\hx=[]/\(S4 I' aZ y5 bm)),.x (λI' v hx=>∃p131 c131,v=.tuple ⟨[vS p131 y5 c131,vI y6,.bool y7]⟩/\hx=[]/\(S4 I' p131 y5 c131)),.x (eS y5),.q (vI y6),.q (.bool y7),.x (eS y5),.p (vI y6) []] [[],[],[(1,false)],[],[(2,false),(3,false)],[(4,false)],[],[],[(6,false),(7,false)],[(8,false)],[(0,false),(5,false),(9,false)],[(10,false)],[(11,false)],[(11,false)],[(11,false)],[(12,false)],[(13,false)]] [hB b (cPart part p1 c1 p2 c2)] [] [(14,false)] (xD [0]) ?_ ?_
  ·refine Op<|Op<|Op<|Op<|Ox ?_<|Ox ?_<|Op<|Op<|Ox ?_<|Ox ?_<|Ox ?_<|Ox ?_<|Ox ?_<|Oq ?_<|Oq ?_<|Ox ?_<|Op<|On
   ·intro I1 hf ai;refine xV [59,60] rfl ?_;have h2:=h2.mono ai;refine xL rfl rfl h2 aW ?_;intro ad1 aY au aA;obtain⟨p8,c8,p9,c9,aX,a8,a7,a6,rfl,h10,h11,h12,h13⟩:=xY aA;exact xU [] iR ⟨_,_,_,_,_,_,_,_,_,rfl,rfl,au,h10,h11,h12,h13⟩
   ·rintro I1 hf ai _ _ ⟨ad1,p8,c8,p9,c9,aX,a8,a7,a6,rfl,rfl,au,h10,h11,h12,h13⟩;exact xV [61] rfl<|yY 0 au (cStmt x1 p8 c8 p9 c9 aX a8 a7 a6) (vA (cStmt x1 p8 c8 p9 c9 aX a8 a7 a6)) rfl<|xU [] iR ⟨_,_,_,_,_,_,_,_,rfl,rfl,h10,h11,h12,h13⟩
   ·intro I1 hf ai;refine xV [63,64] rfl ?_;have h3:=h3.mono ai;refine xL rfl rfl h3 bk ?_;intro ad2 bM aS bh;obtain⟨v011,rfl,h14⟩:=bh;obtain⟨bu,bc,rfl⟩:=h14.form;exact xU [] iR ⟨_,_,_,rfl,rfl,aS,h14⟩
   ·rintro I1 hf ai _ _ ⟨ad2,bu,bc,rfl,rfl,aS,h14⟩;exact xV [65] rfl<|yY 0 aS [vS bu x2 bc] (vS bu x2 bc) rfl<|xU [] iR ⟨_,_,rfl,rfl,h14⟩
   ·rintro I1 hf ai _ _ ⟨rfl,rfl⟩ _ _ ⟨p81,c81,p91,c91,p101,c101,p111,c111,rfl,rfl,h101,h111,h121,h131⟩ _ _ ⟨p121,c121,rfl,rfl,h141⟩;refine xV [57,62,66] rfl ?_;have H:=iS I1;have h:=h.mono ai;refine tG (zFl ag x1 x2 _ bC h h101 h111 h121 h131 h141) ?_;rintro bG aK v2 k2 bg - ⟨v012,v013,v014,rfl,rfl,h15,rfl,rfl⟩ -;have H:=H.trans bg;obtain⟨aZ,bm,rfl⟩:=h15.form;exact xU [] H ⟨_,_,rfl,rfl,h15⟩
   ·rintro I1 hf ai _ _ ⟨aZ,bm,rfl,rfl,h15⟩;exact xV [67] rfl<|nP 12 [(56,.tuple ⟨[vS aZ y5 bm,vI y6,.bool y7]⟩)]<|xU [] iR ⟨_,_,rfl,rfl,h15⟩
   ·rintro I1 hf ai _ _ ⟨p131,c131,rfl,rfl,h151⟩;exact xV [56] rfl<|nP 13 [(68,vS p131 y5 c131)]<|xU [] iR ⟨_,_,rfl,rfl,h151⟩
   ·rintro I1 hf ai _ _ ⟨p131,c131,rfl,rfl,h151⟩;exact xV [56] rfl<|nP 14 [(69,vI y6)]<|wD iR
   ·rintro I1 hf ai _ _ ⟨p131,c131,rfl,rfl,h151⟩;exact xV [56] rfl<|nP 15 [(70,.bool y7)]<|wD iR
   rintro I1 hf ai _ _ ⟨p1311,c1311,rfl,rfl,h1511⟩;exact xV [68] rfl<|nP 16 [(10,vS p1311 y5 c1311)]<|xU [] iR ⟨_,_,rfl,rfl,h1511⟩
  intro bL bo;refine xV [0,3,6,8,9,70] rfl ?_;have ⟨h,h3,h1,h2,H⟩:=m5 bo h h3 h1 h2 H;refine yW [] [12] rfl<|zH<|zM ?_;refine tZ N [hB b (cPart part p1 c1 p2 c2)] (λt80=>[(0,vS p ag c),(3,vP b 0),(6,vS p3 y1 c3),(8,vI i),(9,vI k0),(80,.bool t80)]) (λaO aJ=>?_) ?_
  ·have H:=iS bL;refine zE<|yR 3 [] [73] rfl<|wN [73] aJ ?_ ?_
   ·intro hc6 N;exact yO [] [(80,vY)]<|xM<|zY (ct N H)
   intro hc6 N;refine yR 5 [] [74,75] rfl<|bE N λx3 hy6 N=>xL rfl rfl h3 hy6 ?_;intro ad3 ccs3 hat3 bn;obtain⟨v015,rfl,h18⟩:=bn;obtain⟨p14,c14,rfl⟩:=h18.form;refine yY 0 hat3 [vS p14 x3 c14] (vS p14 x3 c14) rfl<|bE N λy8 hy7 N=>vJ (zFm x3 _ hy7 h18) ?_;intro I07 bB;have H:=H.trans bB;exact yW [] [80] rfl<|xM<|zY (ct N H)
  intro t80 I06 le7 hMc1;have ⟨h,h3,h1,h2,H⟩:=m5 le7 h h3 h1 h2 H;refine zH<|yD hMc1 ?_ ?_
  ·intro hc7 N;exact yG [4,5] rfl<|yS<|zR<|zG<|zG<|hr _ _ _ _ (zB N).symm H ⟨_,_,(.tmp rfl (.tmp rfl ResV.nil)),zO,⟨_,_,rfl,rfl,rfl,rfl⟩⟩
  intro hc7 N;exact zT<|zQ<|zH<|zE<|yW [] [9] rfl<|yL<|gJ<|ih (W (k0+1)) _ N H h h3 h1 h2 hg ho hx hr
 intro hc5 N;exact uQ<|xM<|hx _  (zB N).symm H
def qC(ag:(List zI))(part:zN)(y1:(List (List Int)))(i:Int):Option (Out Unit (Int×Bool)):=do
 if(decide (i<(part.Body.length:Int))) then
  let x<-idx part.Body i
  let y3<-nW x (part.Nest.length:Int)
  if(!y3) then
   pure (.ret (0,false))
  else
   match<-qB ag part y1 i 0 with
   | .ret r0=>pure (.ret r0)
   | .done _=>
    qC ag part y1 (W (i+1))
 else
  pure (.done ())
 partial_fixpoint
theorem zEh(ag:(List zI))(part:zN)(y1:(List (List Int))):∀(i:Int) (o:Out Unit (Int×Bool)),qC ag part y1 i=some o->∀{B}{I0 I:Imm}{Q p c p1 c1 p2 c2}{b:Nat}{p3 c3},I0.le I->(S4 I p ag c)->(S4 I p3 y1 c3)->(S4 I p1 part.Nest c1)->(S4 I p2 part.Body c2)->NG Q->NO Q->(∀(I':Imm) ,o=(.done ())->I0.le I'->T 87 B Q (.exit 0) I' [hB b (cPart part p1 c1 p2 c2)] [(3,vP b 0),(6,vS p3 y1 c3)])->(∀r I' aj m',o=(.ret r)->I0.le I'->RS Tryz.prog f33 B (zAO  r) I' aj m'->T 87 B Q .ret I' aj m')->J Tryz.prog 87 B (nav (bodyOf f33) [1,1,1,0,1,0]) Q I [hB b (cPart part p1 c1 p2 c2)] [(0,vS p ag c),(3,vP b 0),(6,vS p3 y1 c3),(8,vI i)]:=by
 refine qC.partial_correctness ag part y1 _ λaG ih i o N B I0 I Q p c p1 c1 p2 c2 b p3 c3 H h h3 h1 h2 hg ho hx hr=>yK hg ho<|zM<|yJ<|yW [0] [37] rfl<|zH<|yD N ?_ ?_
 ·intro bp N;refine zT<|yE<|zZ<|zM<|zM ?_;obtain⟨x,aw,N⟩:=zF N;obtain⟨y3,aI,N⟩:=zF N;refine uX [.p (vP b 1) [],.p (vS p2 part.Body c2) [0],.p (vI i) [],.x (ePStmt x),.x (eVStmt x),.p (vP b 0) [],.p (vS p1 part.Nest c1) [0],.p (vI (part.Nest.length:Int)) [],.q (.bool y3),.p (.bool (!y3)) []] [[],[(0,false)],[],[(1,false),(2,false)],[(3,false)],[],[(5,false)],[(6,false)],[(4,false),(7,false)],[(8,false)]] [hB b (cPart part p1 c1 p2 c2)] [] [(9,false)] (xD [0]) ?_ ?_
  ·refine Op<|Op<|Op<|Ox ?_<|Ox ?_<|Op<|Op<|Op<|Oq ?_<|Op<|On
   ·intro I1 hf ai;refine xV [41,42] rfl ?_;have h2:=h2.mono ai;refine xL rfl rfl h2 aw ?_;intro ad aF av aq;obtain⟨p4,c4,p5,c5,p6,c6,p7,c7,rfl,h5,h6,h7,h8⟩:=xY aq;exact xU [] iR ⟨_,_,_,_,_,_,_,_,_,rfl,rfl,av,h5,h6,h7,h8⟩
   ·rintro I1 hf ai _ _ ⟨ad,p4,c4,p5,c5,p6,c6,p7,c7,rfl,rfl,av,h5,h6,h7,h8⟩;exact xV [43] rfl<|yY 0 av (cStmt x p4 c4 p5 c5 p6 c6 p7 c7) (vA (cStmt x p4 c4 p5 c5 p6 c6 p7 c7)) rfl<|xU [] iR ⟨_,_,_,_,_,_,_,_,rfl,rfl,h5,h6,h7,h8⟩
   rintro I1 hf ai _ _ ⟨p41,c41,p51,c51,p61,c61,p71,c71,rfl,rfl,h51,h61,h71,h81⟩;refine xV [44,47] rfl ?_;have H:=iS I1;refine vJ (zBL x (part.Nest.length:Int) _ aI h51 h61 h71 h81) ?_;intro bf ax;have H:=H.trans ax;exact wD H
  intro bq aR;refine xV [0,3,6,8,49] rfl ?_;have ⟨h,h3,h1,h2,H⟩:=m5 aR h h3 h1 h2 H;refine zX rfl<|zH<|yD N ?_ ?_
  ·intro bD N;exact yG [4,5] rfl<|yS<|zG<|zR<|zG<|zG<|hr _ _ _ _ (zB N).symm H ⟨_,_,(.tmp rfl (.tmp rfl ResV.nil)),zO,⟨_,_,rfl,rfl,rfl,rfl⟩⟩
  intro bD N;refine zT<|wJ [9] rfl<|uP<|rX [(0,vS p ag c),(3,vP b 0),(6,vS p3 y1 c3),(8,vI i),(9,vI 0)] ?_;obtain⟨o02,ho02,aB⟩:=zF N;refine zEg ag part y1 i 0 o02 ho02 iR h h3 h1 h2 (λ_ _ _ h=>hg _ _ _ h) (λ_ _ h=>ho _ _ h) ?_ ?_
  ·intro I08  heq2 le8;subst o02;have ⟨h,h3,h1,h2,H⟩:=m5 le8 h h3 h1 h2 H;exact zU<|zQ<|zH<|zE<|yW [] [8] rfl<|yL<|gJ<|ih (W (i+1)) _ aB H h h3 h1 h2 hg ho hx hr
  intro r0 I9 hs9 m9 aC le9 aD;subst aC;exact zR<|zR<|zG<|zG<|hr _ _ _ _ (zB aB).symm (H.trans le9) aD
 intro bp N;exact uQ<|xM<|hx _  (zB N).symm H
def dD(ag:(List zI))(part:zN):Option (Int×Bool):=do
 let (y1,y2)<-kX part.Nest
 let t32<-(do
  if(!y2) then
   pure true
  else
   if(decide ((part.Body.length:Int)<1)) then
    pure true
   else
    pure (decide ((part.Body.length:Int)>4))
    : Option Bool)
 if t32 then
  pure (0,false)
 else
  match<-qC ag part y1 0 with
  | .ret r0=>pure r0
  | .done _=>
   pure ((W ((y1.length:Int)*(part.Body.length:Int))),true)
theorem zG5:∀ag part r,dD ag part=some r->∀{I:Imm}{p c p1 c1 p2 c2},(S4 I p ag c)->(S4 I p1 part.Nest c1)->(S4 I p2 part.Body c2)->RT 33 [vS p ag c,vA (cPart part p1 c1 p2 c2)] I [] (zAO  r):=by
 intro ag part r N I p c p1 c1 p2 c2 h h1 h2;unfold dD at N;refine yM func33 λB=>?_;have H:=iS I;refine yJ<|uA (cPart part p1 c1 p2 c2) ?_;intro b hb;refine yO [] []<|wG<|yR 2 [0] [15] rfl ?_;obtain⟨⟨y1,y2⟩,hy,N⟩:=zF N;refine tG (zDt part.Nest _ hy h1) ?_;rintro I0 aK v2 k2 le - ⟨v0,v01,rfl,rfl,h3,rfl⟩ -;have ⟨h,h1,h2,H⟩:=m4 le h h1 h2 H;obtain⟨p3,c3,rfl⟩:=h3.form;refine yW [] [6,7] rfl<|yE<|zM ?_;refine tZ N [hB b (cPart part p1 c1 p2 c2)] (λt32=>[(0,vS p ag c),(3,vP b 0),(6,vS p3 y1 c3),(32,.bool t32)]) (λo0 ay=>?_) ?_
 ·have H:=iS I0;refine zE<|yR 3 [] [21] rfl<|wN [21] ay ?_ ?_
  ·intro hc N;exact yO [] [(32,vY)]<|xM<|zY (ct N H)
  intro hc N;refine yR 9 [0] [27] rfl<|wN [27] N ?_ ?_
  ·intro aE N;exact yO [] [(32,vY)]<|xM<|zY (ct N H)
  intro aE N;exact yW [0] [32] rfl<|xM<|zY (ct N H)
 intro t32 aN ai aT;have ⟨h,h3,h1,h2⟩:=m4 ai h h3 h1 h2;refine zH<|yD aT ?_ ?_
 ·intro aQ N;refine yG [4,5] rfl<|yS<|zG ?_;obtain rfl:=zB N;exact yV ⟨_,_,(.tmp rfl (.tmp rfl ResV.nil)),zO,⟨_,_,rfl,rfl,rfl,rfl⟩⟩
 intro aQ N;refine zT<|yE<|yG [8] rfl<|uP<|rX [(0,vS p ag c),(3,vP b 0),(6,vS p3 y1 c3),(8,vI 0)] ?_;obtain⟨o03,ho03,hMl1⟩:=zF N;refine zEh ag part y1 0 o03 ho03 iR h h3 h1 h2 (λ_ _ _ h=>h) (λ_ _ h=>h) ?_ ?_
 ·intro I09  heq3 le9;subst o03;refine zU<|wG<|yW [0] [4,5] rfl<|zH<|yF ?_;obtain rfl:=zB hMl1;exact yV ⟨_,_,(.tmp rfl (.tmp rfl ResV.nil)),zO,⟨_,_,rfl,rfl,rfl,rfl⟩⟩
 intro r0 I9 hs9 m9 aC le9 aD;subst aC;refine zR<|zG ?_;obtain rfl:=zB hMl1;exact yV aD
def uS(p:zV)(total:Int)(i:Int):Option (Out Int (Bool)):=do
 if(decide (i<(p.Parts.length:Int))) then
  let x<-idx p.Parts i
  let (y2,y3)<-dD p.Arrays x
  if(!y3) then
   pure (.ret false)
  else
   uS p (W (total+y2)) (W (i+1))
 else
  pure (.done total)
 partial_fixpoint
theorem zB9(p:zV):∀(total:Int) (i:Int) (o:Out Int (Bool)),uS p total i=some o->∀{B}{I0 I:Imm}{Q p1 c p2 c1}{b:Nat},I0.le I->(S4 I p1 p.Arrays c)->(S4 I p2 p.Parts c1)->NG Q->NO Q->(∀(I':Imm) (total1:Int),o=(.done total1)->I0.le I'->T 42 B Q (.exit 0) I' [] [(3,vI total1)])->(∀r I' aj m',o=(.ret r)->I0.le I'->RS Tryz.prog f14 B (zS  r) I' aj m'->T 42 B Q .ret I' aj m')->J Tryz.prog 42 B (nav (bodyOf f14) [1,1,1,0,1,0]) Q I [hB b (cProg p p1 c p2 c1)] [(1,vP b 0),(3,vI total),(4,vI i)]:=by
 refine uS.partial_correctness p _ λaG ih total i o N B I0 I Q p1 c p2 c1 b H h h1 hg ho hx hr=>yK hg ho<|zM<|yJ<|yW [0] [21] rfl<|zH<|yD N ?_ ?_
 ·intro aQ N;refine zT<|yE<|zZ<|zM ?_;obtain⟨x,aw,N⟩:=zF N;obtain⟨⟨y2,y3⟩,aI,N⟩:=zF N;refine uX [.p (vP b 0) [],.p (vS p1 p.Arrays c) [0],.p (vP b 1) [],.p (vS p2 p.Parts c1) [0],.p (vI i) [],.x (ePPart x),.x (eVPart x),.q (.tuple ⟨[vI y2,.bool y3]⟩),.p (.tuple ⟨[vI y2,.bool y3]⟩) [],.p (vI y2) [],.p (.bool y3) [],.p (vI y2) []] [[],[(0,false)],[],[(2,false)],[],[(3,false),(4,false)],[(5,false)],[(1,false),(6,false)],[(7,false)],[(8,false)],[(8,false)],[(9,false)]] [hB b (cProg p p1 c p2 c1)] [] [(10,false),(11,false)] (xD [0]) ?_ ?_
  ·refine Op<|Op<|Op<|Op<|Op<|Ox ?_<|Ox ?_<|Oq ?_<|Op<|Op<|Op<|Op<|On
   ·intro I1 hf ai;refine xV [28,29] rfl ?_;have h1:=h1.mono ai;refine xL rfl rfl h1 aw ?_;intro ad aF av aq;obtain⟨p3,c2,p4,c3,rfl,h3,h4⟩:=qI aq;exact xU [] iR ⟨_,_,_,_,_,rfl,rfl,av,h3,h4⟩
   ·rintro I1 hf ai _ _ ⟨ad,p3,c2,p4,c3,rfl,rfl,av,h3,h4⟩;exact xV [30] rfl<|yY 0 av (cPart x p3 c2 p4 c3) (vA (cPart x p3 c2 p4 c3)) rfl<|xU [] iR ⟨_,_,_,_,rfl,rfl,h3,h4⟩
   rintro I1 hf ai _ _ ⟨rfl,rfl⟩ _ _ ⟨p31,c21,p41,c31,rfl,rfl,h31,h41⟩;refine xV [26,31] rfl ?_;have H:=iS I1;have h:=h.mono ai;refine tG (zG5 p.Arrays x _ aI h h31 h41) ?_;rintro bf aK v2 k2 ax - ⟨v03,v04,rfl,rfl,rfl,rfl⟩ -;have H:=H.trans ax;exact wD H
  intro bq aR;refine xV [1,3,4,5,34] rfl ?_;have ⟨h,h1,H⟩:=m3 aR h h1 H;refine yW [] [6] rfl<|yE<|yG [36] rfl<|zH<|yD N ?_ ?_
  ·intro bp N;exact xZ [(2,vF)]<|yS<|zG<|zR<|zG<|zG<|hr _ _ _ _ (zB N).symm H ⟨_,_,(.tmp rfl ResV.nil),zO,⟨_,rfl,rfl,rfl⟩⟩
  intro bp N;exact zT<|zH<|zE<|yW [] [3] rfl<|zQ<|zH<|zE<|yW [] [4] rfl<|yL<|gJ<|ih (W (total+y2)) (W (i+1)) _ N H h h1 hg ho hx hr
 intro aQ N;exact uQ<|wM zO<|xM<|hx _ _ (zB N).symm H
def nG(p:zV):Option (Bool):=do
 let t16<-(do
  let y<-gT p.Arrays
  if(!y) then
   pure true
  else
   pure (decide ((p.Parts.length:Int)>4))
    : Option Bool)
 if t16 then
  pure false
 else
  match<-uS p 0 0 with
  | .ret r0=>pure r0
  | .done total1=>
   pure (decide (total1<=120))
theorem zCm:∀p r,nG p=some r->∀{I:Imm}{p1 c p2 c1},(S4 I p1 p.Arrays c)->(S4 I p2 p.Parts c1)->RT 14 [vA (cProg p p1 c p2 c1)] I [] (zS  r):=by
 intro p r N I p1 c p2 c1 h h1;unfold nG at N;refine yM func14 λB=>?_;have H:=iS I;refine yJ<|uA (cProg p p1 c p2 c1) ?_;intro b hb;refine yO [] []<|yE<|zM ?_;refine tZ N [hB b (cProg p p1 c p2 c1)] (λt16=>[(1,vP b 0),(16,.bool t16)]) (λo0 ay=>?_) ?_
 ·have H:=iS I;refine zE<|yR 2 [0] [8] rfl ?_;obtain⟨y,hy,N⟩:=zF ay;refine vJ (zFT p.Arrays _ hy h) ?_;intro aN le;have H:=H.trans le;refine yR 5 [] [11] rfl<|wN [11] N ?_ ?_
  ·intro hc N;exact yO [] [(16,vY)]<|xM<|zY (ct N H)
  intro hc N;exact yW [0] [16] rfl<|xM<|zY (ct N H)
 intro t16 I0 ai aT;have ⟨h,h1⟩:=m2 ai h h1;refine zH<|yD aT ?_ ?_
 ·intro aE N;refine xZ [(2,vF)]<|yS<|zG ?_;obtain rfl:=zB N;exact xH
 intro aE N;refine zT<|wJ [3] rfl<|yE<|yG [4] rfl<|uP<|rX [(1,vP b 0),(3,vI 0),(4,vI 0)] ?_;obtain⟨aO,aJ,aB⟩:=zF N;refine zB9 p 0 0 aO aJ iR h h1 (λ_ _ _ h=>h) (λ_ _ h=>h) ?_ ?_
 ·intro bG total1 heq1 bg;subst aO;refine zU<|wJ [2] rfl<|zH<|yF ?_;obtain rfl:=zB aB;exact xH
 intro r0 I9 hs9 m9 aC le9 aD;subst aC;refine zR<|zG ?_;obtain rfl:=zB aB;exact yV aD
def sB(nest:(List zL))(i:Int)(k0:Int)(Lo:List zC):Option (List zC):=do
 let x<-idx nest i
 if(decide (k0<(x.Lo.length:Int))) then
  let x1<-idx nest i
  let x2<-idx x1.Lo k0
  let l<-app 8 ([]:List Int) x2.Coefs
  let l1<-app 32 Lo ([(zC.mk l x2.Const)]:List zC)
  sB nest i (W (k0+1)) l1
 else
  pure (id Lo)
 partial_fixpoint
theorem zEi(nest:(List zL))(i:Int):∀(k0:Int) (Lo:List zC) (o:List zC),sB nest i k0 Lo=some o->∀{B}{I0 I:Imm}{Q}{τ:Type} [Rp τ] {out:List τ}{p c p1 c1 cs}{b1:Nat}{p3 c3 aV},I0.le I->(S4 I p nest c)->(RL I cs out)->(RL I aV Lo)->NG Q->NO Q->(∀(I':Imm) (Lo1:List zC) (p4:Option Addr) (c4:Nat) (bb:List Value),o=Lo1->I0.le I'->(RL I' bb Lo1)->T 83 B Q (.exit 2) I' [hO zC (vS p4 Lo1 c4) bb,hB b1 [vS p4 Lo1 c4,z0],hO τ (vS p1 out c1) cs] [(0,vS p nest c),(3,vS p1 out c1),(4,vI i),(5,vP b1 0)])->J Tryz.prog 83 B (nav (bodyOf f34) [1,1,0,1,0,0,1,0,0,1,0,1,0]) Q I [hO zC (vS p3 Lo c3) aV,hB b1 [vS p3 Lo c3,z0],hO τ (vS p1 out c1) cs] [(0,vS p nest c),(3,vS p1 out c1),(4,vI i),(5,vP b1 0),(6,vI k0)]:=by
 refine sB.partial_correctness nest i _ λaG ih k0 Lo o N B I0 I Q τ _ out p c p1 c1 cs b1 p3 c3 aV H h h2 h5 hg ho hx=>yK hg ho<|zM<|yJ<|yR 3 [] [18,19,20] rfl<|bE N λx hy N=>xL rfl rfl h hy ?_;intro ad aF av aq;obtain⟨p5,c5,p6,c6,rfl,h7,h8⟩:=uD aq;refine yR 5 [] [22] rfl<|yY 0 av [vS p5 x.Lo c5] (vS p5 x.Lo c5) rfl<|yW [] [25] rfl<|zH<|yD N ?_ ?_
 ·intro aE N;refine zT<|yE<|zZ<|yJ<|yR 2 [] [28,29] rfl<|bE N λx1 aw N=>xL rfl rfl h aw ?_;intro ad1 aY au aA;obtain⟨p7,c7,p8,c8,rfl,h9,h10⟩:=uD aA;refine yR 4 [] [31] rfl<|yY 0 au [vS p7 x1.Lo c7] (vS p7 x1.Lo c7) rfl<|yR 6 [] [33] rfl<|bE N λx2 aI N=>xL rfl rfl h9 aI ?_;intro ad2 bM aS bh;obtain⟨p9,c9,rfl,h11⟩:=yQ bh;refine yY 0 aS (cAff x2 p9 c9) (vA (cAff x2 p9 c9)) rfl<|nV [z0,vI 0] ?_;intro b2 hb2;refine tA 0 (cAff x2 p9 c9) rfl<|zX rfl<|zH ?_;obtain⟨l,aW,N⟩:=zF N;obtain⟨l1,bk,N⟩:=zF N;refine uX [.p (vP b1 0) [],.p (vS p3 Lo c3) [1],.x (λI' v hx=>∃b3,v=vS (some ⟨b3,0,none⟩) ([]:List Int) 0/\hx=[hO Int (vS (some ⟨b3,0,none⟩) ([]:List Int) 0) []]/\(RL I' [] ([]:List Int))),.p (vP b2 0) [],.p (vS p9 x2.Coefs c9) [0],.x (λI' v hx=>∃aX a8 br,v=vS aX l a8/\hx=[hO Int (vS aX l a8) br]/\(RL I' br l)),.p (vP b2 1) [],.p (vI x2.Const) [0],.x (λI' v hx=>∃p101 c101 cs41,v=vA [vS p101 l c101,vI x2.Const]/\hx=[hO Int (vS p101 l c101) cs41]/\(RL I' cs41 l)),.x (λI' v hx=>∃b4,v=vS (some ⟨b4,0,none⟩) ([(zC.mk l x2.Const)]:List zC) 1/\hx=[]/\(SL I' (vS (some ⟨b4,0,none⟩) ([(zC.mk l x2.Const)]:List zC) 1) ([(zC.mk l x2.Const)]:List zC))),.x (λI' v hx=>∃a7 a6 bw,v=vS a7 l1 a6/\hx=[hO zC (vS a7 l1 a6) bw]/\(RL I' bw l1))] [[],[(0,false)],[],[],[(3,false)],[(2,true),(4,false)],[],[(6,false)],[(5,true),(7,false)],[(8,true)],[(1,false),(9,false),(13,true)]] [hB b2 (cAff x2 p9 c9),hB b1 [vS p3 Lo c3,z0],hO τ (vS p1 out c1) cs] [[hO zC (vS p3 Lo c3) aV]] [(10,true)] (xD [0,2,3,1]) ?_ ?_
  ·refine Op<|Op<|Ox ?_<|Op<|Op<|Ox ?_<|Op<|Op<|Ox ?_<|Ox ?_<|Ox ?_<|On
   ·intro I1 hf ai;refine I_h []<|jJ [] Int ?_;intro b3 hb3;have h12:RL I1 [] ([]:List Int):=rfl;exact xU [hO Int (vS (some ⟨b3,0,none⟩) ([]:List Int) 0) []] iR ⟨_,rfl,rfl,h12⟩
   ·rintro I1 hf ai _ _ ⟨b3,rfl,rfl,h12⟩;refine xV [38,40] rfl ?_;have h11:=h11.mono ai;obtain⟨ccs3,k01,k02⟩:=h11;have h11:SL I1 (vS p9 x2.Coefs c9) x2.Coefs:=⟨_,k01,k02⟩;exact fU 3 1 0 rfl rfl rfl h12 (.inl k01) k02 aW λaX a8 br h13=>jK (aj:=(hO Int (vS aX l a8) br::hB b2 (cAff x2 p9 c9)::hB b1 [vS p3 Lo c3,z0]::hO τ (vS p1 out c1) cs::hf)) rfl<|xU [hO Int (vS aX l a8) br] iR ⟨_,_,_,rfl,rfl,h13⟩
   ·rintro I1 hf ai _ _ ⟨aX,a8,br,rfl,rfl,h13⟩;exact xV [41,43] rfl<|nP 9 [(44,vA [vS aX l a8,vI x2.Const])]<|xU [hO Int (vS aX l a8) br] iR ⟨_,_,_,rfl,rfl,h13⟩
   ·rintro I1 hf ai _ _ ⟨p101,c101,cs41,rfl,rfl,h131⟩;refine xV [44] rfl ?_;have H:=iS I1;refine tP 0 rfl ?_;intro I0 le hl0;have h14:=SL.of_frozen hl0 le h131;have H:=H.trans le;refine zIM (rc (zC.mk l x2.Const) (sA ⟨_,rfl,h14⟩) rN) ?_;intro b4 aN ai h16;have H:=H.trans ai;exact xU [] H ⟨_,rfl,rfl,h16⟩
   rintro I1 hf ai _ _ ⟨rfl,rfl⟩ _ _ ⟨b4,rfl,rfl,h16⟩ _ _ rfl;refine xV [37,45] rfl ?_;have h5:=iM ai h5;obtain⟨ccs4,k03,k04⟩:=h16;have h16:SL I1 (vS (some ⟨b4,0,none⟩) ([(zC.mk l x2.Const)]:List zC) 1) ([(zC.mk l x2.Const)]:List zC):=⟨_,k03,k04⟩;exact fU 50 2 0 rfl rfl rfl h5 (.inl k03) k04 bk λa7 a6 bw h17=>jK (aj:=(hO zC (vS a7 l1 a6) bw::hB b2 (cAff x2 p9 c9)::hB b1 [vS p3 Lo c3,z0]::hO τ (vS p1 out c1) cs::hf)) rfl<|xU [hO zC (vS a7 l1 a6) bw] iR ⟨_,_,_,rfl,rfl,h17⟩
  rintro bf ax _ _ ⟨a7,a6,bw,rfl,rfl,h17⟩;refine xV [0,3,4,5,6,46] rfl ?_;have ⟨h,h2,H⟩:=m3 ax h h2 H;exact yR 12 [] [47] rfl<|tA 2 [vS a7 l1 a6,z0] rfl<|zX rfl<|zQ<|zH<|zE<|yW [] [6] rfl<|yL<|kU (yN [0,2,3] rfl (by decide))<|gJ<|ih (W (k0+1)) l1 _ N H h h2 h17 hg ho hx
 intro aE N;exact uQ<|xM<|hx _ _ _ _ _ (zB N).symm H h5
def sC(nest:(List zL))(i:Int)(k05:Int)(Hi:List zC):Option (List zC):=do
 let x3<-idx nest i
 if(decide (k05<(x3.Hi.length:Int))) then
  let x4<-idx nest i
  let x5<-idx x4.Hi k05
  let l2<-app 8 ([]:List Int) x5.Coefs
  let l3<-app 32 Hi ([(zC.mk l2 x5.Const)]:List zC)
  sC nest i (W (k05+1)) l3
 else
  pure (id Hi)
 partial_fixpoint
theorem zEj(nest:(List zL))(i:Int):∀(k05:Int) (Hi:List zC) (o:List zC),sC nest i k05 Hi=some o->∀{B}{I0 I:Imm}{Q}{τ:Type} [Rp τ] {out:List τ}{Lo1:List zC}{p c p1 c1 cs}{b1:Nat}{p4 c4 bb bu bc cs6},I0.le I->(S4 I p nest c)->(RL I cs out)->(RL I bb Lo1)->(RL I cs6 Hi)->NG Q->NO Q->(∀(I':Imm) (Hi1:List zC) (aZ:Option Addr) (bm:Nat) (cs7:List Value),o=Hi1->I0.le I'->(RL I' cs7 Hi1)->T 83 B Q (.exit 4) I' [hO zC (vS aZ Hi1 bm) cs7,hO zC (vS p4 Lo1 c4) bb,hB b1 [vS p4 Lo1 c4,vS aZ Hi1 bm],hO τ (vS p1 out c1) cs] [(0,vS p nest c),(3,vS p1 out c1),(4,vI i),(5,vP b1 0)])->J Tryz.prog 83 B (nav (bodyOf f34) [1,1,0,1,0,0,1,0,0,1,1,0,1,0]) Q I [hO zC (vS bu Hi bc) cs6,hO zC (vS p4 Lo1 c4) bb,hB b1 [vS p4 Lo1 c4,vS bu Hi bc],hO τ (vS p1 out c1) cs] [(0,vS p nest c),(3,vS p1 out c1),(4,vI i),(5,vP b1 0),(8,vI k05)]:=by
 refine sC.partial_correctness nest i _ λaG ih k05 Hi o N B I0 I Q τ _ out Lo1 p c p1 c1 cs b1 p4 c4 bb bu bc cs6 H h h2 h6 h19 hg ho hx=>yK hg ho<|zM<|yJ<|yR 3 [] [48,49,50] rfl<|bE N λx3 bC N=>xL rfl rfl h bC ?_;intro ad3 ccs5 hat3 bn;obtain⟨p14,c14,p15,c15,rfl,h21,h22⟩:=uD bn;refine yR 5 [] [52] rfl<|yY 1 hat3 [vS p15 x3.Hi c15] (vS p15 x3.Hi c15) rfl<|yW [] [55] rfl<|zH<|yD N ?_ ?_
 ·intro aQ N;refine zT<|yE<|zZ<|yJ<|yR 2 [] [58,59] rfl<|bE N λx4 hy6 N=>xL rfl rfl h hy6 ?_;intro ad4 ccs6 hat4 hrep4;obtain⟨p16,c16,p17,c17,rfl,h23,h24⟩:=uD hrep4;refine yR 4 [] [61] rfl<|yY 1 hat4 [vS p17 x4.Hi c17] (vS p17 x4.Hi c17) rfl<|yR 6 [] [63] rfl<|bE N λx5 hy7 N=>xL rfl rfl h24 hy7 ?_;intro ad5 ccs7 hat5 hrep5;obtain⟨p18,c18,rfl,h25⟩:=yQ hrep5;refine yY 0 hat5 (cAff x5 p18 c18) (vA (cAff x5 p18 c18)) rfl<|nV [z0,vI 0] ?_;intro b5 hb5;refine tA 0 (cAff x5 p18 c18) rfl<|zX rfl<|zH ?_;obtain⟨l2,hy8,N⟩:=zF N;obtain⟨l3,hy9,N⟩:=zF N;refine uX [.p (vP b1 1) [],.p (vS bu Hi bc) [2],.x (λI' v hx=>∃b6,v=vS (some ⟨b6,0,none⟩) ([]:List Int) 0/\hx=[hO Int (vS (some ⟨b6,0,none⟩) ([]:List Int) 0) []]/\(RL I' [] ([]:List Int))),.p (vP b5 0) [],.p (vS p18 x5.Coefs c18) [0],.x (λI' v hx=>∃p19 c19 cs8,v=vS p19 l2 c19/\hx=[hO Int (vS p19 l2 c19) cs8]/\(RL I' cs8 l2)),.p (vP b5 1) [],.p (vI x5.Const) [0],.x (λI' v hx=>∃p191 c191 cs81,v=vA [vS p191 l2 c191,vI x5.Const]/\hx=[hO Int (vS p191 l2 c191) cs81]/\(RL I' cs81 l2)),.x (λI' v hx=>∃b7,v=vS (some ⟨b7,0,none⟩) ([(zC.mk l2 x5.Const)]:List zC) 1/\hx=[]/\(SL I' (vS (some ⟨b7,0,none⟩) ([(zC.mk l2 x5.Const)]:List zC) 1) ([(zC.mk l2 x5.Const)]:List zC))),.x (λI' v hx=>∃p20 c20 cs9,v=vS p20 l3 c20/\hx=[hO zC (vS p20 l3 c20) cs9]/\(RL I' cs9 l3))] [[],[(0,false)],[],[],[(3,false)],[(2,true),(4,false)],[],[(6,false)],[(5,true),(7,false)],[(8,true)],[(1,false),(9,false),(13,true)]] [hB b5 (cAff x5 p18 c18),hO zC (vS p4 Lo1 c4) bb,hB b1 [vS p4 Lo1 c4,vS bu Hi bc],hO τ (vS p1 out c1) cs] [[hO zC (vS bu Hi bc) cs6]] [(10,true)] (xD [0,2,3,4,1]) ?_ ?_
  ·refine Op<|Op<|Ox ?_<|Op<|Op<|Ox ?_<|Op<|Op<|Ox ?_<|Ox ?_<|Ox ?_<|On
   ·intro I1 hf ai;refine I_h []<|jJ [] Int ?_;intro b6 hb6;have h26:RL I1 [] ([]:List Int):=rfl;exact xU [hO Int (vS (some ⟨b6,0,none⟩) ([]:List Int) 0) []] iR ⟨_,rfl,rfl,h26⟩
   ·rintro I1 hf ai _ _ ⟨b6,rfl,rfl,h26⟩;refine xV [68,70] rfl ?_;have h25:=h25.mono ai;obtain⟨ccs8,k06,k07⟩:=h25;have h25:SL I1 (vS p18 x5.Coefs c18) x5.Coefs:=⟨_,k06,k07⟩;exact fU 3 1 0 rfl rfl rfl h26 (.inl k06) k07 hy8 λp19 c19 cs8 h27=>jK (aj:=(hO Int (vS p19 l2 c19) cs8::hB b5 (cAff x5 p18 c18)::hO zC (vS p4 Lo1 c4) bb::hB b1 [vS p4 Lo1 c4,vS bu Hi bc]::hO τ (vS p1 out c1) cs::hf)) rfl<|xU [hO Int (vS p19 l2 c19) cs8] iR ⟨_,_,_,rfl,rfl,h27⟩
   ·rintro I1 hf ai _ _ ⟨p19,c19,cs8,rfl,rfl,h27⟩;exact xV [71,73] rfl<|nP 9 [(74,vA [vS p19 l2 c19,vI x5.Const])]<|xU [hO Int (vS p19 l2 c19) cs8] iR ⟨_,_,_,rfl,rfl,h27⟩
   ·rintro I1 hf ai _ _ ⟨p191,c191,cs81,rfl,rfl,h271⟩;refine xV [74] rfl ?_;have H:=iS I1;refine tP 0 rfl ?_;intro bG bg hl02;have h28:=SL.of_frozen hl02 bg h271;have H:=H.trans bg;refine zIM (rc (zC.mk l2 x5.Const) (sA ⟨_,rfl,h28⟩) rN) ?_;intro b7 bL bo h30;have H:=H.trans bo;exact xU [] H ⟨_,rfl,rfl,h30⟩
   rintro I1 hf ai _ _ ⟨rfl,rfl⟩ _ _ ⟨b7,rfl,rfl,h30⟩ _ _ rfl;refine xV [67,75] rfl ?_;have h19:=iM ai h19;obtain⟨ccs9,k08,k09⟩:=h30;have h30:SL I1 (vS (some ⟨b7,0,none⟩) ([(zC.mk l2 x5.Const)]:List zC) 1) ([(zC.mk l2 x5.Const)]:List zC):=⟨_,k08,k09⟩;exact fU 50 2 0 rfl rfl rfl h19 (.inl k08) k09 hy9 λp20 c20 cs9 h31=>jK (aj:=(hO zC (vS p20 l3 c20) cs9::hB b5 (cAff x5 p18 c18)::hO zC (vS p4 Lo1 c4) bb::hB b1 [vS p4 Lo1 c4,vS bu Hi bc]::hO τ (vS p1 out c1) cs::hf)) rfl<|xU [hO zC (vS p20 l3 c20) cs9] iR ⟨_,_,_,rfl,rfl,h31⟩
  rintro I06 bB _ _ ⟨p20,c20,cs9,rfl,rfl,h31⟩;refine xV [0,3,4,5,8,76] rfl ?_;have ⟨h,h2,h6,H⟩:=m4 bB h h2 h6 H;exact yR 12 [] [77] rfl<|tA 3 [vS p4 Lo1 c4,vS p20 l3 c20] rfl<|zX rfl<|zQ<|zH<|zE<|yW [] [8] rfl<|yL<|kU (yN [0,2,3,4] rfl (by decide))<|gJ<|ih (W (k05+1)) l3 _ N H h h2 h6 h31 hg ho hx
 intro aQ N;exact uQ<|xM<|hx _ _ _ _ _ (zB N).symm H h19
def sD(nest:(List zL))(out:List zL)(i:Int):Option (List zL):=do
 if(decide (i<(nest.length:Int))) then
  let Lo1<-sB nest i 0 ([]:List zC)
  let Hi1<-sC nest i 0 ([]:List zC)
  let ar<-app 48 out ([(zL.mk Lo1 Hi1)]:List zL)
  sD nest ar (W (i+1))
 else
  pure (id out)
 partial_fixpoint
theorem zEk(nest:(List zL)):∀(out:List zL) (i:Int) (o:List zL),sD nest out i=some o->∀{B}{I0 I:Imm}{Q p c p1 c1 cs},I0.le I->(S4 I p nest c)->(RL I cs out)->NG Q->NO Q->(∀(I':Imm) (ak:List zL) (p2:Option Addr) (c2:Nat) (aM:List Value),o=ak->I0.le I'->(RL I' aM ak)->T 83 B Q (.exit 0) I' [hO zL (vS p2 ak c2) aM] [(3,vS p2 ak c2)])->J Tryz.prog 83 B (nav (bodyOf f34) [1,1,0,1,0]) Q I [hO zL (vS p1 out c1) cs] [(0,vS p nest c),(3,vS p1 out c1),(4,vI i)]:=by
 refine sD.partial_correctness nest _ λaG ih out i o N B I0 I Q p c p1 c1 cs H h h2 hg ho hx=>yK hg ho<|zM<|yG [14] rfl<|zH<|yD N ?_ ?_
 ·intro hc N;refine zT<|yE<|zZ<|yJ<|yR 1 [] [17] rfl<|nV zTwo ?_;intro b1 hb1;refine uJ 0 zTwo [hB b1 zTwo,hO zL (vS p1 out c1) cs] rfl rfl rfl rfl<|zX rfl<|yE<|yG [6] rfl<|uP<|rX [(0,vS p nest c),(3,vS p1 out c1),(4,vI i),(5,vP b1 0),(6,vI 0)]<|zH7 zC λh4=>?_;obtain⟨o0,ay,aB⟩:=zF N;refine zEi nest i 0 ([]:List zC) o0 ay iR h h2 h4 (λ_ _ _ h=>hg _ _ _ h) (λ_ _ h=>ho _ _ h) ?_;intro bq Lo1 p4 c4 bb heq aR h6;subst o0;have ⟨h,h2,H⟩:=m3 aR h h2 H;refine zU<|yE<|yG [8] rfl<|uP<|rX [(0,vS p nest c),(3,vS p1 out c1),(4,vI i),(5,vP b1 0),(8,vI 0)]<|zH7 zC λh18=>?_;obtain⟨aO,aJ,hMl1⟩:=zF aB;refine zEj nest i 0 ([]:List zC) aO aJ iR h h2 h6 h18 (λ_ _ _ h=>hg _ _ _ h) (λ_ _ h=>ho _ _ h) ?_;intro I07 Hi1 aZ bm cs7 heq1 le7 h20;subst aO;have ⟨h,h2,h6,H⟩:=m4 le7 h h2 h6 H;refine zU<|zH<|zE<|xF 2 [2] [(78,vS p1 out c1),(79,vA [vS p4 Lo1 c4,vS aZ Hi1 bm])]<|tP 1 rfl ?_;intro I08 le8 hl04;have h32:=SL.of_frozen hl04 le8 h6;have ⟨h,h2,h20,H⟩:=m4 le8 h h2 h20 H;refine tP 0 rfl ?_;intro I09 le9 hl05;have h33:=SL.of_frozen hl05 le9 h20;have ⟨h,h2,h32,H⟩:=m4 le9 h h2 h32 H;refine jJ [vS p4 Lo1 c4,vS aZ Hi1 bm] zL ?_;intro b8 hb8;have h34:RL I09 [vS p4 Lo1 c4,vS aZ Hi1 bm] ([(zL.mk Lo1 Hi1)]:List zL):=⟨[vS p4 Lo1 c4,vS aZ Hi1 bm],_,rfl,rfl,(jL ⟨_,_,rfl,h32,h33⟩),rfl⟩;obtain⟨ar,hy10,N⟩:=zF hMl1;exact fU 107 2 2 rfl rfl rfl h2 (.inr ⟨0,rfl⟩) h34 hy10 λp21 c21 cs10 h35=>dY (xD [1,2] (aj:=[hB b1 [vS p4 Lo1 c4,vS aZ Hi1 bm],hO zL (vS p21 ar c21) cs10]))<|yW [] [3] rfl<|zQ<|zH<|zE<|yW [] [4] rfl<|yL<|kU (yN [1] rfl (by decide))<|gJ<|ih ar (W (i+1)) _ N H h h35 hg ho hx
 intro hc N;exact uQ<|xM<|hx _ _ _ _ _ (zB N).symm H h2
def dE(nest:(List zL)):Option ((List zL)):=do
 let ak<-sD nest ([]:List zL) 0
 pure (id ak)
theorem zG6:∀nest r,dE nest=some r->∀{I:Imm}{p c},(S4 I p nest c)->RT 34 [vS p nest c] I [] (dA  r):=by
 intro nest r N I p c h;unfold dE at N;refine yM func34 λB=>xZ []<|wG<|jJ [] zL ?_;intro b hb;have h1:RL I [] ([]:List zL):=rfl;refine yW [] [3] rfl<|yE<|yG [4] rfl<|uP<|rX [(0,vS p nest c),(3,vS (some ⟨b,0,none⟩) ([]:List zL) 0),(4,vI 0)] ?_;obtain⟨o02,ho02,hMl2⟩:=zF N;refine zEk nest ([]:List zL) 0 o02 ho02 iR h h1 (λ_ _ _ h=>h) (λ_ _ h=>h) ?_;intro bO ak p2 c2 aM heq2 le10 h3;subst o02;refine zU<|wJ [2] rfl<|yS<|uY 0 rfl ?_;intro bU le11 hl06;have h36:=SL.of_frozen hl06 le11 h3;obtain rfl:=zB hMl2;exact yV ⟨_,_,(.tmp rfl ResV.nil),zO,⟨_,rfl,rfl,h36⟩⟩
mutual
def qR(e0:zD):Option (zD):=do
 let y<-sK e0.Index
 let y1<-uE e0.Read
 let Kids1<-vO (same e0) (same 0) ([]:List zD)
 pure (zD.mk e0.Kind e0.Num y y1 Kids1)
 partial_fixpoint
def vO(e0:zD)(i:Int)(Kids:List zD):Option (List zD):=do
 if(decide (i<(e0.Kids.length:Int))) then
  let x<-idx e0.Kids i
  let y2<-qR (same x)
  let l<-app 112 Kids ([y2]:List zD)
  vO (same e0) (W (i+1)) (same l)
 else
  pure (id Kids)
 partial_fixpoint
end
theorem zDV:(∀(e0:zD) r,qR e0=some r->∀{I:Imm}{p c p1 c1 p2 c2},(S4 I p e0.Index.Coefs c)->(S4 I p1 e0.Read.Subs c1)->(S4 I p2 e0.Kids c2)->RT 63 [vA (cExpr e0 p c p1 c1 p2 c2)] I [] (vM  r))/\(∀(e0:zD) (i:Int) (Kids:List zD) o,vO e0 i Kids=some o->∀{B}{I0 I:Imm}{Q}{y:zC}{y1:zK}{p c p1 c1 p2 c2}{b:Nat}{b1:Nat}{p31 c31 p41 c41}{b2:Nat}{p5 c5 aV},I0.le I->(S4 I p31 y.Coefs c31)->(S4 I p41 y1.Subs c41)->(S4 I p e0.Index.Coefs c)->(S4 I p1 e0.Read.Subs c1)->(S4 I p2 e0.Kids c2)->(RL I aV Kids)->NG Q->NO Q->(∀(I':Imm) (Kids1:List zD) (p6:Option Addr) (c6:Nat) (bb:List Value),o=Kids1->I0.le I'->(RL I' bb Kids1)->T 35 B Q (.exit 0) I' [hO zD (vS p6 Kids1 c6) bb,hB b2 [vI e0.Kind,vI e0.Num,vS p31 y.Coefs c31,vI y.Const,vT y1.Array.l,vS p41 y1.Subs c41,vS p6 Kids1 c6],hB b1 zExpr] [(2,vP b1 0),(3,vP b2 0)])->J Tryz.prog 35 B (nav (bodyOf f63) [1,1,0,1,0]) Q I [hO zD (vS p5 Kids c5) aV,hB b2 [vI e0.Kind,vI e0.Num,vS p31 y.Coefs c31,vI y.Const,vT y1.Array.l,vS p41 y1.Subs c41,vS p5 Kids c5],hB b1 zExpr,hB b (cExpr e0 p c p1 c1 p2 c2)] [(1,vP b 0),(2,vP b1 0),(3,vP b2 0),(4,vI i)]):=by
 refine qR.mutual_partial_correctness _ _ ?_ ?_
 ·intro F_spec_l3CopyExpr_l1 ih_spec_l3CopyExpr_l1 e0 r N I p c p1 c1 p2 c2 h h1 h2;refine yM func63 λB=>?_;have H:=iS I;refine yJ<|uA (cExpr e0 p c p1 c1 p2 c2) ?_;intro b hb;refine nV zExpr ?_;intro b1 hb1;refine zX rfl<|zH<|zM ?_;obtain⟨y,hy,N⟩:=zF N;obtain⟨y1,aw,N⟩:=zF N;refine uX [.p (vP b 0) [],.p (vI e0.Kind) [1],.p (vP b 1) [],.p (vI e0.Num) [1],.p (vP b 2) [],.p (vA (cAff e0.Index p c)) [1],.x (eVAff y),.p (vP b 4) [],.p (vA (cAccess e0.Read p1 c1)) [1],.x (eVAccess y1),.x (λI' v hx=>∃p31 c31 p41 c41,v=vA [vI e0.Kind,vI e0.Num,vS p31 y.Coefs c31,vI y.Const,vT y1.Array.l,vS p41 y1.Subs c41,z0]/\hx=[]/\(S4 I' p31 y.Coefs c31)/\(S4 I' p41 y1.Subs c41)),.x (λI' v hx=>∃b2,v=vP b2 0/\hx=[hB b2 zExpr])] [[],[(0,false)],[],[(2,false)],[],[(4,false)],[(5,false)],[],[(7,false)],[(8,false)],[(1,false),(3,false),(6,false),(9,false)],[]] [hB b1 zExpr,hB b (cExpr e0 p c p1 c1 p2 c2)] [] [(10,false),(11,true)] (xD [0,1]) ?_ ?_
  ·refine Op<|Op<|Op<|Op<|Op<|Op<|Ox ?_<|Op<|Op<|Ox ?_<|Ox ?_<|Ox ?_<|On
   ·intro I1 hf ai;refine xV [10] rfl ?_;have H:=iS I1;have h:=h.mono ai;refine tG (fW e0.Index _ hy h) ?_;rintro I0 aK v2 k2 le - ⟨v0,rfl,rfl,⟨cs,rfl,h3⟩⟩ -;have H:=H.trans le;obtain⟨p3,c3,rfl,h4⟩:=yQ h3;exact xU [] H ⟨_,_,rfl,rfl,h4⟩
   ·intro I1 hf ai;refine xV [13] rfl ?_;have H:=iS I1;have h1:=h1.mono ai;refine tG (oV e0.Read _ aw h1) ?_;rintro aN aK v2 k2 ai - ⟨v02,rfl,rfl,⟨aM,rfl,h5⟩⟩ -;have H:=H.trans ai;obtain⟨p4,c4,rfl,h6⟩:=rD h5;exact xU [] H ⟨_,_,rfl,rfl,h6⟩
   ·rintro I1 hf ai _ _ ⟨rfl,rfl⟩ _ _ ⟨rfl,rfl⟩ _ _ ⟨p3,c3,rfl,rfl,h4⟩ _ _ ⟨p4,c4,rfl,rfl,h6⟩;exact xV [6,8,11,14] rfl<|nP 11 [(15,vA [vI e0.Kind,vI e0.Num,vS p3 y.Coefs c3,vI y.Const,vT y1.Array.l,vS p4 y1.Subs c4,z0])]<|xU [] iR ⟨_,_,_,_,rfl,rfl,h4,h6⟩
   intro I1 hf ai;refine I_h []<|nV zExpr ?_;intro b2 hb2;exact xU [hB b2 zExpr] iR ⟨_,rfl,rfl⟩
  rintro bf ax _ _ ⟨p31,c31,p41,c41,rfl,rfl,h41,h61⟩ _ _ ⟨b2,rfl,rfl⟩;refine xV [1,2,3,15] rfl ?_;have ⟨h,h1,h2⟩:=m3 ax h h1 h2;refine tA 0 [vI e0.Kind,vI e0.Num,vS p31 y.Coefs c31,vI y.Const,vT y1.Array.l,vS p41 y1.Subs c41,z0] rfl<|zX rfl<|yE<|yG [4] rfl<|uP<|rX [(1,vP b 0),(2,vP b1 0),(3,vP b2 0),(4,vI 0)]<|zH7 zD λh7=>?_;obtain⟨o0,ay,aB⟩:=zF N;refine ih_spec_l3CopyExpr_l1 e0 0 ([]:List zD) o0 ay iR h41 h61 h h1 h2 h7 (λ_ _ _ h=>h) (λ_ _ h=>h) ?_;intro I06 Kids1 p6 c6 bb heq bB h9;subst o0;have ⟨h41,h61⟩:=m2 bB h41 h61;refine zU<|wG<|xF 1 [1] [(34,vA [vI e0.Kind,vI e0.Num,vS p31 y.Coefs c31,vI y.Const,vT y1.Array.l,vS p41 y1.Subs c41,vS p6 Kids1 c6])]<|tA 2 [vI e0.Kind,vI e0.Num,vS p31 y.Coefs c31,vI y.Const,vT y1.Array.l,vS p41 y1.Subs c41,vS p6 Kids1 c6] rfl<|zX rfl<|yS<|uY 0 rfl ?_;intro I07 le7 hl01;have h20:=SL.of_frozen hl01 le7 h9;have ⟨h41,h61⟩:=m2 le7 h41 h61;obtain rfl:=zB aB;exact yV ⟨_,_,(.cell 1 rfl rfl (by kernel_rfl) ResV.nil),zO,⟨_,rfl,rfl,⟨_,rfl,(wI ⟨_,_,_,rfl,h41,h61,h20⟩)⟩⟩⟩
 intro F_spec_l3CopyExpr F_spec_l3CopyExpr_l1 ih_spec_l3CopyExpr ih_spec_l3CopyExpr_l1 e0 i Kids o N B I0 I Q y y1 p c p1 c1 p2 c2 b b1 p31 c31 p41 c41 b2 p5 c5 aV H h41 h61 h h1 h2 h8 hg ho hx;refine yK hg ho<|zM<|yJ<|yW [3] [20] rfl<|zH<|yD N ?_ ?_
 ·intro hc N;refine zT<|yE<|zZ ?_;obtain⟨x,aI,N⟩:=zF N;obtain⟨y2,aW,N⟩:=zF N;obtain⟨l,bk,N⟩:=zF N;refine uX [.p (vP b2 6) [],.p (vS p5 Kids c5) [0],.p (vP b 6) [],.p (vS p2 e0.Kids c2) [2],.p (vI i) [],.x (ePExpr x),.x (eVExpr x),.x (eVExpr y2),.x (λI' v hx=>∃b3,v=vS (some ⟨b3,0,none⟩) ([y2]:List zD) 1/\hx=[]/\(SL I' (vS (some ⟨b3,0,none⟩) ([y2]:List zD) 1) ([y2]:List zD))),.x (λI' v hx=>∃aZ bm bw,v=vS aZ l bm/\hx=[hO zD (vS aZ l bm) bw]/\(RL I' bw l))] [[],[(0,false)],[],[(2,false)],[],[(3,false),(4,false)],[(5,false)],[(6,false)],[(7,false)],[(1,false),(8,false),(12,true)]] [hB b2 [vI e0.Kind,vI e0.Num,vS p31 y.Coefs c31,vI y.Const,vT y1.Array.l,vS p41 y1.Subs c41,vS p5 Kids c5],hB b1 zExpr,hB b (cExpr e0 p c p1 c1 p2 c2)] [[hO zD (vS p5 Kids c5) aV]] [(9,true)] (xD [1,2,3,0]) ?_ ?_
  ·refine Op<|Op<|Op<|Op<|Op<|Ox ?_<|Ox ?_<|Ox ?_<|Ox ?_<|Ox ?_<|On
   ·intro I1 hf ai;refine xV [26,27] rfl ?_;have h2:=h2.mono ai;refine xL rfl rfl h2 aI ?_;intro ad aF av aq;obtain⟨p7,c7,p8,c8,p9,c9,rfl,h10,h11,h12⟩:=yZ aq;exact xU [] iR ⟨_,_,_,_,_,_,_,rfl,rfl,av,h10,h11,h12⟩
   ·rintro I1 hf ai _ _ ⟨ad,p7,c7,p8,c8,p9,c9,rfl,rfl,av,h10,h11,h12⟩;exact xV [28] rfl<|yY 0 av (cExpr x p7 c7 p8 c8 p9 c9) (vA (cExpr x p7 c7 p8 c8 p9 c9)) rfl<|xU [] iR ⟨_,_,_,_,_,_,rfl,rfl,h10,h11,h12⟩
   ·rintro I1 hf ai _ _ ⟨p71,c71,p81,c81,p91,c91,rfl,rfl,h101,h111,h121⟩;refine xV [29] rfl ?_;have H:=iS I1;refine tG (ih_spec_l3CopyExpr x _ aW h101 h111 h121) ?_;rintro bq aK v2 k2 aR - ⟨v07,rfl,rfl,⟨br,rfl,h13⟩⟩ -;have H:=H.trans aR;obtain⟨aX,a8,a7,a6,bu,bc,rfl,h14,h15,h16⟩:=yZ h13;exact xU [] H ⟨_,_,_,_,_,_,rfl,rfl,h14,h15,h16⟩
   ·rintro I1 hf ai _ _ ⟨aX,a8,a7,a6,bu,bc,rfl,rfl,h14,h15,h16⟩;refine xV [30] rfl ?_;have H:=iS I1;refine zIM (rc y2 (wI ⟨_,_,_,rfl,h14,h15,h16⟩) rN) ?_;intro b3 bG bg h18;have H:=H.trans bg;exact xU [] H ⟨_,rfl,rfl,h18⟩
   rintro I1 hf ai _ _ ⟨rfl,rfl⟩ _ _ ⟨b3,rfl,rfl,h18⟩ _ _ rfl;refine xV [24,31] rfl ?_;have h8:=iM ai h8;obtain⟨aY,k0,k01⟩:=h18;have h18:SL I1 (vS (some ⟨b3,0,none⟩) ([y2]:List zD) 1) ([y2]:List zD):=⟨_,k0,k01⟩;exact fU 53 7 0 rfl rfl rfl h8 (.inl k0) k01 bk λaZ bm bw h19=>jK (aj:=(hO zD (vS aZ l bm) bw::hB b2 [vI e0.Kind,vI e0.Num,vS p31 y.Coefs c31,vI y.Const,vT y1.Array.l,vS p41 y1.Subs c41,vS p5 Kids c5]::hB b1 zExpr::hB b (cExpr e0 p c p1 c1 p2 c2)::hf)) rfl<|xU [hO zD (vS aZ l bm) bw] iR ⟨_,_,_,rfl,rfl,h19⟩
  rintro bL bo _ _ ⟨aZ,bm,bw,rfl,rfl,h19⟩;refine xV [1,2,3,4,32] rfl ?_;have ⟨h41,h61,h,h1,h2,H⟩:=m6 bo h41 h61 h h1 h2 H;exact yR 11 [] [33] rfl<|tA 1 [vI e0.Kind,vI e0.Num,vS p31 y.Coefs c31,vI y.Const,vT y1.Array.l,vS p41 y1.Subs c41,vS aZ l bm] rfl<|zX rfl<|zQ<|zH<|zE<|yW [] [4] rfl<|yL<|gJ<|ih_spec_l3CopyExpr_l1 e0 (W (i+1)) l _ N H h41 h61 h h1 h2 h19 hg ho hx
 intro hc N;exact uQ<|wM (yN [0,1,2] rfl (by decide))<|xM<|hx _ _ _ _ _ (zB N).symm H h8
theorem zDw:∀e0 r,qR e0=some r->∀{I:Imm}{p c p1 c1 p2 c2},(S4 I p e0.Index.Coefs c)->(S4 I p1 e0.Read.Subs c1)->(S4 I p2 e0.Kids c2)->RT 63 [vA (cExpr e0 p c p1 c1 p2 c2)] I [] (vM  r):=zDV.1
def dG(s:zJ):Option (zJ):=do
 let y<-uE s.Write
 let y1<-qR s.Value
 pure (zJ.mk y y1)
theorem zG7:∀s r,dG s=some r->∀{I:Imm}{p c p1 c1 p2 c2 p3 c3},(S4 I p s.Write.Subs c)->(S4 I p1 s.Value.Index.Coefs c1)->(S4 I p2 s.Value.Read.Subs c2)->(S4 I p3 s.Value.Kids c3)->RT 35 [vA (cStmt s p c p1 c1 p2 c2 p3 c3)] I [] (zA3  r):=by
 intro s r N I p c p1 c1 p2 c2 p3 c3 h h1 h2 h3;unfold dG at N;refine yM func35 λB=>?_;have H:=iS I;refine yJ<|uA (cStmt s p c p1 c1 p2 c2 p3 c3) ?_;intro b hb;refine nV [vT ([]),z0,vI 0,vI 0,z0,vI 0,vT ([]),z0,z0] ?_;intro b1 hb1;refine zX rfl<|zH<|zM ?_;obtain⟨y,hy,N⟩:=zF N;obtain⟨y1,aw,N⟩:=zF N;refine uX [.p (vP b 0) [],.p (vA (cAccess s.Write p c)) [1],.x (eVAccess y),.p (vP b 2) [],.p (vA (cExpr s.Value p1 c1 p2 c2 p3 c3)) [1],.x (eVExpr y1),.x (λI' v hx=>∃p41 c41 p51 c51 p61 c61 p71 c71,v=vA [vT y.Array.l,vS p41 y.Subs c41,vI y1.Kind,vI y1.Num,vS p51 y1.Index.Coefs c51,vI y1.Index.Const,vT y1.Read.Array.l,vS p61 y1.Read.Subs c61,vS p71 y1.Kids c71]/\hx=[]/\(S4 I' p41 y.Subs c41)/\(S4 I' p51 y1.Index.Coefs c51)/\(S4 I' p61 y1.Read.Subs c61)/\(S4 I' p71 y1.Kids c71))] [[],[(0,false)],[(1,false)],[],[(3,false)],[(4,false)],[(2,false),(5,false)]] [hB b1 [vT ([]),z0,vI 0,vI 0,z0,vI 0,vT ([]),z0,z0],hB b (cStmt s p c p1 c1 p2 c2 p3 c3)] [] [(6,false)] (xD [0,1]) ?_ ?_
 ·refine Op<|Op<|Ox ?_<|Op<|Op<|Ox ?_<|Ox ?_<|On
  ·intro I1 hf ai;refine xV [4] rfl ?_;have H:=iS I1;have h:=h.mono ai;refine tG (oV s.Write _ hy h) ?_;rintro I0 aK v2 k2 le - ⟨v0,rfl,rfl,⟨cs,rfl,h4⟩⟩ -;have H:=H.trans le;obtain⟨p4,c4,rfl,h5⟩:=rD h4;exact xU [] H ⟨_,_,rfl,rfl,h5⟩
  ·intro I1 hf ai;refine xV [7] rfl ?_;have H:=iS I1;have ⟨h1,h2,h3⟩:=m3 ai h1 h2 h3;refine tG (zDw s.Value _ aw h1 h2 h3) ?_;rintro aN aK v2 k2 ai - ⟨v02,rfl,rfl,⟨aM,rfl,h6⟩⟩ -;have H:=H.trans ai;obtain⟨p5,c5,p6,c6,p7,c7,rfl,h7,h8,h9⟩:=yZ h6;exact xU [] H ⟨_,_,_,_,_,_,rfl,rfl,h7,h8,h9⟩
  rintro I1 hf ai _ _ ⟨p4,c4,rfl,rfl,h5⟩ _ _ ⟨p5,c5,p6,c6,p7,c7,rfl,rfl,h7,h8,h9⟩;exact xV [5,8] rfl<|nP 7 [(9,vA [vT y.Array.l,vS p4 y.Subs c4,vI y1.Kind,vI y1.Num,vS p5 y1.Index.Coefs c5,vI y1.Index.Const,vT y1.Read.Array.l,vS p6 y1.Read.Subs c6,vS p7 y1.Kids c7])]<|xU [] iR ⟨_,_,_,_,_,_,_,_,rfl,rfl,h5,h7,h8,h9⟩
 rintro bf ax _ _ ⟨p41,c41,p51,c51,p61,c61,p71,c71,rfl,rfl,h51,h71,h81,h91⟩;refine xV [2,9] rfl ?_;refine tA 0 [vT y.Array.l,vS p41 y.Subs c41,vI y1.Kind,vI y1.Num,vS p51 y1.Index.Coefs c51,vI y1.Index.Const,vT y1.Read.Array.l,vS p61 y1.Read.Subs c61,vS p71 y1.Kids c71] rfl<|zX rfl<|zH<|yF ?_;obtain rfl:=zB N;exact yV ⟨_,_,(.cell 0 rfl rfl (by kernel_rfl) ResV.nil),zO,⟨_,rfl,rfl,⟨_,rfl,(oQ ⟨_,_,_,_,rfl,h51,h71,h81,h91⟩)⟩⟩⟩
def sE(p:zV)(i:Int)(Arrays:List zI):Option (List zI):=do
 if(decide (i<(p.Arrays.length:Int))) then
  let x<-idx p.Arrays i
  let x1<-idx p.Arrays i
  let l<-app 8 ([]:List Int) x1.Dims
  let l1<-app 40 Arrays ([(zI.mk x.Name l)]:List zI)
  sE p (W (i+1)) l1
 else
  pure (id Arrays)
 partial_fixpoint
theorem zEl(p:zV):∀(i:Int) (Arrays:List zI) (o:List zI),sE p i Arrays=some o->∀{B}{I0 I:Imm}{Q p1 c p2 c1}{b:Nat}{b1:Nat}{b2:Nat}{p3 c2 cs},I0.le I->(S4 I p1 p.Arrays c)->(S4 I p2 p.Parts c1)->(RL I cs Arrays)->NG Q->NO Q->(∀(I':Imm) (al:List zI) (p4:Option Addr) (c3:Nat) (aM:List Value),o=al->I0.le I'->(RL I' aM al)->T 84 B Q (.exit 0) I' [hO zI (vS p4 al c3) aM,hB b2 [vS p4 al c3,z0],hB b1 zTwo,hB b (cProg p p1 c p2 c1)] [(1,vP b 0),(2,vP b1 0),(3,vP b2 0)])->J Tryz.prog 84 B (nav (bodyOf f15) [1,1,0,1,0]) Q I [hO zI (vS p3 Arrays c2) cs,hB b2 [vS p3 Arrays c2,z0],hB b1 zTwo,hB b (cProg p p1 c p2 c1)] [(1,vP b 0),(2,vP b1 0),(3,vP b2 0),(4,vI i)]:=by
 refine sE.partial_correctness p _ λaG ih i Arrays o N B I0 I Q p1 c p2 c1 b b1 b2 p3 c2 cs H h h1 h3 hg ho hx=>yK hg ho<|zM<|yJ<|yW [3] [13] rfl<|zH<|yD N ?_ ?_
 ·intro hc N;refine zT<|yE<|zZ ?_;obtain⟨x,hy,N⟩:=zF N;obtain⟨x1,aw,N⟩:=zF N;obtain⟨l,aI,N⟩:=zF N;obtain⟨l1,aW,N⟩:=zF N;refine uX [.p (vP b2 0) [],.p (vS p3 Arrays c2) [0],.p (vP b 0) [],.p (vS p1 p.Arrays c) [2],.p (vI i) [],.x (ePArr x),.x (ePArr x),.q (vT x.Name.l),.x (λI' v hx=>∃b3,v=vS (some ⟨b3,0,none⟩) ([]:List Int) 0/\hx=[hO Int (vS (some ⟨b3,0,none⟩) ([]:List Int) 0) []]/\(RL I' [] ([]:List Int))),.p (vP b 0) [],.p (vS p1 p.Arrays c) [2],.p (vI i) [],.x (ePArr x1),.x (eQArr 1 x1),.x (eS x1.Dims),.x (λI' v hx=>∃p7 c6 aV,v=vS p7 l c6/\hx=[hO Int (vS p7 l c6) aV]/\(RL I' aV l)),.x (λI' v hx=>∃p71 c61 cs21,v=vA [vT x.Name.l,vS p71 l c61]/\hx=[hO Int (vS p71 l c61) cs21]/\(RL I' cs21 l)),.x (λI' v hx=>∃b4,v=vS (some ⟨b4,0,none⟩) ([(zI.mk x.Name l)]:List zI) 1/\hx=[]/\(SL I' (vS (some ⟨b4,0,none⟩) ([(zI.mk x.Name l)]:List zI) 1) ([(zI.mk x.Name l)]:List zI))),.x (λI' v hx=>∃p8 c7 bb,v=vS p8 l1 c7/\hx=[hO zI (vS p8 l1 c7) bb]/\(RL I' bb l1))] [[],[(0,false)],[],[(2,false)],[],[(3,false),(4,false)],[(5,false)],[(6,false)],[],[],[(9,false)],[],[(10,false),(11,false)],[(12,false)],[(13,false)],[(8,true),(14,false)],[(7,false),(15,true)],[(16,true)],[(1,false),(17,false),(21,true)]] [hB b2 [vS p3 Arrays c2,z0],hB b1 zTwo,hB b (cProg p p1 c p2 c1)] [[hO zI (vS p3 Arrays c2) cs]] [(18,true)] (xD [1,2,3,0]) ?_ ?_
  ·refine Op<|Op<|Op<|Op<|Op<|Ox ?_<|Ox ?_<|Oq ?_<|Ox ?_<|Op<|Op<|Op<|Ox ?_<|Ox ?_<|Ox ?_<|Ox ?_<|Ox ?_<|Ox ?_<|Ox ?_<|On
   ·intro I1 hf ai;refine xV [19,20] rfl ?_;have h:=h.mono ai;refine xL rfl rfl h hy ?_;intro ad aF av aq;obtain⟨p5,c4,rfl,h5⟩:=wB aq;exact xU [] iR ⟨_,_,_,rfl,rfl,av,h5⟩
   ·rintro I1 hf ai _ _ ⟨ad,p5,c4,rfl,rfl,av,h5⟩;exact xV [21] rfl<|nP 7 [(22,.pointer (some ad))]<|xU [] iR ⟨_,_,_,rfl,rfl,av,h5⟩
   ·rintro I1 hf ai _ _ ⟨ad1,p51,c41,rfl,rfl,au,h51⟩;exact xV [22] rfl<|yY 0 au [vT x.Name.l] (vT x.Name.l) rfl<|wD iR
   ·intro I1 hf ai;refine I_h []<|jJ [] Int ?_;intro b3 hb3;have h6:RL I1 [] ([]:List Int):=rfl;exact xU [hO Int (vS (some ⟨b3,0,none⟩) ([]:List Int) 0) []] iR ⟨_,rfl,rfl,h6⟩
   ·intro I1 hf ai;refine xV [26,27] rfl ?_;have h:=h.mono ai;refine xL rfl rfl h aw ?_;intro ad2 aY aS aA;obtain⟨p6,c5,rfl,h7⟩:=wB aA;exact xU [] iR ⟨_,_,_,rfl,rfl,aS,h7⟩
   ·rintro I1 hf ai _ _ ⟨ad2,p6,c5,rfl,rfl,aS,h7⟩;exact xV [28] rfl<|nP 14 [(29,.pointer (some (ad2.add 1)))]<|xU [] iR ⟨_,_,_,rfl,rfl,aS,h7⟩
   ·rintro I1 hf ai _ _ ⟨ad21,p61,c51,rfl,rfl,hat21,h71⟩;exact xV [29] rfl<|yY 1 hat21 [vS p61 x1.Dims c51] (vS p61 x1.Dims c51) rfl<|xU [] iR ⟨_,_,rfl,rfl,h71⟩
   ·rintro I1 hf ai _ _ ⟨b3,rfl,rfl,h6⟩ _ _ ⟨p611,c511,rfl,rfl,h711⟩;refine xV [24,30] rfl ?_;obtain⟨bM,k0,k01⟩:=h711;have h711:SL I1 (vS p611 x1.Dims c511) x1.Dims:=⟨_,k0,k01⟩;exact fU 3 1 0 rfl rfl rfl h6 (.inl k0) k01 aI λp7 c6 aV h8=>jK (aj:=(hO Int (vS p7 l c6) aV::hB b2 [vS p3 Arrays c2,z0]::hB b1 zTwo::hB b (cProg p p1 c p2 c1)::hf)) rfl<|xU [hO Int (vS p7 l c6) aV] iR ⟨_,_,_,rfl,rfl,h8⟩
   ·rintro I1 hf ai _ _ ⟨rfl,rfl⟩ _ _ ⟨p7,c6,aV,rfl,rfl,h8⟩;exact xV [23,31] rfl<|nP 17 [(32,vA [vT x.Name.l,vS p7 l c6])]<|xU [hO Int (vS p7 l c6) aV] iR ⟨_,_,_,rfl,rfl,h8⟩
   ·rintro I1 hf ai _ _ ⟨p71,c61,cs21,rfl,rfl,h81⟩;refine xV [32] rfl ?_;have H:=iS I1;refine tP 0 rfl ?_;intro I0 le hl0;have h9:=SL.of_frozen hl0 le h81;have H:=H.trans le;refine zIM (rc (zI.mk x.Name l) (gS ⟨_,rfl,h9⟩) rN) ?_;intro b4 aN ai h11;have H:=H.trans ai;exact xU [] H ⟨_,rfl,rfl,h11⟩
   rintro I1 hf ai _ _ ⟨rfl,rfl⟩ _ _ ⟨b4,rfl,rfl,h11⟩ _ _ rfl;refine xV [17,33] rfl ?_;have h3:=iM ai h3;obtain⟨ccs3,k02,k03⟩:=h11;have h11:SL I1 (vS (some ⟨b4,0,none⟩) ([(zI.mk x.Name l)]:List zI) 1) ([(zI.mk x.Name l)]:List zI):=⟨_,k02,k03⟩;exact fU 79 2 0 rfl rfl rfl h3 (.inl k02) k03 aW λp8 c7 bb h12=>jK (aj:=(hO zI (vS p8 l1 c7) bb::hB b2 [vS p3 Arrays c2,z0]::hB b1 zTwo::hB b (cProg p p1 c p2 c1)::hf)) rfl<|xU [hO zI (vS p8 l1 c7) bb] iR ⟨_,_,_,rfl,rfl,h12⟩
  rintro bf ax _ _ ⟨p8,c7,bb,rfl,rfl,h12⟩;refine xV [1,2,3,4,34] rfl ?_;have ⟨h,h1,H⟩:=m3 ax h h1 H;exact yR 20 [] [35] rfl<|tA 1 [vS p8 l1 c7,z0] rfl<|zX rfl<|zQ<|zH<|zE<|yW [] [4] rfl<|yL<|gJ<|ih (W (i+1)) l1 _ N H h h1 h12 hg ho hx
 intro hc N;exact uQ<|xM<|hx _ _ _ _ _ (zB N).symm H h3
def sF(p:zV)(i1:Int)(k04:Int)(Body:List zJ):Option (List zJ):=do
 let x3<-idx p.Parts i1
 if(decide (k04<(x3.Body.length:Int))) then
  let x4<-idx p.Parts i1
  let x5<-idx x4.Body k04
  let y1<-dG x5
  let l2<-app 152 Body ([y1]:List zJ)
  sF p i1 (W (k04+1)) l2
 else
  pure (id Body)
 partial_fixpoint
theorem zEm(p:zV)(i1:Int):∀(k04:Int) (Body:List zJ) (o:List zJ),sF p i1 k04 Body=some o->∀{B}{I0 I:Imm}{Q}{al:List zI}{τ2:Type} [Rp τ2] {Parts:List τ2}{y:(List zL)}{p1 c p2 c1}{b:Nat}{b1:Nat}{b2:Nat}{p4 c3 aM p9 c8 br aZ bc}{b5:Nat}{p14 bm cs6},I0.le I->(S4 I aZ y bc)->(RL I br Parts)->(RL I aM al)->(S4 I p1 p.Arrays c)->(S4 I p2 p.Parts c1)->(RL I cs6 Body)->NG Q->NO Q->(∀(I':Imm) (bi:List zJ) (p15:Option Addr) (c14:Nat) (cs7:List Value),o=bi->I0.le I'->(RL I' cs7 bi)->T 84 B Q (.exit 4) I' [hO zJ (vS p15 bi c14) cs7,hB b5 [vS aZ y bc,vS p15 bi c14],hO τ2 (vS p9 Parts c8) br,hO zI (vS p4 al c3) aM,hB b2 [vS p4 al c3,vS p9 Parts c8],hB b1 zTwo,hB b (cProg p p1 c p2 c1)] [(1,vP b 0),(2,vP b1 0),(3,vP b2 0),(5,vI i1),(6,vP b5 0)])->J Tryz.prog 84 B (nav (bodyOf f15) [1,1,1,0,1,0,0,1,0,0,1,0,1,0]) Q I [hO zJ (vS p14 Body bm) cs6,hB b5 [vS aZ y bc,vS p14 Body bm],hO τ2 (vS p9 Parts c8) br,hO zI (vS p4 al c3) aM,hB b2 [vS p4 al c3,vS p9 Parts c8],hB b1 zTwo,hB b (cProg p p1 c p2 c1)] [(1,vP b 0),(2,vP b1 0),(3,vP b2 0),(5,vI i1),(6,vP b5 0),(7,vI k04)]:=by
 refine sF.partial_correctness p i1 _ λaG ih k04 Body o N B I0 I Q al τ2 _ Parts y p1 c p2 c1 b b1 b2 p4 c3 aM p9 c8 br aZ bc b5 p14 bm cs6 H h18 h14 h4 h h1 h20 hg ho hx=>yK hg ho<|zM<|yJ<|yR 4 [6] [51,53,54] rfl<|bE N λx3 hy6 N=>xL rfl rfl h1 hy6 ?_;intro ad4 ccs5 hat4 bn;obtain⟨p16,c15,p17,c16,rfl,h22,h23⟩:=qI bn;refine yR 6 [] [56] rfl<|yY 1 hat4 [vS p17 x3.Body c16] (vS p17 x3.Body c16) rfl<|yW [] [59] rfl<|zH<|yD N ?_ ?_
 ·intro aQ N;refine zT<|yE<|zZ ?_;obtain⟨x4,hy7,N⟩:=zF N;obtain⟨x5,hy8,N⟩:=zF N;obtain⟨y1,hy9,N⟩:=zF N;obtain⟨l2,hy10,N⟩:=zF N;refine uX [.p (vP b5 1) [],.p (vS p14 Body bm) [0],.p (vP b 1) [],.p (vS p2 p.Parts c1) [5],.p (vI i1) [],.x (ePPart x4),.x (eQPart 1 x4),.x (eS x4.Body),.p (vI k04) [],.x (ePStmt x5),.x (eVStmt x5),.x (eVStmt y1),.x (λI' v hx=>∃b6,v=vS (some ⟨b6,0,none⟩) ([y1]:List zJ) 1/\hx=[]/\(SL I' (vS (some ⟨b6,0,none⟩) ([y1]:List zJ) 1) ([y1]:List zJ))),.x (λI' v hx=>∃p28 c27 cs9,v=vS p28 l2 c27/\hx=[hO zJ (vS p28 l2 c27) cs9]/\(RL I' cs9 l2))] [[],[(0,false)],[],[(2,false)],[],[(3,false),(4,false)],[(5,false)],[(6,false)],[],[(7,false),(8,false)],[(9,false)],[(10,false)],[(11,false)],[(1,false),(12,false),(16,true)]] [hB b5 [vS aZ y bc,vS p14 Body bm],hO τ2 (vS p9 Parts c8) br,hO zI (vS p4 al c3) aM,hB b2 [vS p4 al c3,vS p9 Parts c8],hB b1 zTwo,hB b (cProg p p1 c p2 c1)] [[hO zJ (vS p14 Body bm) cs6]] [(13,true)] (xD [1,2,3,4,5,6,0]) ?_ ?_
  ·refine Op<|Op<|Op<|Op<|Op<|Ox ?_<|Ox ?_<|Ox ?_<|Op<|Ox ?_<|Ox ?_<|Ox ?_<|Ox ?_<|Ox ?_<|On
   ·intro I1 hf ai;refine xV [65,66] rfl ?_;have h1:=h1.mono ai;refine xL rfl rfl h1 hy7 ?_;intro ad5 ccs6 hat5 hrep4;obtain⟨p18,c17,p19,c18,rfl,h24,h25⟩:=qI hrep4;exact xU [] iR ⟨_,_,_,_,_,rfl,rfl,hat5,h24,h25⟩
   ·rintro I1 hf ai _ _ ⟨ad5,p18,c17,p19,c18,rfl,rfl,hat5,h24,h25⟩;exact xV [67] rfl<|nP 7 [(68,.pointer (some (ad5.add 1)))]<|xU [] iR ⟨_,_,_,_,_,rfl,rfl,hat5,h24,h25⟩
   ·rintro I1 hf ai _ _ ⟨ad51,p181,c171,p191,c181,rfl,rfl,hat51,h241,h251⟩;exact xV [68] rfl<|yY 1 hat51 [vS p191 x4.Body c181] (vS p191 x4.Body c181) rfl<|xU [] iR ⟨_,_,rfl,rfl,h251⟩
   ·rintro I1 hf ai _ _ ⟨p1911,c1811,rfl,rfl,h2511⟩;refine xV [69,70] rfl<|xL rfl rfl h2511 hy8 ?_;intro ad6 ccs7 hat6 hrep5;obtain⟨p20,c19,p21,c20,p22,c21,p23,c22,rfl,h26,h27,h28,h29⟩:=xY hrep5;exact xU [] iR ⟨_,_,_,_,_,_,_,_,_,rfl,rfl,hat6,h26,h27,h28,h29⟩
   ·rintro I1 hf ai _ _ ⟨ad6,p20,c19,p21,c20,p22,c21,p23,c22,rfl,rfl,hat6,h26,h27,h28,h29⟩;exact xV [71] rfl<|yY 0 hat6 (cStmt x5 p20 c19 p21 c20 p22 c21 p23 c22) (vA (cStmt x5 p20 c19 p21 c20 p22 c21 p23 c22)) rfl<|xU [] iR ⟨_,_,_,_,_,_,_,_,rfl,rfl,h26,h27,h28,h29⟩
   ·rintro I1 hf ai _ _ ⟨p201,c191,p211,c201,p221,c211,p231,c221,rfl,rfl,h261,h271,h281,h291⟩;refine xV [72] rfl ?_;have H:=iS I1;refine tG (zG7 x5 _ hy9 h261 h271 h281 h291) ?_;rintro bL aK v2 k2 bo - ⟨v013,rfl,rfl,⟨cs8,rfl,h30⟩⟩ -;have H:=H.trans bo;obtain⟨p24,c23,p25,c24,p26,c25,p27,c26,rfl,h31,h32,h33,h34⟩:=xY h30;exact xU [] H ⟨_,_,_,_,_,_,_,_,rfl,rfl,h31,h32,h33,h34⟩
   ·rintro I1 hf ai _ _ ⟨p24,c23,p25,c24,p26,c25,p27,c26,rfl,rfl,h31,h32,h33,h34⟩;refine xV [73] rfl ?_;have H:=iS I1;refine zIM (rc y1 (oQ ⟨_,_,_,_,rfl,h31,h32,h33,h34⟩) rN) ?_;intro b6 I06 bB h36;have H:=H.trans bB;exact xU [] H ⟨_,rfl,rfl,h36⟩
   rintro I1 hf ai _ _ ⟨rfl,rfl⟩ _ _ ⟨b6,rfl,rfl,h36⟩ _ _ rfl;refine xV [63,74] rfl ?_;have h20:=iM ai h20;obtain⟨ccs8,k05,k06⟩:=h36;have h36:SL I1 (vS (some ⟨b6,0,none⟩) ([y1]:List zJ) 1) ([y1]:List zJ):=⟨_,k05,k06⟩;exact fU 55 9 0 rfl rfl rfl h20 (.inl k05) k06 hy10 λp28 c27 cs9 h37=>jK (aj:=(hO zJ (vS p28 l2 c27) cs9::hB b5 [vS aZ y bc,vS p14 Body bm]::hO τ2 (vS p9 Parts c8) br::hO zI (vS p4 al c3) aM::hB b2 [vS p4 al c3,vS p9 Parts c8]::hB b1 zTwo::hB b (cProg p p1 c p2 c1)::hf)) rfl<|xU [hO zJ (vS p28 l2 c27) cs9] iR ⟨_,_,_,rfl,rfl,h37⟩
  rintro I07 le7 _ _ ⟨p28,c27,cs9,rfl,rfl,h37⟩;refine xV [1,2,3,5,6,7,75] rfl ?_;have ⟨h18,h14,h4,h,h1,H⟩:=m6 le7 h18 h14 h4 h h1 H;exact yR 15 [] [76] rfl<|tA 1 [vS aZ y bc,vS p28 l2 c27] rfl<|zX rfl<|zQ<|zH<|zE<|yW [] [7] rfl<|yL<|gJ<|ih (W (k04+1)) l2 _ N H h18 h14 h4 h h1 h37 hg ho hx
 intro aQ N;exact uQ<|xM<|hx _ _ _ _ _ (zB N).symm H h20
def sG(p:zV)(i1:Int)(Parts:List zN):Option (List zN):=do
 if(decide (i1<(p.Parts.length:Int))) then
  let x2<-idx p.Parts i1
  let y<-dE x2.Nest
  let bi<-sF p i1 0 ([]:List zJ)
  let l3<-app 48 Parts ([(zN.mk y bi)]:List zN)
  sG p (W (i1+1)) l3
 else
  pure (id Parts)
 partial_fixpoint
def dH(p:zV):Option (zV):=do
 let al<-sE p 0 ([]:List zI)
 let bj<-sG p 0 ([]:List zN)
 pure (zV.mk al bj)
theorem zDx(p:zV):∀(i1:Int) (Parts:List zN) (o:List zN),sG p i1 Parts=some o->∀{B}{I0 I:Imm}{Q}{al:List zI}{p1 c p2 c1}{b:Nat}{b1:Nat}{b2:Nat}{p4 c3 aM p9 c8 br}{xs:List NB},I0.le I->(RL I aM al)->(S4 I p1 p.Arrays c)->(S4 I p2 p.Parts c1)->Parts=xs.map NB.a->(∀x∈xs,x.ok I)->(RL I br (xs.map NB.raw))->NG Q->NO Q->(∀(I':Imm) (xs1:List NB) (aX:Option Addr) (c9:Nat) (bw:List Value),o=xs1.map NB.a->I0.le I'->(RL I' aM al)->(∀x∈xs1,x.ok I')->(RL I' bw (xs1.map NB.raw))->T 84 B Q (.exit 2) I' (hO Raw2 (vS aX (xs1.map NB.raw) c9) bw::hO zI (vS p4 al c3) aM::hB b2 [vS p4 al c3,vS aX (xs1.map NB.raw) c9]::hB b1 zTwo::NBs xs1) [(2,vP b1 0),(3,vP b2 0)])->J Tryz.prog 84 B (nav (bodyOf f15) [1,1,1,0,1,0]) Q I (hO Raw2 (vS p9 (xs.map NB.raw) c8) br::hO zI (vS p4 al c3) aM::hB b2 [vS p4 al c3,vS p9 (xs.map NB.raw) c8]::hB b1 zTwo::hB b (cProg p p1 c p2 c1)::NBs xs) [(1,vP b 0),(2,vP b1 0),(3,vP b2 0),(5,vI i1)]:=by
 refine sG.partial_correctness p _ λaG ih i1 Parts o N B I0 I Q al p1 c p2 c1 b b1 b2 p4 c3 aM p9 c8 br xs H h4 h h1 hA bS h14 hg ho hx=>yK hg ho<|zM<|yJ<|yW [4] [40] rfl<|zH<|yD N ?_ ?_
 ·intro aE N;refine zT<|yE<|zZ<|yJ<|yR 3 [4] [44,45] rfl<|bE N λx2 bk N=>xL rfl rfl h1 bk ?_;intro ad3 ccs4 hat3 bh;obtain⟨a7,a8,bu,a6,rfl,h16,h17⟩:=qI bh;refine yR 5 [] [47] rfl<|yY 0 hat3 [vS a7 x2.Nest a8] (vS a7 x2.Nest a8) rfl<|bE N λy bC N=>tG (zG6 x2.Nest _ bC h16) ?_;rintro bG aK v2 k2 bg - ⟨v04,rfl,rfl,h18⟩ -;have ⟨h14,h4,h,h1⟩:=m4 bg h14 h4 h h1;have bS:=λx hx=>(bS x hx).mono bg;have H:=H.trans bg;obtain⟨aZ,bc,rfl⟩:=h18.form;refine yR 8 [] [50] rfl<|nV zTwo ?_;intro b5 hb5;obtain⟨aO,aJ,hMl1⟩:=zF N;refine uJ 0 [vS aZ y bc,z0] (hB b5 [vS aZ y bc,z0]::hO Raw2 (vS p9 (xs.map NB.raw) c8) br::hO zI (vS p4 al c3) aM::hB b2 [vS p4 al c3,vS p9 (xs.map NB.raw) c8]::hB b1 zTwo::hB b (cProg p p1 c p2 c1)::NBs xs) rfl rfl rfl rfl<|zX rfl<|yE<|zLK (hs:=[hB b5 [vS aZ y bc,z0],hO Raw2 (vS p9 (xs.map NB.raw) c8) br,hO zI (vS p4 al c3) aM,hB b2 [vS p4 al c3,vS p9 (xs.map NB.raw) c8],hB b1 zTwo,hB b (cProg p p1 c p2 c1)]) (L:=NBs xs) .normal (λI' aj m'=>∃p15 c14 cs7,aj=[hO zJ (vS p15 aO c14) cs7,hB b5 [vS aZ y bc,vS p15 aO c14],hO Raw2 (vS p9 (xs.map NB.raw) c8) br,hO zI (vS p4 al c3) aM,hB b2 [vS p4 al c3,vS p9 (xs.map NB.raw) c8],hB b1 zTwo,hB b (cProg p p1 c p2 c1)]/\m'=[(1,vP b 0),(2,vP b1 0),(3,vP b2 0),(5,vI i1),(6,vP b5 0)]/\RL I' cs7 aO) (λB0=>?_) ?_
  ·refine yG [7] rfl<|uP<|rX [(1,vP b 0),(2,vP b1 0),(3,vP b2 0),(5,vI i1),(6,vP b5 0),(7,vI 0)]<|zH7 zJ λh19=>?_;refine zEm p i1 0 ([]:List zJ) aO aJ iR h18 h14 h4 h h1 h19 (λ_ _ _ h=>by cases h.1) (λ_ _ h=>by cases h.1) ?_;intro bO bi p15 c14 cs7 heq1 le10 h21;subst aO;exact zU<|zLL ⟨_,_,_,rfl,rfl,h21⟩
  rintro I5 hs5 m5 ⟨p15,c14,cs7,rfl,rfl,h21⟩ bo;have ⟨h18,h14,h4,h,h1⟩:=m5 bo h18 h14 h4 h h1;have bS:=λx hx=>(bS x hx).mono bo;have H:=H.trans bo;obtain⟨l3,hy11,N⟩:=zF hMl1;have h40:RL I5 [vS aZ y bc,vS p15 aO c14] [(⟨vS aZ y bc,vS p15 aO c14⟩:Raw2)]:=⟨[vS aZ y bc,vS p15 aO c14],[],rfl,rfl,⟨rfl,rfl,rfl⟩,rfl⟩;refine zH<|zE<|xF 3 [4,1] [(78,vS p9 (xs.map NB.raw) c8),(79,vA [vS aZ y bc,vS p15 aO c14])]<|jJ [vS aZ y bc,vS p15 aO c14] Raw2 ?_;intro b7 hb7;refine fU (α:=Raw2) 44 2 3 rfl rfl rfl h14 (.inr ⟨0,rfl⟩) h40 (zK6 (l':=xs.map NB.raw) (m':=[(⟨vS aZ y bc,vS p15 aO c14⟩:Raw2)]) hy11 (by rw[hA];simp) rfl) ?_;intro p29 c28 cs11 h41;have e1:(xs++[(⟨vS aZ y bc,y,p15,aO,c14,cs7⟩:NB)]).map NB.raw=xs.map NB.raw++[(⟨vS aZ y bc,vS p15 aO c14⟩:Raw2)]:=by rw[ep];rfl
  have e2:l3=(xs++[(⟨vS aZ y bc,y,p15,aO,c14,cs7⟩:NB)]).map NB.a:=by rw[ep,<- hA];exact(zAo hy11).2.symm
  have e3:NBs (xs++[(⟨vS aZ y bc,y,p15,aO,c14,cs7⟩:NB)])=NBs xs++[hO zJ (vS p15 aO c14) cs7]:=ep ..;refine dY (mC [hO Raw2 (vS (some ⟨b7,0,none⟩) [(⟨vS aZ y bc,vS p15 aO c14⟩:Raw2)] 1) [vS aZ y bc,vS p15 aO c14],hO zJ (vS p15 aO c14) cs7,hB b5 [vS aZ y bc,vS p15 aO c14],hO Raw2 (vS p29 (xs.map NB.raw++[(⟨vS aZ y bc,vS p15 aO c14⟩:Raw2)]) c28) cs11,hO zI (vS p4 al c3) aM,hB b2 [vS p4 al c3,vS p9 (xs.map NB.raw) c8],hB b1 zTwo,hB b (cProg p p1 c p2 c1)] (NBs xs) [1,3,4,5,6,7] (aj:=[hO zJ (vS p15 aO c14) cs7,hO Raw2 (vS p29 (xs.map NB.raw++[(⟨vS aZ y bc,vS p15 aO c14⟩:Raw2)]) c28) cs11,hO zI (vS p4 al c3) aM,hB b2 [vS p4 al c3,vS p9 (xs.map NB.raw) c8],hB b1 zTwo,hB b (cProg p p1 c p2 c1)]) rfl (by decide))<|yR 6 [] [82] rfl<|uJ 3 [vS p4 al c3,vS p29 (xs.map NB.raw++[(⟨vS aZ y bc,vS p15 aO c14⟩:Raw2)]) c28] (hO zJ (vS p15 aO c14) cs7::hO Raw2 (vS p29 (xs.map NB.raw++[(⟨vS aZ y bc,vS p15 aO c14⟩:Raw2)]) c28) cs11::hO zI (vS p4 al c3) aM::hB b2 [vS p4 al c3,vS p29 (xs.map NB.raw++[(⟨vS aZ y bc,vS p15 aO c14⟩:Raw2)]) c28]::hB b1 zTwo::hB b (cProg p p1 c p2 c1)::NBs xs) rfl rfl rfl rfl<|zX rfl ?_;rw[<- e1] at h41 ⊢;refine zIp ([hO Raw2 (vS p29 ((xs++[(⟨vS aZ y bc,y,p15,aO,c14,cs7⟩:NB)]).map NB.raw) c28) cs11,hO zI (vS p4 al c3) aM,hB b2 [vS p4 al c3,vS p29 ((xs++[(⟨vS aZ y bc,y,p15,aO,c14,cs7⟩:NB)]).map NB.raw) c28],hB b1 zTwo,hB b (cProg p p1 c p2 c1)]++(NBs xs++[hO zJ (vS p15 aO c14) cs7])) (zJ7 _ _ _) ?_;rw[<- e3];exact zQ<|zH<|zE<|yW [] [5] rfl<|yL<|gJ<|ih (W (i1+1)) l3 _ N H h4 h h1 e2 (zK8 bS h18 h21) h41 hg ho hx
 intro aE N;exact uQ<|wM (mC [hO Raw2 (vS p9 (xs.map NB.raw) c8) br,hO zI (vS p4 al c3) aM,hB b2 [vS p4 al c3,vS p9 (xs.map NB.raw) c8],hB b1 zTwo,hB b (cProg p p1 c p2 c1)] (NBs xs) [0,1,2,3] (aj:=[hO Raw2 (vS p9 (xs.map NB.raw) c8) br,hO zI (vS p4 al c3) aM,hB b2 [vS p4 al c3,vS p9 (xs.map NB.raw) c8],hB b1 zTwo]) rfl (by decide))<|xM<|hx _ xs _ _ _ ((zB N).symm.trans hA) H h4 bS h14
def zEn(r:zV):KT:=λkk I' aj v=>
 ∃(xs:List NB) (pa:Option Addr) (ca:Nat) (pp:Option Addr) (cp:Nat),aj=NBs xs/\v=tupV [vA [vS pa r.Arrays ca,vS pp (xs.map NB.raw) cp]]/\SL I' (vS pa r.Arrays ca) r.Arrays/\r.Parts=xs.map NB.a/\(∀x∈xs,x.ok I')/\SL I' (vS pp (xs.map NB.raw) cp) (xs.map NB.raw)
theorem zFn:∀(p:zV) r,dH p=some r->∀{I:Imm}{p1 c p2 c1},(S4 I p1 p.Arrays c)->(S4 I p2 p.Parts c1)->RT 15 [vA (cProg p p1 c p2 c1)] I [] (zEn r):=by
 intro p r N I p1 c p2 c1 h h1;unfold dH at N;refine yM func15 λB=>yJ<|uA (cProg p p1 c p2 c1) ?_;intro b hb;refine nV zTwo ?_;intro b1 hb1;refine zX rfl<|wG<|yR 1 [] [8] rfl<|nV zTwo ?_;intro b2 hb2;refine uJ 0 zTwo [hB b2 zTwo,hB b1 zTwo,hB b (cProg p p1 c p2 c1)] rfl rfl rfl rfl<|zX rfl<|yE<|yG [4] rfl<|uP<|rX [(1,vP b 0),(2,vP b1 0),(3,vP b2 0),(4,vI 0)]<|zH7 zI λh2=>?_;obtain⟨o0,ay,aB⟩:=zF N;refine zEl p 0 ([]:List zI) o0 ay iR h h1 h2 (λ_ _ _ h=>h) (λ_ _ h=>h) ?_;intro bq al p4 c3 aM heq aR h4;subst o0;have ⟨h,h1⟩:=m2 aR h h1;refine zU<|yE<|yG [5] rfl<|uP<|rX [(1,vP b 0),(2,vP b1 0),(3,vP b2 0),(5,vI 0)]<|kU (zAZ (Rp.sz Raw2)) ?_;obtain⟨o02,ho02,hMl2⟩:=zF aB;refine zDx p 0 ([]:List zN) o02 ho02 (xs:=[]) iR h4 h h1 rfl (λ_ h=>by cases h) RepL.nil (λ_ _ _ h=>h) (λ_ _ h=>h) ?_;intro bR xs aX c9 bw heq2 le12 h5 bS h15;refine zU<|wG<|xF 1 [2] [(83,vA [vS p4 al c3,vS aX (xs.map NB.raw) c9])]<|uJ 3 [vS p4 al c3,vS aX (xs.map NB.raw) c9] (hO Raw2 (vS aX (xs.map NB.raw) c9) bw::hO zI (vS p4 al c3) aM::hB b2 [vS p4 al c3,vS aX (xs.map NB.raw) c9]::hB b1 [vS p4 al c3,vS aX (xs.map NB.raw) c9]::NBs xs) rfl rfl rfl rfl<|zX rfl<|yS<|uY 1 rfl ?_;intro I09 le9 hl03;have h22:SL I09 (vS p4 al c3) al:=SL.of_frozen hl03 le9 h5;have h15:=iM le9 h15;refine uY 0 rfl ?_;intro bO le10 hl04;have h23:SL bO (vS aX (xs.map NB.raw) c9) (xs.map NB.raw):=SL.of_frozen hl04 le10 h15;have hr:=zB hMl2;subst hr;exact yV ⟨_,_,(.cell 1 rfl rfl (by kernel_rfl) ResV.nil),(mC [hB b2 [vS p4 al c3,vS aX (xs.map NB.raw) c9],hB b1 [vS p4 al c3,vS aX (xs.map NB.raw) c9]] (NBs xs) [] rfl (by decide)),⟨xs,_,_,_,_,rfl,rfl,h22.mono le10,heq2,(λx hx=>(bS x hx).mono (le9.trans le10)),h23⟩⟩
def fB(n0:Int):Option (zD):=do
 pure (zD.mk 1 n0 (zC.mk ([]:List Int) 0) (zK.mk (⟨[]⟩:Str) ([]:List zC)) ([]:List zD))
theorem zAv:∀n0 r,fB n0=some r->∀{I:Imm} ,RT 108 [vI n0] I [] (vM  r):=by
 intro n0 r N I;unfold fB at N;refine yM func108 λB=>yJ<|nV zExpr ?_;intro b hb;refine zX rfl<|wG<|yR 2 [] [4] rfl<|tA 0 [vI 1,vI n0,z0,vI 0,vT ([]),z0,z0] rfl<|zX rfl<|zH<|yF ?_;obtain rfl:=zB N;exact yV ⟨_,_,(.cell 0 rfl rfl (by kernel_rfl) ResV.nil),zO,⟨_,rfl,rfl,⟨_,rfl,(wI ⟨_,_,_,rfl,(SL.nil _),(SL.nil _),(SL.nil _)⟩)⟩⟩⟩
def zAX(e0:zD)(a0:Int)(b:Int):Option (zD):=do
 let n0<-(do
  if(e0.Kind==4) then
   pure (W (a0+b))
  else
   let n01<-(do
    if(e0.Kind==5) then
     pure (W (a0 - b))
    else
     pure (W (a0*b))
      : Option Int)
   pure (id n01)
    : Option Int)
 let t28<-(do
  if(decide (n0<0)) then
   pure true
  else
   pure (decide (n0>99))
    : Option Bool)
 if t28 then
  pure (id e0)
 else
  let y<-fB n0
  pure (id y)
theorem zG8:∀e0 a0 b r,zAX e0 a0 b=some r->∀{I:Imm}{p c p1 c1 p2 c2},(S4 I p e0.Index.Coefs c)->(S4 I p1 e0.Read.Subs c1)->(S4 I p2 e0.Kids c2)->RT 109 [vA (cExpr e0 p c p1 c1 p2 c2),vI a0,vI b] I [] (vM  r):=by
 intro e0 a0 b r N I p c p1 c1 p2 c2 h h1 h2;unfold zAX at N;refine yM func109 λB=>?_;have H:=iS I;refine yJ<|uA (cExpr e0 p c p1 c1 p2 c2) ?_;intro b1 hb;refine nV zExpr ?_;intro b2 hb1;refine zX rfl<|wJ [7] rfl<|yE<|yJ<|yW [1] [12] rfl<|uP<|yG [13] rfl<|zH ?_;refine tZ N [hB b2 zExpr,hB b1 (cExpr e0 p c p1 c1 p2 c2)] (λn0=>[(3,vP b1 0),(6,vP b2 0),(7,vI n0)]) (λo0 ay=>?_) ?_
 ·have H:=iS I;refine yD ay ?_ ?_
  ·intro hc N;exact zE<|yW [] [7] rfl<|xM<|zY (ct N H)
  intro hc N;refine yG [18] rfl<|zH ?_;refine tZ N [hB b2 zExpr,hB b1 (cExpr e0 p c p1 c1 p2 c2)] (λn01=>[(3,vP b1 0),(6,vP b2 0),(7,vI n01)]) (λaO aJ=>?_) ?_
  ·have H:=iS I;refine yD aJ ?_ ?_
   ·intro aE N;exact zE<|yW [] [7] rfl<|xM<|zY (ct N H)
   intro aE N;exact zT<|xM<|zY (ct N H)
  intro n01 aN le hMc1;have H:=H.trans le;exact xM<|zY (ct hMc1 H)
 intro n0 I0 ai aT;have ⟨h,h1,h2,H⟩:=m4 ai h h1 h2 H;refine zQ<|yE<|zM ?_;refine tZ aT [hB b2 zExpr,hB b1 (cExpr e0 p c p1 c1 p2 c2)] (λt28=>[(3,vP b1 0),(6,vP b2 0),(7,vI n0),(28,.bool t28)]) (λo02 ho02=>?_) ?_
 ·have H:=iS I0;refine zE<|yR 3 [] [25] rfl<|wN [25] ho02 ?_ ?_
  ·intro aQ N;exact yO [] [(28,vY)]<|xM<|zY (ct N H)
  intro aQ N;exact yW [] [28] rfl<|xM<|zY (ct N H)
 intro t28 bf ax hMc2;have ⟨h,h1,h2⟩:=m3 ax h h1 h2;refine zH<|yD hMc2 ?_ ?_
 ·intro bp N;refine yJ<|xF 1 [1] [(29,vA (cExpr e0 p c p1 c1 p2 c2))]<|tA 0 (cExpr e0 p c p1 c1 p2 c2) rfl<|zX rfl<|yS<|zG ?_;obtain rfl:=zB N;exact yV ⟨_,_,(.cell 0 rfl rfl (by kernel_rfl) ResV.nil),zO,⟨_,rfl,rfl,⟨_,rfl,(wI ⟨_,_,_,rfl,h,h1,h2⟩)⟩⟩⟩
 intro bp N;refine zT<|wG<|yR 1 [] [30] rfl<|bE N λy hy N=>tG (zAv n0 _ hy ) ?_;rintro bq aK v2 k2 aR - ⟨v0,rfl,rfl,⟨cs,rfl,h3⟩⟩ -;obtain⟨p3,c3,p4,c4,p5,c5,rfl,h4,h5,h6⟩:=yZ h3;refine tA 0 (cExpr y p3 c3 p4 c4 p5 c5) rfl<|zX rfl<|zH<|yF ?_;obtain rfl:=zB N;exact yV ⟨_,_,(.cell 0 rfl rfl (by kernel_rfl) ResV.nil),zO,⟨_,rfl,rfl,⟨_,rfl,(wI ⟨_,_,_,rfl,h4,h5,h6⟩)⟩⟩⟩
def oM(e0:zD)(n0:Int):Option (Bool):=do
 let t4<-(do
  if(e0.Kind==1) then
   pure (e0.Num==n0)
  else
   pure false
    : Option Bool)
 pure (id t4)
theorem fC:∀e0 n0 r,oM e0 n0=some r->∀{I:Imm}{p c p1 c1 p2 c2},(S4 I p e0.Index.Coefs c)->(S4 I p1 e0.Read.Subs c1)->(S4 I p2 e0.Kids c2)->RT 110 [vA (cExpr e0 p c p1 c1 p2 c2),vI n0] I [] (zS  r):=by
 intro e0 n0 r N I p c p1 c1 p2 c2 h h1 h2;unfold oM at N;refine yM func110 λB=>?_;have H:=iS I;refine yJ<|uA (cExpr e0 p c p1 c1 p2 c2) ?_;intro b hb;refine yO [] []<|zH<|zM ?_;refine tZ N [] (λt4=>[(4,.bool t4)]) (λo0 ay=>?_) ?_
 ·have H:=iS I;refine zE<|yR 4 [0] [8] rfl<|wN [8] ay ?_ ?_
  ·intro hc N;exact yW [0] [4] rfl<|wM zO<|xM<|zY (ct N H)
  intro hc N;exact yO [] [(4,vF)]<|wM zO<|xM<|zY (ct N H)
 intro t4 I0 le aT;refine zH<|yF ?_;obtain rfl:=zB aT;exact xH
def mK(e0:zD):Option (zD):=do
 let t19<-(do
  if(e0.Kind==2) then
   let y<-oT e0.Index
   if(y==0) then
    pure (decide (e0.Index.Const>=0))
   else
    pure false
  else
   pure false
    : Option Bool)
 if t19 then
  let y1<-fB e0.Index.Const
  pure (id y1)
 else
  if((e0.Kids.length:Int)==0) then
   pure (id e0)
  else
   let x<-idx e0.Kids 0
   let x1<-idx e0.Kids 1
   let t37<-(do
    if(x.Kind==1) then
     pure (x1.Kind==1)
    else
     pure false
      : Option Bool)
   if t37 then
    let y2<-zAX e0 x.Num x1.Num
    pure (id y2)
   else
    let t52<-(do
     if(e0.Kind != 6) then
      let y3<-oM x1 0
      pure (id y3)
     else
      pure false
       : Option Bool)
    let t521<-(do
     if t52 then
      pure (id t52)
     else
      let t522<-(do
       if(e0.Kind==6) then
        let y4<-oM x1 1
        pure (id y4)
       else
        pure false
         : Option Bool)
      pure (id t522)
       : Option Bool)
    if t521 then
     pure (id x)
    else
     let t68<-(do
      if(e0.Kind==4) then
       let y5<-oM x 0
       pure (id y5)
      else
       pure false
        : Option Bool)
     let t681<-(do
      if t68 then
       pure (id t68)
      else
       let t682<-(do
        if(e0.Kind==6) then
         let y6<-oM x 1
         pure (id y6)
        else
         pure false
          : Option Bool)
       pure (id t682)
        : Option Bool)
     if t681 then
      pure (id x1)
     else
      let t84<-(do
       if(e0.Kind==6) then
        let y7<-oM x 0
        if y7 then
         pure true
        else
         let y8<-oM x1 0
         pure (id y8)
       else
        pure false
         : Option Bool)
      if t84 then
       let y9<-fB 0
       pure (id y9)
      else
       pure (id e0)
theorem zFo:∀e0 r,mK e0=some r->∀{I:Imm}{p c p1 c1 p2 c2},(S4 I p e0.Index.Coefs c)->(S4 I p1 e0.Read.Subs c1)->(S4 I p2 e0.Kids c2)->RT 68 [vA (cExpr e0 p c p1 c1 p2 c2)] I [] (vM  r):=by
 intro e0 r N I p c p1 c1 p2 c2 h h1 h2;unfold mK at N;refine yM func68 λB=>?_;have H:=iS I;refine yJ<|uA (cExpr e0 p c p1 c1 p2 c2) ?_;intro b hb;refine nV zExpr ?_;intro b1 hb1;refine zX rfl<|yE<|zM ?_;refine tZ N [hB b1 zExpr,hB b (cExpr e0 p c p1 c1 p2 c2)] (λt19=>[(1,vP b 0),(2,vP b1 0),(19,.bool t19)]) (λo0 ay=>?_) ?_
 ·have H:=iS I;refine zE<|yR 4 [1] [8] rfl<|wN [8] ay ?_ ?_
  ·intro hc N;refine xF 6 [1] [(10,vA (cAff e0.Index p c))]<|bE N λy hy N=>qJ (dS e0.Index _ hy h) ?_;intro aN le;have H:=H.trans le;refine yR 10 [] [14] rfl<|wN [14] N ?_ ?_
   ·intro aE N;exact yW [1] [19] rfl<|xM<|zY (ct N H)
   intro aE N;exact yO [] [(19,vF)]<|xM<|zY (ct N H)
  intro hc N;exact yO [] [(19,vF)]<|xM<|zY (ct N H)
 intro t19 I0 ai aT;have ⟨h,h1,h2,H⟩:=m4 ai h h1 h2 H;refine zH<|yD aT ?_ ?_
 ·intro aQ N;refine yJ<|yR 3 [1] [22] rfl<|bE N λy1 aw N=>tG (zAv e0.Index.Const _ aw ) ?_;rintro bf aK v2 k2 ax - ⟨v01,rfl,rfl,⟨cs,rfl,h4⟩⟩ -;obtain⟨p3,c3,p4,c4,p5,c5,rfl,h5,h6,h7⟩:=yZ h4;refine tA 0 (cExpr y1 p3 c3 p4 c4 p5 c5) rfl<|zX rfl<|yS<|zG ?_;obtain rfl:=zB N;exact yV ⟨_,_,(.cell 0 rfl rfl (by kernel_rfl) ResV.nil),zO,⟨_,rfl,rfl,⟨_,rfl,(wI ⟨_,_,_,rfl,h5,h6,h7⟩)⟩⟩⟩
 intro aQ N;refine zT<|yE<|yJ<|yW [1] [27] rfl<|zH<|yD N ?_ ?_
 ·intro bp N;refine yJ<|xF 1 [1] [(28,vA (cExpr e0 p c p1 c1 p2 c2))]<|tA 0 (cExpr e0 p c p1 c1 p2 c2) rfl<|zX rfl<|yS<|zG ?_;obtain rfl:=zB N;exact yV ⟨_,_,(.cell 0 rfl rfl (by kernel_rfl) ResV.nil),zO,⟨_,rfl,rfl,⟨_,rfl,(wI ⟨_,_,_,rfl,h,h1,h2⟩)⟩⟩⟩
 intro bp N;refine zT<|wG<|yR 2 [1] [30] rfl<|bE N λx aI N=>xL rfl rfl h2 aI ?_;intro ad aF av aq;obtain⟨p6,c6,p7,c7,p8,c8,rfl,h8,h9,h10⟩:=yZ aq;refine yY 0 av (cExpr x p6 c6 p7 c7 p8 c8) (vA (cExpr x p6 c6 p7 c7 p8 c8)) rfl<|nV zExpr ?_;intro b2 hb2;refine tA 0 (cExpr x p6 c6 p7 c7 p8 c8) rfl<|zX rfl<|wG<|yR 2 [2] [34] rfl<|bE N λx1 aW N=>xL rfl rfl h2 aW ?_;intro ad1 aY au aA;obtain⟨p9,c9,aX,a8,a7,a6,rfl,h11,h12,h13⟩:=yZ aA;refine yY 0 au (cExpr x1 p9 c9 aX a8 a7 a6) (vA (cExpr x1 p9 c9 aX a8 a7 a6)) rfl<|nV zExpr ?_;intro b3 hb3;refine tA 0 (cExpr x1 p9 c9 aX a8 a7 a6) rfl<|zX rfl<|yE<|zZ<|zM ?_;refine tZ N [hB b3 (cExpr x1 p9 c9 aX a8 a7 a6),hB b2 (cExpr x p6 c6 p7 c7 p8 c8),hB b1 zExpr,hB b (cExpr e0 p c p1 c1 p2 c2)] (λt37=>[(1,vP b 0),(2,vP b1 0),(3,vP b2 0),(4,vP b3 0),(37,.bool t37)]) (λaO aJ=>?_) ?_
 ·have H:=iS I0;refine zE<|yR 4 [1] [41] rfl<|wN [41] aJ ?_ ?_
  ·intro bD N;exact yW [0] [37] rfl<|xM<|zY (ct N H)
  intro bD N;exact yO [] [(37,vF)]<|xM<|zY (ct N H)
 intro t37 bq aR hMc1;have ⟨h11,h12,h13,h8,h9,h10⟩:=m6 aR h11 h12 h13 h8 h9 h10;have ⟨h,h1,h2,H⟩:=m4 aR h h1 h2 H;refine zH<|yD hMc1 ?_ ?_
 ·intro hc5 N;refine yJ<|xF 5 [3,1,0] [(46,vA (cExpr e0 p c p1 c1 p2 c2)),(48,vI x.Num),(50,vI x1.Num)]<|bE N λy2 bk N=>tG (zG8 e0 x.Num x1.Num _ bk h h1 h2) ?_;rintro bG aK v2 k2 bg - ⟨v011,rfl,rfl,⟨aM,rfl,h14⟩⟩ -;obtain⟨bu,bc,aZ,bm,p14,c14,rfl,h15,h16,h17⟩:=yZ h14;refine tA 2 (cExpr y2 bu bc aZ bm p14 c14) rfl<|zX rfl<|yS<|zR<|zG ?_;obtain rfl:=zB N;exact yV ⟨_,_,(.cell 2 rfl rfl (by kernel_rfl) ResV.nil),zO,⟨_,rfl,rfl,⟨_,rfl,(wI ⟨_,_,_,rfl,h15,h16,h17⟩)⟩⟩⟩
 intro hc5 N;refine zM<|zM ?_;refine tZ N [hB b3 (cExpr x1 p9 c9 aX a8 a7 a6),hB b2 (cExpr x p6 c6 p7 c7 p8 c8),hB b1 zExpr,hB b (cExpr e0 p c p1 c1 p2 c2)] (λt52=>[(1,vP b 0),(2,vP b1 0),(3,vP b2 0),(4,vP b3 0),(52,.bool t52)]) (λo02 ho02=>?_) ?_
 ·have H:=iS bq;refine zE<|yR 4 [3] [56] rfl<|wN [56] ho02 ?_ ?_
  ·intro hc6 N;refine xF 5 [0] [(57,vA (cExpr x1 p9 c9 aX a8 a7 a6))]<|bE N λy3 bC N=>vJ (fC x1 0 _ bC h11 h12 h13) ?_;intro I06 bo;have H:=H.trans bo;exact yW [] [52] rfl<|xM<|zY (ct N H)
  intro hc6 N;exact yO [] [(52,vF)]<|xM<|zY (ct N H)
 intro t52 bL bB hMc2;have ⟨h11,h12,h13,h8,h9,h10⟩:=m6 bB h11 h12 h13 h8 h9 h10;have ⟨h,h1,h2,H⟩:=m4 bB h h1 h2 H;refine zH ?_;refine tZ hMc2 [hB b3 (cExpr x1 p9 c9 aX a8 a7 a6),hB b2 (cExpr x p6 c6 p7 c7 p8 c8),hB b1 zExpr,hB b (cExpr e0 p c p1 c1 p2 c2)] (λt521=>[(1,vP b 0),(2,vP b1 0),(3,vP b2 0),(4,vP b3 0),(52,.bool t521)]) (λo03 ho03=>?_) ?_
 ·have H:=iS bL;refine yD ho03 ?_ ?_
  ·intro hc7 N;exact zT<|xM<|zY (ct N H)
  intro hc7 N;refine tZ N [hB b3 (cExpr x1 p9 c9 aX a8 a7 a6),hB b2 (cExpr x p6 c6 p7 c7 p8 c8),hB b1 zExpr,hB b (cExpr e0 p c p1 c1 p2 c2)] (λt522=>[(1,vP b 0),(2,vP b1 0),(3,vP b2 0),(4,vP b3 0),(52,.bool t522)]) (λo04 ho04=>?_) ?_
  ·have H:=iS bL;refine zE<|yR 4 [3] [63] rfl<|wN [63] ho04 ?_ ?_
   ·intro hc8 N;refine xF 5 [0] [(64,vA (cExpr x1 p9 c9 aX a8 a7 a6))]<|bE N λy4 hy6 N=>vJ (fC x1 1 _ hy6 h11 h12 h13) ?_;intro I09 le7;have H:=H.trans le7;exact yW [] [52] rfl<|xM<|zY (ct N H)
   intro hc8 N;exact yO [] [(52,vF)]<|xM<|zY (ct N H)
  intro t522 I08 le8 hMc4;have H:=H.trans le8;exact xM<|zY (ct hMc4 H)
 intro t521 I07 le9 hMc3;have ⟨h11,h12,h13,h8,h9,h10⟩:=m6 le9 h11 h12 h13 h8 h9 h10;have ⟨h,h1,h2,H⟩:=m4 le9 h h1 h2 H;refine zH<|yD hMc3 ?_ ?_
 ·intro hc9 N;refine yJ<|xF 1 [1] [(67,vA (cExpr x p6 c6 p7 c7 p8 c8))]<|tA 2 (cExpr x p6 c6 p7 c7 p8 c8) rfl<|zX rfl<|yS<|zR<|zG ?_;obtain rfl:=zB N;exact yV ⟨_,_,(.cell 2 rfl rfl (by kernel_rfl) ResV.nil),zO,⟨_,rfl,rfl,⟨_,rfl,(wI ⟨_,_,_,rfl,h8,h9,h10⟩)⟩⟩⟩
 intro hc9 N;refine zM<|zM ?_;refine tZ N [hB b3 (cExpr x1 p9 c9 aX a8 a7 a6),hB b2 (cExpr x p6 c6 p7 c7 p8 c8),hB b1 zExpr,hB b (cExpr e0 p c p1 c1 p2 c2)] (λt68=>[(1,vP b 0),(2,vP b1 0),(3,vP b2 0),(4,vP b3 0),(68,.bool t68)]) (λo05 ho05=>?_) ?_
 ·have H:=iS I07;refine zE<|yR 4 [3] [72] rfl<|wN [72] ho05 ?_ ?_
  ·intro hc10 N;refine xF 5 [1] [(73,vA (cExpr x p6 c6 p7 c7 p8 c8))]<|bE N λy5 hy7 N=>vJ (fC x 0 _ hy7 h8 h9 h10) ?_;intro bU le10;have H:=H.trans le10;exact yW [] [68] rfl<|xM<|zY (ct N H)
  intro hc10 N;exact yO [] [(68,vF)]<|xM<|zY (ct N H)
 intro t68 bO le11 hMc5;have ⟨h11,h12,h13,h8,h9,h10⟩:=m6 le11 h11 h12 h13 h8 h9 h10;have ⟨h,h1,h2,H⟩:=m4 le11 h h1 h2 H;refine zH ?_;refine tZ hMc5 [hB b3 (cExpr x1 p9 c9 aX a8 a7 a6),hB b2 (cExpr x p6 c6 p7 c7 p8 c8),hB b1 zExpr,hB b (cExpr e0 p c p1 c1 p2 c2)] (λt681=>[(1,vP b 0),(2,vP b1 0),(3,vP b2 0),(4,vP b3 0),(68,.bool t681)]) (λo06 ho06=>?_) ?_
 ·have H:=iS bO;refine yD ho06 ?_ ?_
  ·intro hc11 N;exact zT<|xM<|zY (ct N H)
  intro hc11 N;refine tZ N [hB b3 (cExpr x1 p9 c9 aX a8 a7 a6),hB b2 (cExpr x p6 c6 p7 c7 p8 c8),hB b1 zExpr,hB b (cExpr e0 p c p1 c1 p2 c2)] (λt682=>[(1,vP b 0),(2,vP b1 0),(3,vP b2 0),(4,vP b3 0),(68,.bool t682)]) (λo07 ho07=>?_) ?_
  ·have H:=iS bO;refine zE<|yR 4 [3] [79] rfl<|wN [79] ho07 ?_ ?_
   ·intro hc12 N;refine xF 5 [1] [(80,vA (cExpr x p6 c6 p7 c7 p8 c8))]<|bE N λy6 hy8 N=>vJ (fC x 1 _ hy8 h8 h9 h10) ?_;intro I014 le12;have H:=H.trans le12;exact yW [] [68] rfl<|xM<|zY (ct N H)
   intro hc12 N;exact yO [] [(68,vF)]<|xM<|zY (ct N H)
  intro t682 I013 le13 hMc7;have H:=H.trans le13;exact xM<|zY (ct hMc7 H)
 intro t681 bR le14 hMc6;have ⟨h11,h12,h13,h8,h9,h10⟩:=m6 le14 h11 h12 h13 h8 h9 h10;have ⟨h,h1,h2,H⟩:=m4 le14 h h1 h2 H;refine zH<|yD hMc6 ?_ ?_
 ·intro hc13 N;refine yJ<|xF 1 [0] [(83,vA (cExpr x1 p9 c9 aX a8 a7 a6))]<|tA 2 (cExpr x1 p9 c9 aX a8 a7 a6) rfl<|zX rfl<|yS<|zR<|zG ?_;obtain rfl:=zB N;exact yV ⟨_,_,(.cell 2 rfl rfl (by kernel_rfl) ResV.nil),zO,⟨_,rfl,rfl,⟨_,rfl,(wI ⟨_,_,_,rfl,h11,h12,h13⟩)⟩⟩⟩
 intro hc13 N;refine zM ?_;refine tZ N [hB b1 zExpr,hB b (cExpr e0 p c p1 c1 p2 c2)] (λt84=>[(1,vP b 0),(2,vP b1 0),(84,.bool t84)]) (λo08 ho08=>?_) ?_
 ·have H:=iS bR;refine zE<|yR 4 [3] [88] rfl<|wN [88] ho08 ?_ ?_
  ·intro hc14 N;refine xF 5 [1] [(89,vA (cExpr x p6 c6 p7 c7 p8 c8))]<|bE N λy7 hy9 N=>vJ (fC x 0 _ hy9 h8 h9 h10) ?_;intro I016 le15;have ⟨h11,h12,h13,H⟩:=m4 le15 h11 h12 h13 H;refine yR 7 [] [91] rfl<|wN [91] N ?_ ?_
   ·intro hc15 N;exact yO [] [(84,vY)]<|wM (yN [2,3] rfl (by decide))<|xM<|zY (ct N H)
   intro hc15 N;refine xF 8 [0] [(92,vA (cExpr x1 p9 c9 aX a8 a7 a6))]<|bE N λy8 hy10 N=>vJ (fC x1 0 _ hy10 h11 h12 h13) ?_;intro I017 le16;have H:=H.trans le16;exact yW [] [84] rfl<|wM (yN [2,3] rfl (by decide))<|xM<|zY (ct N H)
  intro hc14 N;exact yO [] [(84,vF)]<|wM (yN [2,3] rfl (by decide))<|xM<|zY (ct N H)
 intro t84 I015 le17 hMc8;have ⟨h,h1,h2⟩:=m3 le17 h h1 h2;refine zH<|yD hMc8 ?_ ?_
 ·intro hc16 N;refine yJ<|bE N λy9 hy11 N=>tG (zAv 0 _ hy11 ) ?_;rintro I018 aK v2 k2 le18 - ⟨v021,rfl,rfl,⟨aV,rfl,h24⟩⟩ -;obtain⟨p15,c15,p16,c16,p17,c17,rfl,h25,h26,h27⟩:=yZ h24;refine tA 0 (cExpr y9 p15 c15 p16 c16 p17 c17) rfl<|zX rfl<|yS<|zR<|zG ?_;obtain rfl:=zB N;exact yV ⟨_,_,(.cell 0 rfl rfl (by kernel_rfl) ResV.nil),zO,⟨_,rfl,rfl,⟨_,rfl,(wI ⟨_,_,_,rfl,h25,h26,h27⟩)⟩⟩⟩
 intro hc16 N;refine zT<|zQ<|wG<|xF 1 [1] [(97,vA (cExpr e0 p c p1 c1 p2 c2))]<|tA 0 (cExpr e0 p c p1 c1 p2 c2) rfl<|zX rfl<|zH<|yF ?_;obtain rfl:=zB N;exact yV ⟨_,_,(.cell 0 rfl rfl (by kernel_rfl) ResV.nil),zO,⟨_,rfl,rfl,⟨_,rfl,(wI ⟨_,_,_,rfl,h,h1,h2⟩)⟩⟩⟩
mutual
def mM(e0:zD):Option (zD):=do
 let y<-sK e0.Index
 let y1<-uE e0.Read
 let Kids1<-vQ (same e0) (same 0) ([]:List zD)
 let y3<-mK (zD.mk e0.Kind e0.Num y y1 Kids1)
 pure (id y3)
 partial_fixpoint
def vQ(e0:zD)(i:Int)(Kids:List zD):Option (List zD):=do
 if(decide (i<(e0.Kids.length:Int))) then
  let x<-idx e0.Kids i
  let y2<-mM (same x)
  let l<-app 112 Kids ([y2]:List zD)
  vQ (same e0) (W (i+1)) (same l)
 else
  pure (id Kids)
 partial_fixpoint
end
theorem zFY:(∀(e0:zD) r,mM e0=some r->∀{I:Imm}{p c p1 c1 p2 c2},(S4 I p e0.Index.Coefs c)->(S4 I p1 e0.Read.Subs c1)->(S4 I p2 e0.Kids c2)->RT 38 [vA (cExpr e0 p c p1 c1 p2 c2)] I [] (vM  r))/\(∀(e0:zD) (i:Int) (Kids:List zD) o,vQ e0 i Kids=some o->∀{B}{I0 I:Imm}{Q}{y:zC}{y1:zK}{p c p1 c1 p2 c2}{b:Nat}{b1:Nat}{p31 c31 p41 c41}{b2:Nat}{p5 c5 aV},I0.le I->(S4 I p31 y.Coefs c31)->(S4 I p41 y1.Subs c41)->(S4 I p e0.Index.Coefs c)->(S4 I p1 e0.Read.Subs c1)->(S4 I p2 e0.Kids c2)->(RL I aV Kids)->NG Q->NO Q->(∀(I':Imm) (Kids1:List zD) (p6:Option Addr) (c6:Nat) (bb:List Value),o=Kids1->I0.le I'->(RL I' bb Kids1)->T 36 B Q (.exit 0) I' [hO zD (vS p6 Kids1 c6) bb,hB b2 [vI e0.Kind,vI e0.Num,vS p31 y.Coefs c31,vI y.Const,vT y1.Array.l,vS p41 y1.Subs c41,vS p6 Kids1 c6],hB b1 zExpr] [(2,vP b1 0),(3,vP b2 0)])->J Tryz.prog 36 B (nav (bodyOf f38) [1,1,0,1,0]) Q I [hO zD (vS p5 Kids c5) aV,hB b2 [vI e0.Kind,vI e0.Num,vS p31 y.Coefs c31,vI y.Const,vT y1.Array.l,vS p41 y1.Subs c41,vS p5 Kids c5],hB b1 zExpr,hB b (cExpr e0 p c p1 c1 p2 c2)] [(1,vP b 0),(2,vP b1 0),(3,vP b2 0),(4,vI i)]):=by
 refine mM.mutual_partial_correctness _ _ ?_ ?_
 ·intro F_spec_l13Fold_l1 ih_spec_l13Fold_l1 e0 r N I p c p1 c1 p2 c2 h h1 h2;refine yM func38 λB=>?_;have H:=iS I;refine yJ<|uA (cExpr e0 p c p1 c1 p2 c2) ?_;intro b hb;refine nV zExpr ?_;intro b1 hb1;refine zX rfl<|zH<|zM ?_;obtain⟨y,hy,N⟩:=zF N;obtain⟨y1,aw,N⟩:=zF N;refine uX [.p (vP b 0) [],.p (vI e0.Kind) [1],.p (vP b 1) [],.p (vI e0.Num) [1],.p (vP b 2) [],.p (vA (cAff e0.Index p c)) [1],.x (eVAff y),.p (vP b 4) [],.p (vA (cAccess e0.Read p1 c1)) [1],.x (eVAccess y1),.x (λI' v hx=>∃p31 c31 p41 c41,v=vA [vI e0.Kind,vI e0.Num,vS p31 y.Coefs c31,vI y.Const,vT y1.Array.l,vS p41 y1.Subs c41,z0]/\hx=[]/\(S4 I' p31 y.Coefs c31)/\(S4 I' p41 y1.Subs c41)),.x (λI' v hx=>∃b2,v=vP b2 0/\hx=[hB b2 zExpr])] [[],[(0,false)],[],[(2,false)],[],[(4,false)],[(5,false)],[],[(7,false)],[(8,false)],[(1,false),(3,false),(6,false),(9,false)],[]] [hB b1 zExpr,hB b (cExpr e0 p c p1 c1 p2 c2)] [] [(10,false),(11,true)] (xD [0,1]) ?_ ?_
  ·refine Op<|Op<|Op<|Op<|Op<|Op<|Ox ?_<|Op<|Op<|Ox ?_<|Ox ?_<|Ox ?_<|On
   ·intro I1 hf ai;refine xV [10] rfl ?_;have H:=iS I1;have h:=h.mono ai;refine tG (fW e0.Index _ hy h) ?_;rintro I0 aK v2 k2 le - ⟨v0,rfl,rfl,⟨cs,rfl,h3⟩⟩ -;have H:=H.trans le;obtain⟨p3,c3,rfl,h4⟩:=yQ h3;exact xU [] H ⟨_,_,rfl,rfl,h4⟩
   ·intro I1 hf ai;refine xV [13] rfl ?_;have H:=iS I1;have h1:=h1.mono ai;refine tG (oV e0.Read _ aw h1) ?_;rintro aN aK v2 k2 ai - ⟨v02,rfl,rfl,⟨aM,rfl,h5⟩⟩ -;have H:=H.trans ai;obtain⟨p4,c4,rfl,h6⟩:=rD h5;exact xU [] H ⟨_,_,rfl,rfl,h6⟩
   ·rintro I1 hf ai _ _ ⟨rfl,rfl⟩ _ _ ⟨rfl,rfl⟩ _ _ ⟨p3,c3,rfl,rfl,h4⟩ _ _ ⟨p4,c4,rfl,rfl,h6⟩;exact xV [6,8,11,14] rfl<|nP 11 [(15,vA [vI e0.Kind,vI e0.Num,vS p3 y.Coefs c3,vI y.Const,vT y1.Array.l,vS p4 y1.Subs c4,z0])]<|xU [] iR ⟨_,_,_,_,rfl,rfl,h4,h6⟩
   intro I1 hf ai;refine I_h []<|nV zExpr ?_;intro b2 hb2;exact xU [hB b2 zExpr] iR ⟨_,rfl,rfl⟩
  rintro bf ax _ _ ⟨p31,c31,p41,c41,rfl,rfl,h41,h61⟩ _ _ ⟨b2,rfl,rfl⟩;refine xV [1,2,3,15] rfl ?_;have ⟨h,h1,h2⟩:=m3 ax h h1 h2;refine tA 0 [vI e0.Kind,vI e0.Num,vS p31 y.Coefs c31,vI y.Const,vT y1.Array.l,vS p41 y1.Subs c41,z0] rfl<|zX rfl<|yE<|yG [4] rfl<|uP<|rX [(1,vP b 0),(2,vP b1 0),(3,vP b2 0),(4,vI 0)]<|zH7 zD λh7=>?_;obtain⟨o0,ay,aB⟩:=zF N;refine ih_spec_l13Fold_l1 e0 0 ([]:List zD) o0 ay iR h41 h61 h h1 h2 h7 (λ_ _ _ h=>h) (λ_ _ h=>h) ?_;intro I06 Kids1 p6 c6 bb heq bB h9;subst o0;have ⟨h41,h61⟩:=m2 bB h41 h61;refine zU<|wG<|xF 1 [1] [(34,vA [vI e0.Kind,vI e0.Num,vS p31 y.Coefs c31,vI y.Const,vT y1.Array.l,vS p41 y1.Subs c41,vS p6 Kids1 c6])]<|tP 0 rfl ?_;intro I07 le7 hl01;have h20:=SL.of_frozen hl01 le7 h9;have ⟨h41,h61⟩:=m2 le7 h41 h61;obtain⟨y3,bC,N⟩:=zF aB;refine tG (zFo (zD.mk e0.Kind e0.Num y y1 Kids1) _ bC h41 h61 h20) ?_;rintro I08 aK v2 k2 le8 - ⟨v011,rfl,rfl,⟨cs6,rfl,h21⟩⟩ -;obtain⟨p14,c14,p15,c15,p16,c16,rfl,h22,h23,h24⟩:=yZ h21;refine tA 1 (cExpr y3 p14 c14 p15 c15 p16 c16) rfl<|zX rfl<|zH<|yF ?_;obtain rfl:=zB N;exact yV ⟨_,_,(.cell 1 rfl rfl (by kernel_rfl) ResV.nil),zO,⟨_,rfl,rfl,⟨_,rfl,(wI ⟨_,_,_,rfl,h22,h23,h24⟩)⟩⟩⟩
 intro F_spec_l13Fold F_spec_l13Fold_l1 ih_spec_l13Fold ih_spec_l13Fold_l1 e0 i Kids o N B I0 I Q y y1 p c p1 c1 p2 c2 b b1 p31 c31 p41 c41 b2 p5 c5 aV H h41 h61 h h1 h2 h8 hg ho hx;refine yK hg ho<|zM<|yJ<|yW [3] [20] rfl<|zH<|yD N ?_ ?_
 ·intro hc N;refine zT<|yE<|zZ ?_;obtain⟨x,aI,N⟩:=zF N;obtain⟨y2,aW,N⟩:=zF N;obtain⟨l,bk,N⟩:=zF N;refine uX [.p (vP b2 6) [],.p (vS p5 Kids c5) [0],.p (vP b 6) [],.p (vS p2 e0.Kids c2) [2],.p (vI i) [],.x (ePExpr x),.x (eVExpr x),.x (eVExpr y2),.x (λI' v hx=>∃b3,v=vS (some ⟨b3,0,none⟩) ([y2]:List zD) 1/\hx=[]/\(SL I' (vS (some ⟨b3,0,none⟩) ([y2]:List zD) 1) ([y2]:List zD))),.x (λI' v hx=>∃aZ bm bw,v=vS aZ l bm/\hx=[hO zD (vS aZ l bm) bw]/\(RL I' bw l))] [[],[(0,false)],[],[(2,false)],[],[(3,false),(4,false)],[(5,false)],[(6,false)],[(7,false)],[(1,false),(8,false),(12,true)]] [hB b2 [vI e0.Kind,vI e0.Num,vS p31 y.Coefs c31,vI y.Const,vT y1.Array.l,vS p41 y1.Subs c41,vS p5 Kids c5],hB b1 zExpr,hB b (cExpr e0 p c p1 c1 p2 c2)] [[hO zD (vS p5 Kids c5) aV]] [(9,true)] (xD [1,2,3,0]) ?_ ?_
  ·refine Op<|Op<|Op<|Op<|Op<|Ox ?_<|Ox ?_<|Ox ?_<|Ox ?_<|Ox ?_<|On
   ·intro I1 hf ai;refine xV [26,27] rfl ?_;have h2:=h2.mono ai;refine xL rfl rfl h2 aI ?_;intro ad aF av aq;obtain⟨p7,c7,p8,c8,p9,c9,rfl,h10,h11,h12⟩:=yZ aq;exact xU [] iR ⟨_,_,_,_,_,_,_,rfl,rfl,av,h10,h11,h12⟩
   ·rintro I1 hf ai _ _ ⟨ad,p7,c7,p8,c8,p9,c9,rfl,rfl,av,h10,h11,h12⟩;exact xV [28] rfl<|yY 0 av (cExpr x p7 c7 p8 c8 p9 c9) (vA (cExpr x p7 c7 p8 c8 p9 c9)) rfl<|xU [] iR ⟨_,_,_,_,_,_,rfl,rfl,h10,h11,h12⟩
   ·rintro I1 hf ai _ _ ⟨p71,c71,p81,c81,p91,c91,rfl,rfl,h101,h111,h121⟩;refine xV [29] rfl ?_;have H:=iS I1;refine tG (ih_spec_l13Fold x _ aW h101 h111 h121) ?_;rintro bq aK v2 k2 aR - ⟨v07,rfl,rfl,⟨br,rfl,h13⟩⟩ -;have H:=H.trans aR;obtain⟨aX,a8,a7,a6,bu,bc,rfl,h14,h15,h16⟩:=yZ h13;exact xU [] H ⟨_,_,_,_,_,_,rfl,rfl,h14,h15,h16⟩
   ·rintro I1 hf ai _ _ ⟨aX,a8,a7,a6,bu,bc,rfl,rfl,h14,h15,h16⟩;refine xV [30] rfl ?_;have H:=iS I1;refine zIM (rc y2 (wI ⟨_,_,_,rfl,h14,h15,h16⟩) rN) ?_;intro b3 bG bg h18;have H:=H.trans bg;exact xU [] H ⟨_,rfl,rfl,h18⟩
   rintro I1 hf ai _ _ ⟨rfl,rfl⟩ _ _ ⟨b3,rfl,rfl,h18⟩ _ _ rfl;refine xV [24,31] rfl ?_;have h8:=iM ai h8;obtain⟨aY,k0,k01⟩:=h18;have h18:SL I1 (vS (some ⟨b3,0,none⟩) ([y2]:List zD) 1) ([y2]:List zD):=⟨_,k0,k01⟩;exact fU 53 7 0 rfl rfl rfl h8 (.inl k0) k01 bk λaZ bm bw h19=>jK (aj:=(hO zD (vS aZ l bm) bw::hB b2 [vI e0.Kind,vI e0.Num,vS p31 y.Coefs c31,vI y.Const,vT y1.Array.l,vS p41 y1.Subs c41,vS p5 Kids c5]::hB b1 zExpr::hB b (cExpr e0 p c p1 c1 p2 c2)::hf)) rfl<|xU [hO zD (vS aZ l bm) bw] iR ⟨_,_,_,rfl,rfl,h19⟩
  rintro bL bo _ _ ⟨aZ,bm,bw,rfl,rfl,h19⟩;refine xV [1,2,3,4,32] rfl ?_;have ⟨h41,h61,h,h1,h2,H⟩:=m6 bo h41 h61 h h1 h2 H;exact yR 11 [] [33] rfl<|tA 1 [vI e0.Kind,vI e0.Num,vS p31 y.Coefs c31,vI y.Const,vT y1.Array.l,vS p41 y1.Subs c41,vS aZ l bm] rfl<|zX rfl<|zQ<|zH<|zE<|yW [] [4] rfl<|yL<|gJ<|ih_spec_l13Fold_l1 e0 (W (i+1)) l _ N H h41 h61 h h1 h2 h19 hg ho hx
 intro hc N;exact uQ<|wM (yN [0,1,2] rfl (by decide))<|xM<|hx _ _ _ _ _ (zB N).symm H h8
theorem zFp:∀e0 r,mM e0=some r->∀{I:Imm}{p c p1 c1 p2 c2},(S4 I p e0.Index.Coefs c)->(S4 I p1 e0.Read.Subs c1)->(S4 I p2 e0.Kids c2)->RT 38 [vA (cExpr e0 p c p1 c1 p2 c2)] I [] (vM  r):=zFY.1
end Go.LN
