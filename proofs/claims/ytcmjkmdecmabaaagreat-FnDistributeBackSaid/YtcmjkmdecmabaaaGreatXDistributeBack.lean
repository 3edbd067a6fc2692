/- Helper of the proof (see the last text). -/
import Derived.Test.YtcmjkmdecmabaaaGreatLnA
import Derived.Test.YtcmjkmdecmabaaaGreatLnI
import Derived.Test.YtcmjkmdecmabaaaGreatLnP
import Derived.Test.YtcmjkmdecmabaaaGreatLnYP
import Derived.Test.YtcmjkmdecmabaaaGreatTryzShelf
import Derived.Test.YtcmjkmdecmabaaaGreatZQ
import Derived.Test.YtcmjkmdecmabaaaGreatHM1
import Derived.Test.YtcmjkmdecmabaaaGreatHM2
import Derived.Test.YtcmjkmdecmabaaaGreatHM3
import Derived.Test.YtcmjkmdecmabaaaGreatHM4
import Derived.Test.YtcmjkmdecmabaaaGreatHM5
import Derived.Test.YtcmjkmdecmabaaaGreatHM6
import Derived.Test.YtcmjkmdecmabaaaGreatHM7
import Derived.Test.YtcmjkmdecmabaaaGreatHM8
import Derived.Test.YtcmjkmdecmabaaaGreatHM9
import Derived.Test.YtcmjkmdecmabaaaGreatQT
import Derived.Test.YtcmjkmdecmabaaaGreatQZ
import Derived.Test.YtcmjkmdecmabaaaGreatVB1
import Derived.Test.YtcmjkmdecmabaaaGreatVC1
import Derived.Test.YtcmjkmdecmabaaaGreatLnR
set_option linter.unusedVariables false
set_option linter.unusedSimpArgs false
namespace Go.LN
open Go.Proofs
set_option maxRecDepth 20000
abbrev eVProg(x:zC):Imm->Value->List HA->Prop:=λI' v hx=>∃p0 c0 p1 c1,v=vA (cProg x p0 c0 p1 c1)/\hx=[]/\S4 I' p0 x.Arrays c0/\S4 I' p1 x.Parts c1
end Go.LN
namespace Go.LN
open Go.Proofs
set_option maxRecDepth 20000
def zQA(r:zC×Int×Int):KT:=λkk I' hs' v=>
 ∃v0 v1 v2,hs'=[]/\v=tupV [v0,v1,v2]/\(∃cs,v0=.agg ⟨cs⟩/\Rp.rep I' cs r.1)/\v1=.int .i64 r.2.1/\v2=.int .i64 r.2.2
def zPw(code:(List UInt8)):Option (zC×Int×Int):=do
 let y<-zAk code;let (y2,y3,y4,y5,y6)<-zBF y;pure (y2,y3,y5)
theorem zQB:∀code r,zPw code=some r->∀{I:Imm}{p c},(S4 I p code c)->RT 16 [vS p code c] I [] (zQA  r):=by
 intro code r N I p c h;unfold zPw at N;refine yM Tryz.func16 λB=>yD<|xY zTwo ?_;intro b hb;refine wM [] []<|yY<|yG 1 [] [10] rfl<|bE N λy hy N=>xK (zMf code _ hy h) ?_;rintro I0 hs2 v2 k2 le - ⟨b1,p1,c1,rfl,rfl,h1⟩ -;obtain⟨⟨y2,y3,y4,y5,y6⟩,hy1,N⟩:=zB N;refine qB (zNO y _ hy1 h1) rfl ?_;rintro I01 hs2 v2 k2 le1 - ⟨v0,v01,v02,v03,kk,rfl,rfl,⟨cs,rfl,h2⟩,rfl,rfl,rfl,h6⟩ -;obtain⟨p2,c2,p3,c3,rfl,h7,h8⟩:=kT h2;obtain⟨p4,c4,rfl,h9⟩:=yJ h6;refine yG 8 [] [13,14,15,16] rfl<|xY zTwo ?_;intro b2 hb1;refine xC 0 (cProg y2 p2 c2 p3 c3) rfl<|yQ [] [6,8] rfl<|yY<|uW 3 [0] [(17,vA (cProg y2 p2 c2 p3 c3)),(18,vI y3),(19,vI y5)]<|xC 2 (cProg y2 p2 c2 p3 c3) rfl<|yQ [] [3,4] rfl<|zK<|xD ?_;exact xX N (.cell 2 rfl rfl (by kernel_rfl) (resU rfl rfl)) zO ⟨_,_,_,rfl,rfl,⟨_,rfl,(xJ ⟨_,_,rfl,h7,h8⟩)⟩,rfl,rfl⟩
def zBE(part:Int)(stmts:Int)(y2:(List zR))(y3:(List yR))(x1:zC)(i:Int):Option (Out zC (zC×Bool)):=do
 if(decide (i<(y3.length:Int))) then
  let x3<-idx y3 i;let x4<-idx y2 x3.From;let x5<-idx y3 i;let x6<-idx y2 x5.To;let t93<-(do
   if(x4.Part==part) then
    if(x6.Part==part) then
     if(decide (x4.Stmt>=stmts)) then pure (decide (x6.Stmt<stmts))
     else pure false
    else pure false
   else
    pure false
     : Option Bool)
  if t93 then pure (.ret ((zC.mk ([]:List zD) ([]:List zF)),false))
  else zBE part stmts y2 y3 x1 (W (i+1))
 else pure (.done x1)
 partial_fixpoint
theorem zQC(part:Int)(stmts:Int)(y2:(List zR))(y3:(List yR))(x1:zC):∀(i:Int) (o:Out zC (zC×Bool)),zBE part stmts y2 y3 x1 i=some o->∀{B}{I0 I:Imm}{Q}{y:zC}{b b1}{p3 c2 p4 c3 p7 c6 p8 c7 p9 c8 p10 c9},I0.le I->(S4 I p7 y2 c6)->(S4 I p8 y3 c7)->(S4 I p3 y.Arrays c2)->(S4 I p4 y.Parts c3)->(S4 I p9 x1.Arrays c8)->(S4 I p10 x1.Parts c9)->NG Q->NO Q->(∀I' x2 p11 c10 p12 c11,o=(.done x2)->I0.le I'->(S4 I' p11 x2.Arrays c10)->(S4 I' p12 x2.Parts c11)->T 120 B Q (.exit 0) I' [hB b1 (cProg x2 p11 c10 p12 c11),hB b (cProg y p3 c2 p4 c3)] [(1,vI part),(2,vI stmts),(3,vP b 0),(6,vP b1 0)])->(∀r I' hs' m',o=(.ret r)->I0.le I'->RS Tryz.prog Tryz.f18 B (mK  r) I' hs' m'->T 120 B Q .ret I' hs' m')->J Tryz.prog 120 B (nav (bodyOf Tryz.f18) [1,1,1,1,1,0,1,0]) Q I [hB b1 (cProg x1 p9 c8 p10 c9),hB b (cProg y p3 c2 p4 c3)] [(1,vI part),(2,vI stmts),(3,vP b 0),(6,vP b1 0),(8,vS p7 y2 c6),(9,vS p8 y3 c7),(10,vI i)]:=by
 refine zBE.partial_correctness part stmts y2 y3 x1 _ λself ih i o N B I0 I Q y b b1 p3 c2 p4 c3 p7 c6 p8 c7 p9 c8 p10 c9 H h8 h9 h3 h4 h10 h11 hg ho hx hr=>yX hg ho<|yC<|yK [53] rfl<|zK<|yH N ?_ ?_
 ·intro hc5 N;refine zT<|yA<|yL<|yD<|yG 3 [] [56,57,58] rfl<|bE N λx3 hy5 N=>xW rfl rfl h9 hy5 ?_;intro ad1 ccs1 hat1 hrep1;obtain rfl:=zEp hrep1;refine yG 5 [] [60] rfl<|xM 0 hat1 [vI x3.From] (vI x3.From) rfl<|bE N λx4 hy6 N=>xW rfl rfl h8 hy6 ?_;intro ad2 ccs2 hat2 hrep2;obtain⟨p13,c12,rfl,h14⟩:=oH hrep2;refine xM 0 hat2 (cInst x4 p13 c12) (vA (cInst x4 p13 c12)) rfl<|xY [vI 0,vI 0,z0] ?_;intro b2 hb2;refine xC 0 (cInst x4 p13 c12) rfl<|zY rfl<|yY<|yG 3 [] [64,65,66] rfl<|bE N λx5 hy7 N=>xW rfl rfl h9 hy7 ?_;intro ad3 ccs3 hat3 hrep3;obtain rfl:=zEp hrep3;refine yG 5 [] [68] rfl<|xM 1 hat3 [vI x5.To] (vI x5.To) rfl<|bE N λx6 hy8 N=>xW rfl rfl h8 hy8 ?_;intro ad4 ccs4 hat4 hrep4;obtain⟨p14,c13,rfl,h15⟩:=oH hrep4;refine xM 0 hat4 (cInst x6 p14 c13) (vA (cInst x6 p14 c13)) rfl<|xY [vI 0,vI 0,z0] ?_;intro b3 hb3;refine xC 0 (cInst x6 p14 c13) rfl<|zY rfl<|zK<|yC ?_;refine vQ N [hB b1 (cProg x1 p9 c8 p10 c9),hB b (cProg y p3 c2 p4 c3)] (λt93=>[(1,vI part),(2,vI stmts),(3,vP b 0),(6,vP b1 0),(8,vS p7 y2 c6),(9,vS p8 y3 c7),(10,vI i),(93,.bool t93)]) (λo01 ho01=>?_) ?_
  ·have H:=iS I;refine zL<|yG 5 [1] [76] rfl<|wR [76] ho01 ?_ ?_
   ·intro hc6 N;refine yG 11 [0] [82] rfl<|wR [82] N ?_ ?_
    ·intro hc7 N;refine yG 17 [1] [88] rfl<|wR [88] N ?_ ?_
     ·intro hc8 N;exact yQ [0] [93] rfl<|wK (zX [2,3] rfl (by decide))<|yZ<|zU (ct N H)
     intro hc8 N;exact wM [] [(93,vF)]<|wK (zX [2,3] rfl (by decide))<|yZ<|zU (ct N H)
    intro hc7 N;exact wM [] [(93,vF)]<|wK (zX [2,3] rfl (by decide))<|yZ<|zU (ct N H)
   intro hc6 N;exact wM [] [(93,vF)]<|wK (zX [2,3] rfl (by decide))<|yZ<|zU (ct N H)
  intro t93 I05 le5 hMc1;have ⟨h8,h9,h10,h11,h3,h4⟩:=m6 le5 h8 h9 h10 h11 h3 h4;have H:=H.trans le5;refine zK<|yH hMc1 ?_ ?_
  ·intro hc9 N;exact yD<|yG 1 [] [94] rfl<|jV 0 zTwo [hB b1 zTwo,hB b (cProg y p3 c2 p4 c3)] rfl rfl rfl rfl<|wM [] [(7,vF)]<|xH<|zV<|zJ<|zJ<|hr _ _ _ _ (zE N).symm H ⟨_,_,(resE 0 rfl rfl rfl),zO,⟨_,_,rfl,rfl,⟨_,rfl,(xJ ⟨_,_,rfl,(SL.nil _),(SL.nil _)⟩)⟩,rfl⟩⟩
  intro hc9 N;exact zT<|zN<|zK<|zL<|yQ [] [10] rfl<|yV<|nX<|ih (W (i+1)) _ N H h8 h9 h3 h4 h10 h11 hg ho hx hr
 intro hc5 N;exact wW<|yZ<|hx _ _ _ _ _ _ (zE N).symm H h10 h11
def zPz(p:zC)(part:Int)(stmts:Int):Option (zC×Bool):=do
 let y<-gT p;let t44<-(do
  let y1<-sA y;if(!y1) then pure true
  else
   if(decide (part<0)) then pure true
   else
    if(decide (part>=(y.Parts.length:Int))) then pure true
    else
     if(decide (stmts<1)) then pure true
     else
      let x<-idx y.Parts part;pure (decide (stmts>=(x.Body.length:Int)))
    : Option Bool)
 if t44 then pure ((zC.mk ([]:List zD) ([]:List zF)),false)
 else
  let y2<-oF y;let y3<-zA2 y
  match<-zBE part stmts y2 y3 (zC.mk ([]:List zD) ([]:List zF)) 0 with
  | .ret r0=>pure r0
  | .done x2=>
   let x7<-idx y.Parts part;let l<-slc x7.Body 0 stmts;let l1<-slc x7.Body stmts (x7.Body.length:Int);let (y5,y6)<-zBG y part 1 ([(zF.mk x7.Nest l),(zF.mk x7.Nest l1)]:List zF);pure (y5,y6)
theorem zQE:∀p part stmts r,zPz p part stmts=some r->∀{I:Imm}{p1 c p2 c1},(S4 I p1 p.Arrays c)->(S4 I p2 p.Parts c1)->RT 18 [vA (cProg p p1 c p2 c1),vI part,vI stmts] I [] (mK  r):=by
 intro p part stmts r N I p1 c p2 c1 h h1;unfold zPz at N;refine yM Tryz.func18 λB=>?_;have H:=iS I;refine yD<|vC (cProg p p1 c p2 c1) ?_;intro b hb;refine xY zTwo ?_;intro b1 hb1;refine wM [] []<|yY<|uW 1 [1] [(14,vA (cProg p p1 c p2 c1))]<|bE N λy hy N=>xK (zKN p _ hy h h1) ?_;rintro I0 hs2 v2 k2 le - ⟨v0,rfl,rfl,⟨cs,rfl,h2⟩⟩ -;have ⟨h,H⟩:=m2 le h H;obtain⟨p3,c2,p4,c3,rfl,h3,h4⟩:=kT h2;refine xC 1 (cProg y p3 c2 p4 c3) rfl<|zY rfl<|yA<|yC ?_;refine vQ N [hB b1 zTwo,hB b (cProg y p3 c2 p4 c3)] (λt44=>[(1,vI part),(2,vI stmts),(3,vP b 0),(6,vP b1 0),(44,.bool t44)]) (λo0 ho0=>?_) ?_
 ·have H:=iS I0;refine zL<|uW 1 [1] [(16,vA (cProg y p3 c2 p4 c3))] ?_;obtain⟨y1,hy1,N⟩:=zB ho0;refine tA (zAA y _ hy1 h3 h4) ?_;intro I02 le1;have ⟨h4,H⟩:=m2 le1 h4 H;refine yG 4 [] [19] rfl<|wR [19] N ?_ ?_
  ·intro hc N;exact wM [] [(44,vY)]<|yZ<|zU (ct N H)
  intro hc N;refine yG 8 [] [23] rfl<|wR [23] N ?_ ?_
  ·intro hc1 N;exact wM [] [(44,vY)]<|yZ<|zU (ct N H)
  intro hc1 N;refine yG 15 [1] [30] rfl<|wR [30] N ?_ ?_
  ·intro hc2 N;exact wM [] [(44,vY)]<|yZ<|zU (ct N H)
  intro hc2 N;refine yG 19 [] [34] rfl<|wR [34] N ?_ ?_
  ·intro hc3 N;exact wM [] [(44,vY)]<|yZ<|zU (ct N H)
  intro hc3 N;refine yG 23 [1] [35,37,38] rfl<|bE N λx hy2 N=>xW rfl rfl h4 hy2 ?_;intro ad ccs hat hrep;obtain⟨p5,c4,p6,c5,rfl,h6,h7⟩:=wI hrep;exact yG 25 [] [40] rfl<|xM 1 hat [vS p6 x.Body c5] (vS p6 x.Body c5) rfl<|yQ [] [44] rfl<|yZ<|zU (ct N H)
 intro t44 I01 le2 hMc;have ⟨h3,h4,H⟩:=m3 le2 h3 h4 H;refine zK<|yH hMc ?_ ?_
 ·intro hc4 N;refine yD<|yG 1 [] [45] rfl<|jV 0 zTwo [hB b1 zTwo,hB b (cProg y p3 c2 p4 c3)] rfl rfl rfl rfl<|wM [] [(7,vF)]<|xH<|zJ ?_;exact xX N (resE 0 rfl rfl rfl) zO ⟨_,_,rfl,rfl,⟨_,rfl,(xJ ⟨_,_,rfl,(SL.nil _),(SL.nil _)⟩)⟩,rfl⟩
 intro hc4 N;refine zT<|yY<|uW 1 [1] [(46,vA (cProg y p3 c2 p4 c3))]<|bE N λy2 hy3 N=>xK (zEg y _ hy3 h3 h4) ?_;rintro I03 hs2 v2 k2 le3 - ⟨v06,rfl,rfl,h8⟩ -;have ⟨h3,h4,H⟩:=m3 le3 h3 h4 H;obtain⟨p7,c6,rfl⟩:=h8.form;refine yQ [] [8] rfl<|yY<|uW 1 [1] [(48,vA (cProg y p3 c2 p4 c3))]<|bE N λy3 hy4 N=>xK (zNP y _ hy4 h3 h4) ?_;rintro I04 hs2 v2 k2 le4 - ⟨v07,rfl,rfl,h9⟩ -;have ⟨h8,h3,h4,H⟩:=m4 le4 h8 h3 h4 H;obtain⟨p8,c7,rfl⟩:=h9.form;refine yQ [] [9] rfl<|yA<|yK [10] rfl<|wN<|qX [(1,vI part),(2,vI stmts),(3,vP b 0),(6,vP b1 0),(8,vS p7 y2 c6),(9,vS p8 y3 c7),(10,vI 0)] ?_;obtain⟨o02,ho02,hMl⟩:=zB N;refine zQC part stmts y2 y3 (zC.mk ([]:List zD) ([]:List zF)) 0 o02 ho02 iR h8 h9 h3 h4 (SL.nil _) (SL.nil _) nG nO ?_ ?_
 ·intro I06 x2 p11 c10 p12 c11 heq2 le6 h12 h13;subst o02;have ⟨h3,h4,H⟩:=m3 le6 h3 h4 H;refine zS<|yY<|yG 3 [1] [96,97] rfl ?_;obtain⟨x7,hy9,N⟩:=zB hMl;refine xW rfl rfl h4 hy9 ?_;intro ad5 ccs5 hat5 hrep5;obtain⟨p15,c14,p16,c15,rfl,h16,h17⟩:=wI hrep5;refine xM 0 hat5 (cPart x7 p15 c14 p16 c15) (vA (cPart x7 p15 c14 p16 c15)) rfl<|xY zTwo ?_;intro b4 hb4;refine xC 0 (cPart x7 p15 c14 p16 c15) rfl<|zY rfl<|zK<|yC ?_;obtain⟨l,hy10,N⟩:=zB N;obtain⟨l1,hy11,N⟩:=zB N;obtain⟨⟨y5,y6⟩,hy12,N⟩:=zB N;refine wP [.p (vA (cProg y p3 c2 p4 c3)) [2],.p (vI part) [],.p (vP b4 0) [],.p (vS p15 x7.Nest c14) [0],.p (vP b4 1) [],.p (vS p16 x7.Body c15) [0],.p (vI stmts) [],.x (eS l),.x (λI' v hx=>∃p171 c161,v=vA [vS p15 x7.Nest c14,vS p171 l c161]/\hx=[]/\(S4 I' p171 l c161)),.p (vP b4 0) [],.p (vS p15 x7.Nest c14) [0],.p (vP b4 1) [],.p (vS p16 x7.Body c15) [0],.p (vI stmts) [],.x (eS l1),.x (λI' v hx=>∃p181 c171,v=vA [vS p15 x7.Nest c14,vS p181 l1 c171]/\hx=[]/\(S4 I' p181 l1 c171)),.x (λI' v hx=>∃b5,v=vS (some ⟨b5,0,none⟩) ([(zF.mk x7.Nest l),(zF.mk x7.Nest l1)]:List zF) 2/\hx=[]/\(SL I' (vS (some ⟨b5,0,none⟩) ([(zF.mk x7.Nest l),(zF.mk x7.Nest l1)]:List zF) 2) ([(zF.mk x7.Nest l),(zF.mk x7.Nest l1)]:List zF))),.x (λI' v hx=>∃p19 c18 p20 c19,v=.tuple ⟨[vA (cProg y5 p19 c18 p20 c19),.bool y6]⟩/\hx=[]/\(S4 I' p19 y5.Arrays c18)/\(S4 I' p20 y5.Parts c19)),.x (eVProg y5),.q (.bool y6)] [[],[],[],[(2,false)],[],[(4,false)],[],[(5,false),(6,false)],[(3,false),(7,false)],[],[(9,false)],[],[(11,false)],[],[(12,false),(13,false)],[(10,false),(14,false)],[(8,false),(15,false)],[(0,false),(1,false),(16,false)],[(17,false)],[(17,false)]] [hB b4 (cPart x7 p15 c14 p16 c15),hB b1 (cProg x2 p11 c10 p12 c11),hB b (cProg y p3 c2 p4 c3)] [] [(18,false),(19,false)] (zZ [0,1,2]) ?_ ?_
  ·refine O4<|O3<|Ox ?_<|Ox ?_<|O4<|Op<|Ox ?_<|Ox ?_<|Ox ?_<|Ox ?_<|Ox ?_<|Oq ?_<|On
   ·intro I1 hf le1;refine yW [105,106] rfl ?_;have h17:=h17.mono le1;refine zMS rfl h17 hy10 ?_;intro v012 h18;obtain⟨p17,c16,rfl⟩:=h18.form;exact yN [] iR ⟨_,_,rfl,rfl,h18⟩
   ·rintro I1 hf le1 _ _ ⟨rfl,rfl⟩ _ _ ⟨p17,c16,rfl,rfl,h18⟩;refine yW [103,107] rfl ?_;exact oN 9 [(108,vA [vS p15 x7.Nest c14,vS p17 l c16])]<|yN [] iR ⟨_,_,rfl,rfl,h18⟩
   ·intro I1 hf le1;refine yW [112,113] rfl ?_;have h17:=h17.mono le1;refine zMS rfl h17 hy11 ?_;intro v013 h19;obtain⟨p18,c17,rfl⟩:=h19.form;exact yN [] iR ⟨_,_,rfl,rfl,h19⟩
   ·rintro I1 hf le1 _ _ ⟨rfl,rfl⟩ _ _ ⟨p18,c17,rfl,rfl,h19⟩;refine yW [110,114] rfl ?_;exact oN 16 [(115,vA [vS p15 x7.Nest c14,vS p18 l1 c17])]<|yN [] iR ⟨_,_,rfl,rfl,h19⟩
   ·rintro I1 hf le1 _ _ ⟨p171,c161,rfl,rfl,h181⟩ _ _ ⟨p181,c171,rfl,rfl,h191⟩;refine yW [108,115] rfl ?_;have H:=iS I1;have h16:=h16.mono le1;refine mH (rc (zF.mk x7.Nest l) (wU ⟨_,_,rfl,h16,h181⟩) (rc (zF.mk x7.Nest l1) (wU ⟨_,_,rfl,h16,h191⟩) rN)) ?_;intro b5 I07 le7 h21;have H:=H.trans le7;exact yN [] H ⟨_,rfl,rfl,h21⟩
   ·rintro I1 hf le1 _ _ ⟨rfl,rfl⟩ _ _ ⟨rfl,rfl⟩ _ _ ⟨b5,rfl,rfl,h21⟩;refine yW [100,101,116] rfl ?_;have H:=iS I1;have ⟨h3,h4⟩:=m2 le1 h3 h4;refine xK (zNQ y part 1 ([(zF.mk x7.Nest l),(zF.mk x7.Nest l1)]:List zF) _ hy12 h3 h4 h21) ?_;rintro I08 hs2 v2 k2 le8 - ⟨v014,v015,rfl,rfl,⟨cs1,rfl,h22⟩,rfl⟩ -;have H:=H.trans le8;obtain⟨p19,c18,p20,c19,rfl,h24,h25⟩:=kT h22;exact yN [] H ⟨_,_,_,_,rfl,rfl,h24,h25⟩
   ·rintro I1 hf le1 _ _ ⟨p19,c18,p20,c19,rfl,rfl,h24,h25⟩;exact yW [117] rfl<|oN 19 [(118,vA (cProg y5 p19 c18 p20 c19))]<|yN [] iR ⟨_,_,_,_,rfl,rfl,h24,h25⟩
   rintro I1 hf le1 _ _ ⟨p19,c18,p20,c19,rfl,rfl,h24,h25⟩;exact yW [117] rfl<|oN 20 [(119,.bool y6)]<|xO iR
  rintro I09 le9 _ _ ⟨p191,c181,p201,c191,rfl,rfl,h241,h251⟩;refine yW [6,118,119] rfl ?_;refine xC 1 (cProg y5 p191 c181 p201 c191) rfl<|yQ [] [7] rfl<|zK<|xD ?_;exact xX N (resE 1 rfl rfl rfl) zO ⟨_,_,rfl,rfl,⟨_,rfl,(xJ ⟨_,_,rfl,h241,h251⟩)⟩,rfl⟩
 intro r0 I9 hs9 m9 heq9 le9 hrs9;subst heq9;refine zV<|zJ ?_;obtain rfl:=zE hMl;exact jW hrs9
def zPy(code:(List UInt8)):Option (Bool):=do
 if(decide ((code.length:Int)>1048576)) then pure true
 else
  let (y1,y2,y3)<-zPw code;let (y5,y6)<-jS y1 y2 y3;let (y8,y9)<-zPz y1 y2 y3;let t47<-(do
   if(!(y6==y9)) then pure true
   else
    let y10<-eK y5 y8;if(!y10) then pure true
    else
     pure (!y6)
     : Option Bool)
  if t47 then
   let t2<-(do
    if(y6==y9) then
     let y11<-eK y5 y8;pure (id y11)
    else
     pure false
      : Option Bool)
   pure (id t2)
  else
   let (y13,y14)<-zAI y5 y2;let t21<-(do
    if y14 then
     let y15<-eK y13 y1;pure (id y15)
    else
     pure false
      : Option Bool)
   pure (id t21)
theorem zQD:∀code r,zPy code=some r->∀{I:Imm}{p c},(S4 I p code c)->RT 5 [vS p code c] I [] (zW  r):=by
 intro code r N I p c h;unfold zPy at N;refine yM Tryz.func5 λB=>?_;have H:=iS I;refine wZ []<|yA<|yK [14] rfl<|zK<|yH N ?_ ?_
 ·intro hc N;refine wZ [(2,vY)]<|xH<|zJ ?_;obtain rfl:=zE N;exact vH
 intro hc N;refine zT<|yY<|yG 1 [] [16] rfl ?_;obtain⟨⟨y1,y2,y3⟩,hy,N⟩:=zB N;refine xK (zQB code _ hy h) ?_;rintro I0 hs2 v2 k2 le - ⟨v0,v01,v02,rfl,rfl,⟨cs,rfl,h1⟩,rfl,rfl⟩ -;have H:=H.trans le;obtain⟨p1,c1,p2,c2,rfl,h4,h5⟩:=kT h1;refine yG 6 [] [18,19,20] rfl<|xY zTwo ?_;intro b hb;refine xC 0 (cProg y1 p1 c1 p2 c2) rfl<|yQ [] [4,5] rfl<|yY<|uW 3 [0] [(22,vA (cProg y1 p1 c1 p2 c2)),(23,vI y2),(24,vI y3)] ?_;obtain⟨⟨y5,y6⟩,hy1,N⟩:=zB N;refine xK (zJw y1 y2 y3 _ hy1 h4 h5) ?_;rintro I01 hs2 v2 k2 le1 - ⟨v05,v06,rfl,rfl,⟨cs1,rfl,h6⟩,rfl⟩ -;have ⟨h4,h5,H⟩:=m3 le1 h4 h5 H;obtain⟨p3,c3,p4,c4,rfl,h8,h9⟩:=kT h6;refine yG 7 [] [26,27] rfl<|xY zTwo ?_;intro b1 hb1;refine xC 0 (cProg y5 p3 c3 p4 c4) rfl<|yQ [] [7] rfl<|yY<|uW 3 [1] [(29,vA (cProg y1 p1 c1 p2 c2)),(30,vI y2),(31,vI y3)] ?_;obtain⟨⟨y8,y9⟩,hy2,N⟩:=zB N;refine xK (zQE y1 y2 y3 _ hy2 h4 h5) ?_;rintro I02 hs2 v2 k2 le2 - ⟨v09,v010,rfl,rfl,⟨cs2,rfl,h10⟩,rfl⟩ -;have ⟨h8,h9,h4,h5,H⟩:=m5 le2 h8 h9 h4 h5 H;obtain⟨p5,c5,p6,c6,rfl,h12,h13⟩:=kT h10;refine yG 7 [] [33,34] rfl<|xY zTwo ?_;intro b2 hb2;refine xC 0 (cProg y8 p5 c5 p6 c6) rfl<|yQ [] [9] rfl<|yA<|yC ?_;refine vQ N [hB b2 (cProg y8 p5 c5 p6 c6),hB b1 (cProg y5 p3 c3 p4 c4),hB b (cProg y1 p1 c1 p2 c2)] (λt47=>[(3,vP b 0),(4,vI y2),(6,vP b1 0),(7,.bool y6),(8,vP b2 0),(9,.bool y9),(47,.bool t47)]) (λo0 ho0=>?_) ?_
 ·have H:=iS I02;refine zL<|yG 4 [] [38] rfl<|wR [38] ho0 ?_ ?_
  ·intro hc1 N;exact wM [] [(47,vY)]<|yZ<|zU (ct N H)
  intro hc1 N;refine uW 6 [1,0] [(39,vA (cProg y5 p3 c3 p4 c4)),(40,vA (cProg y8 p5 c5 p6 c6))]<|bE N λy10 hy3 N=>tA (zLM y5 y8 _ hy3 h8 h9 h12 h13) ?_;intro I04 le3;have H:=H.trans le3;refine yG 10 [] [44] rfl<|wR [44] N ?_ ?_
  ·intro hc2 N;exact wM [] [(47,vY)]<|yZ<|zU (ct N H)
  intro hc2 N;exact yQ [] [47] rfl<|yZ<|zU (ct N H)
 intro t47 I03 le4 hMc;have ⟨h12,h13,h8,h9,h4,h5⟩:=m6 le4 h12 h13 h8 h9 h4 h5;have H:=H.trans le4;refine zK<|yH hMc ?_ ?_
 ·intro hc3 N;refine yC ?_;refine vQ N [] (λt2=>[(2,.bool t2)]) (λo01 ho01=>?_) ?_
  ·have H:=iS I03;refine zL<|yG 4 [] [51] rfl<|wR [51] ho01 ?_ ?_
   ·intro hc4 N;refine uW 6 [1,0] [(52,vA (cProg y5 p3 c3 p4 c4)),(53,vA (cProg y8 p5 c5 p6 c6))]<|bE N λy11 hy4 N=>tA (zLM y5 y8 _ hy4 h8 h9 h12 h13) ?_;intro I06 le5;have H:=H.trans le5;exact yQ [] [2] rfl<|wK zO<|yZ<|zU (ct N H)
   intro hc4 N;exact wM [] [(2,vF)]<|wK zO<|yZ<|zU (ct N H)
  intro t2 I05 le6 hMc1;refine xH<|zJ ?_;obtain rfl:=zE hMc1;exact vH
 intro hc3 N;refine zT<|yY<|uW 2 [1] [(57,vA (cProg y5 p3 c3 p4 c4)),(58,vI y2)] ?_;obtain⟨⟨y13,y14⟩,hy5,N⟩:=zB N;refine xK (zLw y5 y2 _ hy5 h8 h9) ?_;rintro I07 hs2 v2 k2 le7 - ⟨v015,v016,rfl,rfl,⟨cs3,rfl,h16⟩,rfl⟩ -;have ⟨h4,h5,H⟩:=m3 le7 h4 h5 H;obtain⟨p7,c7,p8,c8,rfl,h18,h19⟩:=kT h16;refine yG 6 [] [60,61] rfl<|xY zTwo ?_;intro b3 hb3;refine xC 0 (cProg y13 p7 c7 p8 c8) rfl<|yQ [] [11] rfl<|zK<|yC ?_;refine vQ N [] (λt21=>[(2,.bool t21)]) (λo02 ho02=>?_) ?_
 ·have H:=iS I07;refine zL<|yG 2 [] [63] rfl<|wR [63] ho02 ?_ ?_
  ·intro hc5 N;refine uW 4 [0,3] [(64,vA (cProg y13 p7 c7 p8 c8)),(65,vA (cProg y1 p1 c1 p2 c2))]<|bE N λy15 hy6 N=>tA (zLM y13 y1 _ hy6 h18 h19 h4 h5) ?_;intro I09 le8;have H:=H.trans le8;exact yQ [] [2] rfl<|wK zO<|yZ<|zU (ct N H)
  intro hc5 N;exact wM [] [(2,vF)]<|wK zO<|yZ<|zU (ct N H)
 intro t21 I08 le9 hMc2;refine zK<|xD ?_;obtain rfl:=zE hMc2;exact vH
end Go.LN
namespace Go.LN
theorem zQU:∀(k:Nat) (a:Int),(rngK k a).Pairwise (· < ·)
 | 0,a=>List.Pairwise.nil
 | k+1,a=>by
  rw[rngK]
  refine List.Pairwise.cons (λv hv=>?_) (zQU k (a+1))
  have:=(zLE.1 hv).1
  omega
def lexlt:List Int->List Int->Prop
 | x::xs,y::ys=>x<y∨(x=y/\lexlt xs ys)
 | _,_=>False
theorem zQV:∀(ls:List zG) (p:List Int),(pts ls p).Pairwise λq w=>∃r s,q=p++r/\w=p++s/\lexlt r s
 | [],p=>by rw[pts];exact List.pairwise_singleton ..
 | l::ls,p=>by
  rw[pts,List.pairwise_flatMap]
  refine⟨λv hv=>(zQV ls (p++[v])).imp ?_,(zQU _ _).imp ?_⟩
  ·rintro q w ⟨r,s,e1,e2,h⟩
   exact⟨v::r,v::s,by rw[e1,List.append_assoc];rfl,by rw[e2,List.append_assoc];rfl,.inr ⟨rfl,h⟩⟩
  ·intro v w hvw q hq z hz
   obtain⟨r,e1,_⟩:=zMF hq
   obtain⟨s,e2,_⟩:=zMF hz
   exact⟨v::r,w::s,by rw[e1,List.append_assoc];rfl,by rw[e2,List.append_assoc];rfl,.inl hvw⟩
def nxt(a b:zR):Prop:=a.Part<b.Part∨(a.Part=b.Part/\(lexlt a.Point b.Point∨(a.Point=b.Point/\a.Stmt+1=b.Stmt)))
theorem zQO(k:Int)(q:List Int):∀(j i:Nat),Ch nxt (instR k q i j)
 | 0,_=>trivial
 | 1,_=>trivial
 | j+2,i=>by
  have:=zQO k q (j+1) (i+1)
  unfold instR at this ⊢
  rw[List.range'_succ,List.map_cons,List.range'_succ,List.map_cons]
  rw[List.range'_succ,List.map_cons] at this
  exact⟨.inr ⟨rfl,.inr ⟨rfl,by dsimp only;omega⟩⟩,this⟩
theorem zQP(nest:List zG):(nestPts nest).1.Pairwise lexlt:=by
 unfold nestPts;split
 ·refine(zQV nest []).imp ?_;rintro q w ⟨r,s,e1,e2,h⟩;rw[e1,e2];exact h
 ·exact List.Pairwise.nil
theorem zQ1(k:Int)(x:zF):Ch nxt (partI k x):=by
 unfold partI;refine Ch.flat (λq _=>zQO k q _ 0) ((zQP x.Nest).imp ?_);intro q w h a ha b hb;obtain⟨a1,a2,_⟩:=zM8 ha;obtain⟨b1,b2,_⟩:=zM8 hb;exact .inr ⟨by rw[a1,b1],.inl (by rw[a2,b2];exact h)⟩
theorem zQI{k:Int}{x:zF}{z:zR}(h:z∈partI k x):z.Part=k:=by
 unfold partI at h;obtain⟨q,_,hz⟩:=List.mem_flatMap.1 h;exact(zM8 hz).1
theorem zQ2(P:zC):Ch nxt (progI P):=by
 unfold progI;refine Ch.flat (λi _=>zQ1 _ _) ((List.pairwise_lt_range' 1).imp ?_);intro i j h a ha b hb;exact .inl (by rw[zQI ha,zQI hb];omega)
end Go.LN
namespace Go.LN
theorem zQQ:∀{a:List Int},¬lexlt a a
 | [],h=>h.elim
 | x::a,h=>by
  rcases h with h|⟨_,h⟩
  ·omega
  ·exact zQQ h
end Go.LN
namespace Go.LN
theorem zQe{P:Kn}{i k:Nat}(h1:i<k)(h2:k<P.n)(h3:P.k i k ≠ 0):(⟨(i:Int),(k:Int),P.k i k⟩:yR)∈dqA P 0 P.n:=by
 unfold dqA dqR;refine List.mem_flatMap.2 ⟨i,List.mem_range'_1.2 ⟨by omega,by omega⟩,List.mem_flatMap.2 ⟨k,List.mem_range'_1.2 ⟨by omega,by omega⟩,?_⟩⟩;unfold dq1;rw[if_neg (by simpa using h3)];exact List.mem_singleton.2 rfl
end Go.LN
namespace Go.LN
theorem zQH:∀{a b c:List Int},lexlt a b->lexlt b c->lexlt a c
 | x::a,y::b,z::c,h1,h2=>by
  rcases h1 with h1|⟨rfl,h1⟩
  ·rcases h2 with h2|⟨rfl,h2⟩
   ·exact .inl (by omega)
   ·exact .inl h1
  ·rcases h2 with h2|⟨rfl,h2⟩
   ·exact .inl h2
   ·exact .inr ⟨rfl,zQH h1 h2⟩
 | [],_,_,h1,_=>h1.elim
 | _::_,[],_,h1,_=>h1.elim
 | _::_,_::_,[],_,h2=>h2.elim
def ordI(a b:zR):Prop:=a.Part<b.Part∨(a.Part=b.Part/\(lexlt a.Point b.Point∨(a.Point=b.Point/\a.Stmt<b.Stmt)))
theorem zQJ{a b c:zR}(h1:ordI a b)(h2:ordI b c):ordI a c:=by
 rcases h1 with h1|⟨e1,h1⟩
 ·rcases h2 with h2|⟨e2,_⟩
  ·exact .inl (by omega)
  ·exact .inl (by omega)
 ·rcases h2 with h2|⟨e2,h2⟩
  ·exact .inl (by omega)
  ·refine .inr ⟨by omega,?_⟩;rcases h1 with h1|⟨p1,h1⟩
   ·rcases h2 with h2|⟨p2,_⟩
    ·exact .inl (zQH h1 h2)
    ·exact .inl (p2 ▸ h1)
   ·rcases h2 with h2|⟨p2,h2⟩
    ·exact .inl (p1 ▸ h2)
    ·exact .inr ⟨p1.trans p2,by omega⟩
theorem zQW{a b:zR}(h:nxt a b):ordI a b:=by
 rcases h with h|⟨e,h|⟨p,h⟩⟩
 ·exact .inl h
 ·exact .inr ⟨e,.inl h⟩
 ·exact .inr ⟨e,.inr ⟨p,by omega⟩⟩
theorem zQX:∀{l:List zR},Ch nxt l->l.Pairwise ordI
 | [],_=>List.Pairwise.nil
 | [a],_=>List.pairwise_singleton ..
 | a::b::l,h=>by
  have ih:=zQX (l:=b::l) h.2
  refine List.pairwise_cons.2 ⟨λx hx=>?_,ih⟩
  rcases List.mem_cons.1 hx with rfl|hx
  ·exact zQW h.1
  ·exact zQJ (zQW h.1) ((List.pairwise_cons.1 ih).1 x hx)
theorem zQ3{P:zC}{i k:Nat}(h:i<k)(hk:k<(progI P).length):ordI (zIns P i) (zIns P k):=by
 have hp:=List.pairwise_iff_getElem.1 (zQX (zQ2 P)) i k (by omega) hk h;rw[zHT (by omega),zHT hk];exact hp
end Go.LN
namespace Go.LN
theorem zQ4{P:zC}{i j:Nat}{q:List Int}(hi:i<P.Parts.length)(hq:q∈(nestPts P.Parts[i].Nest).1)(hj:j<P.Parts[i].Body.length):(⟨(i:Int),(j:Int),q⟩:zR)∈progI P:=by
 have hg:gP P i=P.Parts[i]:=by simp[gP,hi]
 refine List.mem_flatMap.2 ⟨i,List.mem_range'_1.2 ⟨by omega,by omega⟩,?_⟩;rw[hg];exact List.mem_flatMap.2 ⟨q,hq,List.mem_map.2 ⟨j,List.mem_range'_1.2 ⟨by omega,by omega⟩,rfl⟩⟩
end Go.LN
namespace Go.LN
theorem zQf{A:List zD}{l:List zF}{k:Nat}(hl:l.length=k){x:zF}{r:List zF}:gP ⟨A,l++x::r⟩ k=x:=by
 unfold gP;simp[List.getElem?_append_right,hl]
theorem zQb{A:List zD}{l:List zF}{k:Nat}(hl:l.length=k){x y:zF}{r:List zF}:gP ⟨A,l++x::y::r⟩ (k+1)=y:=by
 unfold gP;simp[List.getElem?_append_right,hl]
theorem zQF{P:zC}{k:Nat}(h:k<P.Parts.length):(P.Parts.take k).length=k:=by rw[List.length_take];omega
theorem zQY{P:zC}{k n:Nat}(h:k<P.Parts.length):gP (diP P k n) k=⟨(gP P k).Nest,(gP P k).Body.take n⟩:=zQf (zQF h)
theorem zQM{P:zC}{k n:Nat}(h:k<P.Parts.length):gP (diP P k n) (k+1)=⟨(gP P k).Nest,(gP P k).Body.drop n⟩:=zQb (zQF h)
theorem zQk{P:zC}{k n:Nat}(h:k<P.Parts.length):fuP (diP P k n) k=P:=by
 have h1:=zQY (n:=n) h;have h2:=zQM (n:=n) h;have e1:(diP P k n).Parts.take k=P.Parts.take k:=by
  unfold diP;simp only;rw[List.take_append_of_le_length (by rw[zQF (by omega)];exact Nat.le_refl _),List.take_take,Nat.min_self]
 have e2:(diP P k n).Parts.drop (k+2)=P.Parts.drop (k+1):=by
  unfold diP;simp only;rw[List.drop_append,List.drop_eq_nil_of_le (by rw[zQF (by omega)];omega),zQF (by omega),show k+2 - k=2 by omega];rfl
 have e3:(⟨(gP P k).Nest,(gP P k).Body⟩:zF)=gP P k:=rfl;unfold fuP;rw[h1,h2,e1,e2];simp only[List.take_append_drop];rw[e3,<- zP9 h,List.take_append_drop];rfl
theorem zQ5{P:zC}{z:zR}(h:z∈progI P):∃i,i<(progI P).length/\zIns P i=z:=by
 obtain⟨i,hi,e⟩:=List.getElem_of_mem h;exact⟨i,hi,(zHT hi).trans e⟩
theorem zQR{a:zR}:¬ordI a a:=by
 rintro(h|⟨_,h|⟨_,h⟩⟩)
 ·omega
 ·exact zQQ h
 ·omega
theorem zQg{P:zC}{i k:Nat}(hi:i<(progI P).length)(hk:k<(progI P).length)(h:ordI (zIns P i) (zIns P k)):i<k:=by
 rcases Nat.lt_trichotomy i k with h1|rfl|h1
 ·exact h1
 ·exact(zQR h).elim
 ·exact(zQR (zQJ h (zQ3 h1 hi))).elim
theorem zQK{r1 r2:List Int}{w1 w2:Int}:kindF r1 w1 r2 w2=0↔(hasB r2 w1=false/\hasB r1 w2=false/\(w1==w2)=false):=by
 unfold kindF;cases hasB r2 w1 <;> cases hasB r1 w2 <;> cases (w1==w2) <;> simp
theorem zQS{r1 r2:List Int}{w1 w2:Int}(h:kindF r1 w1 r2 w2 ≠ 0):kindF r2 w2 r1 w1 ≠ 0:=by
 intro e;rw[zQK] at e;refine h (zQK.2 ⟨e.2.1,e.1,?_⟩);have:=e.2.2;simp only[beq_eq_false_iff_ne,ne_eq] at this ⊢;exact λh=>this h.symm
theorem zQZ{P:zC}{z:zR}(h:z∈progI P):∃(i j:Nat) (q:List Int),z=⟨(i:Int),(j:Int),q⟩/\i<P.Parts.length/\j<(gP P i).Body.length/\q∈(nestPts (gP P i).Nest).1:=by
 unfold progI at h;obtain⟨i,hi,h⟩:=List.mem_flatMap.1 h;unfold partI at h;obtain⟨q,hq,h⟩:=List.mem_flatMap.1 h;unfold instR at h;obtain⟨j,hj,rfl⟩:=List.mem_map.1 h;exact⟨i,j,q,rfl,by have:=(List.mem_range'_1.1 hi).2;omega,by have:=(List.mem_range'_1.1 hj).2;omega,hq⟩
theorem zQ0{P:zC}{i j:Nat}{q:List Int}(hi:i<P.Parts.length)(hj:j<(gP P i).Body.length)(hq:q∈(nestPts (gP P i).Nest).1):(⟨(i:Int),(j:Int),q⟩:zR)∈progI P:=by
 rw[zLk hi] at hj hq;exact zQ4 hi hq hj
theorem zQ6:∀{a b:List Int},a.length=b.length->ltL a b=true->lexlt a b
 | x::a,y::b,hl,h=>by
  unfold ltL at h
  rw[cmpL] at h
  by_cases h1:x<y
  ·exact .inl h1
  ·rw[if_neg h1] at h
   by_cases h2:y<x
   ·rw[if_pos h2] at h;cases h
   ·rw[if_neg h2] at h
    exact .inr ⟨by omega,zQ6 (by simpa using hl) (by unfold ltL;exact h)⟩
 | [],[],_,h=>by cases h
 | [],_::_,hl,_=>by simp at hl
 | _::_,[],hl,_=>by simp at hl
theorem zQ7{nest:List zG}{a b:List Int}(ha:a∈(nestPts nest).1)(hb:b∈(nestPts nest).1):a.length=b.length:=by
 rw[zMG (zO0 ha).2,zMG (zO0 hb).2]
theorem clash{P:zC}(hv:validP P=true){w1 w2:zR}(h1:w1∈progI P)(h2:w2∈progI P)(ho:ordI w1 w2)(hk:kindF (rdI P w1) (wrI P w1) (rdI P w2) (wrI P w2) ≠ 0):∃d∈dpF P,zIns P d.From.toNat=w1/\zIns P d.To.toNat=w2:=by
 obtain⟨i,hi,rfl⟩:=zQ5 h1;obtain⟨k,hk',rfl⟩:=zQ5 h2;refine⟨⟨(i:Int),(k:Int),kindI P i k⟩,?_,rfl,rfl⟩;unfold dpF;rw[if_pos hv];exact zQe (P:=kn P) (zQg hi hk' ho) hk' hk
theorem zQd{P Q:zC}{z w:zR}(hA:Q.Arrays=P.Arrays)(hs:stI Q z=stI P w)(hq:z.Point=w.Point):rdI Q z=rdI P w/\wrI Q z=wrI P w:=by
 unfold rdI wrI;rw[hA,hs,hq];exact⟨rfl,rfl⟩
theorem zQN(P:zC)(i j:Nat)(q:List Int):stI P ⟨(i:Int),(j:Int),q⟩=(gP P i).Body.getD j STz:=rfl
theorem zQl{P:zC}(hv:validP P=true){d:yR}(h:d∈dpF P):∃a b:Nat,d=⟨(a:Int),(b:Int),kindI P a b⟩/\a<b/\b<(progI P).length/\kindI P a b ≠ 0:=by
 unfold dpF at h;rw[if_pos hv] at h;exact zO5 h
theorem zQh{P:zC}{k n:Nat}(hk:k<P.Parts.length)(hv:validP P=true)(hv':validP (diP P k n)=true)(hn:n<=(gP P k).Body.length)(h:(dpF P).any (diD P (k:Int) (n:Int))=false):
 (dpF (diP P k n)).any (fuD (diP P k n) (k:Int))=false:=by
 rw[List.any_eq_false] at h ⊢
 intro d hd hD
 obtain⟨a,b,rfl,hab,hbl,hkd⟩:=zQl hv' hd
 simp only[fuD,bA,beq_iff_eq,iN] at hD
 obtain⟨p1,p2,s2⟩:=hD
 obtain⟨i1,j1,q1,z1,hi1,hj1,hq1⟩:=zQZ (zJh (P:=diP P k n) (a:=a) (by omega))
 obtain⟨i2,j2,q2,z2,hi2,hj2,hq2⟩:=zQZ (zJh (P:=diP P k n) hbl)
 unfold kindI at hkd
 rw[z1] at p1 s2 hkd
 rw[z2] at p2 s2 hkd
 simp only at p1 p2 s2
 obtain rfl:i1=k:=by omega
 obtain rfl:i2=i1+1:=by omega
 rw[zQY hk] at hj1 hq1
 rw[zQM hk] at hj2 hq2
 simp only[List.length_take,List.length_drop] at hj1 hj2 hq1 hq2
 have hlex:lexlt q2 q1:=zQ6 (zQ7 hq2 hq1) s2
 have r1:=zQd (P:=P) (Q:=diP P i1 n) (z:=⟨(i1:Int),(j1:Int),q1⟩) (w:=⟨(i1:Int),(j1:Int),q1⟩) rfl (by
  rw[zQN,zQN,zQY hk]
  simp only[List.getD_eq_getElem?_getD]
  rw[List.getElem?_take_of_lt (by omega)]) rfl
 have r2:=zQd (P:=P) (Q:=diP P i1 n) (z:=⟨((i1+1:Nat):Int),(j2:Int),q2⟩) (w:=⟨(i1:Int),((n+j2:Nat):Int),q2⟩) rfl (by
  rw[zQN,zQN,zQM hk]
  simp only[List.getD_eq_getElem?_getD]
  rw[List.getElem?_drop]) rfl
 rw[r1.1,r1.2,r2.1,r2.2] at hkd
 obtain⟨d',hd',f1,f2⟩:=clash hv (zQ0 hk (show n+j2<_ by omega) hq2) (zQ0 hk (show j1<_ by omega) hq1) (.inr ⟨rfl,.inl hlex⟩) (zQS hkd)
 refine h d' hd' ?_
 unfold diD
 rw[f1,f2]
 simp only[bA,beq_iff_eq,decide_eq_true_eq,true_and]
 omega
end Go.LN
namespace Go.LN
theorem zQi{P:zC}(hb:BG P)(hv:validP P=true){part n:Int}:zBE part n (progI P) (dpF P) zP 0=some (if(dpF P).any (diD P part n) then .ret (zP,false) else .done zP):=by
 have hlen:=zMI (P:=P);rw[<- zHS (dpF P) (diD P part n) ⟨0,0,0⟩];refine zJj (f:=zBE part n (progI P) (dpF P) zP) (λi hi=>?_) ?_
 ·have hc:((i:Int)<((dpF P).length:Int)):=by omega
  obtain⟨a1,a2,a3,a4⟩:=zNd (gM hi);have hg:(dpF P).getD i ⟨0,0,0⟩=(dpF P)[i]:=by simp[hi]
  rw[zBE,hg];simp only[hc,dT,if_true,xA hi,a1,a2,oB,oS,oP];unfold diD;rw[uF (by omega)];simp only[ge_iff_le];cases (zIns P (dpF P)[i].From.toNat).Part==part <;> cases (zIns P (dpF P)[i].To.toNat).Part==part <;> cases decide ((zIns P (dpF P)[i].To.toNat).Stmt<n) <;> cases decide (n<=(zIns P (dpF P)[i].From.toNat).Stmt) <;> rfl
 ·rw[zBE];simp
theorem specDi(P:zC)(hb:BG P)(part n:Int):zPz P part n=some (diF P part n):=by
 unfold zPz diF okDi;rw[sowPg P hb];simp only[oB,oS,specValidP P hb,oP];cases hv:validP P with
 | false=>rfl
 | true=>
  have h4:=(gV hv).2.1;simp only[bT,bF,if_false,Bool.true_and];by_cases h0:0<=part
  ·have h0':¬(part<0):=by omega
   by_cases h1:part<(P.Parts.length:Int)
   ·have h1':¬(part>=(P.Parts.length:Int)):=by omega
    have q1:=zAr hv (show part.toNat<P.Parts.length by omega);simp only[h0,h0',h1,h1',dT,dF,bF,if_false,Bool.and_self,Bool.true_and,zKM h0 h1,oS];by_cases h2:1<=n
    ·have h2':¬(n<1):=by omega
     by_cases h3:n<((gP P part.toNat).Body.length:Int)
     ·have h3':¬(n>=((gP P part.toNat).Body.length:Int)):=by omega
      have en:((n.toNat:Nat):Int)=n:=by omega
      have s1:slc (gP P part.toNat).Body n ((gP P part.toNat).Body.length:Int)=some ((gP P part.toNat).Body.drop n.toNat):=by
       have:=zJy (s:=(gP P part.toNat).Body) (f:=n.toNat) (i:=(gP P part.toNat).Body.length) (by omega) (Nat.le_refl _);rwa[en,List.take_length] at this
      have s2:slc (gP P part.toNat).Body 0 n=some ((gP P part.toNat).Body.take n.toNat):=by
       have:=zJy (s:=(gP P part.toNat).Body) (f:=0) (i:=n.toNat) (by omega) (by omega);rwa[en] at this
      simp only[h2,h2',h3,h3',dT,dF,bF,if_false,Bool.and_self,Bool.true_and,oS,specInsts P hv,sDeps hb hv];rw[show zBE part n (progI P) (dpF P) (zC.mk ([]:List zD) ([]:List zF)) 0=_ from zQi hb hv];cases hd:(dpF P).any (diD P part n) with
      | true=>rfl
      | false=>
       simp only[bF,if_false,Bool.not_false,if_true,oS,s1,s2];have hw:zBG P part 1 [zF.mk (gP P part.toNat).Nest ((gP P part.toNat).Body.take n.toNat),zF.mk (gP P part.toNat).Nest ((gP P part.toNat).Body.drop n.toNat)]=some (finQ (diP P part.toNat n.toNat)):=specWith hb hv (zPn hb hv (k:=part.toNat) (n:=n.toNat) (by omega)) (k:=part.toNat) (m:=1) (by omega) (by simp) rfl (by unfold diP;simp) (by omega) rfl;simp only[hw,oS]
     ·have h3':n>=((gP P part.toNat).Body.length:Int):=by omega
      simp only[h2,h2',h3,h3',dT,dF,bF,if_false,if_true,Bool.and_false,Bool.false_and,oS];rfl
    ·have h2':n<1:=by omega
     simp only[h2,h2',dT,dF,if_true,Bool.false_and,Bool.and_false,bF,if_false,oS];rfl
   ·have h1':part>=(P.Parts.length:Int):=by omega
    simp only[h0,h0',h1,h1',dT,dF,bF,if_false,if_true,Bool.and_false,Bool.false_and,oS];rfl
  ·have h0':part<0:=by omega
   simp only[h0,h0',dT,dF,if_true,Bool.false_and,bF,if_false,oS];rfl
theorem zQL{P:zC}{part n:Int}(h:okDi P part n=true):validP P=true/\0<=part/\part.toNat<P.Parts.length/\1<=n/\n<((gP P part.toNat).Body.length:Int)/\(dpF P).any (diD P part n)=false:=by
 simp only[okDi,bA,decide_eq_true_eq,Bool.not_eq_true'] at h;exact⟨h.1.1.1,h.1.1.2.1,by omega,h.1.2.1,h.1.2.2,h.2⟩
theorem zQ8{P:zC}(hb:BG P)(part n:Int):BG (diF P part n).1:=by
 unfold diF;split
 ·rename_i h;obtain⟨h1,_,h3,_⟩:=zQL h;exact zPr (zPn hb h1 h3)
 ·exact zPx
theorem zQj{P:zC}{part n:Int}(h:(diF P part n).2=true):okDi P part n=true/\validP (diP P part.toNat n.toNat)=true/\diF P part n=(diP P part.toNat n.toNat,true):=by
 unfold diF at h ⊢;split at h
 ·rename_i h1;unfold finQ at h ⊢;split at h
  ·rename_i h2;exact⟨h1,h2,by rw[if_pos h1,if_pos h2]⟩
  ·cases h
 ·cases h
theorem zQc{P:zC}(hb:BG P){part n:Int}(h:(diF P part n).2=true):fuF (diF P part n).1 part=(P,true):=by
 obtain⟨h1,h2,h3⟩:=zQj h;obtain⟨k1,k2,k3,k4,k5,k6⟩:=zQL h1;have ep:((part.toNat:Nat):Int)=part:=by omega
 have en:((n.toNat:Nat):Int)=n:=by omega
 rw[h3];have hno:=zQh (n:=n.toNat) k3 k1 h2 (by omega) (by rw[ep,en];exact k6);rw[ep] at hno;have hok:okFu (diP P part.toNat n.toNat) part=true:=by
  simp only[okFu,h2,hno,k2,zQY k3,zQM k3,zP7 k3,zPq.2 rfl,Bool.true_and,Bool.not_false,Bool.and_true,dT,decide_eq_true_eq];omega
 unfold fuF;rw[if_pos hok,zQk k3];unfold finQ;rw[if_pos k1]
theorem drawDi(code:List UInt8):Ok (zPw code) (λy=>BG y.1):=by
 unfold zPw;exact Ok.call (zOp code) trivial λs hs=>Ok.bind (args8 s (by omega) (by omega)) λy hy=>Ok.pure hy
theorem zQG(code:List UInt8):∃r,zPy code=some r/\r=true:=by
 unfold zPy;by_cases hc:(code.length:Int)>1048576
 ·exact⟨true,by simp only[hc,dT,if_true];rfl,rfl⟩
 ·obtain⟨⟨P,part,n⟩,hy,hb⟩:=drawDi code;dsimp only at hb;simp only[hc,dF,bF,if_false,hy,oB,oS,implDi P hb,specDi P hb,bQ,bT,sPg _ (zQ8 hb part n),oP,if_true];cases hf:(diF P part n).2 with
  | false=>exact⟨true,rfl,rfl⟩
  | true=>
   refine⟨true,?_,rfl⟩;simp only[bT,bF,if_false,oS,implFu _ (zQ8 hb part n),zQc hb hf,if_true,sPg P hb,id]
end Go.LN
