/- Helper of the proof (see the last text). -/
import Derived.Test.YtcmjkmdecmabaaaGreatLnA
import Derived.Test.YtcmjkmdecmabaaaGreatLnI
import Derived.Test.YtcmjkmdecmabaaaGreatLnP
import Derived.Test.YtcmjkmdecmabaaaGreatLnYP
import Derived.Test.YtcmjkmdecmabaaaGreatTryzShelf
import Derived.Test.YtcmjkmdecmabaaaGreatZQ
import Derived.Test.YtcmjkmdecmabaaaGreatHM1
import Derived.Test.YtcmjkmdecmabaaaGreatHM2
import Derived.Test.YtcmjkmdecmabaaaGreatHM3
import Derived.Test.YtcmjkmdecmabaaaGreatHM4
import Derived.Test.YtcmjkmdecmabaaaGreatHM5
import Derived.Test.YtcmjkmdecmabaaaGreatHM6
import Derived.Test.YtcmjkmdecmabaaaGreatHM7
import Derived.Test.YtcmjkmdecmabaaaGreatHM8
import Derived.Test.YtcmjkmdecmabaaaGreatHM9
import Derived.Test.YtcmjkmdecmabaaaGreatQT
import Derived.Test.YtcmjkmdecmabaaaGreatQZ
import Derived.Test.YtcmjkmdecmabaaaGreatVB1
import Derived.Test.YtcmjkmdecmabaaaGreatVC1
import Derived.Test.YtcmjkmdecmabaaaGreatLnR
set_option linter.unusedVariables false
set_option linter.unusedSimpArgs false
namespace Go.LN
open Go.Proofs
set_option maxRecDepth 20000
def zQN(r:zC×Int):KT:=λkk I' ag v=>
 ∃v0 v1,ag=[]/\v=tupV [v0,v1]/\(∃cs,v0=.agg ⟨cs⟩/\Rp.rep I' cs r.1)/\v1=.int .i64 r.2
def zQD(code:(List UInt8)):Option (zC×Int):=do
 let y<-zAk code;let (y2,y3,y4,y5,y6)<-zBF y;pure (y2,y3)
theorem zQO:∀code r,zQD code=some r->∀{I:Imm}{p c},(S4 I p code c)->RT 21 [vS p code c] I [] (zQN  r):=by
 intro code r N I p c h;unfold zQD at N;refine yM Tryz.func21 λB=>yD<|xY zTwo ?_;intro b hb;refine wM [] []<|yY<|yG 1 [] [9] rfl<|bE N λy hy N=>xK (zMf code _ hy h) ?_;rintro I0 ax v2 k2 le - ⟨b1,p1,c1,rfl,rfl,h1⟩ -;obtain⟨⟨y2,y3,y4,y5,y6⟩,az,N⟩:=zB N;refine qB (zNO y _ az h1) rfl ?_;rintro aP ax v2 k2 aa - ⟨v0,v01,v02,v03,kk,rfl,rfl,⟨cs,rfl,h2⟩,rfl,rfl,rfl,h6⟩ -;obtain⟨p2,c2,p3,c3,rfl,h7,h8⟩:=kT h2;obtain⟨p4,c4,rfl,h9⟩:=yJ h6;refine yG 8 [] [12,13,14,15] rfl<|xY zTwo ?_;intro b2 hb1;refine xC 0 (cProg y2 p2 c2 p3 c3) rfl<|yQ [] [5] rfl<|yY<|uW 2 [0] [(16,vA (cProg y2 p2 c2 p3 c3)),(17,vI y3)]<|xC 2 (cProg y2 p2 c2 p3 c3) rfl<|yQ [] [3] rfl<|zK<|xD ?_;exact xX N (resE 2 rfl rfl rfl) zO ⟨_,_,rfl,rfl,⟨_,rfl,(xJ ⟨_,_,rfl,h7,h8⟩)⟩,rfl⟩
def zQB(a0:(List Int))(b:(List Int))(i:Int):Option (Out Unit (Bool)):=do
 if(decide (i<(a0.length:Int))) then
  let x<-idx a0 i;let x1<-idx b i;if(x != x1) then pure (.ret false)
  else zQB a0 b (W (i+1))
 else pure (.done ())
 partial_fixpoint
theorem zQX(a0:(List Int))(b:(List Int)):∀(i:Int) (o:Out Unit (Bool)),zQB a0 b i=some o->∀{B}{I0 I:Imm}{Q p c p1 c1},I0.le I->(S4 I p a0 c)->(S4 I p1 b c1)->NG Q->NO Q->(∀I',o=(.done ())->I0.le I'->T 26 B Q (.exit 0) I' [] [])->(∀r I' ag m',o=(.ret r)->I0.le I'->RS Tryz.prog Tryz.f76 B (zW  r) I' ag m'->T 26 B Q .ret I' ag m')->J Tryz.prog 26 B (nav (bodyOf Tryz.f76) [1,1,0,1,0]) Q I [] [(0,vS p a0 c),(1,vS p1 b c1),(5,vI i)]:=by
 refine zQB.partial_correctness a0 b _ λaJ ih i o N B I0 I Q p c p1 c1 H h h1 hg ho hx hr=>yX hg ho<|yC<|yK [14] rfl<|zK<|yH N ?_ ?_
 ·intro aH N;refine zT<|yA<|yL<|yC<|zA5 (by kernel_rfl) (by kernel_rfl)<|zB2 2 [] [17,18] rfl<|bE N λx hy N=>zDk rfl rfl h hy ?_;intro ad aN aq am;obtain rfl:=am;refine zC5 0 aq [vI x] (vI x) rfl<|zB2 6 [] [21,22] rfl<|bE N λx1 az N=>zDk rfl rfl h1 az ?_;intro ad1 bq aw ay;obtain rfl:=ay;refine zC5 0 aw [vI x1] (vI x1) rfl<|zK5 [] [25] rfl<|zK<|yH N ?_ ?_
  ·intro ba N;exact wZ [(4,vF)]<|xH<|zV<|zJ<|zJ<|hr _ _ _ _ (zE N).symm H ⟨_,_,(resT rfl),zO,⟨_,rfl,rfl,rfl⟩⟩
  intro ba N;exact zT<|zN<|zK<|zL<|yQ [] [5] rfl<|yV<|nX<|ih (W (i+1)) _ N H h h1 hg ho hx hr
 intro aH N;exact wW<|yZ<|hx _  (zE N).symm H
def zQK(a0:(List Int))(b:(List Int)):Option (Bool):=do
 if((a0.length:Int) != (b.length:Int)) then pure false
 else
  match<-zQB a0 b 0 with
  | .ret r0=>pure r0
  | .done _=>
   pure true
theorem zQ2:∀a0 b r,zQK a0 b=some r->∀{I:Imm}{p c p1 c1},(S4 I p a0 c)->(S4 I p1 b c1)->RT 76 [vS p a0 c,vS p1 b c1] I [] (zW  r):=by
 intro a0 b r N I p c p1 c1 h h1;unfold zQK at N;refine yM Tryz.func76 λB=>wZ []<|yA<|yK [10] rfl<|zK<|yH N ?_ ?_
 ·intro hc N;refine wZ [(4,vF)]<|xH<|zJ ?_;obtain rfl:=zE N;exact vH
 intro hc N;refine zT<|yA<|yK [5] rfl<|wN<|qX [(0,vS p a0 c),(1,vS p1 b c1),(5,vI 0)] ?_;obtain⟨o0,aA,aE⟩:=zB N;refine zQX a0 b 0 o0 aA iR h h1 nG nO ?_ ?_
 ·intro I0  heq le;subst o0;refine zS<|zE3 [(4,vY)]<|zK<|xD ?_;obtain rfl:=zE aE;exact vH
 intro r0 I9 hs9 m9 aT le9 aV;subst aT;refine zV<|zJ ?_;obtain rfl:=zE aE;exact jW aV
def zQG(a0:zA)(b:zA):Option (Bool):=do
 let t4<-(do
  if(a0.Const==b.Const) then
   let y<-zQK a0.Coefs b.Coefs;pure (id y)
  else
   pure false
    : Option Bool)
 pure (id t4)
theorem zQU:∀a0 b r,zQG a0 b=some r->∀{I:Imm}{p c p1 c1},(S4 I p a0.Coefs c)->(S4 I p1 b.Coefs c1)->RT 154 [vA (cAff a0 p c),vA (cAff b p1 c1)] I [] (zW  r):=by
 intro a0 b r N I p c p1 c1 h h1;unfold zQG at N;refine yM Tryz.func154 λB=>?_;have H:=iS I;refine yD<|vC (cAff a0 p c) ?_;intro b1 hb;refine vC (cAff b p1 c1) ?_;intro b2 hb1;refine wM [] []<|zK<|yC ?_;refine vQ N [] (λt4=>[(4,.bool t4)]) (λo0 aA=>?_) ?_
 ·have H:=iS I;refine zL<|yG 6 [1,0] [10] rfl<|wR [10] aA ?_ ?_
  ·intro hc N;refine yG 10 [1,0] [12,14] rfl<|bE N λy hy N=>tA (zQ2 a0.Coefs b.Coefs _ hy h h1) ?_;intro aP le;have H:=H.trans le;exact yQ [] [4] rfl<|wK zO<|yZ<|zU (ct N H)
  intro hc N;exact wM [] [(4,vF)]<|wK zO<|yZ<|zU (ct N H)
 intro t4 I0 aa aX;refine zK<|xD ?_;obtain rfl:=zE aX;exact vH
def zPy(a0:(List zA))(b:(List zA))(i:Int):Option (Out Unit (Bool)):=do
 if(decide (i<(a0.length:Int))) then
  let x<-idx a0 i;let x1<-idx b i;let y<-zQG x x1;if(!y) then pure (.ret false)
  else zPy a0 b (W (i+1))
 else pure (.done ())
 partial_fixpoint
theorem zQP(a0:(List zA))(b:(List zA)):∀(i:Int) (o:Out Unit (Bool)),zPy a0 b i=some o->∀{B}{I0 I:Imm}{Q p c p1 c1},I0.le I->(S4 I p a0 c)->(S4 I p1 b c1)->NG Q->NO Q->(∀I',o=(.done ())->I0.le I'->T 27 B Q (.exit 0) I' [] [])->(∀r I' ag m',o=(.ret r)->I0.le I'->RS Tryz.prog Tryz.f112 B (zW  r) I' ag m'->T 27 B Q .ret I' ag m')->J Tryz.prog 27 B (nav (bodyOf Tryz.f112) [1,1,0,1,0]) Q I [] [(0,vS p a0 c),(1,vS p1 b c1),(5,vI i)]:=by
 refine zPy.partial_correctness a0 b _ λaJ ih i o N B I0 I Q p c p1 c1 H h h1 hg ho hx hr=>yX hg ho<|yC<|yK [14] rfl<|zK<|yH N ?_ ?_
 ·intro aH N;refine zT<|yA<|yL<|yC ?_;obtain⟨x,hy,N⟩:=zB N;obtain⟨x1,az,N⟩:=zB N;obtain⟨y,aG,N⟩:=zB N;refine wP [.p (vS p a0 c) [],.p (vI i) [],.x (ePAff x),.x (eVAff x),.p (vS p1 b c1) [],.p (vI i) [],.x (ePAff x1),.x (eVAff x1),.q (.bool y),.p (.bool (!y)) []] [[],[],[(0,false),(1,false)],[(2,false)],[],[],[(4,false),(5,false)],[(6,false)],[(3,false),(7,false)],[(8,false)]] [] [] [(9,false)] zO ?_ ?_
  ·refine O2<|Ox ?_<|Ox ?_<|O2<|Ox ?_<|Ox ?_<|Oq ?_<|Op<|On
   ·intro I1 hf aa;refine yW [17,18] rfl ?_;have h:=h.mono aa;refine xW rfl rfl h hy ?_;intro ad aN aq am;obtain⟨p2,c2,rfl,h2⟩:=yI am;exact yN [] iR ⟨_,_,_,rfl,rfl,aq,h2⟩
   ·rintro I1 hf aa _ _ ⟨ad,p2,c2,rfl,rfl,aq,h2⟩;exact yW [19] rfl<|xM 0 aq (cAff x p2 c2) (vA (cAff x p2 c2)) rfl<|yN [] iR ⟨_,_,rfl,rfl,h2⟩
   ·intro I1 hf aa;refine yW [21,22] rfl ?_;have h1:=h1.mono aa;refine xW rfl rfl h1 az ?_;intro ad1 bq aw ay;obtain⟨p3,c3,rfl,h3⟩:=yI ay;exact yN [] iR ⟨_,_,_,rfl,rfl,aw,h3⟩
   ·rintro I1 hf aa _ _ ⟨ad1,p3,c3,rfl,rfl,aw,h3⟩;exact yW [23] rfl<|xM 0 aw (cAff x1 p3 c3) (vA (cAff x1 p3 c3)) rfl<|yN [] iR ⟨_,_,rfl,rfl,h3⟩
   rintro I1 hf aa _ _ ⟨p21,c21,rfl,rfl,h21⟩ _ _ ⟨p31,c31,rfl,rfl,h31⟩;refine yW [20,24] rfl ?_;have H:=iS I1;refine tA (zQU x x1 _ aG h21 h31) ?_;intro I0 le;have H:=H.trans le;exact xO H
  intro aP aa;refine yW [0,1,5,26] rfl ?_;have ⟨h,h1,H⟩:=m3 aa h h1 H;refine zY rfl<|zK<|yH N ?_ ?_
  ·intro ba N;exact wZ [(4,vF)]<|xH<|zV<|zJ<|zJ<|hr _ _ _ _ (zE N).symm H ⟨_,_,(resT rfl),zO,⟨_,rfl,rfl,rfl⟩⟩
  intro ba N;exact zT<|zN<|zK<|zL<|yQ [] [5] rfl<|yV<|nX<|ih (W (i+1)) _ N H h h1 hg ho hx hr
 intro aH N;exact wW<|yZ<|hx _  (zE N).symm H
def zQE(a0:(List zA))(b:(List zA)):Option (Bool):=do
 if((a0.length:Int) != (b.length:Int)) then pure false
 else
  match<-zPy a0 b 0 with
  | .ret r0=>pure r0
  | .done _=>
   pure true
theorem zQL:∀a0 b r,zQE a0 b=some r->∀{I:Imm}{p c p1 c1},(S4 I p a0 c)->(S4 I p1 b c1)->RT 112 [vS p a0 c,vS p1 b c1] I [] (zW  r):=by
 intro a0 b r N I p c p1 c1 h h1;unfold zQE at N;refine yM Tryz.func112 λB=>wZ []<|yA<|yK [10] rfl<|zK<|yH N ?_ ?_
 ·intro hc N;refine wZ [(4,vF)]<|xH<|zJ ?_;obtain rfl:=zE N;exact vH
 intro hc N;refine zT<|yA<|yK [5] rfl<|wN<|qX [(0,vS p a0 c),(1,vS p1 b c1),(5,vI 0)] ?_;obtain⟨o0,aA,aE⟩:=zB N;refine zQP a0 b 0 o0 aA iR h h1 nG nO ?_ ?_
 ·intro aW  heq aC;subst o0;refine zS<|zE3 [(4,vY)]<|zK<|xD ?_;obtain rfl:=zE aE;exact vH
 intro r0 I9 hs9 m9 aT le9 aV;subst aT;refine zV<|zJ ?_;obtain rfl:=zE aE;exact jW aV
end Go.LN
namespace Go.LN
open Go.Proofs
set_option maxRecDepth 20000
def zQA(a0:(List zG))(b:(List zG))(i:Int):Option (Out Unit (Bool)):=do
 if(decide (i<(a0.length:Int))) then
  let t42<-(do
   let x<-idx a0 i;let x1<-idx b i;let y<-zQE x.Lo x1.Lo;if(!y) then pure true
   else
    let x2<-idx a0 i;let x3<-idx b i;let y1<-zQE x2.Hi x3.Hi;pure (!y1)
     : Option Bool)
  if t42 then pure (.ret false)
  else zQA a0 b (W (i+1))
 else pure (.done ())
 partial_fixpoint
theorem zQS(a0:(List zG))(b:(List zG)):∀(i:Int) (o:Out Unit (Bool)),zQA a0 b i=some o->∀{B}{I0 I:Imm}{Q p c p1 c1},I0.le I->(S4 I p a0 c)->(S4 I p1 b c1)->NG Q->NO Q->(∀I',o=(.done ())->I0.le I'->T 43 B Q (.exit 0) I' [] [])->(∀r I' ag m',o=(.ret r)->I0.le I'->RS Tryz.prog Tryz.f70 B (zW  r) I' ag m'->T 43 B Q .ret I' ag m')->J Tryz.prog 43 B (nav (bodyOf Tryz.f70) [1,1,0,1,0]) Q I [] [(0,vS p a0 c),(1,vS p1 b c1),(5,vI i)]:=by
 refine zQA.partial_correctness a0 b _ λaJ ih i o N B I0 I Q p c p1 c1 H h h1 hg ho hx hr=>yX hg ho<|yC<|yK [14] rfl<|zK<|yH N ?_ ?_
 ·intro aH N;refine zT<|yA<|yL<|yC ?_;refine vQ N [] (λt42=>[(0,vS p a0 c),(1,vS p1 b c1),(5,vI i),(42,.bool t42)]) (λo0 aA=>?_) ?_
  ·have H:=iS I;obtain⟨x,hy,N⟩:=zB aA;obtain⟨x1,az,N⟩:=zB N;obtain⟨y,aG,N⟩:=zB N;cases ba:(!y) with
   | true=>
    have hM0:=rZ ba N;refine wP [.p (vS p a0 c) [],.p (vI i) [],.x (ePLoop x),.x (ePLoop x),.x (eS x.Lo),.p (vS p1 b c1) [],.p (vI i) [],.x (ePLoop x1),.x (ePLoop x1),.x (eS x1.Lo),.q (.bool y),.q vY,.q vY,.p undef [],.p undef [],.p undef [],.p undef [],.p undef [],.p undef [],.p undef [],.p undef [],.p undef [],.p undef [],.p undef [],.p undef [],.p vY []] [[],[],[(0,false),(1,false)],[(2,false)],[(3,false)],[],[],[(5,false),(6,false)],[(7,false)],[(8,false)],[(4,false),(9,false)],[(10,false)],[(11,false)],[(12,false)],[(12,false)],[(12,false),(13,false),(14,false)],[(12,false),(15,false)],[(12,false),(16,false)],[(12,false)],[(12,false)],[(12,false),(18,false),(19,false)],[(12,false),(20,false)],[(12,false),(21,false)],[(12,false),(17,false),(22,false)],[(12,false),(23,false)],[(12,false),(24,false)]] [] [] [(25,false)] zO ?_ ?_
    ·refine O2<|Ox ?_<|Ox ?_<|Ox ?_<|O2<|Ox ?_<|Ox ?_<|Ox ?_<|Oq ?_<|Oq ?_<|Oq ?_<|O4<|O4<|O4<|Op<|On
     ·intro I1 hf aa;refine yW [17,18] rfl ?_;have h:=h.mono aa;refine xW rfl rfl h hy ?_;intro ad aN aq am;obtain⟨p2,c2,p3,c3,rfl,h2,h3⟩:=vD am;exact yN [] iR ⟨_,_,_,_,_,rfl,rfl,aq,h2,h3⟩
     ·rintro I1 hf aa _ _ ⟨ad,p2,c2,p3,c3,rfl,rfl,aq,h2,h3⟩;exact yW [19] rfl<|oN 4 [(20,.pointer (some ad))]<|yN [] iR ⟨_,_,_,_,_,rfl,rfl,aq,h2,h3⟩
     ·rintro I1 hf aa _ _ ⟨ad1,p21,c21,p31,c31,rfl,rfl,aw,h21,h31⟩;exact yW [20] rfl<|xM 0 aw [vS p21 x.Lo c21] (vS p21 x.Lo c21) rfl<|yN [] iR ⟨_,_,rfl,rfl,h21⟩
     ·intro I1 hf aa;refine yW [22,23] rfl ?_;have h1:=h1.mono aa;refine xW rfl rfl h1 az ?_;intro ad2 bq bk ay;obtain⟨p4,c4,p5,c5,rfl,h4,h5⟩:=vD ay;exact yN [] iR ⟨_,_,_,_,_,rfl,rfl,bk,h4,h5⟩
     ·rintro I1 hf aa _ _ ⟨ad2,p4,c4,p5,c5,rfl,rfl,bk,h4,h5⟩;exact yW [24] rfl<|oN 9 [(25,.pointer (some ad2))]<|yN [] iR ⟨_,_,_,_,_,rfl,rfl,bk,h4,h5⟩
     ·rintro I1 hf aa _ _ ⟨ad21,p41,c41,p51,c51,rfl,rfl,hat21,h41,h51⟩;exact yW [25] rfl<|xM 0 hat21 [vS p41 x1.Lo c41] (vS p41 x1.Lo c41) rfl<|yN [] iR ⟨_,_,rfl,rfl,h41⟩
     ·rintro I1 hf aa _ _ ⟨p211,c211,rfl,rfl,h211⟩ _ _ ⟨p411,c411,rfl,rfl,h411⟩;refine yW [21,26] rfl ?_;have H:=iS I1;refine tA (zQL x.Lo x1.Lo _ aG h211 h411) ?_;intro aP le;have H:=H.trans le;exact xO H
     ·intro I1 hf aa;refine yW [27] rfl<|oN 12 [(28,.bool (!y))] ?_;rw[ba];exact xO iR
     intro I1 hf aa;exact I_h [(28,vY)]<|oN 13 [(29,vY)]<|xO iR
    intro aW aa;refine yW [0,1,5,42] rfl ?_;have H:=H.trans aa;exact zY rfl<|yZ<|zU (ct hM0 H)
   | false=>
    have hM01:=sP ba N;obtain⟨x2,bh,N⟩:=zB hM01;obtain⟨x3,bu,N⟩:=zB N;obtain⟨y1,bC,N⟩:=zB N;refine wP [.p (vS p a0 c) [],.p (vI i) [],.x (ePLoop x),.x (ePLoop x),.x (eS x.Lo),.p (vS p1 b c1) [],.p (vI i) [],.x (ePLoop x1),.x (ePLoop x1),.x (eS x1.Lo),.q (.bool y),.q vF,.q vF,.p (vS p a0 c) [],.p (vI i) [],.x (ePLoop x2),.x (eQLoop 1 x2),.x (eS x2.Hi),.p (vS p1 b c1) [],.p (vI i) [],.x (ePLoop x3),.x (eQLoop 1 x3),.x (eS x3.Hi),.q (.bool y1),.p (.bool (!y1)) [],.p (.bool (!y1)) []] [[],[],[(0,false),(1,false)],[(2,false)],[(3,false)],[],[],[(5,false),(6,false)],[(7,false)],[(8,false)],[(4,false),(9,false)],[(10,false)],[(11,false)],[(12,false)],[(12,false)],[(12,false),(13,false),(14,false)],[(12,false),(15,false)],[(12,false),(16,false)],[(12,false)],[(12,false)],[(12,false),(18,false),(19,false)],[(12,false),(20,false)],[(12,false),(21,false)],[(12,false),(17,false),(22,false)],[(12,false),(23,false)],[(12,false),(24,false)]] [] [] [(25,false)] zO ?_ ?_
    ·refine O2<|Ox ?_<|Ox ?_<|Ox ?_<|O2<|Ox ?_<|Ox ?_<|Ox ?_<|Oq ?_<|Oq ?_<|Oq ?_<|O2<|Ox ?_<|Ox ?_<|Ox ?_<|O2<|Ox ?_<|Ox ?_<|Ox ?_<|Oq ?_<|O2<|On
     ·intro I1 hf aa;refine yW [17,18] rfl ?_;have h:=h.mono aa;refine xW rfl rfl h hy ?_;intro ad aN aq am;obtain⟨p2,c2,p3,c3,rfl,h2,h3⟩:=vD am;exact yN [] iR ⟨_,_,_,_,_,rfl,rfl,aq,h2,h3⟩
     ·rintro I1 hf aa _ _ ⟨ad,p2,c2,p3,c3,rfl,rfl,aq,h2,h3⟩;exact yW [19] rfl<|oN 4 [(20,.pointer (some ad))]<|yN [] iR ⟨_,_,_,_,_,rfl,rfl,aq,h2,h3⟩
     ·rintro I1 hf aa _ _ ⟨ad1,p21,c21,p31,c31,rfl,rfl,aw,h21,h31⟩;exact yW [20] rfl<|xM 0 aw [vS p21 x.Lo c21] (vS p21 x.Lo c21) rfl<|yN [] iR ⟨_,_,rfl,rfl,h21⟩
     ·intro I1 hf aa;refine yW [22,23] rfl ?_;have h1:=h1.mono aa;refine xW rfl rfl h1 az ?_;intro ad2 bq bk ay;obtain⟨p4,c4,p5,c5,rfl,h4,h5⟩:=vD ay;exact yN [] iR ⟨_,_,_,_,_,rfl,rfl,bk,h4,h5⟩
     ·rintro I1 hf aa _ _ ⟨ad2,p4,c4,p5,c5,rfl,rfl,bk,h4,h5⟩;exact yW [24] rfl<|oN 9 [(25,.pointer (some ad2))]<|yN [] iR ⟨_,_,_,_,_,rfl,rfl,bk,h4,h5⟩
     ·rintro I1 hf aa _ _ ⟨ad21,p41,c41,p51,c51,rfl,rfl,hat21,h41,h51⟩;exact yW [25] rfl<|xM 0 hat21 [vS p41 x1.Lo c41] (vS p41 x1.Lo c41) rfl<|yN [] iR ⟨_,_,rfl,rfl,h41⟩
     ·rintro I1 hf aa _ _ ⟨p211,c211,rfl,rfl,h211⟩ _ _ ⟨p411,c411,rfl,rfl,h411⟩;refine yW [21,26] rfl ?_;have H:=iS I1;refine tA (zQL x.Lo x1.Lo _ aG h211 h411) ?_;intro aP le;have H:=H.trans le;exact xO H
     ·intro I1 hf aa;refine yW [27] rfl<|oN 12 [(28,.bool (!y))] ?_;rw[ba];exact xO iR
     ·intro I1 hf aa;exact I_h [(28,vF)]<|oN 13 [(29,vF)]<|xO iR
     ·intro I1 hf aa;refine yW [29,30,31] rfl ?_;have h:=h.mono aa;refine xW rfl rfl h bh ?_;intro ad3 bL hat3 br;obtain⟨p6,c6,p7,c7,rfl,h7,h8⟩:=vD br;exact yN [] iR ⟨_,_,_,_,_,rfl,rfl,hat3,h7,h8⟩
     ·rintro I1 hf aa _ _ ⟨rfl,rfl⟩ _ _ ⟨ad3,p6,c6,p7,c7,rfl,rfl,hat3,h7,h8⟩;exact yW [29,32] rfl<|oN 17 [(33,.pointer (some (ad3.add 1)))]<|yN [] iR ⟨_,_,_,_,_,rfl,rfl,hat3,h7,h8⟩
     ·rintro I1 hf aa _ _ ⟨rfl,rfl⟩ _ _ ⟨ad31,p61,c61,p71,c71,rfl,rfl,hat31,h71,h81⟩;exact yW [29,33] rfl<|xM 1 hat31 [vS p71 x2.Hi c71] (vS p71 x2.Hi c71) rfl<|yN [] iR ⟨_,_,rfl,rfl,h81⟩
     ·intro I1 hf aa;refine yW [29,35,36] rfl ?_;have h1:=h1.mono aa;refine xW rfl rfl h1 bu ?_;intro ad4 ccs3 hat4 bB;obtain⟨p8,c8,p9,c9,rfl,h9,h10⟩:=vD bB;exact yN [] iR ⟨_,_,_,_,_,rfl,rfl,hat4,h9,h10⟩
     ·rintro I1 hf aa _ _ ⟨rfl,rfl⟩ _ _ ⟨ad4,p8,c8,p9,c9,rfl,rfl,hat4,h9,h10⟩;exact yW [29,37] rfl<|oN 22 [(38,.pointer (some (ad4.add 1)))]<|yN [] iR ⟨_,_,_,_,_,rfl,rfl,hat4,h9,h10⟩
     ·rintro I1 hf aa _ _ ⟨rfl,rfl⟩ _ _ ⟨ad41,p81,c81,p91,c91,rfl,rfl,hat41,h91,h101⟩;exact yW [29,38] rfl<|xM 1 hat41 [vS p91 x3.Hi c91] (vS p91 x3.Hi c91) rfl<|yN [] iR ⟨_,_,rfl,rfl,h101⟩
     rintro I1 hf aa _ _ ⟨rfl,rfl⟩ _ _ ⟨p711,c711,rfl,rfl,h811⟩ _ _ ⟨p911,c911,rfl,rfl,h1011⟩;refine yW [29,34,39] rfl ?_;have H:=iS I1;refine tA (zQL x2.Hi x3.Hi _ bC h811 h1011) ?_;intro bx aC;have H:=H.trans aC;exact xO H
    intro bG aI;refine yW [0,1,5,42] rfl ?_;have H:=H.trans aI;exact zY rfl<|yZ<|zU (ct N H)
  intro t42 I0 aY aX;have ⟨h,h1,H⟩:=m3 aY h h1 H;refine zK<|yH aX ?_ ?_
  ·intro bD N;exact wZ [(4,vF)]<|xH<|zV<|zJ<|zJ<|hr _ _ _ _ (zE N).symm H ⟨_,_,(resT rfl),zO,⟨_,rfl,rfl,rfl⟩⟩
  intro bD N;exact zT<|zN<|zK<|zL<|yQ [] [5] rfl<|yV<|nX<|ih (W (i+1)) _ N H h h1 hg ho hx hr
 intro aH N;exact wW<|yZ<|hx _  (zE N).symm H
def zQI(a0:(List zG))(b:(List zG)):Option (Bool):=do
 if((a0.length:Int) != (b.length:Int)) then pure false
 else
  match<-zQA a0 b 0 with
  | .ret r0=>pure r0
  | .done _=>
   pure true
theorem zQ0:∀a0 b r,zQI a0 b=some r->∀{I:Imm}{p c p1 c1},(S4 I p a0 c)->(S4 I p1 b c1)->RT 70 [vS p a0 c,vS p1 b c1] I [] (zW  r):=by
 intro a0 b r N I p c p1 c1 h h1;unfold zQI at N;refine yM Tryz.func70 λB=>wZ []<|yA<|yK [10] rfl<|zK<|yH N ?_ ?_
 ·intro hc N;refine wZ [(4,vF)]<|xH<|zJ ?_;obtain rfl:=zE N;exact vH
 intro hc N;refine zT<|yA<|yK [5] rfl<|wN<|qX [(0,vS p a0 c),(1,vS p1 b c1),(5,vI 0)] ?_;obtain⟨aU,aB,aE⟩:=zB N;refine zQS a0 b 0 aU aB iR h h1 nG nO ?_ ?_
 ·intro bK  heq1 bo;subst aU;refine zS<|zE3 [(4,vY)]<|zK<|xD ?_;obtain rfl:=zE aE;exact vH
 intro r0 I9 hs9 m9 aT le9 aV;subst aT;refine zV<|zJ ?_;obtain rfl:=zE aE;exact jW aV
def zPz(p:(List Int))(q:(List Int))(i:Int):Option (Out Unit (Bool)):=do
 let t15<-(do
  if(decide (i<(p.length:Int))) then pure (decide (i<(q.length:Int)))
  else
   pure false
    : Option Bool)
 if t15 then
  let x<-idx p i;let x1<-idx q i;if(x != x1) then
   let x2<-idx p i;let x3<-idx q i;pure (.ret (decide (x2<x3)))
  else zPz p q (W (i+1))
 else pure (.done ())
 partial_fixpoint
theorem zQV(p:(List Int))(q:(List Int)):∀(i:Int) (o:Out Unit (Bool)),zPz p q i=some o->∀{B}{I0 I:Imm}{Q p1 c p2 c1},I0.le I->(S4 I p1 p c)->(S4 I p2 q c1)->NG Q->NO Q->(∀I',o=(.done ())->I0.le I'->T 41 B Q (.exit 0) I' [] [(0,vS p1 p c),(1,vS p2 q c1)])->(∀r I' ag m',o=(.ret r)->I0.le I'->RS Tryz.prog Tryz.f71 B (zW  r) I' ag m'->T 41 B Q .ret I' ag m')->J Tryz.prog 41 B (nav (bodyOf Tryz.f71) [1,0,1,0]) Q I [] [(0,vS p1 p c),(1,vS p2 q c1),(5,vI i)]:=by
 refine zPz.partial_correctness p q _ λaJ ih i o N B I0 I Q p1 c p2 c1 H h h1 hg ho hx hr=>yX hg ho<|yC<|yC ?_;refine vQ N [] (λt15=>[(0,vS p1 p c),(1,vS p2 q c1),(5,vI i),(15,.bool t15)]) (λo0 aA=>?_) ?_
 ·have H:=iS I;refine zL<|yG 5 [] [10] rfl<|wR [10] aA ?_ ?_
  ·intro hc N;exact yQ [] [15] rfl<|yZ<|zU (ct N H)
  intro hc N;exact wM [] [(15,vF)]<|yZ<|zU (ct N H)
 intro t15 I0 le aX;have ⟨h,h1,H⟩:=m3 le h h1 H;refine zK<|yH aX ?_ ?_
 ·intro aH N;refine zT<|yA<|yL<|yC<|zA5 (by kernel_rfl) (by kernel_rfl)<|zB2 2 [] [18,19] rfl<|bE N λx hy N=>zDk rfl rfl h hy ?_;intro ad aN aq am;obtain rfl:=am;refine zC5 0 aq [vI x] (vI x) rfl<|zB2 6 [] [22,23] rfl<|bE N λx1 az N=>zDk rfl rfl h1 az ?_;intro ad1 bq aw ay;obtain rfl:=ay;refine zC5 0 aw [vI x1] (vI x1) rfl<|zK5 [] [26] rfl<|zK<|yH N ?_ ?_
  ·intro ba N;refine yC<|zA5 (by kernel_rfl) (by kernel_rfl)<|zB2 2 [] [27,28] rfl<|bE N λx2 aG N=>zDk rfl rfl h aG ?_;intro ad2 bL bk br;obtain rfl:=br;refine zC5 0 bk [vI x2] (vI x2) rfl<|zB2 6 [] [31,32] rfl<|bE N λx3 bh N=>zDk rfl rfl h1 bh ?_;intro ad3 ccs3 hat3 bB;obtain rfl:=bB;exact zC5 0 hat3 [vI x3] (vI x3) rfl<|zK5 [] [4] rfl<|xH<|zV<|zJ<|zJ<|hr _ _ _ _ (zE N).symm H ⟨_,_,(resT rfl),zO,⟨_,rfl,rfl,rfl⟩⟩
  intro ba N;exact zT<|zN<|zK<|zL<|yQ [] [5] rfl<|yV<|nX<|ih (W (i+1)) _ N H h h1 hg ho hx hr
 intro aH N;exact wW<|yZ<|hx _  (zE N).symm H
def zQJ(p:(List Int))(q:(List Int)):Option (Bool):=do
 match<-zPz p q 0 with
 | .ret r0=>pure r0
 | .done _=>
  pure (decide ((p.length:Int)<(q.length:Int)))
theorem zQ1:∀p q r,zQJ p q=some r->∀{I:Imm}{p1 c p2 c1},(S4 I p1 p c)->(S4 I p2 q c1)->RT 71 [vS p1 p c,vS p2 q c1] I [] (zW  r):=by
 intro p q r N I p1 c p2 c1 h h1;unfold zQJ at N;refine yM Tryz.func71 λB=>wZ []<|yA<|yK [5] rfl<|wN<|qX [(0,vS p1 p c),(1,vS p2 q c1),(5,vI 0)] ?_;obtain⟨aU,aB,aE⟩:=zB N;refine zQV p q 0 aU aB iR h h1 nG nO ?_ ?_
 ·intro aP  heq1 aa;subst aU;refine zS<|vM [4] rfl<|zK<|xD ?_;obtain rfl:=zE aE;exact vH
 intro r0 I9 hs9 m9 aT le9 aV;subst aT;refine zV<|zJ ?_;obtain rfl:=zE aE;exact jW aV
def zPw(part:Int)(y3:(List zR))(y4:(List yR))(x2:zC)(i:Int):Option (Out zC (zC×Bool)):=do
 if(decide (i<(y4.length:Int))) then
  let x4<-idx y4 i;let x5<-idx y3 x4.From;let x6<-idx y4 i;let x7<-idx y3 x6.To;let t90<-(do
   if(x5.Part==part) then
    if(x7.Part==(W (part+1))) then
     let y5<-zQJ x7.Point x5.Point;pure (id y5)
    else pure false
   else
    pure false
     : Option Bool)
  if t90 then pure (.ret ((zC.mk ([]:List zD) ([]:List zF)),false))
  else zPw part y3 y4 x2 (W (i+1))
 else pure (.done x2)
 partial_fixpoint
theorem zQQ(part:Int)(y3:(List zR))(y4:(List yR))(x2:zC):∀(i:Int) (o:Out zC (zC×Bool)),zPw part y3 y4 x2 i=some o->∀{B}{I0 I:Imm}{Q}{y:zC}{b b1}{p3 c2 p4 c3 p9 c8 aL c9 aF aO bj aQ},I0.le I->(S4 I p9 y3 c8)->(S4 I aL y4 c9)->(S4 I p3 y.Arrays c2)->(S4 I p4 y.Parts c3)->(S4 I aF x2.Arrays aO)->(S4 I bj x2.Parts aQ)->NG Q->NO Q->(∀I' x3 bc aZ p14 bd,o=(.done x3)->I0.le I'->(S4 I' bc x3.Arrays aZ)->(S4 I' p14 x3.Parts bd)->T 122 B Q (.exit 0) I' [hB b1 (cProg x3 bc aZ p14 bd),hB b (cProg y p3 c2 p4 c3)] [(1,vI part),(2,vP b 0),(4,vP b1 0)])->(∀r I' ag m',o=(.ret r)->I0.le I'->RS Tryz.prog Tryz.f22 B (mK  r) I' ag m'->T 122 B Q .ret I' ag m')->J Tryz.prog 122 B (nav (bodyOf Tryz.f22) [1,1,1,1,1,0,1,0]) Q I [hB b1 (cProg x2 aF aO bj aQ),hB b (cProg y p3 c2 p4 c3)] [(1,vI part),(2,vP b 0),(4,vP b1 0),(6,vS p9 y3 c8),(7,vS aL y4 c9),(8,vI i)]:=by
 refine zPw.partial_correctness part y3 y4 x2 _ λaJ ih i o N B I0 I Q y b b1 p3 c2 p4 c3 p9 c8 aL c9 aF aO bj aQ H h11 h12 h3 h4 h13 h14 hg ho hx hr=>yX hg ho<|yC<|yK [54] rfl<|zK<|yH N ?_ ?_
 ·intro bJ N;refine zT<|yA<|yL<|yD<|yG 3 [] [57,58,59] rfl<|bE N λx4 hy7 N=>xW rfl rfl h12 hy7 ?_;intro ad3 bL hat3 br;obtain rfl:=zEp br;refine yG 5 [] [61] rfl<|xM 0 hat3 [vI x4.From] (vI x4.From) rfl<|bE N λx5 hy8 N=>xW rfl rfl h11 hy8 ?_;intro ad4 ccs3 hat4 bB;obtain⟨p15,c14,rfl,h17⟩:=oH bB;refine xM 0 hat4 (cInst x5 p15 c14) (vA (cInst x5 p15 c14)) rfl<|xY [vI 0,vI 0,z0] ?_;intro b2 hb2;refine xC 0 (cInst x5 p15 c14) rfl<|zY rfl<|yY<|yG 3 [] [65,66,67] rfl<|bE N λx6 hy9 N=>xW rfl rfl h12 hy9 ?_;intro ad5 ccs4 hat5 hrep4;obtain rfl:=zEp hrep4;refine yG 5 [] [69] rfl<|xM 1 hat5 [vI x6.To] (vI x6.To) rfl<|bE N λx7 hy10 N=>xW rfl rfl h11 hy10 ?_;intro ad6 ccs5 hat6 hrep5;obtain⟨p16,c15,rfl,h18⟩:=oH hrep5;refine xM 0 hat6 (cInst x7 p16 c15) (vA (cInst x7 p16 c15)) rfl<|xY [vI 0,vI 0,z0] ?_;intro b3 hb3;refine xC 0 (cInst x7 p16 c15) rfl<|zY rfl<|zK<|yC ?_;refine vQ N [hB b1 (cProg x2 aF aO bj aQ),hB b (cProg y p3 c2 p4 c3)] (λt90=>[(1,vI part),(2,vP b 0),(4,vP b1 0),(6,vS p9 y3 c8),(7,vS aL y4 c9),(8,vI i),(90,.bool t90)]) (λaU aB=>?_) ?_
  ·have H:=iS I;refine zL<|yG 5 [1] [77] rfl<|wR [77] aB ?_ ?_
   ·intro hc5 N;refine yG 12 [0] [84] rfl<|wR [84] N ?_ ?_
    ·intro hc6 N;refine yG 16 [0,1] [86,88] rfl<|bE N λy5 hy11 N=>tA (zQ1 x7.Point x5.Point _ hy11 h18 h17) ?_;intro bS le10;have H:=H.trans le10;exact yQ [] [90] rfl<|wK (zX [2,3] rfl (by decide))<|yZ<|zU (ct N H)
    intro hc6 N;exact wM [] [(90,vF)]<|wK (zX [2,3] rfl (by decide))<|yZ<|zU (ct N H)
   intro hc5 N;exact wM [] [(90,vF)]<|wK (zX [2,3] rfl (by decide))<|yZ<|zU (ct N H)
  intro t90 bN le11 hMc1;have ⟨h11,h12,h13,h14,h3,h4⟩:=m6 le11 h11 h12 h13 h14 h3 h4;have H:=H.trans le11;refine zK<|yH hMc1 ?_ ?_
  ·intro hc7 N;exact yD<|yG 1 [] [91] rfl<|jV 0 zTwo [hB b1 zTwo,hB b (cProg y p3 c2 p4 c3)] rfl rfl rfl rfl<|wM [] [(5,vF)]<|xH<|zV<|zJ<|zJ<|hr _ _ _ _ (zE N).symm H ⟨_,_,(resE 0 rfl rfl rfl),zO,⟨_,_,rfl,rfl,⟨_,rfl,(xJ ⟨_,_,rfl,(SL.nil _),(SL.nil _)⟩)⟩,rfl⟩⟩
  intro hc7 N;exact zT<|zN<|zK<|zL<|yQ [] [8] rfl<|yV<|nX<|ih (W (i+1)) _ N H h11 h12 h3 h4 h13 h14 hg ho hx hr
 intro bJ N;exact wW<|yZ<|hx _ _ _ _ _ _ (zE N).symm H h13 h14
def zQH(p:zC)(part:Int):Option (zC×Bool):=do
 let y<-gT p;let t45<-(do
  let y1<-sA y;if(!y1) then pure true
  else
   if(decide (part<0)) then pure true
   else
    if(decide (part>=(W ((y.Parts.length:Int) - 1)))) then pure true
    else
     let x<-idx y.Parts part;let x1<-idx y.Parts (W (part+1));let y2<-zQI x.Nest x1.Nest;pure (!y2)
    : Option Bool)
 if t45 then pure ((zC.mk ([]:List zD) ([]:List zF)),false)
 else
  let y3<-oF y;let y4<-zA2 y
  match<-zPw part y3 y4 (zC.mk ([]:List zD) ([]:List zF)) 0 with
  | .ret r0=>pure r0
  | .done x3=>
   let x8<-idx y.Parts part;let x9<-idx y.Parts part;let l<-app 152 ([]:List zI) x9.Body;let x10<-idx y.Parts (W (part+1));let l1<-app 152 l x10.Body;let (y7,y8)<-zBG y part 2 ([(zF.mk x8.Nest l1)]:List zF);pure (y7,y8)
theorem zQY:∀p part r,zQH p part=some r->∀{I:Imm}{p1 c p2 c1},(S4 I p1 p.Arrays c)->(S4 I p2 p.Parts c1)->RT 22 [vA (cProg p p1 c p2 c1),vI part] I [] (mK  r):=by
 intro p part r N I p1 c p2 c1 h h1;unfold zQH at N;refine yM Tryz.func22 λB=>?_;have H:=iS I;refine yD<|vC (cProg p p1 c p2 c1) ?_;intro b hb;refine xY zTwo ?_;intro b1 hb1;refine wM [] []<|yY<|uW 1 [1] [(12,vA (cProg p p1 c p2 c1))]<|bE N λy hy N=>xK (zKN p _ hy h h1) ?_;rintro I0 ax v2 k2 le - ⟨v0,rfl,rfl,⟨cs,rfl,h2⟩⟩ -;have ⟨h,H⟩:=m2 le h H;obtain⟨p3,c2,p4,c3,rfl,h3,h4⟩:=kT h2;refine xC 1 (cProg y p3 c2 p4 c3) rfl<|zY rfl<|yA<|yC ?_;refine vQ N [hB b1 zTwo,hB b (cProg y p3 c2 p4 c3)] (λt45=>[(1,vI part),(2,vP b 0),(4,vP b1 0),(45,.bool t45)]) (λo0 aA=>?_) ?_
 ·have H:=iS I0;obtain⟨y1,az,N⟩:=zB aA;cases hc:(!y1) with
  | true=>
   have hM0:=rZ hc N;refine wP [.p (vA (cProg y p3 c2 p4 c3)) [1],.q (.bool y1),.q vY,.q vY,.p undef [],.p undef [],.p vY [],.p vY [],.p undef [],.p undef [],.p undef [],.p undef [],.p undef [],.p undef [],.p vY [],.p vY [],.p undef [],.p undef [],.p undef [],.p undef [],.p undef [],.p undef [],.p undef [],.p undef [],.p undef [],.p undef [],.p undef [],.p undef [],.p undef [],.p undef [],.p undef [],.p vY []] [[],[(0,false)],[(1,false)],[(2,false)],[(3,false)],[(3,false),(4,false)],[(3,false),(5,false)],[(6,false)],[(7,false)],[(7,false)],[(7,false),(9,false)],[(7,false),(10,false)],[(7,false),(11,false)],[(7,false),(8,false),(12,false)],[(7,false),(13,false)],[(14,false)],[(15,false)],[(15,false),(16,false)],[(15,false)],[(15,false),(17,false),(18,false)],[(15,false),(19,false)],[(15,false),(20,false)],[(15,false)],[(15,false),(22,false)],[(15,false)],[(15,false),(24,false)],[(15,false),(23,false),(25,false)],[(15,false),(26,false)],[(15,false),(27,false)],[(15,false),(21,false),(28,false)],[(15,false),(29,false)],[(15,false),(30,false)]] [hB b1 zTwo,hB b (cProg y p3 c2 p4 c3)] [] [(31,false)] (zZ [0,1]) ?_ ?_
   ·refine Op<|Oq ?_<|Oq ?_<|Oq ?_<|O4<|O4<|O4<|O4<|O4<|O4<|O4<|On
    ·intro I1 hf aa;refine yW [14] rfl ?_;have H:=iS I1;have ⟨h3,h4⟩:=m2 aa h3 h4;refine tA (zAA y _ az h3 h4) ?_;intro aW aa;have H:=H.trans aa;exact xO H
    ·intro I1 hf aa;refine yW [15] rfl<|oN 3 [(16,.bool (!y1))] ?_;rw[hc];exact xO iR
    intro I1 hf aa;exact I_h [(16,vY)]<|oN 4 [(17,vY)]<|xO iR
   intro bx aC;refine yW [1,2,4,45] rfl ?_;have H:=H.trans aC;exact zY rfl<|yZ<|zU (ct hM0 H)
  | false=>
   have hM01:=sP hc N;cases aH:(decide (part<0)) with
   | true=>
    have hM02:=rZ aH hM01;refine wP [.p (vA (cProg y p3 c2 p4 c3)) [1],.q (.bool y1),.q vF,.q vF,.p (vI part) [],.q vY,.q vY,.q vY,.p undef [],.p undef [],.p undef [],.p undef [],.p undef [],.p undef [],.p vY [],.p vY [],.p undef [],.p undef [],.p undef [],.p undef [],.p undef [],.p undef [],.p undef [],.p undef [],.p undef [],.p undef [],.p undef [],.p undef [],.p undef [],.p undef [],.p undef [],.p vY []] [[],[(0,false)],[(1,false)],[(2,false)],[(3,false)],[(3,false),(4,false)],[(3,false),(5,false)],[(6,false)],[(7,false)],[(7,false)],[(7,false),(9,false)],[(7,false),(10,false)],[(7,false),(11,false)],[(7,false),(8,false),(12,false)],[(7,false),(13,false)],[(14,false)],[(15,false)],[(15,false),(16,false)],[(15,false)],[(15,false),(17,false),(18,false)],[(15,false),(19,false)],[(15,false),(20,false)],[(15,false)],[(15,false),(22,false)],[(15,false)],[(15,false),(24,false)],[(15,false),(23,false),(25,false)],[(15,false),(26,false)],[(15,false),(27,false)],[(15,false),(21,false),(28,false)],[(15,false),(29,false)],[(15,false),(30,false)]] [hB b1 zTwo,hB b (cProg y p3 c2 p4 c3)] [] [(31,false)] (zZ [0,1]) ?_ ?_
    ·refine Op<|Oq ?_<|Oq ?_<|Oq ?_<|Op<|Oq ?_<|Oq ?_<|Oq ?_<|O4<|O4<|O4<|O4<|O4<|O4<|On
     ·intro I1 hf aa;refine yW [14] rfl ?_;have H:=iS I1;have ⟨h3,h4⟩:=m2 aa h3 h4;refine tA (zAA y _ az h3 h4) ?_;intro aW aa;have H:=H.trans aa;exact xO H
     ·intro I1 hf aa;refine yW [15] rfl<|oN 3 [(16,.bool (!y1))] ?_;rw[hc];exact xO iR
     ·intro I1 hf aa;exact I_h [(16,vF)]<|oN 4 [(17,vF)]<|xO iR
     ·intro I1 hf aa;refine yW [17,18] rfl<|oN 6 [(19,.bool (decide (part<0)))] ?_;rw[aH];exact xO iR
     ·intro I1 hf aa;exact yW [17,19] rfl<|oN 7 [(20,vY)]<|xO iR
     intro I1 hf aa;exact I_h [(20,vY)]<|oN 8 [(21,vY)]<|xO iR
    intro bG aI;refine yW [1,2,4,45] rfl ?_;have H:=H.trans aI;exact zY rfl<|yZ<|zU (ct hM02 H)
   | false=>
    have hM03:=sP aH hM01;cases ba:(decide (part>=(W ((y.Parts.length:Int) - 1)))) with
    | true=>
     have hM04:=rZ ba hM03;refine wP [.p (vA (cProg y p3 c2 p4 c3)) [1],.q (.bool y1),.q vF,.q vF,.p (vI part) [],.q vF,.q vF,.q vF,.p (vI part) [],.p (vP b 1) [],.p (vS p4 y.Parts c3) [1],.p (vI (y.Parts.length:Int)) [],.p (vI (W ((y.Parts.length:Int) - 1))) [],.q vY,.q vY,.q vY,.p undef [],.p undef [],.p undef [],.p undef [],.p undef [],.p undef [],.p undef [],.p undef [],.p undef [],.p undef [],.p undef [],.p undef [],.p undef [],.p undef [],.p undef [],.p vY []] [[],[(0,false)],[(1,false)],[(2,false)],[(3,false)],[(3,false),(4,false)],[(3,false),(5,false)],[(6,false)],[(7,false)],[(7,false)],[(7,false),(9,false)],[(7,false),(10,false)],[(7,false),(11,false)],[(7,false),(8,false),(12,false)],[(7,false),(13,false)],[(14,false)],[(15,false)],[(15,false),(16,false)],[(15,false)],[(15,false),(17,false),(18,false)],[(15,false),(19,false)],[(15,false),(20,false)],[(15,false)],[(15,false),(22,false)],[(15,false)],[(15,false),(24,false)],[(15,false),(23,false),(25,false)],[(15,false),(26,false)],[(15,false),(27,false)],[(15,false),(21,false),(28,false)],[(15,false),(29,false)],[(15,false),(30,false)]] [hB b1 zTwo,hB b (cProg y p3 c2 p4 c3)] [] [(31,false)] (zZ [0,1]) ?_ ?_
     ·refine Op<|Oq ?_<|Oq ?_<|Oq ?_<|Op<|Oq ?_<|Oq ?_<|Oq ?_<|O4<|Op<|Oq ?_<|Oq ?_<|Oq ?_<|O4<|O4<|O4<|O4<|On
      ·intro I1 hf aa;refine yW [14] rfl ?_;have H:=iS I1;have ⟨h3,h4⟩:=m2 aa h3 h4;refine tA (zAA y _ az h3 h4) ?_;intro aW aa;have H:=H.trans aa;exact xO H
      ·intro I1 hf aa;refine yW [15] rfl<|oN 3 [(16,.bool (!y1))] ?_;rw[hc];exact xO iR
      ·intro I1 hf aa;exact I_h [(16,vF)]<|oN 4 [(17,vF)]<|xO iR
      ·intro I1 hf aa;refine yW [17,18] rfl<|oN 6 [(19,.bool (decide (part<0)))] ?_;rw[aH];exact xO iR
      ·intro I1 hf aa;exact yW [17,19] rfl<|oN 7 [(20,vF)]<|xO iR
      ·intro I1 hf aa;exact I_h [(20,vF)]<|oN 8 [(21,vF)]<|xO iR
      ·intro I1 hf aa;refine yW [21,22,26] rfl<|oN 14 [(27,.bool (decide (part>=(W ((y.Parts.length:Int) - 1)))))] ?_;rw[ba];exact xO iR
      ·intro I1 hf aa;exact yW [21,27] rfl<|oN 15 [(28,vY)]<|xO iR
      intro I1 hf aa;exact I_h [(28,vY)]<|oN 16 [(29,vY)]<|xO iR
     intro bK aY;refine yW [1,2,4,45] rfl ?_;have H:=H.trans aY;exact zY rfl<|yZ<|zU (ct hM04 H)
    | false=>
     have hM05:=sP ba hM03;obtain⟨x,aG,N⟩:=zB hM05;obtain⟨x1,bh,N⟩:=zB N;obtain⟨y2,bu,N⟩:=zB N;refine wP [.p (vA (cProg y p3 c2 p4 c3)) [1],.q (.bool y1),.q vF,.q vF,.p (vI part) [],.q vF,.q vF,.q vF,.p (vI part) [],.p (vP b 1) [],.p (vS p4 y.Parts c3) [1],.p (vI (y.Parts.length:Int)) [],.p (vI (W ((y.Parts.length:Int) - 1))) [],.q vF,.q vF,.q vF,.p (vP b 1) [],.p (vS p4 y.Parts c3) [1],.p (vI part) [],.x (ePPart x),.x (ePPart x),.x (eS x.Nest),.p (vP b 1) [],.p (vS p4 y.Parts c3) [1],.p (vI part) [],.p (vI (W (part+1))) [],.x (ePPart x1),.x (ePPart x1),.x (eS x1.Nest),.q (.bool y2),.p (.bool (!y2)) [],.p (.bool (!y2)) []] [[],[(0,false)],[(1,false)],[(2,false)],[(3,false)],[(3,false),(4,false)],[(3,false),(5,false)],[(6,false)],[(7,false)],[(7,false)],[(7,false),(9,false)],[(7,false),(10,false)],[(7,false),(11,false)],[(7,false),(8,false),(12,false)],[(7,false),(13,false)],[(14,false)],[(15,false)],[(15,false),(16,false)],[(15,false)],[(15,false),(17,false),(18,false)],[(15,false),(19,false)],[(15,false),(20,false)],[(15,false)],[(15,false),(22,false)],[(15,false)],[(15,false),(24,false)],[(15,false),(23,false),(25,false)],[(15,false),(26,false)],[(15,false),(27,false)],[(15,false),(21,false),(28,false)],[(15,false),(29,false)],[(15,false),(30,false)]] [hB b1 zTwo,hB b (cProg y p3 c2 p4 c3)] [] [(31,false)] (zZ [0,1]) ?_ ?_
     ·refine Op<|Oq ?_<|Oq ?_<|Oq ?_<|Op<|Oq ?_<|Oq ?_<|Oq ?_<|O4<|Op<|Oq ?_<|Oq ?_<|Oq ?_<|O3<|Ox ?_<|Ox ?_<|Ox ?_<|O4<|Ox ?_<|Ox ?_<|Ox ?_<|Oq ?_<|O2<|On
      ·intro I1 hf aa;refine yW [14] rfl ?_;have H:=iS I1;have ⟨h3,h4⟩:=m2 aa h3 h4;refine tA (zAA y _ az h3 h4) ?_;intro aW aa;have H:=H.trans aa;exact xO H
      ·intro I1 hf aa;refine yW [15] rfl<|oN 3 [(16,.bool (!y1))] ?_;rw[hc];exact xO iR
      ·intro I1 hf aa;exact I_h [(16,vF)]<|oN 4 [(17,vF)]<|xO iR
      ·intro I1 hf aa;refine yW [17,18] rfl<|oN 6 [(19,.bool (decide (part<0)))] ?_;rw[aH];exact xO iR
      ·intro I1 hf aa;exact yW [17,19] rfl<|oN 7 [(20,vF)]<|xO iR
      ·intro I1 hf aa;exact I_h [(20,vF)]<|oN 8 [(21,vF)]<|xO iR
      ·intro I1 hf aa;refine yW [21,22,26] rfl<|oN 14 [(27,.bool (decide (part>=(W ((y.Parts.length:Int) - 1)))))] ?_;rw[ba];exact xO iR
      ·intro I1 hf aa;exact yW [21,27] rfl<|oN 15 [(28,vF)]<|xO iR
      ·intro I1 hf aa;exact I_h [(28,vF)]<|oN 16 [(29,vF)]<|xO iR
      ·intro I1 hf aa;refine yW [29,31,32] rfl ?_;have h4:=h4.mono aa;refine xW rfl rfl h4 aG ?_;intro ad aN aq am;obtain⟨p5,c4,p6,c5,rfl,h6,h7⟩:=wI am;exact yN [] iR ⟨_,_,_,_,_,rfl,rfl,aq,h6,h7⟩
      ·rintro I1 hf aa _ _ ⟨rfl,rfl⟩ _ _ ⟨ad,p5,c4,p6,c5,rfl,rfl,aq,h6,h7⟩;exact yW [29,33] rfl<|oN 21 [(34,.pointer (some ad))]<|yN [] iR ⟨_,_,_,_,_,rfl,rfl,aq,h6,h7⟩
      ·rintro I1 hf aa _ _ ⟨rfl,rfl⟩ _ _ ⟨ad1,p51,c41,p61,c51,rfl,rfl,aw,h61,h71⟩;exact yW [29,34] rfl<|xM 0 aw [vS p51 x.Nest c41] (vS p51 x.Nest c41) rfl<|yN [] iR ⟨_,_,rfl,rfl,h61⟩
      ·intro I1 hf aa;refine yW [29,37,39] rfl ?_;have h4:=h4.mono aa;refine xW rfl rfl h4 bh ?_;intro ad2 bq bk ay;obtain⟨p7,c6,p8,c7,rfl,h8,h9⟩:=wI ay;exact yN [] iR ⟨_,_,_,_,_,rfl,rfl,bk,h8,h9⟩
      ·rintro I1 hf aa _ _ ⟨rfl,rfl⟩ _ _ ⟨ad2,p7,c6,p8,c7,rfl,rfl,bk,h8,h9⟩;exact yW [29,40] rfl<|oN 28 [(41,.pointer (some ad2))]<|yN [] iR ⟨_,_,_,_,_,rfl,rfl,bk,h8,h9⟩
      ·rintro I1 hf aa _ _ ⟨rfl,rfl⟩ _ _ ⟨ad21,p71,c61,p81,c71,rfl,rfl,hat21,h81,h91⟩;exact yW [29,41] rfl<|xM 0 hat21 [vS p71 x1.Nest c61] (vS p71 x1.Nest c61) rfl<|yN [] iR ⟨_,_,rfl,rfl,h81⟩
      rintro I1 hf aa _ _ ⟨rfl,rfl⟩ _ _ ⟨p511,c411,rfl,rfl,h611⟩ _ _ ⟨p711,c611,rfl,rfl,h811⟩;refine yW [29,35,42] rfl ?_;have H:=iS I1;refine tA (zQ0 x.Nest x1.Nest _ bu h611 h811) ?_;intro I06 bo;have H:=H.trans bo;exact xO H
     intro I07 bv;refine yW [1,2,4,45] rfl ?_;have H:=H.trans bv;exact zY rfl<|yZ<|zU (ct N H)
 intro t45 aP le7 aX;have ⟨h3,h4⟩:=m2 le7 h3 h4;refine zK<|yH aX ?_ ?_
 ·intro bD N;refine yD<|yG 1 [] [46] rfl<|jV 0 zTwo [hB b1 zTwo,hB b (cProg y p3 c2 p4 c3)] rfl rfl rfl rfl<|wM [] [(5,vF)]<|xH<|zJ ?_;exact xX N (resE 0 rfl rfl rfl) zO ⟨_,_,rfl,rfl,⟨_,rfl,(xJ ⟨_,_,rfl,(SL.nil _),(SL.nil _)⟩)⟩,rfl⟩
 intro bD N;refine zT<|yY<|uW 1 [1] [(47,vA (cProg y p3 c2 p4 c3))]<|bE N λy3 bC N=>xK (zEg y _ bC h3 h4) ?_;rintro I08 ax v2 k2 le8 - ⟨v09,rfl,rfl,h11⟩ -;have ⟨h3,h4⟩:=m2 le8 h3 h4;obtain⟨p9,c8,rfl⟩:=h11.form;refine yQ [] [6] rfl<|yY<|uW 1 [1] [(49,vA (cProg y p3 c2 p4 c3))]<|bE N λy4 hy6 N=>xK (zNP y _ hy6 h3 h4) ?_;rintro I09 ax v2 k2 le9 - ⟨v010,rfl,rfl,h12⟩ -;have ⟨h11,h3,h4⟩:=m3 le9 h11 h3 h4;obtain⟨aL,c9,rfl⟩:=h12.form;refine yQ [] [7] rfl<|yA<|yK [8] rfl<|wN<|qX [(1,vI part),(2,vP b 0),(4,vP b1 0),(6,vS p9 y3 c8),(7,vS aL y4 c9),(8,vI 0)] ?_;obtain⟨o02,ho02,aE⟩:=zB N;refine zQQ part y3 y4 (zC.mk ([]:List zD) ([]:List zF)) 0 o02 ho02 iR h11 h12 h3 h4 (SL.nil _) (SL.nil _) nG nO ?_ ?_
 ·intro bR x3 bc aZ p14 bd heq2 le12 h15 h16;subst o02;have ⟨h3,h4⟩:=m2 le12 h3 h4;refine zS<|zK<|yC ?_;obtain⟨x8,hy12,N⟩:=zB aE;obtain⟨x9,hy13,N⟩:=zB N;obtain⟨l,hy14,N⟩:=zB N;obtain⟨x10,hy15,N⟩:=zB N;obtain⟨l1,hy16,N⟩:=zB N;refine wP [.p (vP b 1) [],.p (vS p4 y.Parts c3) [1],.p (vI part) [],.x (ePPart x8),.x (ePPart x8),.x (eS x8.Nest),.x (λI' v hx=>∃b4,v=vS (some ⟨b4,0,none⟩) ([]:List zI) 0/\hx=[hO zI (vS (some ⟨b4,0,none⟩) ([]:List zI) 0) []]/\(RL I' [] ([]:List zI))),.p (vP b 1) [],.p (vS p4 y.Parts c3) [1],.p (vI part) [],.x (ePPart x9),.x (eQPart 1 x9),.x (eS x9.Body),.x (λI' v hx=>∃p21 c20 au,v=vS p21 l c20/\hx=[hO zI (vS p21 l c20) au]/\(RL I' au l)),.p (vP b 1) [],.p (vS p4 y.Parts c3) [1],.p (vI part) [],.p (vI (W (part+1))) [],.x (ePPart x10),.x (eQPart 1 x10),.x (eS x10.Body),.x (λI' v hx=>∃p24 c23 aR,v=vS p24 l1 c23/\hx=[hO zI (vS p24 l1 c23) aR]/\(RL I' aR l1)),.x (λI' v hx=>∃p17111 c16111 p241 c231 cs21,v=vA [vS p17111 x8.Nest c16111,vS p241 l1 c231]/\hx=[hO zI (vS p241 l1 c231) cs21]/\(S4 I' p17111 x8.Nest c16111)/\(RL I' cs21 l1)),.x (λI' v hx=>∃b5,v=vP b5 0/\hx=[hB b5 zTwo])] [[],[(0,false)],[],[(1,false),(2,false)],[(3,false)],[(4,false)],[],[],[(7,false)],[],[(8,false),(9,false)],[(10,false)],[(11,false)],[(6,true),(12,false)],[],[(14,false)],[],[(16,false)],[(15,false),(17,false)],[(18,false)],[(19,false)],[(13,true),(20,false)],[(5,false),(21,true)],[]] [hB b1 (cProg x3 bc aZ p14 bd),hB b (cProg y p3 c2 p4 c3)] [] [(22,true),(23,true)] (zZ [0,1]) ?_ ?_
  ·refine O3<|Ox ?_<|Ox ?_<|Ox ?_<|Ox ?_<|O3<|Ox ?_<|Ox ?_<|Ox ?_<|Ox ?_<|O4<|Ox ?_<|Ox ?_<|Ox ?_<|Ox ?_<|Ox ?_<|Ox ?_<|On
   ·intro I1 hf aa;refine yW [93,94] rfl ?_;have h4:=h4.mono aa;refine xW rfl rfl h4 hy12 ?_;intro ad7 ccs6 hat7 hrep6;obtain⟨p17,c16,p18,c17,rfl,h20,h21⟩:=wI hrep6;exact yN [] iR ⟨_,_,_,_,_,rfl,rfl,hat7,h20,h21⟩
   ·rintro I1 hf aa _ _ ⟨ad7,p17,c16,p18,c17,rfl,rfl,hat7,h20,h21⟩;exact yW [95] rfl<|oN 5 [(96,.pointer (some ad7))]<|yN [] iR ⟨_,_,_,_,_,rfl,rfl,hat7,h20,h21⟩
   ·rintro I1 hf aa _ _ ⟨ad71,p171,c161,p181,c171,rfl,rfl,hat71,h201,h211⟩;exact yW [96] rfl<|xM 0 hat71 [vS p171 x8.Nest c161] (vS p171 x8.Nest c161) rfl<|yN [] iR ⟨_,_,rfl,rfl,h201⟩
   ·intro I1 hf aa;refine I_h []<|uX [] zI ?_;intro b4 hb4;have h22:RL I1 [] ([]:List zI):=rfl;exact yN [hO zI (vS (some ⟨b4,0,none⟩) ([]:List zI) 0) []] iR ⟨_,rfl,rfl,h22⟩
   ·intro I1 hf aa;refine yW [100,101] rfl ?_;have h4:=h4.mono aa;refine xW rfl rfl h4 hy13 ?_;intro ad8 ccs7 hat8 hrep7;obtain⟨p19,c18,p20,c19,rfl,h23,h24⟩:=wI hrep7;exact yN [] iR ⟨_,_,_,_,_,rfl,rfl,hat8,h23,h24⟩
   ·rintro I1 hf aa _ _ ⟨ad8,p19,c18,p20,c19,rfl,rfl,hat8,h23,h24⟩;exact yW [102] rfl<|oN 12 [(103,.pointer (some (ad8.add 1)))]<|yN [] iR ⟨_,_,_,_,_,rfl,rfl,hat8,h23,h24⟩
   ·rintro I1 hf aa _ _ ⟨ad81,p191,c181,p201,c191,rfl,rfl,hat81,h231,h241⟩;exact yW [103] rfl<|xM 1 hat81 [vS p201 x9.Body c191] (vS p201 x9.Body c191) rfl<|yN [] iR ⟨_,_,rfl,rfl,h241⟩
   ·rintro I1 hf aa _ _ ⟨b4,rfl,rfl,h22⟩ _ _ ⟨p2011,c1911,rfl,rfl,h2411⟩;refine yW [98,104] rfl ?_;obtain⟨ccs8,k0,k01⟩:=h2411;have h2411:SL I1 (vS p2011 x9.Body c1911) x9.Body:=⟨_,k0,k01⟩;exact sW 100 9 0 rfl rfl rfl h22 (.inl k0) k01 hy14 λp21 c20 au h25=>wY (ag:=(hO zI (vS p21 l c20) au::hB b1 (cProg x3 bc aZ p14 bd)::hB b (cProg y p3 c2 p4 c3)::hf)) rfl<|yN [hO zI (vS p21 l c20) au] iR ⟨_,_,_,rfl,rfl,h25⟩
   ·intro I1 hf aa;refine yW [107,109] rfl ?_;have h4:=h4.mono aa;refine xW rfl rfl h4 hy15 ?_;intro ad9 ccs9 hat9 hrep8;obtain⟨p22,c21,p23,c22,rfl,h26,h27⟩:=wI hrep8;exact yN [] iR ⟨_,_,_,_,_,rfl,rfl,hat9,h26,h27⟩
   ·rintro I1 hf aa _ _ ⟨ad9,p22,c21,p23,c22,rfl,rfl,hat9,h26,h27⟩;exact yW [110] rfl<|oN 20 [(111,.pointer (some (ad9.add 1)))]<|yN [] iR ⟨_,_,_,_,_,rfl,rfl,hat9,h26,h27⟩
   ·rintro I1 hf aa _ _ ⟨ad91,p221,c211,p231,c221,rfl,rfl,hat91,h261,h271⟩;exact yW [111] rfl<|xM 1 hat91 [vS p231 x10.Body c221] (vS p231 x10.Body c221) rfl<|yN [] iR ⟨_,_,rfl,rfl,h271⟩
   ·rintro I1 hf aa _ _ ⟨p21,c20,au,rfl,rfl,h25⟩ _ _ ⟨p2311,c2211,rfl,rfl,h2711⟩;refine yW [105,112] rfl ?_;obtain⟨ccs10,k02,k03⟩:=h2711;have h2711:SL I1 (vS p2311 x10.Body c2211) x10.Body:=⟨_,k02,k03⟩;exact sW 100 9 0 rfl rfl rfl h25 (.inl k02) k03 hy16 λp24 c23 aR h28=>wY (ag:=(hO zI (vS p24 l1 c23) aR::hB b1 (cProg x3 bc aZ p14 bd)::hB b (cProg y p3 c2 p4 c3)::hf)) rfl<|yN [hO zI (vS p24 l1 c23) aR] iR ⟨_,_,_,rfl,rfl,h28⟩
   ·rintro I1 hf aa _ _ ⟨p1711,c1611,rfl,rfl,h2011⟩ _ _ ⟨p24,c23,aR,rfl,rfl,h28⟩;exact yW [97,113] rfl<|oN 23 [(114,vA [vS p1711 x8.Nest c1611,vS p24 l1 c23])]<|yN [hO zI (vS p24 l1 c23) aR] iR ⟨_,_,_,_,_,rfl,rfl,h2011,h28⟩
   intro I1 hf aa;refine I_h []<|xY zTwo ?_;intro b5 hb5;exact yN [hB b5 zTwo] iR ⟨_,rfl,rfl⟩
  rintro I013 le13 _ _ ⟨p17111,c16111,p241,c231,cs21,rfl,rfl,h20111,h281⟩ _ _ ⟨b5,rfl,rfl⟩;refine yW [1,2,4,11,114] rfl ?_;have ⟨h3,h4⟩:=m2 le13 h3 h4;refine xC 0 [vS p17111 x8.Nest c16111,vS p241 l1 c231] rfl<|zY rfl<|yY<|uW 3 [3,0] [(115,vA (cProg y p3 c2 p4 c3)),(116,vI part),(117,vA [vS p17111 x8.Nest c16111,vS p241 l1 c231])]<|xV 1 rfl ?_;intro I014 le14 hl0;have h29:=SL.of_frozen hl0 le14 h281;have ⟨h3,h4,h20111⟩:=m3 le14 h3 h4 h20111;refine mH (rc (zF.mk x8.Nest l1) (wU ⟨_,_,rfl,h20111,h29⟩) rN) ?_;intro b6 I015 le15 h31;have ⟨h3,h4⟩:=m2 le15 h3 h4;obtain⟨⟨y7,y8⟩,hy17,N⟩:=zB N;refine xK (zNQ y part 2 ([(zF.mk x8.Nest l1)]:List zF) _ hy17 h3 h4 h31) ?_;rintro I016 ax v2 k2 le16 - ⟨v020,v021,rfl,rfl,⟨aM,rfl,h32⟩,rfl⟩ -;obtain⟨p25,c24,p26,c25,rfl,h34,h35⟩:=kT h32;refine yG 7 [] [120,121] rfl<|xC 1 (cProg y7 p25 c24 p26 c25) rfl<|yQ [] [5] rfl<|zK<|xD ?_;exact xX N (resE 1 rfl rfl rfl) zO ⟨_,_,rfl,rfl,⟨_,rfl,(xJ ⟨_,_,rfl,h34,h35⟩)⟩,rfl⟩
 intro r0 I9 hs9 m9 aT le9 aV;subst aT;refine zV<|zJ ?_;obtain rfl:=zE aE;exact jW aV
def zBE(p:zC):Option ((List zR)):=do
 let (y1,y2)<-rH p;if(!y2) then pure ([]:List zR)
 else pure (id y1)
theorem zQC:∀p r,zBE p=some r->∀{I:Imm}{p1 c p2 c1},(S4 I p1 p.Arrays c)->(S4 I p2 p.Parts c1)->RT 23 [vA (cProg p p1 c p2 c1)] I [] (zDe  r):=by
 intro p r N I p1 c p2 c1 h h1;unfold zBE at N;refine yM Tryz.func23 λB=>yD<|vC (cProg p p1 c p2 c1) ?_;intro b hb;refine wM [] []<|yY<|uW 1 [0] [(6,vA (cProg p p1 c p2 c1))] ?_;obtain⟨⟨y1,y2⟩,hy,N⟩:=zB N;refine xK (zAL p _ hy h h1) ?_;rintro I0 ax v2 k2 le - ⟨v0,v01,rfl,rfl,h2,rfl⟩ -;obtain⟨p3,c2,rfl⟩:=h2.form;refine yQ [] [3,4] rfl<|yA<|yK [11] rfl<|zK<|yH N ?_ ?_
 ·intro hc N;refine wZ [(2,z0)]<|xH<|zJ ?_;exact xX N (resT rfl) zO ⟨_,rfl,rfl,(SL.nil _)⟩
 intro hc N;refine zT<|vM [2] rfl<|zK<|xD ?_;exact xX N (resT rfl) zO ⟨_,rfl,rfl,h2⟩
def zQF(code:(List UInt8)):Option (Bool):=do
 if(decide ((code.length:Int)>1048576)) then pure true
 else
  let (y1,y2)<-zQD code;let (y4,y5)<-zAI y1 y2;let (y7,y8)<-zQH y1 y2;let (y10,y11)<-jS y1 y2 1;let t46<-(do
   if(!(y5==y8)) then pure true
   else
    let y12<-eK y4 y7;pure (!y12)
     : Option Bool)
  if t46 then pure false
  else
   let y13<-zBE y1;let t2<-(do
    if(!y5) then
     if(!y11) then pure true
     else
      if((y10.Parts.length:Int)==(W ((y1.Parts.length:Int)+1))) then
       let y14<-zBE y10;pure ((y14.length:Int)==(y13.length:Int))
      else pure false
    else
     if((y4.Parts.length:Int)==(W ((y1.Parts.length:Int) - 1))) then
      let y15<-zBE y4;if((y15.length:Int)==(y13.length:Int)) then
       if(!y11) then pure true
       else
        if((y10.Parts.length:Int)==(W ((y1.Parts.length:Int)+1))) then
         let y16<-zBE y10;pure ((y16.length:Int)==(y13.length:Int))
        else pure false
      else pure false
     else
      pure false
      : Option Bool)
   pure (id t2)
theorem zQT:∀code r,zQF code=some r->∀{I:Imm}{p c},(S4 I p code c)->RT 7 [vS p code c] I [] (zW  r):=by
 intro code r N I p c h;unfold zQF at N;refine yM Tryz.func7 λB=>?_;have H:=iS I;refine wZ []<|yA<|yK [14] rfl<|zK<|yH N ?_ ?_
 ·intro hc N;refine wZ [(2,vY)]<|xH<|zJ ?_;obtain rfl:=zE N;exact vH
 intro hc N;refine zT<|yY<|yG 1 [] [16] rfl ?_;obtain⟨⟨y1,y2⟩,hy,N⟩:=zB N;refine xK (zQO code _ hy h) ?_;rintro I0 ax v2 k2 le - ⟨v0,v01,rfl,rfl,⟨cs,rfl,h1⟩,rfl⟩ -;have H:=H.trans le;obtain⟨p1,c1,p2,c2,rfl,h3,h4⟩:=kT h1;refine yG 5 [] [18,19] rfl<|xY zTwo ?_;intro b hb;refine xC 0 (cProg y1 p1 c1 p2 c2) rfl<|yQ [] [4] rfl<|yY<|uW 2 [0] [(21,vA (cProg y1 p1 c1 p2 c2)),(22,vI y2)] ?_;obtain⟨⟨y4,y5⟩,az,N⟩:=zB N;refine xK (zLw y1 y2 _ az h3 h4) ?_;rintro aP ax v2 k2 aa - ⟨v04,v05,rfl,rfl,⟨au,rfl,h5⟩,rfl⟩ -;have ⟨h3,h4,H⟩:=m3 aa h3 h4 H;obtain⟨p3,c3,p4,c4,rfl,h7,h8⟩:=kT h5;refine yG 6 [] [24,25] rfl<|xY zTwo ?_;intro b1 hb1;refine xC 0 (cProg y4 p3 c3 p4 c4) rfl<|yQ [] [6] rfl<|yY<|uW 2 [1] [(27,vA (cProg y1 p1 c1 p2 c2)),(28,vI y2)] ?_;obtain⟨⟨y7,y8⟩,aG,N⟩:=zB N;refine xK (zQY y1 y2 _ aG h3 h4) ?_;rintro aW ax v2 k2 aC - ⟨v08,v09,rfl,rfl,⟨aR,rfl,h9⟩,rfl⟩ -;have ⟨h7,h8,h3,h4,H⟩:=m5 aC h7 h8 h3 h4 H;obtain⟨p5,c5,p6,c6,rfl,h11,h12⟩:=kT h9;refine yG 6 [] [30,31] rfl<|xY zTwo ?_;intro b2 hb2;refine xC 0 (cProg y7 p5 c5 p6 c6) rfl<|yQ [] [8] rfl<|yY<|uW 2 [2] [(33,vA (cProg y1 p1 c1 p2 c2)),(34,vI y2)] ?_;obtain⟨⟨y10,y11⟩,bh,N⟩:=zB N;refine xK (zJw y1 y2 1 _ bh h3 h4) ?_;rintro bx ax v2 k2 aI - ⟨v012,v013,rfl,rfl,⟨aM,rfl,h13⟩,rfl⟩ -;have ⟨h11,h12,h7,h8,h3,h4⟩:=m6 aI h11 h12 h7 h8 h3 h4;have H:=H.trans aI;obtain⟨p7,c7,p8,c8,rfl,h15,h16⟩:=kT h13;refine yG 6 [] [36,37] rfl<|xY zTwo ?_;intro b3 hb3;refine xC 0 (cProg y10 p7 c7 p8 c8) rfl<|yQ [] [10] rfl<|yA<|yC ?_;refine vQ N [hB b3 (cProg y10 p7 c7 p8 c8),hB b1 (cProg y4 p3 c3 p4 c4),hB b (cProg y1 p1 c1 p2 c2)] (λt46=>[(3,vP b 0),(5,vP b1 0),(6,.bool y5),(9,vP b3 0),(10,.bool y11),(46,.bool t46)]) (λo0 aA=>?_) ?_
 ·have H:=iS bx;refine zL<|yG 4 [] [41] rfl<|wR [41] aA ?_ ?_
  ·intro aH N;exact wM [] [(46,vY)]<|wK (zX [0,2,3] rfl (by decide))<|yZ<|zU (ct N H)
  intro aH N;refine uW 6 [2,1] [(42,vA (cProg y4 p3 c3 p4 c4)),(43,vA (cProg y7 p5 c5 p6 c6))]<|bE N λy12 bu N=>tA (zLM y4 y7 _ bu h7 h8 h11 h12) ?_;intro bK aY;have H:=H.trans aY;exact yQ [] [46] rfl<|wK (zX [0,2,3] rfl (by decide))<|yZ<|zU (ct N H)
 intro t46 bG bo aX;have ⟨h15,h16,h7,h8,h3,h4⟩:=m6 bo h15 h16 h7 h8 h3 h4;have H:=H.trans bo;refine zK<|yH aX ?_ ?_
 ·intro ba N;refine wZ [(2,vF)]<|xH<|zJ ?_;obtain rfl:=zE N;exact vH
 intro ba N;refine zT<|yY<|uW 1 [2] [(47,vA (cProg y1 p1 c1 p2 c2))]<|bE N λy13 bC N=>xK (zQC y1 _ bC h3 h4) ?_;rintro I06 ax v2 k2 bv - ⟨v017,rfl,rfl,h18⟩ -;have ⟨h15,h16,h7,h8,H⟩:=m5 bv h15 h16 h7 h8 H;obtain⟨p9,c9,rfl⟩:=h18.form;refine yQ [] [11] rfl<|zK<|yC ?_;refine vQ N [] (λt2=>[(2,.bool t2)]) (λaU aB=>?_) ?_
 ·have H:=iS I06;refine zL<|yG 3 [] [52] rfl<|wR [52] aB ?_ ?_
  ·intro bD N;refine yG 23 [] [69,72] rfl<|wR [72] N ?_ ?_
   ·intro bJ N;exact wM [] [(2,vY)]<|wK zO<|yZ<|zU (ct N H)
   intro bJ N;refine yG 32 [0,2] [81] rfl<|wR [81] N ?_ ?_
   ·intro hc5 N;refine uW 33 [0] [(82,vA (cProg y10 p7 c7 p8 c8))]<|bE N λy14 hy6 N=>xK (zQC y10 _ hy6 h15 h16) ?_;rintro I08 ax v2 k2 le7 - ⟨v018,rfl,rfl,h19⟩ -;have H:=H.trans le7;obtain⟨aL,aO,rfl⟩:=h19.form;exact yQ [] [2] rfl<|wK zO<|yZ<|zU (ct N H)
   intro hc5 N;exact wM [] [(2,vF)]<|wK zO<|yZ<|zU (ct N H)
  intro bD N;refine yG 12 [1,2] [61] rfl<|wR [61] N ?_ ?_
  ·intro hc6 N;refine uW 13 [1] [(62,vA (cProg y4 p3 c3 p4 c4))]<|bE N λy15 hy7 N=>xK (zQC y4 _ hy7 h7 h8) ?_;rintro I09 ax v2 k2 le8 - ⟨v019,rfl,rfl,h20⟩ -;have ⟨h15,h16,H⟩:=m3 le8 h15 h16 H;obtain⟨aF,aQ,rfl⟩:=h20.form;refine yG 20 [] [69] rfl<|wR [69] N ?_ ?_
   ·intro hc7 N;refine yG 23 [] [72] rfl<|wR [72] N ?_ ?_
    ·intro hc8 N;exact wM [] [(2,vY)]<|wK zO<|yZ<|zU (ct N H)
    intro hc8 N;refine yG 32 [0,2] [81] rfl<|wR [81] N ?_ ?_
    ·intro hc9 N;refine uW 33 [0] [(82,vA (cProg y10 p7 c7 p8 c8))]<|bE N λy16 hy8 N=>xK (zQC y10 _ hy8 h15 h16) ?_;rintro bN ax v2 k2 le9 - ⟨v020,rfl,rfl,h21⟩ -;have H:=H.trans le9;obtain⟨bj,aZ,rfl⟩:=h21.form;exact yQ [] [2] rfl<|wK zO<|yZ<|zU (ct N H)
    intro hc9 N;exact wM [] [(2,vF)]<|wK zO<|yZ<|zU (ct N H)
   intro hc7 N;exact wM [] [(2,vF)]<|wK zO<|yZ<|zU (ct N H)
  intro hc6 N;exact wM [] [(2,vF)]<|wK zO<|yZ<|zU (ct N H)
 intro t2 I07 le10 hMc1;refine zK<|xD ?_;obtain rfl:=zE hMc1;exact vH
end Go.LN
namespace Go.LN
theorem implInstP(P:zC)(h:BG P):zBE P=some (if validP P then progI P else[]):=by
 unfold zBE validP;rw[implInstances P h];cases progB P with
 | false=>rfl
 | true=>cases hd:decide ((progI P).length<=120) <;> simp[hd]
end Go.LN
namespace Go.LN
theorem specEqI(a b:List Int)(h:a.length<=1048576):zQK a b=some (eqI a b):=by
 unfold zQK eqI;by_cases hl:a.length=b.length
 ·have hf:=zKL (q:=λx y=>x==y) hl (f:=zQB a b) (λi h1 h2=>by
   rw[zQB];have c:((i:Int)<(a.length:Int)):=by omega
   simp only[c,dT,if_true,xA h1,xA h2,oB,oS,oP];rw[uF (by omega)];by_cases e:a[i]=b[i]
   ·simp[e]
   ·simp[e]) (by rw[zQB];simp)
  have e:((a.length:Int) != (b.length:Int))=false:=by simp[hl]
  rw[hf,e];cases eqL (λx y=>x==y) a b <;> rfl
 ·have e:((a.length:Int) != (b.length:Int))=true:=by simp;omega
  rw[e,zIE hl];rfl
theorem specAff(x y:zA)(h:x.Coefs.length<=1048576):zQG x y=some (afB x y):=by
 unfold zQG afB;rw[specEqI _ _ h];cases eqI x.Coefs y.Coefs <;> cases x.Const==y.Const <;> rfl
end Go.LN
namespace Go.LN
theorem specLex(a b:List Int)(ha:a.length<=1048576)(hl:a.length=b.length):zQJ a b=some (ltL a b):=by
 have key:∀(j q:Nat),q+j=a.length->(∃c,zPz a b (q:Int)=some (.ret c)/\c=ltL (a.drop q) (b.drop q))∨(zPz a b (q:Int)=some (.done ())/\ltL (a.drop q) (b.drop q)=false):=by
  intro j
  induction j with
  | zero=>
   intro q hq;refine .inr ⟨?_,?_⟩
   ·rw[zPz];have:¬((q:Int)<(a.length:Int)):=by omega
    simp only[this,dF,bF,if_false,oB,oS,oP]
   ·rw[dN.2 (show a.length<=q by omega),dN.2 (show b.length<=q by omega)];rfl
  | succ j ih=>
   intro q hq;have h1:q<a.length:=by omega
   have h2:q<b.length:=by omega
   have hc:((q:Int)<(a.length:Int)):=by omega
   have ba:((q:Int)<(b.length:Int)):=by omega
   rw[zPz,gC h1,gC h2];simp only[hc,ba,dT,if_true,xA h1,xA h2,oB,oS,oP];unfold ltL;rw[cmpL];by_cases e1:a[q]<b[q]
   ·refine .inl ⟨true,?_,?_⟩
    ·have:(a[q] != b[q])=true:=by simp;omega
     simp[this,e1]
    ·simp[e1]
   ·by_cases e2:b[q]<a[q]
    ·refine .inl ⟨false,?_,?_⟩
     ·have:(a[q] != b[q])=true:=by simp;omega
      simp[this,e1]
     ·simp[e1,e2]
    ·have:(a[q] != b[q])=false:=by simp;omega
     simp only[this,bF,if_false,e1,e2];rw[uF (by omega)];exact ih (q+1) (by omega)
 unfold zQJ;have h:=key a.length 0 (Nat.zero_add _);rw[nZ,List.drop_zero,List.drop_zero] at h;rcases h with⟨c,h,rfl⟩|⟨h,h2⟩
 ·simp only[h,oB,oS,oP]
 ·have:¬((a.length:Int)<(b.length:Int)):=by omega
  simp only[h,h2,this,dF,oB,oS,oP]
end Go.LN
namespace Go.LN
theorem specSd(a b:List zA)(ha:BL a):zQE a b=some (eqL afB a b):=by
 have hb:=ha.1;unfold zQE;by_cases hl:a.length=b.length
 ·have hf:=zKL (q:=afB) hl (f:=zPy a b) (λi h1 h2=>by
   rw[zPy];have c:((i:Int)<(a.length:Int)):=by omega
   have hc:=ha.2 _ (gM h1);simp only[c,dT,if_true,xA h1,xA h2,specAff _ _ (show a[i].Coefs.length<=1048576 by unfold BA at hc;omega),oB,oS,oP];rw[uF (by omega)];cases afB a[i] b[i] <;> rfl) (by rw[zPy];simp)
  have e:((a.length:Int) != (b.length:Int))=false:=by simp[hl]
  rw[hf,e];cases eqL afB a b <;> rfl
 ·have e:((a.length:Int) != (b.length:Int))=true:=by simp;omega
  rw[e,zIE hl];rfl
theorem specNs(a b:List zG)(ha:BN a):zQI a b=some (eqL lpB a b):=by
 have hb:=ha.1;unfold zQI;by_cases hl:a.length=b.length
 ·have hf:=zKL (q:=lpB) hl (f:=zQA a b) (λi h1 h2=>by
   rw[zQA];have c:((i:Int)<(a.length:Int)):=by omega
   have hc:=ha.2 _ (gM h1);simp only[c,dT,if_true,xA h1,xA h2,specSd _ _ hc.1,specSd _ _ hc.2,oB,oS,oP];rw[uF (by omega)];unfold lpB;cases eqL afB a[i].Lo b[i].Lo <;> cases eqL afB a[i].Hi b[i].Hi <;> rfl) (by rw[zQA];simp)
  have e:((a.length:Int) != (b.length:Int))=false:=by simp[hl]
  rw[hf,e];cases eqL lpB a b <;> rfl
 ·have e:((a.length:Int) != (b.length:Int))=true:=by simp;omega
  rw[e,zIE hl];rfl
end Go.LN
namespace Go.LN
def cntP(L:List zF):Nat:=(L.map λx=>(nestPts x.Nest).1.length*x.Body.length).sum
theorem zQR(P:zC):(progI P).length=cntP P.Parts:=by
 unfold progI cntP;rw[List.length_flatMap]
 congr 1
 refine List.ext_getElem (by simp) λi h1 h2=>?_;have hi:i<P.Parts.length:=by simpa using h2
 simp[zJe,zLk hi]
theorem zQZ(a b:List zF):cntP (a++b)=cntP a+cntP b:=by unfold cntP;rw[List.map_append,List.sum_append]
theorem zQM(x:zF)(b:List zF):cntP (x::b)=(nestPts x.Nest).1.length*x.Body.length+cntP b:=by unfold cntP;rw[List.map_cons,List.sum_cons]
theorem zQa{P:zC}{k:Nat}(h:k+1<P.Parts.length)(hn:(gP P k).Nest=(gP P (k+1)).Nest):(progI (fuP P k)).length=(progI P).length:=by
 rw[zQR,zQR];have e:cntP P.Parts=cntP (P.Parts.take k++gP P k::gP P (k+1)::P.Parts.drop (k+2)):=by
  rw[<- zP9 h,<- zP9 (show k<P.Parts.length by omega),List.take_append_drop]
 rw[e];unfold fuP;simp only;rw[zQZ,zQZ,zQM,zQM,zQM];dsimp only;rw[<- hn,lA,Nat.mul_add];omega
theorem zQb{P:zC}{k n:Nat}(h:k<P.Parts.length):(progI (diP P k n)).length=(progI P).length:=by
 rw[zQR,zQR];have e:cntP P.Parts=cntP (P.Parts.take k++gP P k::P.Parts.drop (k+1)):=by
  rw[<- zP9 h,List.take_append_drop]
 have e2:(gP P k).Body.length=((gP P k).Body.take n).length+((gP P k).Body.drop n).length:=by
  rw[<- lA,List.take_append_drop]
 rw[e];unfold diP;simp only;rw[zQZ,zQZ,zQM,zQM,zQM];dsimp only;rw[e2,Nat.mul_add];omega
end Go.LN
namespace Go.LN
theorem zQc{P:zC}(hb:BG P)(hv:validP P=true){part:Int}(h0:0<=part)(h1:part+1<(P.Parts.length:Int))(hn:(gP P part.toNat).Nest=(gP P (part.toNat+1)).Nest):zPw part (progI P) (dpF P) zP 0=some (if(dpF P).any (fuD P part) then .ret (zP,false) else .done zP):=by
 have bf:=zMI (P:=P);have h4:=(zAr hv (show 0<P.Parts.length by omega)).2.2;rw[<- zHS (dpF P) (fuD P part) ⟨0,0,0⟩];refine zJj (f:=zPw part (progI P) (dpF P) zP) (λi hi=>?_) ?_
 ·have hc:((i:Int)<((dpF P).length:Int)):=by omega
  obtain⟨a1,a2,a3,a4⟩:=zNd (gM hi);have hg:(dpF P).getD i ⟨0,0,0⟩=(dpF P)[i]:=by simp[hi]
  rw[zPw,hg];simp only[hc,dT,if_true,xA hi,a1,a2,oB,oS,oP];unfold fuD;rw[rE (x:=part+1) (by omega) (by omega),uF (by omega)];have l1:=zOa hb hv a3;have l2:=zOa hb hv a4;by_cases e1:(zIns P (dpF P)[i].From.toNat).Part=part
  ·by_cases e2:(zIns P (dpF P)[i].To.toNat).Part=part+1
   ·rw[e1] at l1;rw[e2,show (part+1).toNat=part.toNat+1 by omega,<- hn] at l2;have hL:=specLex (zIns P (dpF P)[i].To.toNat).Point (zIns P (dpF P)[i].From.toNat).Point (by omega) (by omega);simp only[e1,e2,bQ,if_true,hL,oS,Bool.true_and,id];cases ltL (zIns P (dpF P)[i].To.toNat).Point (zIns P (dpF P)[i].From.toNat).Point <;> rfl
   ·have:((zIns P (dpF P)[i].To.toNat).Part==part+1)=false:=by simpa using e2
    simp only[this,e1,bQ,if_true];rfl
  ·have:((zIns P (dpF P)[i].From.toNat).Part==part)=false:=by simpa using e1
   simp only[this];rfl
 ·rw[zPw];simp
theorem specFu(P:zC)(hb:BG P)(part:Int):zQH P part=some (fuF P part):=by
 unfold zQH fuF okFu;rw[sowPg P hb];simp only[oB,oS,specValidP P hb,oP];cases hv:validP P with
 | false=>rfl
 | true=>
  have h4:=(gV hv).2.1;simp only[bT,bF,if_false,Bool.true_and,rE (x:=(P.Parts.length:Int) - 1) (by omega) (by omega)];by_cases h0:0<=part
  ·have h0':¬(part<0):=by omega
   by_cases h1:part+1<(P.Parts.length:Int)
   ·have h1':¬(part>=(P.Parts.length:Int) - 1):=by omega
    have b1:=hb.2.2 _ (zLL (show part.toNat<P.Parts.length by omega));have q1:=zAr hv (show part.toNat<P.Parts.length by omega);have q2:=zAr hv (show part.toNat+1<P.Parts.length by omega);have ei:idx P.Parts (part+1)=some (gP P (part.toNat+1)):=by
     have:=zKM (P:=P) (part:=part+1) (by omega) h1;rwa[show (part+1).toNat=part.toNat+1 by omega] at this
    have ep0:idx P.Parts part=some (gP P part.toNat):=zKM h0 (by omega);simp only[h0,h0',h1,h1',dT,dF,bF,if_false,Bool.and_self,Bool.true_and,ep0,oS,rE (x:=part+1) (by omega) (by omega),ei,specNs _ _ b1.1];cases hn:eqL lpB (gP P part.toNat).Nest (gP P (part.toNat+1)).Nest with
    | false=>rfl
    | true=>
     simp only[bT,bF,if_false,Bool.true_and,specInsts P hv,sDeps hb hv,oS];rw[show zPw part (progI P) (dpF P) (zC.mk ([]:List zD) ([]:List zF)) 0=_ from zQc hb hv h0 h1 (zPq.1 hn)];cases hd:(dpF P).any (fuD P part) with
     | true=>rfl
     | false=>
      have e1:app 152 ([]:List zI) (gP P part.toNat).Body=some (gP P part.toNat).Body:=appN _ (by omega);have e2:app 152 (gP P part.toNat).Body (gP P (part.toNat+1)).Body=some ((gP P part.toNat).Body++(gP P (part.toNat+1)).Body):=qJ (by omega);simp only[bF,if_false,Bool.not_false,if_true,oS];have hw:zBG P part 2 [zF.mk (gP P part.toNat).Nest ((gP P part.toNat).Body++(gP P (part.toNat+1)).Body)]=some (finQ (fuP P part.toNat)):=specWith hb hv (zOq hb hv (k:=part.toNat) (by omega)) (k:=part.toNat) (m:=2) (by omega) (by simp) rfl (by unfold fuP;simp) (by omega) rfl;rw[e1];simp only[oS,e2,hw]
   ·have h1':part>=(P.Parts.length:Int) - 1:=by omega
    simp only[h0,h0',h1,h1',dT,dF,bF,if_false,if_true,Bool.and_false,Bool.false_and,oS];rfl
  ·have h0':part<0:=by omega
   simp only[h0,h0',dT,dF,if_true,Bool.false_and,bF,if_false,oS];rfl
theorem zQW{P:zC}{part:Int}(h:okFu P part=true):validP P=true/\0<=part/\part.toNat+1<P.Parts.length/\(gP P part.toNat).Nest=(gP P (part.toNat+1)).Nest/\(dpF P).any (fuD P part)=false:=by
 simp only[okFu,bA,decide_eq_true_eq,Bool.not_eq_true'] at h;exact⟨h.1.1.1,h.1.1.2.1,by omega,zPq.1 h.1.2,h.2⟩
theorem zQ3{P:zC}{part n:Int}(h:okDi P part n=true):validP P=true/\0<=part/\part.toNat<P.Parts.length/\1<=n/\n<((gP P part.toNat).Body.length:Int)/\(dpF P).any (diD P part n)=false:=by
 simp only[okDi,bA,decide_eq_true_eq,Bool.not_eq_true'] at h;exact⟨h.1.1.1,h.1.1.2.1,by omega,h.1.2.1,h.1.2.2,h.2⟩
theorem zQd{P:zC}(hb:BG P)(part:Int):BG (fuF P part).1:=by
 unfold fuF;split
 ·rename_i h;obtain⟨h1,_,h3,_⟩:=zQW h;exact zPr (zOq hb h1 h3)
 ·exact zPx
theorem zQ6{P:zC}{part:Int}(h:(fuF P part).2=true):okFu P part=true/\validP (fuP P part.toNat)=true/\fuF P part=(fuP P part.toNat,true):=by
 unfold fuF at h ⊢;split at h
 ·rename_i h1;unfold finQ at h ⊢;split at h
  ·rename_i h2;exact⟨h1,h2,by rw[if_pos h1,if_pos h2]⟩
  ·cases h
 ·cases h
theorem zQ7{P:zC}{part n:Int}(h:(diF P part n).2=true):okDi P part n=true/\validP (diP P part.toNat n.toNat)=true/\diF P part n=(diP P part.toNat n.toNat,true):=by
 unfold diF at h ⊢;split at h
 ·rename_i h1;unfold finQ at h ⊢;split at h
  ·rename_i h2;exact⟨h1,h2,by rw[if_pos h1,if_pos h2]⟩
  ·cases h
 ·cases h
theorem drawFu(code:List UInt8):Ok (zQD code) (λy=>BG y.1):=by
 unfold zQD;exact Ok.call (zOp code) trivial λs hs=>Ok.bind (args8 s (by omega) (by omega)) λy hy=>Ok.pure hy
theorem zQ4(code:List UInt8):∃r,zQF code=some r/\r=true:=by
 unfold zQF;by_cases hc:(code.length:Int)>1048576
 ·exact⟨true,by simp only[hc,dT,if_true];rfl,rfl⟩
 ·obtain⟨⟨P,part⟩,hy,hb⟩:=drawFu code;dsimp only at hb;have c1:(fuF P part).2=true->((((fuF P part).1.Parts.length:Int)==(W ((P.Parts.length:Int) - 1)))=true/\∃l:List zR,zBE (fuF P part).1=some l/\l.length=(progI P).length):=by
   intro hf;obtain⟨h1,h2,h3⟩:=zQ6 hf;obtain⟨k1,k2,k3,k4,k5⟩:=zQW h1;have h4:=(gV k1).2.1;rw[h3,rE (by omega) (by omega)];refine⟨by simp only[zP6 k3,beq_iff_eq];omega,_,implInstP _ (zOq hb k1 k3),?_⟩;rw[if_pos h2,zQa k3 k4]
  have c2:(diF P part 1).2=true->((((diF P part 1).1.Parts.length:Int)==(W ((P.Parts.length:Int)+1)))=true/\∃l:List zR,zBE (diF P part 1).1=some l/\l.length=(progI P).length):=by
   intro hf;obtain⟨h1,h2,h3⟩:=zQ7 hf;obtain⟨k1,k2,k3,k4,k5,k6⟩:=zQ3 h1;have h4:=(gV k1).2.1;rw[h3,rE (by omega) (by omega)];refine⟨by simp only[zP7 k3,beq_iff_eq];omega,_,implInstP _ (zPn hb k1 k3),?_⟩;rw[if_pos h2,zQb k3]
  have hv:(fuF P part).2=true∨(diF P part 1).2=true->validP P=true:=by
   rintro(h|h)
   ·exact(zQW (zQ6 h).1).1
   ·exact(zQ3 (zQ7 h).1).1
  refine⟨true,?_,rfl⟩;simp only[hc,dF,bF,if_false,hy,oB,oS,implFu P hb,specFu P hb,implDi P hb,bQ,bT,sPg _ (zQd hb part),oP,implInstP P hb];cases hf:(fuF P part).2 with
  | false=>
   simp only[Bool.not_false,if_true];cases hd:(diF P part 1).2 with
   | false=>rfl
   | true=>
    obtain⟨a1,l,a2,a3⟩:=c2 hd;simp only[bT,bF,if_false,a1,if_true,a2,oS,hv (.inr hd),a3,bQ,id]
  | true=>
   obtain⟨a1,l,a2,a3⟩:=c1 hf;simp only[bT,bF,if_false,a1,if_true,a2,oS,hv (.inl hf),a3,bQ];cases hd:(diF P part 1).2 with
   | false=>rfl
   | true=>
    obtain⟨b1,l',b2,b3⟩:=c2 hd;simp only[bT,bF,if_false,b1,if_true,b2,oS,b3,bQ,id]
end Go.LN
