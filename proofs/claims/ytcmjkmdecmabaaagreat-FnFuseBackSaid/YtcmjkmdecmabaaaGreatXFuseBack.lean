/- Helper of the proof (see the last text). -/
import Derived.Test.YtcmjkmdecmabaaaGreatLnA
import Derived.Test.YtcmjkmdecmabaaaGreatLnI
import Derived.Test.YtcmjkmdecmabaaaGreatLnP
import Derived.Test.YtcmjkmdecmabaaaGreatLnYP
import Derived.Test.YtcmjkmdecmabaaaGreatTryzShelf
import Derived.Test.YtcmjkmdecmabaaaGreatZQ
import Derived.Test.YtcmjkmdecmabaaaGreatHM1
import Derived.Test.YtcmjkmdecmabaaaGreatHM2
import Derived.Test.YtcmjkmdecmabaaaGreatHM3
import Derived.Test.YtcmjkmdecmabaaaGreatHM4
import Derived.Test.YtcmjkmdecmabaaaGreatHM5
import Derived.Test.YtcmjkmdecmabaaaGreatHM6
import Derived.Test.YtcmjkmdecmabaaaGreatHM7
import Derived.Test.YtcmjkmdecmabaaaGreatHM8
import Derived.Test.YtcmjkmdecmabaaaGreatHM9
import Derived.Test.YtcmjkmdecmabaaaGreatQT
import Derived.Test.YtcmjkmdecmabaaaGreatQZ
import Derived.Test.YtcmjkmdecmabaaaGreatVB1
import Derived.Test.YtcmjkmdecmabaaaGreatVC1
import Derived.Test.YtcmjkmdecmabaaaGreatLnR
set_option linter.unusedVariables false
set_option linter.unusedSimpArgs false
namespace Go.LN
open Go.Proofs
set_option maxRecDepth 20000
abbrev eVProg(x:zC):Imm->Value->List HA->Prop:=λI' v hx=>∃p0 c0 p1 c1,v=vA (cProg x p0 c0 p1 c1)/\hx=[]/\S4 I' p0 x.Arrays c0/\S4 I' p1 x.Parts c1
end Go.LN
namespace Go.LN
open Go.Proofs
set_option maxRecDepth 20000
def zQK(r:zC×Int):KT:=λkk I' ag v=>
 ∃v0 v1,ag=[]/\v=tupV [v0,v1]/\(∃cs,v0=.agg ⟨cs⟩/\Rp.rep I' cs r.1)/\v1=.int .i64 r.2
def zQB(code:(List UInt8)):Option (zC×Int):=do
 let y<-zAk code;let (y2,y3,y4,y5,y6)<-zBF y;pure (y2,y3)
theorem zQL:∀code r,zQB code=some r->∀{I:Imm}{p c},(S4 I p code c)->RT 21 [vS p code c] I [] (zQK  r):=by
 intro code r N I p c h;unfold zQB at N;refine yM Tryz.func21 λB=>yD<|xY zTwo ?_;intro b hb;refine wM [] []<|yY<|yG 1 [] [9] rfl<|bE N λy hy N=>xK (zMf code _ hy h) ?_;rintro I0 ax v2 k2 le - ⟨b1,p1,c1,rfl,rfl,h1⟩ -;obtain⟨⟨y2,y3,y4,y5,y6⟩,az,N⟩:=zB N;refine qB (zNO y _ az h1) rfl ?_;rintro aP ax v2 k2 aa - ⟨v0,v01,v02,v03,kk,rfl,rfl,⟨cs,rfl,h2⟩,rfl,rfl,rfl,h6⟩ -;obtain⟨p2,c2,p3,c3,rfl,h7,h8⟩:=kT h2;obtain⟨p4,c4,rfl,h9⟩:=yJ h6;refine yG 8 [] [12,13,14,15] rfl<|xY zTwo ?_;intro b2 hb1;refine xC 0 (cProg y2 p2 c2 p3 c3) rfl<|yQ [] [5] rfl<|yY<|uW 2 [0] [(16,vA (cProg y2 p2 c2 p3 c3)),(17,vI y3)]<|xC 2 (cProg y2 p2 c2 p3 c3) rfl<|yQ [] [3] rfl<|zK<|xD ?_;exact xX N (resE 2 rfl rfl rfl) zO ⟨_,_,rfl,rfl,⟨_,rfl,(xJ ⟨_,_,rfl,h7,h8⟩)⟩,rfl⟩
def zQA(a0:(List Int))(b:(List Int))(i:Int):Option (Out Unit (Bool)):=do
 if(decide (i<(a0.length:Int))) then
  let x<-idx a0 i;let x1<-idx b i;if(x != x1) then pure (.ret false)
  else zQA a0 b (W (i+1))
 else pure (.done ())
 partial_fixpoint
theorem zQT(a0:(List Int))(b:(List Int)):∀(i:Int) (o:Out Unit (Bool)),zQA a0 b i=some o->∀{B}{I0 I:Imm}{Q p c p1 c1},I0.le I->(S4 I p a0 c)->(S4 I p1 b c1)->NG Q->NO Q->(∀I',o=(.done ())->I0.le I'->T 26 B Q (.exit 0) I' [] [])->(∀r I' ag m',o=(.ret r)->I0.le I'->RS Tryz.prog Tryz.f76 B (zW  r) I' ag m'->T 26 B Q .ret I' ag m')->J Tryz.prog 26 B (nav (bodyOf Tryz.f76) [1,1,0,1,0]) Q I [] [(0,vS p a0 c),(1,vS p1 b c1),(5,vI i)]:=by
 refine zQA.partial_correctness a0 b _ λaJ ih i o N B I0 I Q p c p1 c1 H h h1 hg ho hx hr=>yX hg ho<|yC<|yK [14] rfl<|zK<|yH N ?_ ?_
 ·intro aH N;refine zT<|yA<|yL<|yC<|zA5 (by kernel_rfl) (by kernel_rfl)<|zB2 2 [] [17,18] rfl<|bE N λx hy N=>zDk rfl rfl h hy ?_;intro ad aN aq am;obtain rfl:=am;refine zC5 0 aq [vI x] (vI x) rfl<|zB2 6 [] [21,22] rfl<|bE N λx1 az N=>zDk rfl rfl h1 az ?_;intro ad1 bq aw ay;obtain rfl:=ay;refine zC5 0 aw [vI x1] (vI x1) rfl<|zK5 [] [25] rfl<|zK<|yH N ?_ ?_
  ·intro ba N;exact wZ [(4,vF)]<|xH<|zV<|zJ<|zJ<|hr _ _ _ _ (zE N).symm H ⟨_,_,(resT rfl),zO,⟨_,rfl,rfl,rfl⟩⟩
  intro ba N;exact zT<|zN<|zK<|zL<|yQ [] [5] rfl<|yV<|nX<|ih (W (i+1)) _ N H h h1 hg ho hx hr
 intro aH N;exact wW<|yZ<|hx _  (zE N).symm H
def zQI(a0:(List Int))(b:(List Int)):Option (Bool):=do
 if((a0.length:Int) != (b.length:Int)) then pure false
 else
  match<-zQA a0 b 0 with
  | .ret r0=>pure r0
  | .done _=>
   pure true
theorem zQZ:∀a0 b r,zQI a0 b=some r->∀{I:Imm}{p c p1 c1},(S4 I p a0 c)->(S4 I p1 b c1)->RT 76 [vS p a0 c,vS p1 b c1] I [] (zW  r):=by
 intro a0 b r N I p c p1 c1 h h1;unfold zQI at N;refine yM Tryz.func76 λB=>wZ []<|yA<|yK [10] rfl<|zK<|yH N ?_ ?_
 ·intro hc N;refine wZ [(4,vF)]<|xH<|zJ ?_;obtain rfl:=zE N;exact vH
 intro hc N;refine zT<|yA<|yK [5] rfl<|wN<|qX [(0,vS p a0 c),(1,vS p1 b c1),(5,vI 0)] ?_;obtain⟨o0,aA,aE⟩:=zB N;refine zQT a0 b 0 o0 aA iR h h1 nG nO ?_ ?_
 ·intro I0  heq le;subst o0;refine zS<|zE3 [(4,vY)]<|zK<|xD ?_;obtain rfl:=zE aE;exact vH
 intro r0 I9 hs9 m9 aT le9 aV;subst aT;refine zV<|zJ ?_;obtain rfl:=zE aE;exact jW aV
def zQD(a0:zA)(b:zA):Option (Bool):=do
 let t4<-(do
  if(a0.Const==b.Const) then
   let y<-zQI a0.Coefs b.Coefs;pure (id y)
  else
   pure false
    : Option Bool)
 pure (id t4)
theorem zQP:∀a0 b r,zQD a0 b=some r->∀{I:Imm}{p c p1 c1},(S4 I p a0.Coefs c)->(S4 I p1 b.Coefs c1)->RT 154 [vA (cAff a0 p c),vA (cAff b p1 c1)] I [] (zW  r):=by
 intro a0 b r N I p c p1 c1 h h1;unfold zQD at N;refine yM Tryz.func154 λB=>?_;have H:=iS I;refine yD<|vC (cAff a0 p c) ?_;intro b1 hb;refine vC (cAff b p1 c1) ?_;intro b2 hb1;refine wM [] []<|zK<|yC ?_;refine vQ N [] (λt4=>[(4,.bool t4)]) (λo0 aA=>?_) ?_
 ·have H:=iS I;refine zL<|yG 6 [1,0] [10] rfl<|wR [10] aA ?_ ?_
  ·intro hc N;refine yG 10 [1,0] [12,14] rfl<|bE N λy hy N=>tA (zQZ a0.Coefs b.Coefs _ hy h h1) ?_;intro aP le;have H:=H.trans le;exact yQ [] [4] rfl<|wK zO<|yZ<|zU (ct N H)
  intro hc N;exact wM [] [(4,vF)]<|wK zO<|yZ<|zU (ct N H)
 intro t4 I0 aa aX;refine zK<|xD ?_;obtain rfl:=zE aX;exact vH
def zPw(a0:(List zA))(b:(List zA))(i:Int):Option (Out Unit (Bool)):=do
 if(decide (i<(a0.length:Int))) then
  let x<-idx a0 i;let x1<-idx b i;let y<-zQD x x1;if(!y) then pure (.ret false)
  else zPw a0 b (W (i+1))
 else pure (.done ())
 partial_fixpoint
theorem zQM(a0:(List zA))(b:(List zA)):∀(i:Int) (o:Out Unit (Bool)),zPw a0 b i=some o->∀{B}{I0 I:Imm}{Q p c p1 c1},I0.le I->(S4 I p a0 c)->(S4 I p1 b c1)->NG Q->NO Q->(∀I',o=(.done ())->I0.le I'->T 27 B Q (.exit 0) I' [] [])->(∀r I' ag m',o=(.ret r)->I0.le I'->RS Tryz.prog Tryz.f112 B (zW  r) I' ag m'->T 27 B Q .ret I' ag m')->J Tryz.prog 27 B (nav (bodyOf Tryz.f112) [1,1,0,1,0]) Q I [] [(0,vS p a0 c),(1,vS p1 b c1),(5,vI i)]:=by
 refine zPw.partial_correctness a0 b _ λaJ ih i o N B I0 I Q p c p1 c1 H h h1 hg ho hx hr=>yX hg ho<|yC<|yK [14] rfl<|zK<|yH N ?_ ?_
 ·intro aH N;refine zT<|yA<|yL<|yC ?_;obtain⟨x,hy,N⟩:=zB N;obtain⟨x1,az,N⟩:=zB N;obtain⟨y,aG,N⟩:=zB N;refine wP [.p (vS p a0 c) [],.p (vI i) [],.x (ePAff x),.x (eVAff x),.p (vS p1 b c1) [],.p (vI i) [],.x (ePAff x1),.x (eVAff x1),.q (.bool y),.p (.bool (!y)) []] [[],[],[(0,false),(1,false)],[(2,false)],[],[],[(4,false),(5,false)],[(6,false)],[(3,false),(7,false)],[(8,false)]] [] [] [(9,false)] zO ?_ ?_
  ·refine O2<|Ox ?_<|Ox ?_<|O2<|Ox ?_<|Ox ?_<|Oq ?_<|Op<|On
   ·intro I1 hf aa;refine yW [17,18] rfl ?_;have h:=h.mono aa;refine xW rfl rfl h hy ?_;intro ad aN aq am;obtain⟨p2,c2,rfl,h2⟩:=yI am;exact yN [] iR ⟨_,_,_,rfl,rfl,aq,h2⟩
   ·rintro I1 hf aa _ _ ⟨ad,p2,c2,rfl,rfl,aq,h2⟩;exact yW [19] rfl<|xM 0 aq (cAff x p2 c2) (vA (cAff x p2 c2)) rfl<|yN [] iR ⟨_,_,rfl,rfl,h2⟩
   ·intro I1 hf aa;refine yW [21,22] rfl ?_;have h1:=h1.mono aa;refine xW rfl rfl h1 az ?_;intro ad1 bq aw ay;obtain⟨p3,c3,rfl,h3⟩:=yI ay;exact yN [] iR ⟨_,_,_,rfl,rfl,aw,h3⟩
   ·rintro I1 hf aa _ _ ⟨ad1,p3,c3,rfl,rfl,aw,h3⟩;exact yW [23] rfl<|xM 0 aw (cAff x1 p3 c3) (vA (cAff x1 p3 c3)) rfl<|yN [] iR ⟨_,_,rfl,rfl,h3⟩
   rintro I1 hf aa _ _ ⟨p21,c21,rfl,rfl,h21⟩ _ _ ⟨p31,c31,rfl,rfl,h31⟩;refine yW [20,24] rfl ?_;have H:=iS I1;refine tA (zQP x x1 _ aG h21 h31) ?_;intro I0 le;have H:=H.trans le;exact xO H
  intro aP aa;refine yW [0,1,5,26] rfl ?_;have ⟨h,h1,H⟩:=m3 aa h h1 H;refine zY rfl<|zK<|yH N ?_ ?_
  ·intro ba N;exact wZ [(4,vF)]<|xH<|zV<|zJ<|zJ<|hr _ _ _ _ (zE N).symm H ⟨_,_,(resT rfl),zO,⟨_,rfl,rfl,rfl⟩⟩
  intro ba N;exact zT<|zN<|zK<|zL<|yQ [] [5] rfl<|yV<|nX<|ih (W (i+1)) _ N H h h1 hg ho hx hr
 intro aH N;exact wW<|yZ<|hx _  (zE N).symm H
def zQC(a0:(List zA))(b:(List zA)):Option (Bool):=do
 if((a0.length:Int) != (b.length:Int)) then pure false
 else
  match<-zPw a0 b 0 with
  | .ret r0=>pure r0
  | .done _=>
   pure true
theorem zQJ:∀a0 b r,zQC a0 b=some r->∀{I:Imm}{p c p1 c1},(S4 I p a0 c)->(S4 I p1 b c1)->RT 112 [vS p a0 c,vS p1 b c1] I [] (zW  r):=by
 intro a0 b r N I p c p1 c1 h h1;unfold zQC at N;refine yM Tryz.func112 λB=>wZ []<|yA<|yK [10] rfl<|zK<|yH N ?_ ?_
 ·intro hc N;refine wZ [(4,vF)]<|xH<|zJ ?_;obtain rfl:=zE N;exact vH
 intro hc N;refine zT<|yA<|yK [5] rfl<|wN<|qX [(0,vS p a0 c),(1,vS p1 b c1),(5,vI 0)] ?_;obtain⟨o0,aA,aE⟩:=zB N;refine zQM a0 b 0 o0 aA iR h h1 nG nO ?_ ?_
 ·intro aW  heq aC;subst o0;refine zS<|zE3 [(4,vY)]<|zK<|xD ?_;obtain rfl:=zE aE;exact vH
 intro r0 I9 hs9 m9 aT le9 aV;subst aT;refine zV<|zJ ?_;obtain rfl:=zE aE;exact jW aV
end Go.LN
namespace Go.LN
open Go.Proofs
set_option maxRecDepth 20000
def zPz(a0:(List zG))(b:(List zG))(i:Int):Option (Out Unit (Bool)):=do
 if(decide (i<(a0.length:Int))) then
  let t42<-(do
   let x<-idx a0 i;let x1<-idx b i;let y<-zQC x.Lo x1.Lo;if(!y) then pure true
   else
    let x2<-idx a0 i;let x3<-idx b i;let y1<-zQC x2.Hi x3.Hi;pure (!y1)
     : Option Bool)
  if t42 then pure (.ret false)
  else zPz a0 b (W (i+1))
 else pure (.done ())
 partial_fixpoint
theorem zQO(a0:(List zG))(b:(List zG)):∀(i:Int) (o:Out Unit (Bool)),zPz a0 b i=some o->∀{B}{I0 I:Imm}{Q p c p1 c1},I0.le I->(S4 I p a0 c)->(S4 I p1 b c1)->NG Q->NO Q->(∀I',o=(.done ())->I0.le I'->T 43 B Q (.exit 0) I' [] [])->(∀r I' ag m',o=(.ret r)->I0.le I'->RS Tryz.prog Tryz.f70 B (zW  r) I' ag m'->T 43 B Q .ret I' ag m')->J Tryz.prog 43 B (nav (bodyOf Tryz.f70) [1,1,0,1,0]) Q I [] [(0,vS p a0 c),(1,vS p1 b c1),(5,vI i)]:=by
 refine zPz.partial_correctness a0 b _ λaJ ih i o N B I0 I Q p c p1 c1 H h h1 hg ho hx hr=>yX hg ho<|yC<|yK [14] rfl<|zK<|yH N ?_ ?_
 ·intro aH N;refine zT<|yA<|yL<|yC ?_;refine vQ N [] (λt42=>[(0,vS p a0 c),(1,vS p1 b c1),(5,vI i),(42,.bool t42)]) (λo0 aA=>?_) ?_
  ·have H:=iS I;obtain⟨x,hy,N⟩:=zB aA;obtain⟨x1,az,N⟩:=zB N;obtain⟨y,aG,N⟩:=zB N;cases ba:(!y) with
   | true=>
    have hM0:=rZ ba N;refine wP [.p (vS p a0 c) [],.p (vI i) [],.x (ePLoop x),.x (ePLoop x),.x (eS x.Lo),.p (vS p1 b c1) [],.p (vI i) [],.x (ePLoop x1),.x (ePLoop x1),.x (eS x1.Lo),.q (.bool y),.q vY,.q vY,.p undef [],.p undef [],.p undef [],.p undef [],.p undef [],.p undef [],.p undef [],.p undef [],.p undef [],.p undef [],.p undef [],.p undef [],.p vY []] [[],[],[(0,false),(1,false)],[(2,false)],[(3,false)],[],[],[(5,false),(6,false)],[(7,false)],[(8,false)],[(4,false),(9,false)],[(10,false)],[(11,false)],[(12,false)],[(12,false)],[(12,false),(13,false),(14,false)],[(12,false),(15,false)],[(12,false),(16,false)],[(12,false)],[(12,false)],[(12,false),(18,false),(19,false)],[(12,false),(20,false)],[(12,false),(21,false)],[(12,false),(17,false),(22,false)],[(12,false),(23,false)],[(12,false),(24,false)]] [] [] [(25,false)] zO ?_ ?_
    ·refine O2<|Ox ?_<|Ox ?_<|Ox ?_<|O2<|Ox ?_<|Ox ?_<|Ox ?_<|Oq ?_<|Oq ?_<|Oq ?_<|O4<|O4<|O4<|Op<|On
     ·intro I1 hf aa;refine yW [17,18] rfl ?_;have h:=h.mono aa;refine xW rfl rfl h hy ?_;intro ad aN aq am;obtain⟨p2,c2,p3,c3,rfl,h2,h3⟩:=vD am;exact yN [] iR ⟨_,_,_,_,_,rfl,rfl,aq,h2,h3⟩
     ·rintro I1 hf aa _ _ ⟨ad,p2,c2,p3,c3,rfl,rfl,aq,h2,h3⟩;exact yW [19] rfl<|oN 4 [(20,.pointer (some ad))]<|yN [] iR ⟨_,_,_,_,_,rfl,rfl,aq,h2,h3⟩
     ·rintro I1 hf aa _ _ ⟨ad1,p21,c21,p31,c31,rfl,rfl,aw,h21,h31⟩;exact yW [20] rfl<|xM 0 aw [vS p21 x.Lo c21] (vS p21 x.Lo c21) rfl<|yN [] iR ⟨_,_,rfl,rfl,h21⟩
     ·intro I1 hf aa;refine yW [22,23] rfl ?_;have h1:=h1.mono aa;refine xW rfl rfl h1 az ?_;intro ad2 bq bk ay;obtain⟨p4,c4,p5,c5,rfl,h4,h5⟩:=vD ay;exact yN [] iR ⟨_,_,_,_,_,rfl,rfl,bk,h4,h5⟩
     ·rintro I1 hf aa _ _ ⟨ad2,p4,c4,p5,c5,rfl,rfl,bk,h4,h5⟩;exact yW [24] rfl<|oN 9 [(25,.pointer (some ad2))]<|yN [] iR ⟨_,_,_,_,_,rfl,rfl,bk,h4,h5⟩
     ·rintro I1 hf aa _ _ ⟨ad21,p41,c41,p51,c51,rfl,rfl,hat21,h41,h51⟩;exact yW [25] rfl<|xM 0 hat21 [vS p41 x1.Lo c41] (vS p41 x1.Lo c41) rfl<|yN [] iR ⟨_,_,rfl,rfl,h41⟩
     ·rintro I1 hf aa _ _ ⟨p211,c211,rfl,rfl,h211⟩ _ _ ⟨p411,c411,rfl,rfl,h411⟩;refine yW [21,26] rfl ?_;have H:=iS I1;refine tA (zQJ x.Lo x1.Lo _ aG h211 h411) ?_;intro aP le;have H:=H.trans le;exact xO H
     ·intro I1 hf aa;refine yW [27] rfl<|oN 12 [(28,.bool (!y))] ?_;rw[ba];exact xO iR
     intro I1 hf aa;exact I_h [(28,vY)]<|oN 13 [(29,vY)]<|xO iR
    intro aW aa;refine yW [0,1,5,42] rfl ?_;have H:=H.trans aa;exact zY rfl<|yZ<|zU (ct hM0 H)
   | false=>
    have hM01:=sP ba N;obtain⟨x2,bh,N⟩:=zB hM01;obtain⟨x3,bu,N⟩:=zB N;obtain⟨y1,bC,N⟩:=zB N;refine wP [.p (vS p a0 c) [],.p (vI i) [],.x (ePLoop x),.x (ePLoop x),.x (eS x.Lo),.p (vS p1 b c1) [],.p (vI i) [],.x (ePLoop x1),.x (ePLoop x1),.x (eS x1.Lo),.q (.bool y),.q vF,.q vF,.p (vS p a0 c) [],.p (vI i) [],.x (ePLoop x2),.x (eQLoop 1 x2),.x (eS x2.Hi),.p (vS p1 b c1) [],.p (vI i) [],.x (ePLoop x3),.x (eQLoop 1 x3),.x (eS x3.Hi),.q (.bool y1),.p (.bool (!y1)) [],.p (.bool (!y1)) []] [[],[],[(0,false),(1,false)],[(2,false)],[(3,false)],[],[],[(5,false),(6,false)],[(7,false)],[(8,false)],[(4,false),(9,false)],[(10,false)],[(11,false)],[(12,false)],[(12,false)],[(12,false),(13,false),(14,false)],[(12,false),(15,false)],[(12,false),(16,false)],[(12,false)],[(12,false)],[(12,false),(18,false),(19,false)],[(12,false),(20,false)],[(12,false),(21,false)],[(12,false),(17,false),(22,false)],[(12,false),(23,false)],[(12,false),(24,false)]] [] [] [(25,false)] zO ?_ ?_
    ·refine O2<|Ox ?_<|Ox ?_<|Ox ?_<|O2<|Ox ?_<|Ox ?_<|Ox ?_<|Oq ?_<|Oq ?_<|Oq ?_<|O2<|Ox ?_<|Ox ?_<|Ox ?_<|O2<|Ox ?_<|Ox ?_<|Ox ?_<|Oq ?_<|O2<|On
     ·intro I1 hf aa;refine yW [17,18] rfl ?_;have h:=h.mono aa;refine xW rfl rfl h hy ?_;intro ad aN aq am;obtain⟨p2,c2,p3,c3,rfl,h2,h3⟩:=vD am;exact yN [] iR ⟨_,_,_,_,_,rfl,rfl,aq,h2,h3⟩
     ·rintro I1 hf aa _ _ ⟨ad,p2,c2,p3,c3,rfl,rfl,aq,h2,h3⟩;exact yW [19] rfl<|oN 4 [(20,.pointer (some ad))]<|yN [] iR ⟨_,_,_,_,_,rfl,rfl,aq,h2,h3⟩
     ·rintro I1 hf aa _ _ ⟨ad1,p21,c21,p31,c31,rfl,rfl,aw,h21,h31⟩;exact yW [20] rfl<|xM 0 aw [vS p21 x.Lo c21] (vS p21 x.Lo c21) rfl<|yN [] iR ⟨_,_,rfl,rfl,h21⟩
     ·intro I1 hf aa;refine yW [22,23] rfl ?_;have h1:=h1.mono aa;refine xW rfl rfl h1 az ?_;intro ad2 bq bk ay;obtain⟨p4,c4,p5,c5,rfl,h4,h5⟩:=vD ay;exact yN [] iR ⟨_,_,_,_,_,rfl,rfl,bk,h4,h5⟩
     ·rintro I1 hf aa _ _ ⟨ad2,p4,c4,p5,c5,rfl,rfl,bk,h4,h5⟩;exact yW [24] rfl<|oN 9 [(25,.pointer (some ad2))]<|yN [] iR ⟨_,_,_,_,_,rfl,rfl,bk,h4,h5⟩
     ·rintro I1 hf aa _ _ ⟨ad21,p41,c41,p51,c51,rfl,rfl,hat21,h41,h51⟩;exact yW [25] rfl<|xM 0 hat21 [vS p41 x1.Lo c41] (vS p41 x1.Lo c41) rfl<|yN [] iR ⟨_,_,rfl,rfl,h41⟩
     ·rintro I1 hf aa _ _ ⟨p211,c211,rfl,rfl,h211⟩ _ _ ⟨p411,c411,rfl,rfl,h411⟩;refine yW [21,26] rfl ?_;have H:=iS I1;refine tA (zQJ x.Lo x1.Lo _ aG h211 h411) ?_;intro aP le;have H:=H.trans le;exact xO H
     ·intro I1 hf aa;refine yW [27] rfl<|oN 12 [(28,.bool (!y))] ?_;rw[ba];exact xO iR
     ·intro I1 hf aa;exact I_h [(28,vF)]<|oN 13 [(29,vF)]<|xO iR
     ·intro I1 hf aa;refine yW [29,30,31] rfl ?_;have h:=h.mono aa;refine xW rfl rfl h bh ?_;intro ad3 bL hat3 br;obtain⟨p6,c6,p7,c7,rfl,h7,h8⟩:=vD br;exact yN [] iR ⟨_,_,_,_,_,rfl,rfl,hat3,h7,h8⟩
     ·rintro I1 hf aa _ _ ⟨rfl,rfl⟩ _ _ ⟨ad3,p6,c6,p7,c7,rfl,rfl,hat3,h7,h8⟩;exact yW [29,32] rfl<|oN 17 [(33,.pointer (some (ad3.add 1)))]<|yN [] iR ⟨_,_,_,_,_,rfl,rfl,hat3,h7,h8⟩
     ·rintro I1 hf aa _ _ ⟨rfl,rfl⟩ _ _ ⟨ad31,p61,c61,p71,c71,rfl,rfl,hat31,h71,h81⟩;exact yW [29,33] rfl<|xM 1 hat31 [vS p71 x2.Hi c71] (vS p71 x2.Hi c71) rfl<|yN [] iR ⟨_,_,rfl,rfl,h81⟩
     ·intro I1 hf aa;refine yW [29,35,36] rfl ?_;have h1:=h1.mono aa;refine xW rfl rfl h1 bu ?_;intro ad4 ccs3 hat4 bB;obtain⟨p8,c8,p9,c9,rfl,h9,h10⟩:=vD bB;exact yN [] iR ⟨_,_,_,_,_,rfl,rfl,hat4,h9,h10⟩
     ·rintro I1 hf aa _ _ ⟨rfl,rfl⟩ _ _ ⟨ad4,p8,c8,p9,c9,rfl,rfl,hat4,h9,h10⟩;exact yW [29,37] rfl<|oN 22 [(38,.pointer (some (ad4.add 1)))]<|yN [] iR ⟨_,_,_,_,_,rfl,rfl,hat4,h9,h10⟩
     ·rintro I1 hf aa _ _ ⟨rfl,rfl⟩ _ _ ⟨ad41,p81,c81,p91,c91,rfl,rfl,hat41,h91,h101⟩;exact yW [29,38] rfl<|xM 1 hat41 [vS p91 x3.Hi c91] (vS p91 x3.Hi c91) rfl<|yN [] iR ⟨_,_,rfl,rfl,h101⟩
     rintro I1 hf aa _ _ ⟨rfl,rfl⟩ _ _ ⟨p711,c711,rfl,rfl,h811⟩ _ _ ⟨p911,c911,rfl,rfl,h1011⟩;refine yW [29,34,39] rfl ?_;have H:=iS I1;refine tA (zQJ x2.Hi x3.Hi _ bC h811 h1011) ?_;intro bx aC;have H:=H.trans aC;exact xO H
    intro bG aI;refine yW [0,1,5,42] rfl ?_;have H:=H.trans aI;exact zY rfl<|yZ<|zU (ct N H)
  intro t42 I0 aY aX;have ⟨h,h1,H⟩:=m3 aY h h1 H;refine zK<|yH aX ?_ ?_
  ·intro bD N;exact wZ [(4,vF)]<|xH<|zV<|zJ<|zJ<|hr _ _ _ _ (zE N).symm H ⟨_,_,(resT rfl),zO,⟨_,rfl,rfl,rfl⟩⟩
  intro bD N;exact zT<|zN<|zK<|zL<|yQ [] [5] rfl<|yV<|nX<|ih (W (i+1)) _ N H h h1 hg ho hx hr
 intro aH N;exact wW<|yZ<|hx _  (zE N).symm H
def zQG(a0:(List zG))(b:(List zG)):Option (Bool):=do
 if((a0.length:Int) != (b.length:Int)) then pure false
 else
  match<-zPz a0 b 0 with
  | .ret r0=>pure r0
  | .done _=>
   pure true
theorem zQW:∀a0 b r,zQG a0 b=some r->∀{I:Imm}{p c p1 c1},(S4 I p a0 c)->(S4 I p1 b c1)->RT 70 [vS p a0 c,vS p1 b c1] I [] (zW  r):=by
 intro a0 b r N I p c p1 c1 h h1;unfold zQG at N;refine yM Tryz.func70 λB=>wZ []<|yA<|yK [10] rfl<|zK<|yH N ?_ ?_
 ·intro hc N;refine wZ [(4,vF)]<|xH<|zJ ?_;obtain rfl:=zE N;exact vH
 intro hc N;refine zT<|yA<|yK [5] rfl<|wN<|qX [(0,vS p a0 c),(1,vS p1 b c1),(5,vI 0)] ?_;obtain⟨aU,aB,aE⟩:=zB N;refine zQO a0 b 0 aU aB iR h h1 nG nO ?_ ?_
 ·intro bK  heq1 bo;subst aU;refine zS<|zE3 [(4,vY)]<|zK<|xD ?_;obtain rfl:=zE aE;exact vH
 intro r0 I9 hs9 m9 aT le9 aV;subst aT;refine zV<|zJ ?_;obtain rfl:=zE aE;exact jW aV
def zPy(p:(List Int))(q:(List Int))(i:Int):Option (Out Unit (Bool)):=do
 let t15<-(do
  if(decide (i<(p.length:Int))) then pure (decide (i<(q.length:Int)))
  else
   pure false
    : Option Bool)
 if t15 then
  let x<-idx p i;let x1<-idx q i;if(x != x1) then
   let x2<-idx p i;let x3<-idx q i;pure (.ret (decide (x2<x3)))
  else zPy p q (W (i+1))
 else pure (.done ())
 partial_fixpoint
theorem zQQ(p:(List Int))(q:(List Int)):∀(i:Int) (o:Out Unit (Bool)),zPy p q i=some o->∀{B}{I0 I:Imm}{Q p1 c p2 c1},I0.le I->(S4 I p1 p c)->(S4 I p2 q c1)->NG Q->NO Q->(∀I',o=(.done ())->I0.le I'->T 41 B Q (.exit 0) I' [] [(0,vS p1 p c),(1,vS p2 q c1)])->(∀r I' ag m',o=(.ret r)->I0.le I'->RS Tryz.prog Tryz.f71 B (zW  r) I' ag m'->T 41 B Q .ret I' ag m')->J Tryz.prog 41 B (nav (bodyOf Tryz.f71) [1,0,1,0]) Q I [] [(0,vS p1 p c),(1,vS p2 q c1),(5,vI i)]:=by
 refine zPy.partial_correctness p q _ λaJ ih i o N B I0 I Q p1 c p2 c1 H h h1 hg ho hx hr=>yX hg ho<|yC<|yC ?_;refine vQ N [] (λt15=>[(0,vS p1 p c),(1,vS p2 q c1),(5,vI i),(15,.bool t15)]) (λo0 aA=>?_) ?_
 ·have H:=iS I;refine zL<|yG 5 [] [10] rfl<|wR [10] aA ?_ ?_
  ·intro hc N;exact yQ [] [15] rfl<|yZ<|zU (ct N H)
  intro hc N;exact wM [] [(15,vF)]<|yZ<|zU (ct N H)
 intro t15 I0 le aX;have ⟨h,h1,H⟩:=m3 le h h1 H;refine zK<|yH aX ?_ ?_
 ·intro aH N;refine zT<|yA<|yL<|yC<|zA5 (by kernel_rfl) (by kernel_rfl)<|zB2 2 [] [18,19] rfl<|bE N λx hy N=>zDk rfl rfl h hy ?_;intro ad aN aq am;obtain rfl:=am;refine zC5 0 aq [vI x] (vI x) rfl<|zB2 6 [] [22,23] rfl<|bE N λx1 az N=>zDk rfl rfl h1 az ?_;intro ad1 bq aw ay;obtain rfl:=ay;refine zC5 0 aw [vI x1] (vI x1) rfl<|zK5 [] [26] rfl<|zK<|yH N ?_ ?_
  ·intro ba N;refine yC<|zA5 (by kernel_rfl) (by kernel_rfl)<|zB2 2 [] [27,28] rfl<|bE N λx2 aG N=>zDk rfl rfl h aG ?_;intro ad2 bL bk br;obtain rfl:=br;refine zC5 0 bk [vI x2] (vI x2) rfl<|zB2 6 [] [31,32] rfl<|bE N λx3 bh N=>zDk rfl rfl h1 bh ?_;intro ad3 ccs3 hat3 bB;obtain rfl:=bB;exact zC5 0 hat3 [vI x3] (vI x3) rfl<|zK5 [] [4] rfl<|xH<|zV<|zJ<|zJ<|hr _ _ _ _ (zE N).symm H ⟨_,_,(resT rfl),zO,⟨_,rfl,rfl,rfl⟩⟩
  intro ba N;exact zT<|zN<|zK<|zL<|yQ [] [5] rfl<|yV<|nX<|ih (W (i+1)) _ N H h h1 hg ho hx hr
 intro aH N;exact wW<|yZ<|hx _  (zE N).symm H
def zQH(p:(List Int))(q:(List Int)):Option (Bool):=do
 match<-zPy p q 0 with
 | .ret r0=>pure r0
 | .done _=>
  pure (decide ((p.length:Int)<(q.length:Int)))
theorem zQY:∀p q r,zQH p q=some r->∀{I:Imm}{p1 c p2 c1},(S4 I p1 p c)->(S4 I p2 q c1)->RT 71 [vS p1 p c,vS p2 q c1] I [] (zW  r):=by
 intro p q r N I p1 c p2 c1 h h1;unfold zQH at N;refine yM Tryz.func71 λB=>wZ []<|yA<|yK [5] rfl<|wN<|qX [(0,vS p1 p c),(1,vS p2 q c1),(5,vI 0)] ?_;obtain⟨aU,aB,aE⟩:=zB N;refine zQQ p q 0 aU aB iR h h1 nG nO ?_ ?_
 ·intro aP  heq1 aa;subst aU;refine zS<|vM [4] rfl<|zK<|xD ?_;obtain rfl:=zE aE;exact vH
 intro r0 I9 hs9 m9 aT le9 aV;subst aT;refine zV<|zJ ?_;obtain rfl:=zE aE;exact jW aV
def zBE(part:Int)(y3:(List zR))(y4:(List yR))(x2:zC)(i:Int):Option (Out zC (zC×Bool)):=do
 if(decide (i<(y4.length:Int))) then
  let x4<-idx y4 i;let x5<-idx y3 x4.From;let x6<-idx y4 i;let x7<-idx y3 x6.To;let t90<-(do
   if(x5.Part==part) then
    if(x7.Part==(W (part+1))) then
     let y5<-zQH x7.Point x5.Point;pure (id y5)
    else pure false
   else
    pure false
     : Option Bool)
  if t90 then pure (.ret ((zC.mk ([]:List zD) ([]:List zF)),false))
  else zBE part y3 y4 x2 (W (i+1))
 else pure (.done x2)
 partial_fixpoint
theorem zQN(part:Int)(y3:(List zR))(y4:(List yR))(x2:zC):∀(i:Int) (o:Out zC (zC×Bool)),zBE part y3 y4 x2 i=some o->∀{B}{I0 I:Imm}{Q}{y:zC}{b b1}{p3 c2 p4 c3 p9 c8 aL c9 aF aO bj aQ},I0.le I->(S4 I p9 y3 c8)->(S4 I aL y4 c9)->(S4 I p3 y.Arrays c2)->(S4 I p4 y.Parts c3)->(S4 I aF x2.Arrays aO)->(S4 I bj x2.Parts aQ)->NG Q->NO Q->(∀I' x3 bc aZ p14 bd,o=(.done x3)->I0.le I'->(S4 I' bc x3.Arrays aZ)->(S4 I' p14 x3.Parts bd)->T 122 B Q (.exit 0) I' [hB b1 (cProg x3 bc aZ p14 bd),hB b (cProg y p3 c2 p4 c3)] [(1,vI part),(2,vP b 0),(4,vP b1 0)])->(∀r I' ag m',o=(.ret r)->I0.le I'->RS Tryz.prog Tryz.f22 B (mK  r) I' ag m'->T 122 B Q .ret I' ag m')->J Tryz.prog 122 B (nav (bodyOf Tryz.f22) [1,1,1,1,1,0,1,0]) Q I [hB b1 (cProg x2 aF aO bj aQ),hB b (cProg y p3 c2 p4 c3)] [(1,vI part),(2,vP b 0),(4,vP b1 0),(6,vS p9 y3 c8),(7,vS aL y4 c9),(8,vI i)]:=by
 refine zBE.partial_correctness part y3 y4 x2 _ λaJ ih i o N B I0 I Q y b b1 p3 c2 p4 c3 p9 c8 aL c9 aF aO bj aQ H h11 h12 h3 h4 h13 h14 hg ho hx hr=>yX hg ho<|yC<|yK [54] rfl<|zK<|yH N ?_ ?_
 ·intro bJ N;refine zT<|yA<|yL<|yD<|yG 3 [] [57,58,59] rfl<|bE N λx4 hy7 N=>xW rfl rfl h12 hy7 ?_;intro ad3 bL hat3 br;obtain rfl:=zEp br;refine yG 5 [] [61] rfl<|xM 0 hat3 [vI x4.From] (vI x4.From) rfl<|bE N λx5 hy8 N=>xW rfl rfl h11 hy8 ?_;intro ad4 ccs3 hat4 bB;obtain⟨p15,c14,rfl,h17⟩:=oH bB;refine xM 0 hat4 (cInst x5 p15 c14) (vA (cInst x5 p15 c14)) rfl<|xY [vI 0,vI 0,z0] ?_;intro b2 hb2;refine xC 0 (cInst x5 p15 c14) rfl<|zY rfl<|yY<|yG 3 [] [65,66,67] rfl<|bE N λx6 hy9 N=>xW rfl rfl h12 hy9 ?_;intro ad5 ccs4 hat5 hrep4;obtain rfl:=zEp hrep4;refine yG 5 [] [69] rfl<|xM 1 hat5 [vI x6.To] (vI x6.To) rfl<|bE N λx7 hy10 N=>xW rfl rfl h11 hy10 ?_;intro ad6 ccs5 hat6 hrep5;obtain⟨p16,c15,rfl,h18⟩:=oH hrep5;refine xM 0 hat6 (cInst x7 p16 c15) (vA (cInst x7 p16 c15)) rfl<|xY [vI 0,vI 0,z0] ?_;intro b3 hb3;refine xC 0 (cInst x7 p16 c15) rfl<|zY rfl<|zK<|yC ?_;refine vQ N [hB b1 (cProg x2 aF aO bj aQ),hB b (cProg y p3 c2 p4 c3)] (λt90=>[(1,vI part),(2,vP b 0),(4,vP b1 0),(6,vS p9 y3 c8),(7,vS aL y4 c9),(8,vI i),(90,.bool t90)]) (λaU aB=>?_) ?_
  ·have H:=iS I;refine zL<|yG 5 [1] [77] rfl<|wR [77] aB ?_ ?_
   ·intro hc5 N;refine yG 12 [0] [84] rfl<|wR [84] N ?_ ?_
    ·intro hc6 N;refine yG 16 [0,1] [86,88] rfl<|bE N λy5 hy11 N=>tA (zQY x7.Point x5.Point _ hy11 h18 h17) ?_;intro bS le10;have H:=H.trans le10;exact yQ [] [90] rfl<|wK (zX [2,3] rfl (by decide))<|yZ<|zU (ct N H)
    intro hc6 N;exact wM [] [(90,vF)]<|wK (zX [2,3] rfl (by decide))<|yZ<|zU (ct N H)
   intro hc5 N;exact wM [] [(90,vF)]<|wK (zX [2,3] rfl (by decide))<|yZ<|zU (ct N H)
  intro t90 bN le11 hMc1;have ⟨h11,h12,h13,h14,h3,h4⟩:=m6 le11 h11 h12 h13 h14 h3 h4;have H:=H.trans le11;refine zK<|yH hMc1 ?_ ?_
  ·intro hc7 N;exact yD<|yG 1 [] [91] rfl<|jV 0 zTwo [hB b1 zTwo,hB b (cProg y p3 c2 p4 c3)] rfl rfl rfl rfl<|wM [] [(5,vF)]<|xH<|zV<|zJ<|zJ<|hr _ _ _ _ (zE N).symm H ⟨_,_,(resE 0 rfl rfl rfl),zO,⟨_,_,rfl,rfl,⟨_,rfl,(xJ ⟨_,_,rfl,(SL.nil _),(SL.nil _)⟩)⟩,rfl⟩⟩
  intro hc7 N;exact zT<|zN<|zK<|zL<|yQ [] [8] rfl<|yV<|nX<|ih (W (i+1)) _ N H h11 h12 h3 h4 h13 h14 hg ho hx hr
 intro bJ N;exact wW<|yZ<|hx _ _ _ _ _ _ (zE N).symm H h13 h14
def zQF(p:zC)(part:Int):Option (zC×Bool):=do
 let y<-gT p;let t45<-(do
  let y1<-sA y;if(!y1) then pure true
  else
   if(decide (part<0)) then pure true
   else
    if(decide (part>=(W ((y.Parts.length:Int) - 1)))) then pure true
    else
     let x<-idx y.Parts part;let x1<-idx y.Parts (W (part+1));let y2<-zQG x.Nest x1.Nest;pure (!y2)
    : Option Bool)
 if t45 then pure ((zC.mk ([]:List zD) ([]:List zF)),false)
 else
  let y3<-oF y;let y4<-zA2 y
  match<-zBE part y3 y4 (zC.mk ([]:List zD) ([]:List zF)) 0 with
  | .ret r0=>pure r0
  | .done x3=>
   let x8<-idx y.Parts part;let x9<-idx y.Parts part;let l<-app 152 ([]:List zI) x9.Body;let x10<-idx y.Parts (W (part+1));let l1<-app 152 l x10.Body;let (y7,y8)<-zBG y part 2 ([(zF.mk x8.Nest l1)]:List zF);pure (y7,y8)
theorem zQU:∀p part r,zQF p part=some r->∀{I:Imm}{p1 c p2 c1},(S4 I p1 p.Arrays c)->(S4 I p2 p.Parts c1)->RT 22 [vA (cProg p p1 c p2 c1),vI part] I [] (mK  r):=by
 intro p part r N I p1 c p2 c1 h h1;unfold zQF at N;refine yM Tryz.func22 λB=>?_;have H:=iS I;refine yD<|vC (cProg p p1 c p2 c1) ?_;intro b hb;refine xY zTwo ?_;intro b1 hb1;refine wM [] []<|yY<|uW 1 [1] [(12,vA (cProg p p1 c p2 c1))]<|bE N λy hy N=>xK (zKN p _ hy h h1) ?_;rintro I0 ax v2 k2 le - ⟨v0,rfl,rfl,⟨cs,rfl,h2⟩⟩ -;have ⟨h,H⟩:=m2 le h H;obtain⟨p3,c2,p4,c3,rfl,h3,h4⟩:=kT h2;refine xC 1 (cProg y p3 c2 p4 c3) rfl<|zY rfl<|yA<|yC ?_;refine vQ N [hB b1 zTwo,hB b (cProg y p3 c2 p4 c3)] (λt45=>[(1,vI part),(2,vP b 0),(4,vP b1 0),(45,.bool t45)]) (λo0 aA=>?_) ?_
 ·have H:=iS I0;obtain⟨y1,az,N⟩:=zB aA;cases hc:(!y1) with
  | true=>
   have hM0:=rZ hc N;refine wP [.p (vA (cProg y p3 c2 p4 c3)) [1],.q (.bool y1),.q vY,.q vY,.p undef [],.p undef [],.p vY [],.p vY [],.p undef [],.p undef [],.p undef [],.p undef [],.p undef [],.p undef [],.p vY [],.p vY [],.p undef [],.p undef [],.p undef [],.p undef [],.p undef [],.p undef [],.p undef [],.p undef [],.p undef [],.p undef [],.p undef [],.p undef [],.p undef [],.p undef [],.p undef [],.p vY []] [[],[(0,false)],[(1,false)],[(2,false)],[(3,false)],[(3,false),(4,false)],[(3,false),(5,false)],[(6,false)],[(7,false)],[(7,false)],[(7,false),(9,false)],[(7,false),(10,false)],[(7,false),(11,false)],[(7,false),(8,false),(12,false)],[(7,false),(13,false)],[(14,false)],[(15,false)],[(15,false),(16,false)],[(15,false)],[(15,false),(17,false),(18,false)],[(15,false),(19,false)],[(15,false),(20,false)],[(15,false)],[(15,false),(22,false)],[(15,false)],[(15,false),(24,false)],[(15,false),(23,false),(25,false)],[(15,false),(26,false)],[(15,false),(27,false)],[(15,false),(21,false),(28,false)],[(15,false),(29,false)],[(15,false),(30,false)]] [hB b1 zTwo,hB b (cProg y p3 c2 p4 c3)] [] [(31,false)] (zZ [0,1]) ?_ ?_
   ·refine Op<|Oq ?_<|Oq ?_<|Oq ?_<|O4<|O4<|O4<|O4<|O4<|O4<|O4<|On
    ·intro I1 hf aa;refine yW [14] rfl ?_;have H:=iS I1;have ⟨h3,h4⟩:=m2 aa h3 h4;refine tA (zAA y _ az h3 h4) ?_;intro aW aa;have H:=H.trans aa;exact xO H
    ·intro I1 hf aa;refine yW [15] rfl<|oN 3 [(16,.bool (!y1))] ?_;rw[hc];exact xO iR
    intro I1 hf aa;exact I_h [(16,vY)]<|oN 4 [(17,vY)]<|xO iR
   intro bx aC;refine yW [1,2,4,45] rfl ?_;have H:=H.trans aC;exact zY rfl<|yZ<|zU (ct hM0 H)
  | false=>
   have hM01:=sP hc N;cases aH:(decide (part<0)) with
   | true=>
    have hM02:=rZ aH hM01;refine wP [.p (vA (cProg y p3 c2 p4 c3)) [1],.q (.bool y1),.q vF,.q vF,.p (vI part) [],.q vY,.q vY,.q vY,.p undef [],.p undef [],.p undef [],.p undef [],.p undef [],.p undef [],.p vY [],.p vY [],.p undef [],.p undef [],.p undef [],.p undef [],.p undef [],.p undef [],.p undef [],.p undef [],.p undef [],.p undef [],.p undef [],.p undef [],.p undef [],.p undef [],.p undef [],.p vY []] [[],[(0,false)],[(1,false)],[(2,false)],[(3,false)],[(3,false),(4,false)],[(3,false),(5,false)],[(6,false)],[(7,false)],[(7,false)],[(7,false),(9,false)],[(7,false),(10,false)],[(7,false),(11,false)],[(7,false),(8,false),(12,false)],[(7,false),(13,false)],[(14,false)],[(15,false)],[(15,false),(16,false)],[(15,false)],[(15,false),(17,false),(18,false)],[(15,false),(19,false)],[(15,false),(20,false)],[(15,false)],[(15,false),(22,false)],[(15,false)],[(15,false),(24,false)],[(15,false),(23,false),(25,false)],[(15,false),(26,false)],[(15,false),(27,false)],[(15,false),(21,false),(28,false)],[(15,false),(29,false)],[(15,false),(30,false)]] [hB b1 zTwo,hB b (cProg y p3 c2 p4 c3)] [] [(31,false)] (zZ [0,1]) ?_ ?_
    ·refine Op<|Oq ?_<|Oq ?_<|Oq ?_<|Op<|Oq ?_<|Oq ?_<|Oq ?_<|O4<|O4<|O4<|O4<|O4<|O4<|On
     ·intro I1 hf aa;refine yW [14] rfl ?_;have H:=iS I1;have ⟨h3,h4⟩:=m2 aa h3 h4;refine tA (zAA y _ az h3 h4) ?_;intro aW aa;have H:=H.trans aa;exact xO H
     ·intro I1 hf aa;refine yW [15] rfl<|oN 3 [(16,.bool (!y1))] ?_;rw[hc];exact xO iR
     ·intro I1 hf aa;exact I_h [(16,vF)]<|oN 4 [(17,vF)]<|xO iR
     ·intro I1 hf aa;refine yW [17,18] rfl<|oN 6 [(19,.bool (decide (part<0)))] ?_;rw[aH];exact xO iR
     ·intro I1 hf aa;exact yW [17,19] rfl<|oN 7 [(20,vY)]<|xO iR
     intro I1 hf aa;exact I_h [(20,vY)]<|oN 8 [(21,vY)]<|xO iR
    intro bG aI;refine yW [1,2,4,45] rfl ?_;have H:=H.trans aI;exact zY rfl<|yZ<|zU (ct hM02 H)
   | false=>
    have hM03:=sP aH hM01;cases ba:(decide (part>=(W ((y.Parts.length:Int) - 1)))) with
    | true=>
     have hM04:=rZ ba hM03;refine wP [.p (vA (cProg y p3 c2 p4 c3)) [1],.q (.bool y1),.q vF,.q vF,.p (vI part) [],.q vF,.q vF,.q vF,.p (vI part) [],.p (vP b 1) [],.p (vS p4 y.Parts c3) [1],.p (vI (y.Parts.length:Int)) [],.p (vI (W ((y.Parts.length:Int) - 1))) [],.q vY,.q vY,.q vY,.p undef [],.p undef [],.p undef [],.p undef [],.p undef [],.p undef [],.p undef [],.p undef [],.p undef [],.p undef [],.p undef [],.p undef [],.p undef [],.p undef [],.p undef [],.p vY []] [[],[(0,false)],[(1,false)],[(2,false)],[(3,false)],[(3,false),(4,false)],[(3,false),(5,false)],[(6,false)],[(7,false)],[(7,false)],[(7,false),(9,false)],[(7,false),(10,false)],[(7,false),(11,false)],[(7,false),(8,false),(12,false)],[(7,false),(13,false)],[(14,false)],[(15,false)],[(15,false),(16,false)],[(15,false)],[(15,false),(17,false),(18,false)],[(15,false),(19,false)],[(15,false),(20,false)],[(15,false)],[(15,false),(22,false)],[(15,false)],[(15,false),(24,false)],[(15,false),(23,false),(25,false)],[(15,false),(26,false)],[(15,false),(27,false)],[(15,false),(21,false),(28,false)],[(15,false),(29,false)],[(15,false),(30,false)]] [hB b1 zTwo,hB b (cProg y p3 c2 p4 c3)] [] [(31,false)] (zZ [0,1]) ?_ ?_
     ·refine Op<|Oq ?_<|Oq ?_<|Oq ?_<|Op<|Oq ?_<|Oq ?_<|Oq ?_<|O4<|Op<|Oq ?_<|Oq ?_<|Oq ?_<|O4<|O4<|O4<|O4<|On
      ·intro I1 hf aa;refine yW [14] rfl ?_;have H:=iS I1;have ⟨h3,h4⟩:=m2 aa h3 h4;refine tA (zAA y _ az h3 h4) ?_;intro aW aa;have H:=H.trans aa;exact xO H
      ·intro I1 hf aa;refine yW [15] rfl<|oN 3 [(16,.bool (!y1))] ?_;rw[hc];exact xO iR
      ·intro I1 hf aa;exact I_h [(16,vF)]<|oN 4 [(17,vF)]<|xO iR
      ·intro I1 hf aa;refine yW [17,18] rfl<|oN 6 [(19,.bool (decide (part<0)))] ?_;rw[aH];exact xO iR
      ·intro I1 hf aa;exact yW [17,19] rfl<|oN 7 [(20,vF)]<|xO iR
      ·intro I1 hf aa;exact I_h [(20,vF)]<|oN 8 [(21,vF)]<|xO iR
      ·intro I1 hf aa;refine yW [21,22,26] rfl<|oN 14 [(27,.bool (decide (part>=(W ((y.Parts.length:Int) - 1)))))] ?_;rw[ba];exact xO iR
      ·intro I1 hf aa;exact yW [21,27] rfl<|oN 15 [(28,vY)]<|xO iR
      intro I1 hf aa;exact I_h [(28,vY)]<|oN 16 [(29,vY)]<|xO iR
     intro bK aY;refine yW [1,2,4,45] rfl ?_;have H:=H.trans aY;exact zY rfl<|yZ<|zU (ct hM04 H)
    | false=>
     have hM05:=sP ba hM03;obtain⟨x,aG,N⟩:=zB hM05;obtain⟨x1,bh,N⟩:=zB N;obtain⟨y2,bu,N⟩:=zB N;refine wP [.p (vA (cProg y p3 c2 p4 c3)) [1],.q (.bool y1),.q vF,.q vF,.p (vI part) [],.q vF,.q vF,.q vF,.p (vI part) [],.p (vP b 1) [],.p (vS p4 y.Parts c3) [1],.p (vI (y.Parts.length:Int)) [],.p (vI (W ((y.Parts.length:Int) - 1))) [],.q vF,.q vF,.q vF,.p (vP b 1) [],.p (vS p4 y.Parts c3) [1],.p (vI part) [],.x (ePPart x),.x (ePPart x),.x (eS x.Nest),.p (vP b 1) [],.p (vS p4 y.Parts c3) [1],.p (vI part) [],.p (vI (W (part+1))) [],.x (ePPart x1),.x (ePPart x1),.x (eS x1.Nest),.q (.bool y2),.p (.bool (!y2)) [],.p (.bool (!y2)) []] [[],[(0,false)],[(1,false)],[(2,false)],[(3,false)],[(3,false),(4,false)],[(3,false),(5,false)],[(6,false)],[(7,false)],[(7,false)],[(7,false),(9,false)],[(7,false),(10,false)],[(7,false),(11,false)],[(7,false),(8,false),(12,false)],[(7,false),(13,false)],[(14,false)],[(15,false)],[(15,false),(16,false)],[(15,false)],[(15,false),(17,false),(18,false)],[(15,false),(19,false)],[(15,false),(20,false)],[(15,false)],[(15,false),(22,false)],[(15,false)],[(15,false),(24,false)],[(15,false),(23,false),(25,false)],[(15,false),(26,false)],[(15,false),(27,false)],[(15,false),(21,false),(28,false)],[(15,false),(29,false)],[(15,false),(30,false)]] [hB b1 zTwo,hB b (cProg y p3 c2 p4 c3)] [] [(31,false)] (zZ [0,1]) ?_ ?_
     ·refine Op<|Oq ?_<|Oq ?_<|Oq ?_<|Op<|Oq ?_<|Oq ?_<|Oq ?_<|O4<|Op<|Oq ?_<|Oq ?_<|Oq ?_<|O3<|Ox ?_<|Ox ?_<|Ox ?_<|O4<|Ox ?_<|Ox ?_<|Ox ?_<|Oq ?_<|O2<|On
      ·intro I1 hf aa;refine yW [14] rfl ?_;have H:=iS I1;have ⟨h3,h4⟩:=m2 aa h3 h4;refine tA (zAA y _ az h3 h4) ?_;intro aW aa;have H:=H.trans aa;exact xO H
      ·intro I1 hf aa;refine yW [15] rfl<|oN 3 [(16,.bool (!y1))] ?_;rw[hc];exact xO iR
      ·intro I1 hf aa;exact I_h [(16,vF)]<|oN 4 [(17,vF)]<|xO iR
      ·intro I1 hf aa;refine yW [17,18] rfl<|oN 6 [(19,.bool (decide (part<0)))] ?_;rw[aH];exact xO iR
      ·intro I1 hf aa;exact yW [17,19] rfl<|oN 7 [(20,vF)]<|xO iR
      ·intro I1 hf aa;exact I_h [(20,vF)]<|oN 8 [(21,vF)]<|xO iR
      ·intro I1 hf aa;refine yW [21,22,26] rfl<|oN 14 [(27,.bool (decide (part>=(W ((y.Parts.length:Int) - 1)))))] ?_;rw[ba];exact xO iR
      ·intro I1 hf aa;exact yW [21,27] rfl<|oN 15 [(28,vF)]<|xO iR
      ·intro I1 hf aa;exact I_h [(28,vF)]<|oN 16 [(29,vF)]<|xO iR
      ·intro I1 hf aa;refine yW [29,31,32] rfl ?_;have h4:=h4.mono aa;refine xW rfl rfl h4 aG ?_;intro ad aN aq am;obtain⟨p5,c4,p6,c5,rfl,h6,h7⟩:=wI am;exact yN [] iR ⟨_,_,_,_,_,rfl,rfl,aq,h6,h7⟩
      ·rintro I1 hf aa _ _ ⟨rfl,rfl⟩ _ _ ⟨ad,p5,c4,p6,c5,rfl,rfl,aq,h6,h7⟩;exact yW [29,33] rfl<|oN 21 [(34,.pointer (some ad))]<|yN [] iR ⟨_,_,_,_,_,rfl,rfl,aq,h6,h7⟩
      ·rintro I1 hf aa _ _ ⟨rfl,rfl⟩ _ _ ⟨ad1,p51,c41,p61,c51,rfl,rfl,aw,h61,h71⟩;exact yW [29,34] rfl<|xM 0 aw [vS p51 x.Nest c41] (vS p51 x.Nest c41) rfl<|yN [] iR ⟨_,_,rfl,rfl,h61⟩
      ·intro I1 hf aa;refine yW [29,37,39] rfl ?_;have h4:=h4.mono aa;refine xW rfl rfl h4 bh ?_;intro ad2 bq bk ay;obtain⟨p7,c6,p8,c7,rfl,h8,h9⟩:=wI ay;exact yN [] iR ⟨_,_,_,_,_,rfl,rfl,bk,h8,h9⟩
      ·rintro I1 hf aa _ _ ⟨rfl,rfl⟩ _ _ ⟨ad2,p7,c6,p8,c7,rfl,rfl,bk,h8,h9⟩;exact yW [29,40] rfl<|oN 28 [(41,.pointer (some ad2))]<|yN [] iR ⟨_,_,_,_,_,rfl,rfl,bk,h8,h9⟩
      ·rintro I1 hf aa _ _ ⟨rfl,rfl⟩ _ _ ⟨ad21,p71,c61,p81,c71,rfl,rfl,hat21,h81,h91⟩;exact yW [29,41] rfl<|xM 0 hat21 [vS p71 x1.Nest c61] (vS p71 x1.Nest c61) rfl<|yN [] iR ⟨_,_,rfl,rfl,h81⟩
      rintro I1 hf aa _ _ ⟨rfl,rfl⟩ _ _ ⟨p511,c411,rfl,rfl,h611⟩ _ _ ⟨p711,c611,rfl,rfl,h811⟩;refine yW [29,35,42] rfl ?_;have H:=iS I1;refine tA (zQW x.Nest x1.Nest _ bu h611 h811) ?_;intro I06 bo;have H:=H.trans bo;exact xO H
     intro I07 bv;refine yW [1,2,4,45] rfl ?_;have H:=H.trans bv;exact zY rfl<|yZ<|zU (ct N H)
 intro t45 aP le7 aX;have ⟨h3,h4⟩:=m2 le7 h3 h4;refine zK<|yH aX ?_ ?_
 ·intro bD N;refine yD<|yG 1 [] [46] rfl<|jV 0 zTwo [hB b1 zTwo,hB b (cProg y p3 c2 p4 c3)] rfl rfl rfl rfl<|wM [] [(5,vF)]<|xH<|zJ ?_;exact xX N (resE 0 rfl rfl rfl) zO ⟨_,_,rfl,rfl,⟨_,rfl,(xJ ⟨_,_,rfl,(SL.nil _),(SL.nil _)⟩)⟩,rfl⟩
 intro bD N;refine zT<|yY<|uW 1 [1] [(47,vA (cProg y p3 c2 p4 c3))]<|bE N λy3 bC N=>xK (zEg y _ bC h3 h4) ?_;rintro I08 ax v2 k2 le8 - ⟨v09,rfl,rfl,h11⟩ -;have ⟨h3,h4⟩:=m2 le8 h3 h4;obtain⟨p9,c8,rfl⟩:=h11.form;refine yQ [] [6] rfl<|yY<|uW 1 [1] [(49,vA (cProg y p3 c2 p4 c3))]<|bE N λy4 hy6 N=>xK (zNP y _ hy6 h3 h4) ?_;rintro I09 ax v2 k2 le9 - ⟨v010,rfl,rfl,h12⟩ -;have ⟨h11,h3,h4⟩:=m3 le9 h11 h3 h4;obtain⟨aL,c9,rfl⟩:=h12.form;refine yQ [] [7] rfl<|yA<|yK [8] rfl<|wN<|qX [(1,vI part),(2,vP b 0),(4,vP b1 0),(6,vS p9 y3 c8),(7,vS aL y4 c9),(8,vI 0)] ?_;obtain⟨o02,ho02,aE⟩:=zB N;refine zQN part y3 y4 (zC.mk ([]:List zD) ([]:List zF)) 0 o02 ho02 iR h11 h12 h3 h4 (SL.nil _) (SL.nil _) nG nO ?_ ?_
 ·intro bR x3 bc aZ p14 bd heq2 le12 h15 h16;subst o02;have ⟨h3,h4⟩:=m2 le12 h3 h4;refine zS<|zK<|yC ?_;obtain⟨x8,hy12,N⟩:=zB aE;obtain⟨x9,hy13,N⟩:=zB N;obtain⟨l,hy14,N⟩:=zB N;obtain⟨x10,hy15,N⟩:=zB N;obtain⟨l1,hy16,N⟩:=zB N;refine wP [.p (vP b 1) [],.p (vS p4 y.Parts c3) [1],.p (vI part) [],.x (ePPart x8),.x (ePPart x8),.x (eS x8.Nest),.x (λI' v hx=>∃b4,v=vS (some ⟨b4,0,none⟩) ([]:List zI) 0/\hx=[hO zI (vS (some ⟨b4,0,none⟩) ([]:List zI) 0) []]/\(RL I' [] ([]:List zI))),.p (vP b 1) [],.p (vS p4 y.Parts c3) [1],.p (vI part) [],.x (ePPart x9),.x (eQPart 1 x9),.x (eS x9.Body),.x (λI' v hx=>∃p21 c20 au,v=vS p21 l c20/\hx=[hO zI (vS p21 l c20) au]/\(RL I' au l)),.p (vP b 1) [],.p (vS p4 y.Parts c3) [1],.p (vI part) [],.p (vI (W (part+1))) [],.x (ePPart x10),.x (eQPart 1 x10),.x (eS x10.Body),.x (λI' v hx=>∃p24 c23 aR,v=vS p24 l1 c23/\hx=[hO zI (vS p24 l1 c23) aR]/\(RL I' aR l1)),.x (λI' v hx=>∃p17111 c16111 p241 c231 cs21,v=vA [vS p17111 x8.Nest c16111,vS p241 l1 c231]/\hx=[hO zI (vS p241 l1 c231) cs21]/\(S4 I' p17111 x8.Nest c16111)/\(RL I' cs21 l1)),.x (λI' v hx=>∃b5,v=vP b5 0/\hx=[hB b5 zTwo])] [[],[(0,false)],[],[(1,false),(2,false)],[(3,false)],[(4,false)],[],[],[(7,false)],[],[(8,false),(9,false)],[(10,false)],[(11,false)],[(6,true),(12,false)],[],[(14,false)],[],[(16,false)],[(15,false),(17,false)],[(18,false)],[(19,false)],[(13,true),(20,false)],[(5,false),(21,true)],[]] [hB b1 (cProg x3 bc aZ p14 bd),hB b (cProg y p3 c2 p4 c3)] [] [(22,true),(23,true)] (zZ [0,1]) ?_ ?_
  ·refine O3<|Ox ?_<|Ox ?_<|Ox ?_<|Ox ?_<|O3<|Ox ?_<|Ox ?_<|Ox ?_<|Ox ?_<|O4<|Ox ?_<|Ox ?_<|Ox ?_<|Ox ?_<|Ox ?_<|Ox ?_<|On
   ·intro I1 hf aa;refine yW [93,94] rfl ?_;have h4:=h4.mono aa;refine xW rfl rfl h4 hy12 ?_;intro ad7 ccs6 hat7 hrep6;obtain⟨p17,c16,p18,c17,rfl,h20,h21⟩:=wI hrep6;exact yN [] iR ⟨_,_,_,_,_,rfl,rfl,hat7,h20,h21⟩
   ·rintro I1 hf aa _ _ ⟨ad7,p17,c16,p18,c17,rfl,rfl,hat7,h20,h21⟩;exact yW [95] rfl<|oN 5 [(96,.pointer (some ad7))]<|yN [] iR ⟨_,_,_,_,_,rfl,rfl,hat7,h20,h21⟩
   ·rintro I1 hf aa _ _ ⟨ad71,p171,c161,p181,c171,rfl,rfl,hat71,h201,h211⟩;exact yW [96] rfl<|xM 0 hat71 [vS p171 x8.Nest c161] (vS p171 x8.Nest c161) rfl<|yN [] iR ⟨_,_,rfl,rfl,h201⟩
   ·intro I1 hf aa;refine I_h []<|uX [] zI ?_;intro b4 hb4;have h22:RL I1 [] ([]:List zI):=rfl;exact yN [hO zI (vS (some ⟨b4,0,none⟩) ([]:List zI) 0) []] iR ⟨_,rfl,rfl,h22⟩
   ·intro I1 hf aa;refine yW [100,101] rfl ?_;have h4:=h4.mono aa;refine xW rfl rfl h4 hy13 ?_;intro ad8 ccs7 hat8 hrep7;obtain⟨p19,c18,p20,c19,rfl,h23,h24⟩:=wI hrep7;exact yN [] iR ⟨_,_,_,_,_,rfl,rfl,hat8,h23,h24⟩
   ·rintro I1 hf aa _ _ ⟨ad8,p19,c18,p20,c19,rfl,rfl,hat8,h23,h24⟩;exact yW [102] rfl<|oN 12 [(103,.pointer (some (ad8.add 1)))]<|yN [] iR ⟨_,_,_,_,_,rfl,rfl,hat8,h23,h24⟩
   ·rintro I1 hf aa _ _ ⟨ad81,p191,c181,p201,c191,rfl,rfl,hat81,h231,h241⟩;exact yW [103] rfl<|xM 1 hat81 [vS p201 x9.Body c191] (vS p201 x9.Body c191) rfl<|yN [] iR ⟨_,_,rfl,rfl,h241⟩
   ·rintro I1 hf aa _ _ ⟨b4,rfl,rfl,h22⟩ _ _ ⟨p2011,c1911,rfl,rfl,h2411⟩;refine yW [98,104] rfl ?_;obtain⟨ccs8,k0,k01⟩:=h2411;have h2411:SL I1 (vS p2011 x9.Body c1911) x9.Body:=⟨_,k0,k01⟩;exact sW 100 9 0 rfl rfl rfl h22 (.inl k0) k01 hy14 λp21 c20 au h25=>wY (ag:=(hO zI (vS p21 l c20) au::hB b1 (cProg x3 bc aZ p14 bd)::hB b (cProg y p3 c2 p4 c3)::hf)) rfl<|yN [hO zI (vS p21 l c20) au] iR ⟨_,_,_,rfl,rfl,h25⟩
   ·intro I1 hf aa;refine yW [107,109] rfl ?_;have h4:=h4.mono aa;refine xW rfl rfl h4 hy15 ?_;intro ad9 ccs9 hat9 hrep8;obtain⟨p22,c21,p23,c22,rfl,h26,h27⟩:=wI hrep8;exact yN [] iR ⟨_,_,_,_,_,rfl,rfl,hat9,h26,h27⟩
   ·rintro I1 hf aa _ _ ⟨ad9,p22,c21,p23,c22,rfl,rfl,hat9,h26,h27⟩;exact yW [110] rfl<|oN 20 [(111,.pointer (some (ad9.add 1)))]<|yN [] iR ⟨_,_,_,_,_,rfl,rfl,hat9,h26,h27⟩
   ·rintro I1 hf aa _ _ ⟨ad91,p221,c211,p231,c221,rfl,rfl,hat91,h261,h271⟩;exact yW [111] rfl<|xM 1 hat91 [vS p231 x10.Body c221] (vS p231 x10.Body c221) rfl<|yN [] iR ⟨_,_,rfl,rfl,h271⟩
   ·rintro I1 hf aa _ _ ⟨p21,c20,au,rfl,rfl,h25⟩ _ _ ⟨p2311,c2211,rfl,rfl,h2711⟩;refine yW [105,112] rfl ?_;obtain⟨ccs10,k02,k03⟩:=h2711;have h2711:SL I1 (vS p2311 x10.Body c2211) x10.Body:=⟨_,k02,k03⟩;exact sW 100 9 0 rfl rfl rfl h25 (.inl k02) k03 hy16 λp24 c23 aR h28=>wY (ag:=(hO zI (vS p24 l1 c23) aR::hB b1 (cProg x3 bc aZ p14 bd)::hB b (cProg y p3 c2 p4 c3)::hf)) rfl<|yN [hO zI (vS p24 l1 c23) aR] iR ⟨_,_,_,rfl,rfl,h28⟩
   ·rintro I1 hf aa _ _ ⟨p1711,c1611,rfl,rfl,h2011⟩ _ _ ⟨p24,c23,aR,rfl,rfl,h28⟩;exact yW [97,113] rfl<|oN 23 [(114,vA [vS p1711 x8.Nest c1611,vS p24 l1 c23])]<|yN [hO zI (vS p24 l1 c23) aR] iR ⟨_,_,_,_,_,rfl,rfl,h2011,h28⟩
   intro I1 hf aa;refine I_h []<|xY zTwo ?_;intro b5 hb5;exact yN [hB b5 zTwo] iR ⟨_,rfl,rfl⟩
  rintro I013 le13 _ _ ⟨p17111,c16111,p241,c231,cs21,rfl,rfl,h20111,h281⟩ _ _ ⟨b5,rfl,rfl⟩;refine yW [1,2,4,11,114] rfl ?_;have ⟨h3,h4⟩:=m2 le13 h3 h4;refine xC 0 [vS p17111 x8.Nest c16111,vS p241 l1 c231] rfl<|zY rfl<|yY<|uW 3 [3,0] [(115,vA (cProg y p3 c2 p4 c3)),(116,vI part),(117,vA [vS p17111 x8.Nest c16111,vS p241 l1 c231])]<|xV 1 rfl ?_;intro I014 le14 hl0;have h29:=SL.of_frozen hl0 le14 h281;have ⟨h3,h4,h20111⟩:=m3 le14 h3 h4 h20111;refine mH (rc (zF.mk x8.Nest l1) (wU ⟨_,_,rfl,h20111,h29⟩) rN) ?_;intro b6 I015 le15 h31;have ⟨h3,h4⟩:=m2 le15 h3 h4;obtain⟨⟨y7,y8⟩,hy17,N⟩:=zB N;refine xK (zNQ y part 2 ([(zF.mk x8.Nest l1)]:List zF) _ hy17 h3 h4 h31) ?_;rintro I016 ax v2 k2 le16 - ⟨v020,v021,rfl,rfl,⟨aM,rfl,h32⟩,rfl⟩ -;obtain⟨p25,c24,p26,c25,rfl,h34,h35⟩:=kT h32;refine yG 7 [] [120,121] rfl<|xC 1 (cProg y7 p25 c24 p26 c25) rfl<|yQ [] [5] rfl<|zK<|xD ?_;exact xX N (resE 1 rfl rfl rfl) zO ⟨_,_,rfl,rfl,⟨_,rfl,(xJ ⟨_,_,rfl,h34,h35⟩)⟩,rfl⟩
 intro r0 I9 hs9 m9 aT le9 aV;subst aT;refine zV<|zJ ?_;obtain rfl:=zE aE;exact jW aV
def zQE(code:(List UInt8)):Option (Bool):=do
 if(decide ((code.length:Int)>1048576)) then pure true
 else
  let (y1,y2)<-zQB code;let (y4,y5)<-zAI y1 y2;let (y7,y8)<-zQF y1 y2;let t43<-(do
   if(!(y5==y8)) then pure true
   else
    let y9<-eK y4 y7;if(!y9) then pure true
    else
     pure (!y5)
     : Option Bool)
  if t43 then
   let t2<-(do
    if(y5==y8) then
     let y10<-eK y4 y7;pure (id y10)
    else
     pure false
      : Option Bool)
   pure (id t2)
  else
   let x<-idx y1.Parts y2;let (y12,y13)<-jS y4 y2 (x.Body.length:Int);let t21<-(do
    if y13 then
     let y14<-eK y12 y1;pure (id y14)
    else
     pure false
      : Option Bool)
   pure (id t21)
theorem zQR:∀code r,zQE code=some r->∀{I:Imm}{p c},(S4 I p code c)->RT 6 [vS p code c] I [] (zW  r):=by
 intro code r N I p c h;unfold zQE at N;refine yM Tryz.func6 λB=>?_;have H:=iS I;refine wZ []<|yA<|yK [13] rfl<|zK<|yH N ?_ ?_
 ·intro hc N;refine wZ [(2,vY)]<|xH<|zJ ?_;obtain rfl:=zE N;exact vH
 intro hc N;refine zT<|yY<|yG 1 [] [15] rfl ?_;obtain⟨⟨y1,y2⟩,hy,N⟩:=zB N;refine xK (zQL code _ hy h) ?_;rintro I0 ax v2 k2 le - ⟨v0,v01,rfl,rfl,⟨cs,rfl,h1⟩,rfl⟩ -;have H:=H.trans le;obtain⟨p1,c1,p2,c2,rfl,h3,h4⟩:=kT h1;refine yG 5 [] [17,18] rfl<|xY zTwo ?_;intro b hb;refine xC 0 (cProg y1 p1 c1 p2 c2) rfl<|yQ [] [4] rfl<|yY<|uW 2 [0] [(20,vA (cProg y1 p1 c1 p2 c2)),(21,vI y2)] ?_;obtain⟨⟨y4,y5⟩,az,N⟩:=zB N;refine xK (zLw y1 y2 _ az h3 h4) ?_;rintro aP ax v2 k2 aa - ⟨v04,v05,rfl,rfl,⟨au,rfl,h5⟩,rfl⟩ -;have ⟨h3,h4,H⟩:=m3 aa h3 h4 H;obtain⟨p3,c3,p4,c4,rfl,h7,h8⟩:=kT h5;refine yG 6 [] [23,24] rfl<|xY zTwo ?_;intro b1 hb1;refine xC 0 (cProg y4 p3 c3 p4 c4) rfl<|yQ [] [6] rfl<|yY<|uW 2 [1] [(26,vA (cProg y1 p1 c1 p2 c2)),(27,vI y2)] ?_;obtain⟨⟨y7,y8⟩,aG,N⟩:=zB N;refine xK (zQU y1 y2 _ aG h3 h4) ?_;rintro aW ax v2 k2 aC - ⟨v08,v09,rfl,rfl,⟨aR,rfl,h9⟩,rfl⟩ -;have ⟨h7,h8,h3,h4,H⟩:=m5 aC h7 h8 h3 h4 H;obtain⟨p5,c5,p6,c6,rfl,h11,h12⟩:=kT h9;refine yG 6 [] [29,30] rfl<|xY zTwo ?_;intro b2 hb2;refine xC 0 (cProg y7 p5 c5 p6 c6) rfl<|yQ [] [8] rfl<|yA<|yC ?_;refine vQ N [hB b2 (cProg y7 p5 c5 p6 c6),hB b1 (cProg y4 p3 c3 p4 c4),hB b (cProg y1 p1 c1 p2 c2)] (λt43=>[(3,vP b 0),(4,vI y2),(5,vP b1 0),(6,.bool y5),(7,vP b2 0),(8,.bool y8),(43,.bool t43)]) (λo0 aA=>?_) ?_
 ·have H:=iS aW;refine zL<|yG 4 [] [34] rfl<|wR [34] aA ?_ ?_
  ·intro aH N;exact wM [] [(43,vY)]<|yZ<|zU (ct N H)
  intro aH N;refine uW 6 [1,0] [(35,vA (cProg y4 p3 c3 p4 c4)),(36,vA (cProg y7 p5 c5 p6 c6))]<|bE N λy9 bh N=>tA (zLM y4 y7 _ bh h7 h8 h11 h12) ?_;intro bG aI;have H:=H.trans aI;refine yG 10 [] [40] rfl<|wR [40] N ?_ ?_
  ·intro ba N;exact wM [] [(43,vY)]<|yZ<|zU (ct N H)
  intro ba N;exact yQ [] [43] rfl<|yZ<|zU (ct N H)
 intro t43 bx aY aX;have ⟨h11,h12,h7,h8,h3,h4⟩:=m6 aY h11 h12 h7 h8 h3 h4;have H:=H.trans aY;refine zK<|yH aX ?_ ?_
 ·intro bD N;refine yC ?_;refine vQ N [] (λt2=>[(2,.bool t2)]) (λaU aB=>?_) ?_
  ·have H:=iS bx;refine zL<|yG 4 [] [47] rfl<|wR [47] aB ?_ ?_
   ·intro bJ N;refine uW 6 [1,0] [(48,vA (cProg y4 p3 c3 p4 c4)),(49,vA (cProg y7 p5 c5 p6 c6))]<|bE N λy10 bu N=>tA (zLM y4 y7 _ bu h7 h8 h11 h12) ?_;intro I06 bo;have H:=H.trans bo;exact yQ [] [2] rfl<|wK zO<|yZ<|zU (ct N H)
   intro bJ N;exact wM [] [(2,vF)]<|wK zO<|yZ<|zU (ct N H)
  intro t2 bK bv hMc1;refine xH<|zJ ?_;obtain rfl:=zE hMc1;exact vH
 intro bD N;refine zT<|zK<|yC ?_;obtain⟨x,bC,N⟩:=zB N;obtain⟨⟨y12,y13⟩,hy6,N⟩:=zB N;refine wP [.p (vA (cProg y4 p3 c3 p4 c4)) [1],.p (vI y2) [],.p (vP b 1) [],.p (vS p2 y1.Parts c2) [2],.p (vI y2) [],.x (ePPart x),.x (eQPart 1 x),.x (eS x.Body),.q (vI (x.Body.length:Int)),.x (λI' v hx=>∃p9 c9 aL aO,v=.tuple ⟨[vA (cProg y12 p9 c9 aL aO),.bool y13]⟩/\hx=[]/\(S4 I' p9 y12.Arrays c9)/\(S4 I' aL y12.Parts aO)),.x (λI' v hx=>∃p91 c91 p101 c101,v=.tuple ⟨[vA (cProg y12 p91 c91 p101 c101),.bool y13]⟩/\hx=[]/\(S4 I' p91 y12.Arrays c91)/\(S4 I' p101 y12.Parts c101)),.x (eVProg y12),.q (.bool y13),.x (λI' v hx=>∃b3,v=vP b3 0/\hx=[hB b3 zTwo]),.x (λI' v hx=>∃b31 p9111 c9111 p10111 c10111,v=vP b31 0/\hx=[hB b31 (cProg y12 p9111 c9111 p10111 c10111)]/\(S4 I' p9111 y12.Arrays c9111)/\(S4 I' p10111 y12.Parts c10111))] [[],[],[],[(2,false)],[],[(3,false),(4,false)],[(5,false)],[(6,false)],[(7,false)],[(0,false),(1,false),(8,false)],[(9,false)],[(10,false)],[(10,false)],[],[(11,false),(13,true)]] [hB b2 (cProg y7 p5 c5 p6 c6),hB b1 (cProg y4 p3 c3 p4 c4),hB b (cProg y1 p1 c1 p2 c2)] [] [(12,false),(14,true)] (zZ [0,1,2]) ?_ ?_
 ·refine O4<|Op<|Ox ?_<|Ox ?_<|Ox ?_<|Oq ?_<|Ox ?_<|Ox ?_<|Ox ?_<|Oq ?_<|Ox ?_<|Ox ?_<|On
  ·intro I1 hf aa;refine yW [56,57] rfl ?_;have h4:=h4.mono aa;refine xW rfl rfl h4 bC ?_;intro ad aN aq am;obtain⟨p7,c7,p8,c8,rfl,h15,h16⟩:=wI am;exact yN [] iR ⟨_,_,_,_,_,rfl,rfl,aq,h15,h16⟩
  ·rintro I1 hf aa _ _ ⟨ad,p7,c7,p8,c8,rfl,rfl,aq,h15,h16⟩;exact yW [58] rfl<|oN 7 [(59,.pointer (some (ad.add 1)))]<|yN [] iR ⟨_,_,_,_,_,rfl,rfl,aq,h15,h16⟩
  ·rintro I1 hf aa _ _ ⟨ad1,p71,c71,p81,c81,rfl,rfl,aw,h151,h161⟩;exact yW [59] rfl<|xM 1 aw [vS p81 x.Body c81] (vS p81 x.Body c81) rfl<|yN [] iR ⟨_,_,rfl,rfl,h161⟩
  ·rintro I1 hf aa _ _ ⟨p811,c811,rfl,rfl,h1611⟩;exact yW [60] rfl<|oN 9 [(61,vI (x.Body.length:Int))]<|xO iR
  ·intro I1 hf aa;refine yW [53,54,61] rfl ?_;have H:=iS I1;have ⟨h7,h8⟩:=m2 aa h7 h8;refine xK (zJw y4 y2 (x.Body.length:Int) _ hy6 h7 h8) ?_;rintro I07 ax v2 k2 le7 - ⟨v016,v017,rfl,rfl,⟨aM,rfl,h17⟩,rfl⟩ -;have H:=H.trans le7;obtain⟨p9,c9,aL,aO,rfl,h19,h20⟩:=kT h17;exact yN [] H ⟨_,_,_,_,rfl,rfl,h19,h20⟩
  ·rintro I1 hf aa _ _ ⟨p9,c9,aL,aO,rfl,rfl,h19,h20⟩;exact yW [62] rfl<|oN 11 [(52,.tuple ⟨[vA (cProg y12 p9 c9 aL aO),.bool y13]⟩)]<|yN [] iR ⟨_,_,_,_,rfl,rfl,h19,h20⟩
  ·rintro I1 hf aa _ _ ⟨p91,c91,p101,c101,rfl,rfl,h191,h201⟩;exact yW [52] rfl<|oN 12 [(63,vA (cProg y12 p91 c91 p101 c101))]<|yN [] iR ⟨_,_,_,_,rfl,rfl,h191,h201⟩
  ·rintro I1 hf aa _ _ ⟨p91,c91,p101,c101,rfl,rfl,h191,h201⟩;exact yW [52] rfl<|oN 13 [(64,.bool y13)]<|xO iR
  ·intro I1 hf aa;refine I_h []<|xY zTwo ?_;intro b3 hb3;exact yN [hB b3 zTwo] iR ⟨_,rfl,rfl⟩
  rintro I1 hf aa _ _ ⟨p911,c911,p1011,c1011,rfl,rfl,h1911,h2011⟩ _ _ ⟨b3,rfl,rfl⟩;exact yW [9,63] rfl<|jV 0 (cProg y12 p911 c911 p1011 c1011) (hB b3 (cProg y12 p911 c911 p1011 c1011)::hB b2 (cProg y7 p5 c5 p6 c6)::hB b1 (cProg y4 p3 c3 p4 c4)::hB b (cProg y1 p1 c1 p2 c2)::hf) rfl rfl rfl rfl<|yN [hB b3 (cProg y12 p911 c911 p1011 c1011)] iR ⟨_,_,_,_,_,rfl,rfl,h1911,h2011⟩
 rintro I08 le8 _ _ ⟨rfl,rfl⟩ _ _ ⟨b31,p9111,c9111,p10111,c10111,rfl,rfl,h19111,h20111⟩;refine yW [3,9,64] rfl ?_;have ⟨h3,h4,H⟩:=m3 le8 h3 h4 H;refine yQ [] [10] rfl<|zK<|yC ?_;refine vQ N [] (λt21=>[(2,.bool t21)]) (λo02 ho02=>?_) ?_
 ·have H:=iS I08;refine zL<|yG 2 [] [66] rfl<|wR [66] ho02 ?_ ?_
  ·intro hc5 N;refine uW 4 [0,3] [(67,vA (cProg y12 p9111 c9111 p10111 c10111)),(68,vA (cProg y1 p1 c1 p2 c2))]<|bE N λy14 hy7 N=>tA (zLM y12 y1 _ hy7 h19111 h20111 h3 h4) ?_;intro bN le9;have H:=H.trans le9;exact yQ [] [2] rfl<|wK zO<|yZ<|zU (ct N H)
  intro hc5 N;exact wM [] [(2,vF)]<|wK zO<|yZ<|zU (ct N H)
 intro t21 I09 le10 hMc2;refine zK<|xD ?_;obtain rfl:=zE hMc2;exact vH
end Go.LN
namespace Go.LN
theorem zQd:∀(k:Nat) (a:Int),(rngK k a).Pairwise (· < ·)
 | 0,a=>List.Pairwise.nil
 | k+1,a=>by
  rw[rngK]
  refine List.Pairwise.cons (λv hv=>?_) (zQd k (a+1))
  have:=(zLE.1 hv).1
  omega
def lexlt:List Int->List Int->Prop
 | x::xs,y::ys=>x<y∨(x=y/\lexlt xs ys)
 | _,_=>False
theorem zQe:∀(ls:List zG) (p:List Int),(pts ls p).Pairwise λq w=>∃r s,q=p++r/\w=p++s/\lexlt r s
 | [],p=>by rw[pts];exact List.pairwise_singleton ..
 | l::ls,p=>by
  rw[pts,List.pairwise_flatMap]
  refine⟨λv hv=>(zQe ls (p++[v])).imp ?_,(zQd _ _).imp ?_⟩
  ·rintro q w ⟨r,s,e1,e2,h⟩
   exact⟨v::r,v::s,by rw[e1,List.append_assoc];rfl,by rw[e2,List.append_assoc];rfl,.inr ⟨rfl,h⟩⟩
  ·intro v w hvw q hq z hz
   obtain⟨r,e1,_⟩:=zMF hq
   obtain⟨s,e2,_⟩:=zMF hz
   exact⟨v::r,w::s,by rw[e1,List.append_assoc];rfl,by rw[e2,List.append_assoc];rfl,.inl hvw⟩
def nxt(a b:zR):Prop:=a.Part<b.Part∨(a.Part=b.Part/\(lexlt a.Point b.Point∨(a.Point=b.Point/\a.Stmt+1=b.Stmt)))
theorem zQ5(k:Int)(q:List Int):∀(j i:Nat),Ch nxt (instR k q i j)
 | 0,_=>trivial
 | 1,_=>trivial
 | j+2,i=>by
  have:=zQ5 k q (j+1) (i+1)
  unfold instR at this ⊢
  rw[List.range'_succ,List.map_cons,List.range'_succ,List.map_cons]
  rw[List.range'_succ,List.map_cons] at this
  exact⟨.inr ⟨rfl,.inr ⟨rfl,by dsimp only;omega⟩⟩,this⟩
theorem zQ6(nest:List zG):(nestPts nest).1.Pairwise lexlt:=by
 unfold nestPts;split
 ·refine(zQe nest []).imp ?_;rintro q w ⟨r,s,e1,e2,h⟩;rw[e1,e2];exact h
 ·exact List.Pairwise.nil
theorem zQj(k:Int)(x:zF):Ch nxt (partI k x):=by
 unfold partI;refine Ch.flat (λq _=>zQ5 k q _ 0) ((zQ6 x.Nest).imp ?_);intro q w h a ha b hb;obtain⟨a1,a2,_⟩:=zM8 ha;obtain⟨b1,b2,_⟩:=zM8 hb;exact .inr ⟨by rw[a1,b1],.inl (by rw[a2,b2];exact h)⟩
theorem zQ0{k:Int}{x:zF}{z:zR}(h:z∈partI k x):z.Part=k:=by
 unfold partI at h;obtain⟨q,_,hz⟩:=List.mem_flatMap.1 h;exact(zM8 hz).1
theorem zQk(P:zC):Ch nxt (progI P):=by
 unfold progI;refine Ch.flat (λi _=>zQj _ _) ((List.pairwise_lt_range' 1).imp ?_);intro i j h a ha b hb;exact .inl (by rw[zQ0 ha,zQ0 hb];omega)
end Go.LN
namespace Go.LN
theorem zQ7:∀{a:List Int},¬lexlt a a
 | [],h=>h.elim
 | x::a,h=>by
  rcases h with h|⟨_,h⟩
  ·omega
  ·exact zQ7 h
end Go.LN
namespace Go.LN
theorem zQu{P:Kn}{i k:Nat}(h1:i<k)(h2:k<P.n)(h3:P.k i k ≠ 0):(⟨(i:Int),(k:Int),P.k i k⟩:yR)∈dqA P 0 P.n:=by
 unfold dqA dqR;refine List.mem_flatMap.2 ⟨i,List.mem_range'_1.2 ⟨by omega,by omega⟩,List.mem_flatMap.2 ⟨k,List.mem_range'_1.2 ⟨by omega,by omega⟩,?_⟩⟩;unfold dq1;rw[if_neg (by simpa using h3)];exact List.mem_singleton.2 rfl
end Go.LN
namespace Go.LN
theorem specEqI(a b:List Int)(h:a.length<=1048576):zQI a b=some (eqI a b):=by
 unfold zQI eqI;by_cases hl:a.length=b.length
 ·have hf:=zKL (q:=λx y=>x==y) hl (f:=zQA a b) (λi h1 h2=>by
   rw[zQA];have c:((i:Int)<(a.length:Int)):=by omega
   simp only[c,dT,if_true,xA h1,xA h2,oB,oS,oP];rw[uF (by omega)];by_cases e:a[i]=b[i]
   ·simp[e]
   ·simp[e]) (by rw[zQA];simp)
  have e:((a.length:Int) != (b.length:Int))=false:=by simp[hl]
  rw[hf,e];cases eqL (λx y=>x==y) a b <;> rfl
 ·have e:((a.length:Int) != (b.length:Int))=true:=by simp;omega
  rw[e,zIE hl];rfl
theorem specAff(x y:zA)(h:x.Coefs.length<=1048576):zQD x y=some (afB x y):=by
 unfold zQD afB;rw[specEqI _ _ h];cases eqI x.Coefs y.Coefs <;> cases x.Const==y.Const <;> rfl
end Go.LN
namespace Go.LN
theorem specLex(a b:List Int)(ha:a.length<=1048576)(hl:a.length=b.length):zQH a b=some (ltL a b):=by
 have key:∀(j q:Nat),q+j=a.length->(∃c,zPy a b (q:Int)=some (.ret c)/\c=ltL (a.drop q) (b.drop q))∨(zPy a b (q:Int)=some (.done ())/\ltL (a.drop q) (b.drop q)=false):=by
  intro j
  induction j with
  | zero=>
   intro q hq;refine .inr ⟨?_,?_⟩
   ·rw[zPy];have:¬((q:Int)<(a.length:Int)):=by omega
    simp only[this,dF,bF,if_false,oB,oS,oP]
   ·rw[dN.2 (show a.length<=q by omega),dN.2 (show b.length<=q by omega)];rfl
  | succ j ih=>
   intro q hq;have h1:q<a.length:=by omega
   have h2:q<b.length:=by omega
   have hc:((q:Int)<(a.length:Int)):=by omega
   have ba:((q:Int)<(b.length:Int)):=by omega
   rw[zPy,gC h1,gC h2];simp only[hc,ba,dT,if_true,xA h1,xA h2,oB,oS,oP];unfold ltL;rw[cmpL];by_cases e1:a[q]<b[q]
   ·refine .inl ⟨true,?_,?_⟩
    ·have:(a[q] != b[q])=true:=by simp;omega
     simp[this,e1]
    ·simp[e1]
   ·by_cases e2:b[q]<a[q]
    ·refine .inl ⟨false,?_,?_⟩
     ·have:(a[q] != b[q])=true:=by simp;omega
      simp[this,e1]
     ·simp[e1,e2]
    ·have:(a[q] != b[q])=false:=by simp;omega
     simp only[this,bF,if_false,e1,e2];rw[uF (by omega)];exact ih (q+1) (by omega)
 unfold zQH;have h:=key a.length 0 (Nat.zero_add _);rw[nZ,List.drop_zero,List.drop_zero] at h;rcases h with⟨c,h,rfl⟩|⟨h,h2⟩
 ·simp only[h,oB,oS,oP]
 ·have:¬((a.length:Int)<(b.length:Int)):=by omega
  simp only[h,h2,this,dF,oB,oS,oP]
end Go.LN
namespace Go.LN
theorem zQX:∀{a b c:List Int},lexlt a b->lexlt b c->lexlt a c
 | x::a,y::b,z::c,h1,h2=>by
  rcases h1 with h1|⟨rfl,h1⟩
  ·rcases h2 with h2|⟨rfl,h2⟩
   ·exact .inl (by omega)
   ·exact .inl h1
  ·rcases h2 with h2|⟨rfl,h2⟩
   ·exact .inl h2
   ·exact .inr ⟨rfl,zQX h1 h2⟩
 | [],_,_,h1,_=>h1.elim
 | _::_,[],_,h1,_=>h1.elim
 | _::_,_::_,[],_,h2=>h2.elim
def ordI(a b:zR):Prop:=a.Part<b.Part∨(a.Part=b.Part/\(lexlt a.Point b.Point∨(a.Point=b.Point/\a.Stmt<b.Stmt)))
theorem zQ1{a b c:zR}(h1:ordI a b)(h2:ordI b c):ordI a c:=by
 rcases h1 with h1|⟨e1,h1⟩
 ·rcases h2 with h2|⟨e2,_⟩
  ·exact .inl (by omega)
  ·exact .inl (by omega)
 ·rcases h2 with h2|⟨e2,h2⟩
  ·exact .inl (by omega)
  ·refine .inr ⟨by omega,?_⟩;rcases h1 with h1|⟨p1,h1⟩
   ·rcases h2 with h2|⟨p2,_⟩
    ·exact .inl (zQX h1 h2)
    ·exact .inl (p2 ▸ h1)
   ·rcases h2 with h2|⟨p2,h2⟩
    ·exact .inl (p1 ▸ h2)
    ·exact .inr ⟨p1.trans p2,by omega⟩
theorem zQf{a b:zR}(h:nxt a b):ordI a b:=by
 rcases h with h|⟨e,h|⟨p,h⟩⟩
 ·exact .inl h
 ·exact .inr ⟨e,.inl h⟩
 ·exact .inr ⟨e,.inr ⟨p,by omega⟩⟩
theorem zQg:∀{l:List zR},Ch nxt l->l.Pairwise ordI
 | [],_=>List.Pairwise.nil
 | [a],_=>List.pairwise_singleton ..
 | a::b::l,h=>by
  have ih:=zQg (l:=b::l) h.2
  refine List.pairwise_cons.2 ⟨λx hx=>?_,ih⟩
  rcases List.mem_cons.1 hx with rfl|hx
  ·exact zQf h.1
  ·exact zQ1 (zQf h.1) ((List.pairwise_cons.1 ih).1 x hx)
theorem zQ8{P:zC}{i k:Nat}(h:i<k)(hk:k<(progI P).length):ordI (zIns P i) (zIns P k):=by
 have hp:=List.pairwise_iff_getElem.1 (zQg (zQk P)) i k (by omega) hk h;rw[zHT (by omega),zHT hk];exact hp
end Go.LN
namespace Go.LN
theorem zQl{P:zC}{i j:Nat}{q:List Int}(hi:i<P.Parts.length)(hq:q∈(nestPts P.Parts[i].Nest).1)(hj:j<P.Parts[i].Body.length):(⟨(i:Int),(j:Int),q⟩:zR)∈progI P:=by
 have hg:gP P i=P.Parts[i]:=by simp[gP,hi]
 refine List.mem_flatMap.2 ⟨i,List.mem_range'_1.2 ⟨by omega,by omega⟩,?_⟩;rw[hg];exact List.mem_flatMap.2 ⟨q,hq,List.mem_map.2 ⟨j,List.mem_range'_1.2 ⟨by omega,by omega⟩,rfl⟩⟩
end Go.LN
namespace Go.LN
theorem specSd(a b:List zA)(ha:BL a):zQC a b=some (eqL afB a b):=by
 have hb:=ha.1;unfold zQC;by_cases hl:a.length=b.length
 ·have hf:=zKL (q:=afB) hl (f:=zPw a b) (λi h1 h2=>by
   rw[zPw];have c:((i:Int)<(a.length:Int)):=by omega
   have hc:=ha.2 _ (gM h1);simp only[c,dT,if_true,xA h1,xA h2,specAff _ _ (show a[i].Coefs.length<=1048576 by unfold BA at hc;omega),oB,oS,oP];rw[uF (by omega)];cases afB a[i] b[i] <;> rfl) (by rw[zPw];simp)
  have e:((a.length:Int) != (b.length:Int))=false:=by simp[hl]
  rw[hf,e];cases eqL afB a b <;> rfl
 ·have e:((a.length:Int) != (b.length:Int))=true:=by simp;omega
  rw[e,zIE hl];rfl
theorem specNs(a b:List zG)(ha:BN a):zQG a b=some (eqL lpB a b):=by
 have hb:=ha.1;unfold zQG;by_cases hl:a.length=b.length
 ·have hf:=zKL (q:=lpB) hl (f:=zPz a b) (λi h1 h2=>by
   rw[zPz];have c:((i:Int)<(a.length:Int)):=by omega
   have hc:=ha.2 _ (gM h1);simp only[c,dT,if_true,xA h1,xA h2,specSd _ _ hc.1,specSd _ _ hc.2,oB,oS,oP];rw[uF (by omega)];unfold lpB;cases eqL afB a[i].Lo b[i].Lo <;> cases eqL afB a[i].Hi b[i].Hi <;> rfl) (by rw[zPz];simp)
  have e:((a.length:Int) != (b.length:Int))=false:=by simp[hl]
  rw[hf,e];cases eqL lpB a b <;> rfl
 ·have e:((a.length:Int) != (b.length:Int))=true:=by simp;omega
  rw[e,zIE hl];rfl
end Go.LN
namespace Go.LN
theorem zQv{A:List zD}{l:List zF}{k:Nat}(hl:l.length=k){x:zF}{r:List zF}:gP ⟨A,l++x::r⟩ k=x:=by
 unfold gP;simp[List.getElem?_append_right,hl]
theorem zQV{P:zC}{k:Nat}(h:k<P.Parts.length):(P.Parts.take k).length=k:=by rw[List.length_take];omega
theorem zQ9{P:zC}{k:Nat}(h:k+1<P.Parts.length):gP (fuP P k) k=⟨(gP P k).Nest,(gP P k).Body++(gP P (k+1)).Body⟩:=zQv (zQV (by omega))
theorem zQz{P:zC}{k:Nat}(h:k+1<P.Parts.length)(hn:(gP P k).Nest=(gP P (k+1)).Nest):diP (fuP P k) k (gP P k).Body.length=P:=by
 have h1:=zQ9 h;have e1:(fuP P k).Parts.take k=P.Parts.take k:=by
  unfold fuP;simp only;rw[List.take_append_of_le_length (by rw[zQV (by omega)];exact Nat.le_refl _),List.take_take,Nat.min_self]
 have e2:(fuP P k).Parts.drop (k+1)=P.Parts.drop (k+2):=by
  unfold fuP;simp only;rw[List.drop_append,List.drop_eq_nil_of_le (by rw[zQV (by omega)];omega),zQV (by omega),show k+1 - k=1 by omega];rfl
 have e3:(⟨(gP P k).Nest,(gP P k).Body⟩:zF)=gP P k:=rfl;have e4:(⟨(gP P k).Nest,(gP P (k+1)).Body⟩:zF)=gP P (k+1):=by rw[hn]
 unfold diP;rw[h1,e1,e2,List.take_left',List.drop_left' rfl]
 ·rw[e3,e4,<- zP9 h,<- zP9 (show k<P.Parts.length by omega),List.take_append_drop];rfl
 ·rfl
theorem zQm{P:zC}{z:zR}(h:z∈progI P):∃i,i<(progI P).length/\zIns P i=z:=by
 obtain⟨i,hi,e⟩:=List.getElem_of_mem h;exact⟨i,hi,(zHT hi).trans e⟩
theorem zQa{a:zR}:¬ordI a a:=by
 rintro(h|⟨_,h|⟨_,h⟩⟩)
 ·omega
 ·exact zQ7 h
 ·omega
theorem zQw{P:zC}{i k:Nat}(hi:i<(progI P).length)(hk:k<(progI P).length)(h:ordI (zIns P i) (zIns P k)):i<k:=by
 rcases Nat.lt_trichotomy i k with h1|rfl|h1
 ·exact h1
 ·exact(zQa h).elim
 ·exact(zQa (zQ1 h (zQ8 h1 hi))).elim
theorem zQ2{r1 r2:List Int}{w1 w2:Int}:kindF r1 w1 r2 w2=0↔(hasB r2 w1=false/\hasB r1 w2=false/\(w1==w2)=false):=by
 unfold kindF;cases hasB r2 w1 <;> cases hasB r1 w2 <;> cases (w1==w2) <;> simp
theorem zQb{r1 r2:List Int}{w1 w2:Int}(h:kindF r1 w1 r2 w2 ≠ 0):kindF r2 w2 r1 w1 ≠ 0:=by
 intro e;rw[zQ2] at e;refine h (zQ2.2 ⟨e.2.1,e.1,?_⟩);have:=e.2.2;simp only[beq_eq_false_iff_ne,ne_eq] at this ⊢;exact λh=>this h.symm
theorem zQh{P:zC}{z:zR}(h:z∈progI P):∃(i j:Nat) (q:List Int),z=⟨(i:Int),(j:Int),q⟩/\i<P.Parts.length/\j<(gP P i).Body.length/\q∈(nestPts (gP P i).Nest).1:=by
 unfold progI at h;obtain⟨i,hi,h⟩:=List.mem_flatMap.1 h;unfold partI at h;obtain⟨q,hq,h⟩:=List.mem_flatMap.1 h;unfold instR at h;obtain⟨j,hj,rfl⟩:=List.mem_map.1 h;exact⟨i,j,q,rfl,by have:=(List.mem_range'_1.1 hi).2;omega,by have:=(List.mem_range'_1.1 hj).2;omega,hq⟩
theorem zQi{P:zC}{i j:Nat}{q:List Int}(hi:i<P.Parts.length)(hj:j<(gP P i).Body.length)(hq:q∈(nestPts (gP P i).Nest).1):(⟨(i:Int),(j:Int),q⟩:zR)∈progI P:=by
 rw[zLk hi] at hj hq;exact zQl hi hq hj
theorem zQn:∀{a b:List Int},lexlt a b->ltL a b=true
 | x::a,y::b,h=>by
  unfold ltL
  rw[cmpL]
  rcases h with h|⟨rfl,h⟩
  ·rw[if_pos h];rfl
  ·have:=zQn h
   unfold ltL at this
   rw[if_neg (by omega),if_neg (by omega)];exact this
 | [],_,h=>h.elim
 | _::_,[],h=>h.elim
theorem clash{P:zC}(hv:validP P=true){w1 w2:zR}(h1:w1∈progI P)(h2:w2∈progI P)(ho:ordI w1 w2)(hk:kindF (rdI P w1) (wrI P w1) (rdI P w2) (wrI P w2) ≠ 0):∃d∈dpF P,zIns P d.From.toNat=w1/\zIns P d.To.toNat=w2:=by
 obtain⟨i,hi,rfl⟩:=zQm h1;obtain⟨k,hk',rfl⟩:=zQm h2;refine⟨⟨(i:Int),(k:Int),kindI P i k⟩,?_,rfl,rfl⟩;unfold dpF;rw[if_pos hv];exact zQu (P:=kn P) (zQw hi hk' ho) hk' hk
theorem zQt{P Q:zC}{z w:zR}(hA:Q.Arrays=P.Arrays)(hs:stI Q z=stI P w)(hq:z.Point=w.Point):rdI Q z=rdI P w/\wrI Q z=wrI P w:=by
 unfold rdI wrI;rw[hA,hs,hq];exact⟨rfl,rfl⟩
theorem zQ3(P:zC)(i j:Nat)(q:List Int):stI P ⟨(i:Int),(j:Int),q⟩=(gP P i).Body.getD j STz:=rfl
theorem zRA{P:zC}(hv:validP P=true){d:yR}(h:d∈dpF P):∃a b:Nat,d=⟨(a:Int),(b:Int),kindI P a b⟩/\a<b/\b<(progI P).length/\kindI P a b ≠ 0:=by
 unfold dpF at h;rw[if_pos hv] at h;exact zO5 h
theorem zQx{P:zC}{k:Nat}(hk:k+1<P.Parts.length)(hv:validP P=true)(hv':validP (fuP P k)=true)(hn:(gP P k).Nest=(gP P (k+1)).Nest)(h:(dpF P).any (fuD P (k:Int))=false):
 (dpF (fuP P k)).any (diD (fuP P k) (k:Int) ((gP P k).Body.length:Int))=false:=by
 rw[List.any_eq_false] at h ⊢
 intro d hd hD
 obtain⟨a,b,rfl,hab,hbl,hkd⟩:=zRA hv' hd
 simp only[diD,bA,beq_iff_eq,decide_eq_true_eq,iN] at hD
 obtain⟨p1,p2,s2,s1⟩:=hD
 obtain⟨i1,j1,q1,z1,hi1,hj1,hq1⟩:=zQh (zJh (P:=fuP P k) (a:=a) (by omega))
 obtain⟨i2,j2,q2,z2,hi2,hj2,hq2⟩:=zQh (zJh (P:=fuP P k) hbl)
 have ho:=zQ8 hab hbl
 unfold kindI at hkd
 rw[z1] at p1 s1 ho hkd
 rw[z2] at p2 s2 ho hkd
 simp only at p1 p2 s1 s2
 obtain rfl:i1=k:=by omega
 obtain rfl:i2=i1:=by omega
 rw[zQ9 hk] at hj1 hq1 hj2 hq2
 simp only[lA] at hj1 hj2 hq1 hq2
 have hlex:lexlt q1 q2:=by
  rcases ho with ho|⟨_,ho|⟨_,ho⟩⟩
  ·simp only at ho;omega
  ·exact ho
  ·simp only at ho;omega
 have r1:=zQt (P:=P) (Q:=fuP P i2) (z:=⟨(i2:Int),(j1:Int),q1⟩) (w:=⟨((i2+1:Nat):Int),((j1 - (gP P i2).Body.length:Nat):Int),q1⟩) rfl (by
  rw[zQ3,zQ3,zQ9 hk]
  simp only[List.getD_eq_getElem?_getD]
  rw[List.getElem?_append_right (by omega)]) rfl
 have r2:=zQt (P:=P) (Q:=fuP P i2) (z:=⟨(i2:Int),(j2:Int),q2⟩) (w:=⟨(i2:Int),(j2:Int),q2⟩) rfl (by
  rw[zQ3,zQ3,zQ9 hk]
  simp only[List.getD_eq_getElem?_getD]
  rw[List.getElem?_append_left (by omega)]) rfl
 rw[r1.1,r1.2,r2.1,r2.2] at hkd
 obtain⟨d',hd',f1,f2⟩:=clash hv (zQi (show i2<P.Parts.length by omega) (by omega) hq2) (zQi hk (by omega) (by rw[<- hn];exact hq1)) (.inl (by simp only;omega)) (zQb hkd)
 refine h d' hd' ?_
 unfold fuD
 rw[f1,f2]
 simp only[zQn hlex,Bool.and_true,bA,beq_iff_eq,true_and]
 omega
end Go.LN
namespace Go.LN
theorem zQy{P:zC}(hb:BG P)(hv:validP P=true){part:Int}(h0:0<=part)(h1:part+1<(P.Parts.length:Int))(hn:(gP P part.toNat).Nest=(gP P (part.toNat+1)).Nest):zBE part (progI P) (dpF P) zP 0=some (if(dpF P).any (fuD P part) then .ret (zP,false) else .done zP):=by
 have bf:=zMI (P:=P);have h4:=(zAr hv (show 0<P.Parts.length by omega)).2.2;rw[<- zHS (dpF P) (fuD P part) ⟨0,0,0⟩];refine zJj (f:=zBE part (progI P) (dpF P) zP) (λi hi=>?_) ?_
 ·have hc:((i:Int)<((dpF P).length:Int)):=by omega
  obtain⟨a1,a2,a3,a4⟩:=zNd (gM hi);have hg:(dpF P).getD i ⟨0,0,0⟩=(dpF P)[i]:=by simp[hi]
  rw[zBE,hg];simp only[hc,dT,if_true,xA hi,a1,a2,oB,oS,oP];unfold fuD;rw[rE (x:=part+1) (by omega) (by omega),uF (by omega)];have l1:=zOa hb hv a3;have l2:=zOa hb hv a4;by_cases e1:(zIns P (dpF P)[i].From.toNat).Part=part
  ·by_cases e2:(zIns P (dpF P)[i].To.toNat).Part=part+1
   ·rw[e1] at l1;rw[e2,show (part+1).toNat=part.toNat+1 by omega,<- hn] at l2;have hL:=specLex (zIns P (dpF P)[i].To.toNat).Point (zIns P (dpF P)[i].From.toNat).Point (by omega) (by omega);simp only[e1,e2,bQ,if_true,hL,oS,Bool.true_and,id];cases ltL (zIns P (dpF P)[i].To.toNat).Point (zIns P (dpF P)[i].From.toNat).Point <;> rfl
   ·have:((zIns P (dpF P)[i].To.toNat).Part==part+1)=false:=by simpa using e2
    simp only[this,e1,bQ,if_true];rfl
  ·have:((zIns P (dpF P)[i].From.toNat).Part==part)=false:=by simpa using e1
   simp only[this];rfl
 ·rw[zBE];simp
theorem specFu(P:zC)(hb:BG P)(part:Int):zQF P part=some (fuF P part):=by
 unfold zQF fuF okFu;rw[sowPg P hb];simp only[oB,oS,specValidP P hb,oP];cases hv:validP P with
 | false=>rfl
 | true=>
  have h4:=(gV hv).2.1;simp only[bT,bF,if_false,Bool.true_and,rE (x:=(P.Parts.length:Int) - 1) (by omega) (by omega)];by_cases h0:0<=part
  ·have h0':¬(part<0):=by omega
   by_cases h1:part+1<(P.Parts.length:Int)
   ·have h1':¬(part>=(P.Parts.length:Int) - 1):=by omega
    have b1:=hb.2.2 _ (zLL (show part.toNat<P.Parts.length by omega));have q1:=zAr hv (show part.toNat<P.Parts.length by omega);have q2:=zAr hv (show part.toNat+1<P.Parts.length by omega);have ei:idx P.Parts (part+1)=some (gP P (part.toNat+1)):=by
     have:=zKM (P:=P) (part:=part+1) (by omega) h1;rwa[show (part+1).toNat=part.toNat+1 by omega] at this
    have ep0:idx P.Parts part=some (gP P part.toNat):=zKM h0 (by omega);simp only[h0,h0',h1,h1',dT,dF,bF,if_false,Bool.and_self,Bool.true_and,ep0,oS,rE (x:=part+1) (by omega) (by omega),ei,specNs _ _ b1.1];cases hn:eqL lpB (gP P part.toNat).Nest (gP P (part.toNat+1)).Nest with
    | false=>rfl
    | true=>
     simp only[bT,bF,if_false,Bool.true_and,specInsts P hv,sDeps hb hv,oS];rw[show zBE part (progI P) (dpF P) (zC.mk ([]:List zD) ([]:List zF)) 0=_ from zQy hb hv h0 h1 (zPq.1 hn)];cases hd:(dpF P).any (fuD P part) with
     | true=>rfl
     | false=>
      have e1:app 152 ([]:List zI) (gP P part.toNat).Body=some (gP P part.toNat).Body:=appN _ (by omega);have e2:app 152 (gP P part.toNat).Body (gP P (part.toNat+1)).Body=some ((gP P part.toNat).Body++(gP P (part.toNat+1)).Body):=qJ (by omega);simp only[bF,if_false,Bool.not_false,if_true,oS];have hw:zBG P part 2 [zF.mk (gP P part.toNat).Nest ((gP P part.toNat).Body++(gP P (part.toNat+1)).Body)]=some (finQ (fuP P part.toNat)):=specWith hb hv (zOq hb hv (k:=part.toNat) (by omega)) (k:=part.toNat) (m:=2) (by omega) (by simp) rfl (by unfold fuP;simp) (by omega) rfl;rw[e1];simp only[oS,e2,hw]
   ·have h1':part>=(P.Parts.length:Int) - 1:=by omega
    simp only[h0,h0',h1,h1',dT,dF,bF,if_false,if_true,Bool.and_false,Bool.false_and,oS];rfl
  ·have h0':part<0:=by omega
   simp only[h0,h0',dT,dF,if_true,Bool.false_and,bF,if_false,oS];rfl
theorem zQS{P:zC}{part:Int}(h:okFu P part=true):validP P=true/\0<=part/\part.toNat+1<P.Parts.length/\(gP P part.toNat).Nest=(gP P (part.toNat+1)).Nest/\(dpF P).any (fuD P part)=false:=by
 simp only[okFu,bA,decide_eq_true_eq,Bool.not_eq_true'] at h;exact⟨h.1.1.1,h.1.1.2.1,by omega,zPq.1 h.1.2,h.2⟩
theorem zQo{P:zC}(hb:BG P)(part:Int):BG (fuF P part).1:=by
 unfold fuF;split
 ·rename_i h;obtain⟨h1,_,h3,_⟩:=zQS h;exact zPr (zOq hb h1 h3)
 ·exact zPx
theorem zQp{P:zC}{part:Int}(h:(fuF P part).2=true):okFu P part=true/\validP (fuP P part.toNat)=true/\fuF P part=(fuP P part.toNat,true):=by
 unfold fuF at h ⊢;split at h
 ·rename_i h1;unfold finQ at h ⊢;split at h
  ·rename_i h2;exact⟨h1,h2,by rw[if_pos h1,if_pos h2]⟩
  ·cases h
 ·cases h
theorem zQs{P:zC}(hb:BG P){part:Int}(h:(fuF P part).2=true):diF (fuF P part).1 part ((gP P part.toNat).Body.length:Int)=(P,true):=by
 obtain⟨h1,h2,h3⟩:=zQp h;obtain⟨k1,k2,k3,k4,k5⟩:=zQS h1;have q1:=zAr k1 (show part.toNat<P.Parts.length by omega);have q2:=zAr k1 k3;have ep:((part.toNat:Nat):Int)=part:=by omega
 rw[h3];have hno:=zQx k3 k1 h2 k4 (by rw[ep];exact k5);rw[ep] at hno;have hok:okDi (fuP P part.toNat) part ((gP P part.toNat).Body.length:Int)=true:=by
  simp only[okDi,h2,hno,k2,zQ9 k3,zP6 k3,lA,Bool.true_and,Bool.not_false,Bool.and_true,bA,decide_eq_true_eq,true_and];omega
 unfold diF;rw[if_pos hok,iN,zQz k3 k4];unfold finQ;rw[if_pos k1]
theorem drawFu(code:List UInt8):Ok (zQB code) (λy=>BG y.1):=by
 unfold zQB;exact Ok.call (zOp code) trivial λs hs=>Ok.bind (args8 s (by omega) (by omega)) λy hy=>Ok.pure hy
theorem zQ4(code:List UInt8):∃r,zQE code=some r/\r=true:=by
 unfold zQE;by_cases hc:(code.length:Int)>1048576
 ·exact⟨true,by simp only[hc,dT,if_true];rfl,rfl⟩
 ·obtain⟨⟨P,part⟩,hy,hb⟩:=drawFu code;dsimp only at hb;simp only[hc,dF,bF,if_false,hy,oB,oS,implFu P hb,specFu P hb,bQ,bT,sPg _ (zQo hb part),oP,if_true];cases hf:(fuF P part).2 with
  | false=>exact⟨true,rfl,rfl⟩
  | true=>
   obtain⟨h1,h2,h3⟩:=zQp hf;obtain⟨k1,k2,k3,k4,k5⟩:=zQS h1;refine⟨true,?_,rfl⟩;simp only[bT,bF,if_false,oS,zKM k2 (show part<(P.Parts.length:Int) by omega),implDi _ (zQo hb part),zQs hb hf,if_true,sPg P hb,id]
end Go.LN
