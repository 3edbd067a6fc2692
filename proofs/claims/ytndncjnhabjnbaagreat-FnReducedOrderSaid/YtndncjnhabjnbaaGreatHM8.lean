/- Helper of the proof (see the last text). -/
import Derived.Test.YtndncjnhabjnbaaGreatHM7
set_option linter.unusedVariables false
set_option linter.unusedSimpArgs false
namespace Go.LN
open Go.Proofs Go.Proofs.Tryz
set_option maxRecDepth 20000
def dR(a0:xT)(b:xT):Option (Int):=do
 let y<-dY b.reads a0.write;let n0<-(do
  if y then pure (W (0+1))
  else
   pure (id 0)
    : Option Int)
 let y1<-dY a0.reads b.write;let n01<-(do
  if y1 then pure (W (n0+2))
  else
   pure (id n0)
    : Option Int)
 let n02<-(do
  if(a0.write==b.write) then pure (W (n01+4))
  else
   pure (id n01)
    : Option Int)
 pure (id n02)
theorem zHq:∀a0 b r,dR a0 b=some r->∀{I:Imm}{p c p1 c1},(S4 I p a0.reads c)->(S4 I p1 b.reads c1)->RT 105 [vA [vS p a0.reads c,vI a0.write],vA [vS p1 b.reads c1,vI b.write]] I [] (yJ  r):=by
 intro a0 b r N I p c p1 c1 h h1;unfold dR at N;refine yL func105 λB=>?_;have H:=iS I;refine yF<|vK [vS p a0.reads c,vI a0.write] ?_;intro b1 hb;refine vK [vS p1 b.reads c1,vI b.write] ?_;intro b2 hb1;refine wB [] []<|wV [5] rfl<|zZ<|yF<|yG 4 [0,1] [7,9] rfl<|bE N λy hy N=>vJ (zEb b.reads a0.write _ hy h1) ?_;intro I0 le;have ⟨h,H⟩:=m2 le h H;refine yA rfl<|zG ?_;refine wK N [hB b2 [vS p1 b.reads c1,vI b.write],hB b1 [vS p a0.reads c,vI a0.write]] (λn0=>[(2,vP b1 0),(3,vP b2 0),(5,vI n0)]) (λo0 aA=>?_) ?_
 ·have H:=iS I0;refine yE aA ?_ ?_
  ·intro hc N;exact zJ<|yK [] [5] rfl<|yS<|zV (ct N H)
  intro hc N;exact zT<|yS<|zV (ct N H)
 intro n0 aT aa aQ;have ⟨h,H⟩:=m2 aa h H;refine zZ<|yF<|yG 4 [1,0] [14,16] rfl ?_;obtain⟨y1,ay,N⟩:=zB aQ;refine vJ (zEb a0.reads b.write _ ay h) ?_;intro aP aD;have H:=H.trans aD;refine yA rfl<|zG ?_;refine wK N [hB b2 [vS p1 b.reads c1,vI b.write],hB b1 [vS p a0.reads c,vI a0.write]] (λn01=>[(2,vP b1 0),(3,vP b2 0),(5,vI n01)]) (λaO aB=>?_) ?_
 ·have H:=iS aP;refine yE aB ?_ ?_
  ·intro aE N;exact zJ<|yK [] [5] rfl<|yS<|zV (ct N H)
  intro aE N;exact zT<|yS<|zV (ct N H)
 intro n01 bx aH hMc1;have H:=H.trans aH;refine zZ<|yF<|yK [1,0] [24] rfl<|zG ?_;refine wK hMc1 [] (λn02=>[(5,vI n02)]) (λo02 ho02=>?_) ?_
 ·have H:=iS bx;refine yE ho02 ?_ ?_
  ·intro aV N;exact zJ<|yK [] [5] rfl<|xW zM<|yS<|zV (ct N H)
  intro aV N;exact zT<|xW zM<|yS<|zV (ct N H)
 intro n02 bI bf hMc2;refine wV [4] rfl<|zG<|yX ?_;obtain rfl:=zD hMc2;exact wC
def mF(y:(List xT))(i:Int)(aq:List zR)(k0:Int):Option (List zR):=do
 if(decide (k0<(y.length:Int))) then
  let x<-idx y i;let x1<-idx y k0;let y1<-dR x x1;let br<-(do
   if(y1 != 0) then
    let out5<-app 24 aq ([(zR.mk i k0 y1)]:List zR);pure (id out5)
   else
    pure (id aq)
     : Option (List zR))
  mF y i br (W (k0+1))
 else pure (id aq)
 partial_fixpoint
theorem zGN(y:(List xT))(i:Int):∀(aq:List zR) (k0:Int) (o:List zR),mF y i aq k0=some o->∀{B}{I0 I:Imm}{Q p3 c2 p6 c5 aM},I0.le I->(S4 I p3 y c2)->(RL I aM aq)->NG Q->NO Q->(∀I' aL p7 c6 aU,o=aL->I0.le I'->(RL I' aU aL)->T 44 B Q (.exit 2) I' [hO zR (vS p7 aL c6) aU] [(3,vS p7 aL c6),(4,vS p3 y c2),(5,vI i)])->J Tryz.prog 44 B (nav (bodyOf f68) [1,1,1,0,1,0,0,1,0,0,1,0]) Q I [hO zR (vS p6 aq c5) aM] [(3,vS p6 aq c5),(4,vS p3 y c2),(5,vI i),(6,vI k0)]:=by
 refine mF.partial_correctness y i _ λaI ih aq k0 o N B I0 I Q p3 c2 p6 c5 aM H h3 h6 hg ho hx=>yV hg ho<|yB<|yH [22] rfl<|zG<|yE N ?_ ?_
 ·intro aE N;refine zT<|zZ<|yI<|yB ?_;obtain⟨x,ay,N⟩:=zB N;obtain⟨x1,aF,N⟩:=zB N;obtain⟨y1,aX,N⟩:=zB N;refine wA [.p (vS p3 y c2) [],.p (vI i) [],.x (λI' v hx=>∃ad p8 c7,v=.pointer (some ad)/\hx=[]/\(At I' ad [vS p8 x.reads c7,vI x.write])/\(S4 I' p8 x.reads c7)),.x (λI' v hx=>∃p81 c71,v=vA [vS p81 x.reads c71,vI x.write]/\hx=[]/\(S4 I' p81 x.reads c71)),.p (vS p3 y c2) [],.p (vI k0) [],.x (λI' v hx=>∃ad1 p9 c8,v=.pointer (some ad1)/\hx=[]/\(At I' ad1 [vS p9 x1.reads c8,vI x1.write])/\(S4 I' p9 x1.reads c8)),.x (λI' v hx=>∃p91 c81,v=vA [vS p91 x1.reads c81,vI x1.write]/\hx=[]/\(S4 I' p91 x1.reads c81)),.q (vI y1)] [[],[],[(0,false),(1,false)],[(2,false)],[],[],[(4,false),(5,false)],[(6,false)],[(3,false),(7,false)]] [hO zR (vS p6 aq c5) aM] [] [(8,false)] (zY [0]) ?_ ?_
  ·refine O2<|Ox ?_<|Ox ?_<|O2<|Ox ?_<|Ox ?_<|Oq ?_<|On
   ·intro I1 hf aa;refine yP [25,26] rfl ?_;have h3:=h3.mono aa;refine xK rfl rfl h3 ay ?_;intro ad aN ap ak;obtain⟨p8,c7,rfl,h8⟩:=zE9 ak;exact yM [] iR ⟨_,_,_,rfl,rfl,ap,h8⟩
   ·rintro I1 hf aa _ _ ⟨ad,p8,c7,rfl,rfl,ap,h8⟩;exact yP [27] rfl<|xA 0 ap [vS p8 x.reads c7,vI x.write] (vA [vS p8 x.reads c7,vI x.write]) rfl<|yM [] iR ⟨_,_,rfl,rfl,h8⟩
   ·intro I1 hf aa;refine yP [29,30] rfl ?_;have h3:=h3.mono aa;refine xK rfl rfl h3 aF ?_;intro ad1 bm ar au;obtain⟨p9,c8,rfl,h9⟩:=zE9 au;exact yM [] iR ⟨_,_,_,rfl,rfl,ar,h9⟩
   ·rintro I1 hf aa _ _ ⟨ad1,p9,c8,rfl,rfl,ar,h9⟩;exact yP [31] rfl<|xA 0 ar [vS p9 x1.reads c8,vI x1.write] (vA [vS p9 x1.reads c8,vI x1.write]) rfl<|yM [] iR ⟨_,_,rfl,rfl,h9⟩
   rintro I1 hf aa _ _ ⟨p81,c71,rfl,rfl,h81⟩ _ _ ⟨p91,c81,rfl,rfl,h91⟩;refine yP [28,32] rfl ?_;have H:=iS I1;refine eO (zHq x x1 _ aX h81 h91) ?_;intro aT aa;have H:=H.trans aa;exact yR H
  intro aP aD;refine yP [3,4,5,6,33] rfl ?_;have ⟨h6,h3,H⟩:=m3 aD h6 h3 H;refine yK [] [7] rfl<|wV [35] rfl<|zG ?_;obtain⟨o0,aA,aQ⟩:=zB N;refine qQ (λI' ag m'=>∃(br:List zR) (bb:Option Addr) (c9:Nat) (bv:List Value),o0=br/\aP.le I'/\(RL I' bv br)/\ag=[hO zR (vS bb br c9) bv]/\m'=[(3,vS bb br c9),(4,vS p3 y c2),(5,vI i),(6,vI k0)]) ?_ ?_
  ·have H:=iS aP;refine yE aA ?_ ?_
   ·intro aV N;refine zJ<|yG 5 [] [36,40] rfl<|uP [vI i,vI k0,vI y1] zR ?_;intro b2 hb2;have h12:RL aP [vI i,vI k0,vI y1] ([(zR.mk i k0 y1)]:List zR):=⟨[vI i,vI k0,vI y1],_,rfl,rfl,(gF rfl),rfl⟩;obtain⟨out5,bk,N⟩:=zB N;exact qA 92 3 1 rfl rfl rfl h6 (.inr ⟨0,rfl⟩) h12 bk λaR bd bH h13=>tX (zY [1] (ag:=[hO zR (vS aR out5 bd) bH]))<|yK [] [3] rfl<|yS<|zV ⟨_,_,_,_,(zD N).symm,H,h13,rfl,rfl⟩
   intro aV N;exact zT<|yS<|zV ⟨_,_,_,_,(zD N).symm,H,h6,rfl,rfl⟩
  rintro bx av m2 ⟨br,bb,c9,bv,heq,aH,h11,rfl,rfl⟩;subst o0;have ⟨h3,H⟩:=m2 aH h3 H;exact zL<|zG<|zJ<|yK [] [6] rfl<|yU<|nD<|ih br (W (k0+1)) _ aQ H h3 h11 hg ho hx
 intro aE N;exact wM<|yS<|hx _ _ _ _ _ (zD N).symm H h6
def mG(y:(List xT))(out:List zR)(i:Int):Option (List zR):=do
 if(decide (i<(y.length:Int))) then
  let aL<-mF y i out (W (i+1));mG y aL (W (i+1))
 else pure (id out)
 partial_fixpoint
theorem zGO(y:(List xT)):∀(out:List zR) (i:Int) (o:List zR),mG y out i=some o->∀{B}{I0 I:Imm}{Q p3 c2 p4 c3 cs},I0.le I->(S4 I p3 y c2)->(RL I cs out)->NG Q->NO Q->(∀I' aj p5 c4 az,o=aj->I0.le I'->(RL I' az aj)->T 44 B Q (.exit 0) I' [hO zR (vS p5 aj c4) az] [(3,vS p5 aj c4)])->J Tryz.prog 44 B (nav (bodyOf f68) [1,1,1,0,1,0]) Q I [hO zR (vS p4 out c3) cs] [(3,vS p4 out c3),(4,vS p3 y c2),(5,vI i)]:=by
 refine mG.partial_correctness y _ λaI ih out i o N B I0 I Q p3 c2 p4 c3 cs H h3 h4 hg ho hx=>yV hg ho<|yB<|yH [14] rfl<|zG<|yE N ?_ ?_
 ·intro hc N;refine zT<|zZ<|yI<|yH [6] rfl<|xY<|pE [(3,vS p4 out c3),(4,vS p3 y c2),(5,vI i),(6,vI (W (i+1)))] ?_;obtain⟨aO,aB,aG⟩:=zB N;refine zGN y i out (W (i+1)) aO aB iR h3 h4 (λ_ _ _ h=>hg _ _ _ h) (λ_ _ h=>ho _ _ h) ?_;intro bI aL p7 c6 aU heq1 bf h7;subst aO;have ⟨h3,H⟩:=m2 bf h3 H;exact zS<|zL<|zG<|zJ<|yK [] [5] rfl<|yU<|nD<|ih aL (W (i+1)) _ aG H h3 h7 hg ho hx
 intro hc N;exact wM<|yS<|hx _ _ _ _ _ (zD N).symm H h4
def zAR(p:zC):Option ((List zR)):=do
 let y<-gR p;let aj<-mG y ([]:List zR) 0;pure (id aj)
theorem zIo:∀p r,zAR p=some r->∀{I:Imm}{p1 c p2 c1},(S4 I p1 p.Arrays c)->(S4 I p2 p.Parts c1)->RT 68 [vA (cProg p p1 c p2 c1)] I [] (jG  r):=by
 intro p r N I p1 c p2 c1 h h1;unfold zAR at N;refine yL func68 λB=>yF<|vK (cProg p p1 c p2 c1) ?_;intro b hb;refine wB [] []<|yW<|uP [] zR ?_;intro b1 hb1;have h2:RL I [] ([]:List zR):=rfl;refine yK [] [3] rfl<|yW<|sW 1 [1] [(9,vA (cProg p p1 c p2 c1))]<|bE N λy hy N=>xF (zIn p _ hy h h1) ?_;rintro I0 av v2 k2 le - ⟨v0,rfl,rfl,h3⟩ -;have ⟨h2,h⟩:=m2 le h2 h;obtain⟨p3,c2,rfl⟩:=h3.form;refine yK [] [4] rfl<|zZ<|yH [5] rfl<|xY<|jS (zY [0] (ag:=[hO zR (vS (some ⟨b1,0,none⟩) ([]:List zR) 0) []]))<|pE [(3,vS (some ⟨b1,0,none⟩) ([]:List zR) 0),(4,vS p3 y c2),(5,vI 0)] ?_;obtain⟨o02,ho02,hMl1⟩:=zB N;refine zGO y ([]:List zR) 0 o02 ho02 iR h3 h2 nG nO ?_;intro bL aj p5 c4 az heq2 bu h5;subst o02;refine zS<|wV [2] rfl<|xD<|yZ 0 rfl ?_;intro I06 bG hl0;have h14:=SL.of_frozen hl0 bG h5;exact xU hMl1 (resT rfl) zM ⟨_,rfl,rfl,h14⟩
def rH(y1:(List Str))(y2:(List zR))(out:List zR)(i:Int):Option (List zR):=do
 if(decide (i<(y2.length:Int))) then
  let x<-idx y2 i;let x1<-idx y2 i;let t49<-(do
   let x2<-idx y1 x.From;if(x2.l==([]:List UInt8)) then pure true
   else
    let x3<-idx y1 x.From;let x4<-idx y1 x1.To;pure (!(x3.l==x4.l))
     : Option Bool)
  let aq<-(do
   if t49 then
    let x5<-idx y2 i;let aL<-app 24 out ([x5]:List zR);pure (id aL)
   else
    pure (id out)
     : Option (List zR))
  rH y1 y2 aq (W (i+1))
 else pure (id out)
 partial_fixpoint
theorem zDQ(y1:(List Str))(y2:(List zR)):∀(out:List zR) (i:Int) (o:List zR),rH y1 y2 out i=some o->∀{B}{I0 I:Imm}{Q p3 c2 p4 c3 p5 c4 cs},I0.le I->(S4 I p3 y1 c2)->(S4 I p4 y2 c3)->(RL I cs out)->NG Q->NO Q->(∀I' aj p6 c5 az,o=aj->I0.le I'->(RL I' az aj)->T 58 B Q (.exit 0) I' [hO zR (vS p6 aj c5) az] [(3,vS p6 aj c5)])->J Tryz.prog 58 B (nav (bodyOf f35) [1,1,1,1,1,0,1,0]) Q I [hO zR (vS p5 out c4) cs] [(3,vS p5 out c4),(4,vS p3 y1 c2),(5,vS p4 y2 c3),(6,vI i)]:=by
 refine rH.partial_correctness y1 y2 _ λaI ih out i o N B I0 I Q p3 c2 p4 c3 p5 c4 cs H h5 h6 h7 hg ho hx=>yV hg ho<|yB<|yH [21] rfl<|zG<|yE N ?_ ?_
 ·intro aE N;refine zT<|zZ<|yI<|yF<|yG 2 [] [24,25] rfl<|bE N λx aX N=>xK rfl rfl h6 aX ?_;intro ad aN ap ak;obtain rfl:=rJ ak;refine yG 4 [] [27] rfl<|xA 0 ap [vI x.From] (vI x.From) rfl<|yK [] [7] rfl<|yW<|yG 2 [] [29,30] rfl<|bE N λx1 bk N=>xK rfl rfl h6 bk ?_;intro ad1 bm ar au;obtain rfl:=rJ au;refine yG 4 [] [32] rfl<|xA 1 ar [vI x1.To] (vI x1.To) rfl<|yK [] [8] rfl<|zG<|yB ?_;refine wK N [hO zR (vS p5 out c4) cs] (λt49=>[(3,vS p5 out c4),(4,vS p3 y1 c2),(5,vS p4 y2 c3),(6,vI i),(49,.bool t49)]) (λo0 aA=>?_) ?_
  ·have H:=iS I;refine mV (by kernel_rfl) (by kernel_rfl)<|eX 2 [] [34,35] rfl ?_;obtain⟨x2,bC,N⟩:=zB aA;refine dZ rfl rfl h5 bC ?_;intro ad2 bO aS aZ;obtain rfl:=aZ;refine gT 0 aS [vT x2.l] (vT x2.l) rfl<|eX 6 [] [39] rfl<|zH2 [39] N ?_ ?_
   ·intro aV N;exact zLD [] [(49,vY)]<|yS<|zV (ct N H)
   intro aV N;refine eX 8 [] [40,41] rfl<|bE N λx3 hy6 N=>dZ rfl rfl h5 hy6 ?_;intro ad3 ccs3 hat3 bB;obtain rfl:=bB;refine gT 0 hat3 [vT x3.l] (vT x3.l) rfl<|eX 12 [] [44,45] rfl<|bE N λx4 hy7 N=>dZ rfl rfl h5 hy7 ?_;intro ad4 ccs4 hat4 hrep4;obtain rfl:=hrep4;exact gT 0 hat4 [vT x4.l] (vT x4.l) rfl<|zGl [] [49] rfl<|yS<|zV (ct N H)
  intro t49 bI bf aQ;have ⟨h7,h5,h6,H⟩:=m4 bf h7 h5 h6 H;refine zG ?_;obtain⟨aO,aB,hMc1⟩:=zB aQ;refine qQ (λI' ag m'=>∃(aq:List zR) (p7:Option Addr) (c6:Nat) (aM:List Value),aO=aq/\bI.le I'/\(RL I' aM aq)/\ag=[hO zR (vS p7 aq c6) aM]/\m'=[(3,vS p7 aq c6),(4,vS p3 y1 c2),(5,vS p4 y2 c3),(6,vI i)]) ?_ ?_
  ·have H:=iS bI;refine yE aB ?_ ?_
   ·intro bD N;refine zJ<|yG 3 [] [50,51,52] rfl<|bE N λx5 hy8 N=>xK rfl rfl h6 hy8 ?_;intro ad5 ccs5 hat5 hrep5;obtain rfl:=rJ hrep5;refine xA 0 hat5 [vI x5.From,vI x5.To,vI x5.Kinds] (vA [vI x5.From,vI x5.To,vI x5.Kinds]) rfl<|uP [vI x5.From,vI x5.To,vI x5.Kinds] zR ?_;intro b2 hb2;have h10:RL bI [vI x5.From,vI x5.To,vI x5.Kinds] ([x5]:List zR):=⟨[vI x5.From,vI x5.To,vI x5.Kinds],_,rfl,rfl,(gF rfl),rfl⟩;obtain⟨aL,hy9,N⟩:=zB N;exact qA 92 3 1 rfl rfl rfl h7 (.inr ⟨0,rfl⟩) h10 hy9 λp8 c7 aU h11=>tX (zY [1] (ag:=[hO zR (vS p8 aL c7) aU]))<|yK [] [3] rfl<|yS<|zV ⟨_,_,_,_,(zD N).symm,H,h11,rfl,rfl⟩
   intro bD N;exact zT<|yS<|zV ⟨_,_,_,_,(zD N).symm,H,h7,rfl,rfl⟩
  rintro bL av m2 ⟨aq,p7,c6,aM,heq1,bu,h9,rfl,rfl⟩;subst aO;have ⟨h5,h6,H⟩:=m3 bu h5 h6 H;exact zL<|zG<|zJ<|yK [] [6] rfl<|yU<|nD<|ih aq (W (i+1)) _ hMc1 H h5 h6 h9 hg ho hx
 intro aE N;exact wM<|yS<|hx _ _ _ _ _ (zD N).symm H h7
def gA(p:zC):Option ((List zR)):=do
 let y<-uG p;if(!y) then pure ([]:List zR)
 else
  let y1<-eA p;let y2<-zAR p;let aj<-rH y1 y2 ([]:List zR) 0;pure (id aj)
theorem zFK:∀p r,gA p=some r->∀{I:Imm}{p1 c p2 c1},(S4 I p1 p.Arrays c)->(S4 I p2 p.Parts c1)->RT 35 [vA (cProg p p1 c p2 c1)] I [] (jG  r):=by
 intro p r N I p1 c p2 c1 h h1;unfold gA at N;refine yL func35 λB=>yF<|vK (cProg p p1 c p2 c1) ?_;intro b hb;refine wB [] []<|yW<|uP [] zR ?_;intro b1 hb1;have h2:RL I [] ([]:List zR):=rfl;refine yK [] [3] rfl<|zZ<|yF<|sW 1 [1] [(10,vA (cProg p p1 c p2 c1))]<|bE N λy hy N=>vJ (jY p _ hy h h1) ?_;intro I0 le;have ⟨h2,h,h1⟩:=m3 le h2 h h1;refine yK [] [12] rfl<|zG<|yE N ?_ ?_
 ·intro hc N;refine yH [2] rfl<|xD<|zH<|yZ 0 rfl ?_;intro aT aa hl0;have h4:=SL.of_frozen hl0 aa h2;exact xU N (resT rfl) zM ⟨_,rfl,rfl,h4⟩
 intro hc N;refine zT<|yW<|sW 1 [1] [(14,vA (cProg p p1 c p2 c1))]<|bE N λy1 ay N=>xF (zHM p _ ay h h1) ?_;rintro aP av v2 k2 aD - ⟨v01,rfl,rfl,h5⟩ -;have ⟨h2,h,h1⟩:=m3 aD h2 h h1;obtain⟨p3,c2,rfl⟩:=h5.form;refine yK [] [4] rfl<|yW<|sW 1 [1] [(16,vA (cProg p p1 c p2 c1))]<|bE N λy2 aF N=>xF (zIo p _ aF h h1) ?_;rintro bx av v2 k2 aH - ⟨v02,rfl,rfl,h6⟩ -;have ⟨h2,h5,h⟩:=m3 aH h2 h5 h;obtain⟨p4,c3,rfl⟩:=h6.form;refine yK [] [5] rfl<|zZ<|yH [6] rfl<|xY<|jS (zY [0] (ag:=[hO zR (vS (some ⟨b1,0,none⟩) ([]:List zR) 0) []]))<|pE [(3,vS (some ⟨b1,0,none⟩) ([]:List zR) 0),(4,vS p3 y1 c2),(5,vS p4 y2 c3),(6,vI 0)] ?_;obtain⟨o02,ho02,aG⟩:=zB N;refine zDQ y1 y2 ([]:List zR) 0 o02 ho02 iR h5 h6 h2 nG nO ?_;intro I06 aj p6 c5 az heq2 bG h8;subst o02;refine zS<|wV [2] rfl<|xD<|yZ 0 rfl ?_;intro I07 le7 hl01;have h12:=SL.of_frozen hl01 le7 h8;exact xU aG (resT rfl) zM ⟨_,rfl,rfl,h12⟩
def pU(p:zC):Option ((List zN)):=do
 let y<-uG p;if(!y) then pure ([]:List zN)
 else
  let y1<-uZ p;pure (id y1)
theorem zCD:∀p r,pU p=some r->∀{I:Imm}{p1 c p2 c1},(S4 I p1 p.Arrays c)->(S4 I p2 p.Parts c1)->RT 36 [vA (cProg p p1 c p2 c1)] I [] (jA  r):=by
 intro p r N I p1 c p2 c1 h h1;unfold pU at N;refine yL func36 λB=>yF<|vK (cProg p p1 c p2 c1) ?_;intro b hb;refine wB [] []<|zZ<|yF<|sW 1 [0] [(3,vA (cProg p p1 c p2 c1))]<|bE N λy hy N=>vJ (jY p _ hy h h1) ?_;intro I0 le;have ⟨h,h1⟩:=m2 le h h1;refine yK [] [5] rfl<|zG<|yE N ?_ ?_
 ·intro hc N;refine yF<|uP [] zN ?_;intro b1 hb1;have h3:RL I0 [] ([]:List zN):=rfl;refine yK [] [2] rfl<|xD<|zH<|yZ 0 rfl ?_;intro aT aa hl0;have h4:=SL.of_frozen hl0 aa h3;exact xU N (resT rfl) zM ⟨_,rfl,rfl,h4⟩
 intro hc N;refine zT<|yW<|sW 1 [0] [(7,vA (cProg p p1 c p2 c1))]<|bE N λy1 ay N=>xF (zAD p _ ay h h1) ?_;rintro aP av v2 k2 aD - ⟨v01,rfl,rfl,h5⟩ -;obtain⟨p3,c2,rfl⟩:=h5.form;refine yK [] [2] rfl<|zG<|yX ?_;exact xU N (resT rfl) zM ⟨_,rfl,rfl,h5⟩
def zBF(r:(List Int)):KT:=λkk I' ag v=>
 ∃a0 c0 s0,ag=[.osl (.slice a0 r.length c0) (Rp.sz Int) s0]/\v=tupV [(.slice a0 r.length c0)]/\RepL (Rp.rep I') (Rp.sz Int) s0 r
def qK(list:(List Bool))(out:List Int)(i:Int):Option (List Int):=do
 if(decide (i<(list.length:Int))) then
  let x<-idx list i;let aq<-(do
   if x then
    let aL<-app 8 out ([i]:List Int);pure (id aL)
   else
    pure (id out)
     : Option (List Int))
  qK list aq (W (i+1))
 else pure (id out)
 partial_fixpoint
theorem zDq(list:(List Bool)):∀(out:List Int) (i:Int) (o:List Int),qK list out i=some o->∀{B}{I0 I:Imm}{Q p c p1 c1 cs},I0.le I->(S4 I p list c)->(RL I cs out)->NG Q->NO Q->(∀I' aj p2 c2 az,o=aj->I0.le I'->(RL I' az aj)->T 21 B Q (.exit 0) I' [hO Int (vS p2 aj c2) az] [(3,vS p2 aj c2)])->J Tryz.prog 21 B (nav (bodyOf f70) [1,1,0,1,0]) Q I [hO Int (vS p1 out c1) cs] [(0,vS p list c),(3,vS p1 out c1),(4,vI i)]:=by
 refine qK.partial_correctness list _ λaI ih out i o N B I0 I Q p c p1 c1 cs H h h2 hg ho hx=>yV hg ho<|yB<|yH [9] rfl<|zG<|yE N ?_ ?_
 ·intro hc N;refine zT<|zZ<|yI<|yF<|yG 2 [] [12,13] rfl<|bE N λx hy N=>xK rfl rfl h hy ?_;intro ad aN ap ak;obtain rfl:=ak;refine xA 0 ap [.bool x] (.bool x) rfl<|yA rfl<|zG ?_;obtain⟨o0,aA,aQ⟩:=zB N;refine qQ (λI' ag m'=>∃(aq:List Int) (p3:Option Addr) (c3:Nat) (aM:List Value),o0=aq/\I.le I'/\(RL I' aM aq)/\ag=[hO Int (vS p3 aq c3) aM]/\m'=[(0,vS p list c),(3,vS p3 aq c3),(4,vI i)]) ?_ ?_
  ·have H:=iS I;refine yE aA ?_ ?_
   ·intro aE N;refine zJ<|yG 2 [] [16,17] rfl<|uP [vI i] Int ?_;intro b1 hb1;have h5:RL I [vI i] ([i]:List Int):=rI [i];obtain⟨aL,ay,N⟩:=zB N;exact qA 3 1 1 rfl rfl rfl h2 (.inr ⟨0,rfl⟩) h5 ay λp4 c4 aU h6=>tX (zY [1] (ag:=[hO Int (vS p4 aL c4) aU]))<|yK [] [3] rfl<|yS<|zV ⟨_,_,_,_,(zD N).symm,H,h6,rfl,rfl⟩
   intro aE N;exact zT<|yS<|zV ⟨_,_,_,_,(zD N).symm,H,h2,rfl,rfl⟩
  rintro I0 av m2 ⟨aq,p3,c3,aM,heq,le,h4,rfl,rfl⟩;subst o0;have ⟨h,H⟩:=m2 le h H;exact zL<|zG<|zJ<|yK [] [4] rfl<|yU<|nD<|ih aq (W (i+1)) _ aQ H h h4 hg ho hx
 intro hc N;exact wM<|yS<|hx _ _ _ _ _ (zD N).symm H h2
def fK(list:(List Bool)):Option ((List Int)):=do
 let aj<-qK list ([]:List Int) 0;pure (id aj)
theorem zGP:∀list r,fK list=some r->∀{I:Imm}{p c},(S4 I p list c)->RT 70 [vS p list c] I [] (zBF  r):=by
 intro list r N I p c h;unfold fK at N;refine yL func70 λB=>wL []<|yW<|uP [] Int ?_;intro b hb;have h1:RL I [] ([]:List Int):=rfl;refine yK [] [3] rfl<|zZ<|yH [4] rfl<|xY<|pE [(0,vS p list c),(3,vS (some ⟨b,0,none⟩) ([]:List Int) 0),(4,vI 0)] ?_;obtain⟨aO,aB,aG⟩:=zB N;refine zDq list ([]:List Int) 0 aO aB iR h h1 nG nO ?_;intro aT aj p2 c2 az heq1 aa h3;subst aO;refine zS<|wV [2] rfl<|zG<|yX ?_;exact xU aG (resT rfl) (zX [0] rfl (by decide)) ⟨_,_,_,rfl,rfl,h3⟩
def oT(done:(List Bool))(ready1:List Bool)(i:Int):Option (List Bool):=do
 if(decide (i<(done.length:Int))) then
  let x<-idx done i;let x1<-idx ready1 i;let l<-pure (ready1.set i.toNat (!x));oT done l (W (i+1))
 else pure (id ready1)
 partial_fixpoint
theorem zFL(done:(List Bool)):∀(ready1:List Bool) (i:Int) (o:List Bool),oT done ready1 i=some o->∀{B}{I0 I:Imm}{Q}{deps:(List zR)}{p c p1 c1 p2 c2 az},I0.le I->(S4 I p deps c)->(S4 I p1 done c1)->(RL I az ready1)->NG Q->NO Q->(∀I' ready2 p3 c3 aM,o=ready2->I0.le I'->(RL I' aM ready2)->T 49 B Q (.exit 0) I' [hO Bool (vS p3 ready2 c3) aM] [(0,vS p deps c),(1,vS p1 done c1),(5,vS p3 ready2 c3)])->J Tryz.prog 49 B (nav (bodyOf f37) [1,1,0,1,0]) Q I [hO Bool (vS p2 ready1 c2) az] [(0,vS p deps c),(1,vS p1 done c1),(5,vS p2 ready1 c2),(6,vI i)]:=by
 refine oT.partial_correctness done _ λaI ih ready1 i o N B I0 I Q deps p c p1 c1 p2 c2 az H h h1 h3 hg ho hx=>yV hg ho<|yB<|yH [14] rfl<|zG<|yE N ?_ ?_
 ·intro hc N;refine zT<|zZ<|yI<|zJ<|yG 4 [] [17,18,19,20] rfl<|bE N λx ay N=>xK rfl rfl h1 ay ?_;intro ad aN ap ak;obtain rfl:=ak;refine xA 0 ap [.bool x] (.bool x) rfl<|yG 7 [] [23] rfl<|bE N λx1 aF N=>pF 0 rfl rfl rfl h3 aF ?_;intro ad1 bm ar bJ au;obtain rfl:=au;obtain⟨l,aX,N⟩:=zB N;refine zGm 0 0 ar bJ h3 aF aX rfl ?_;intro aU h5 hl0;rw[vE hl0];exact yA rfl<|zL<|zG<|zJ<|yK [] [6] rfl<|yU<|nD<|ih l (W (i+1)) _ N H h h1 h5 hg ho hx
 intro hc N;exact wM<|yS<|hx _ _ _ _ _ (zD N).symm H h3
def oU(deps:(List zR))(done:(List Bool))(ready3:List Bool)(i1:Int):Option (List Bool):=do
 if(decide (i1<(deps.length:Int))) then
  let x2<-idx deps i1;let x3<-idx done x2.From;let ready5<-(do
   if(!x3) then
    let x4<-idx deps i1;let x5<-idx ready3 x4.To;let l1<-pure (ready3.set x4.To.toNat false);pure (id l1)
   else
    pure (id ready3)
     : Option (List Bool))
  oU deps done ready5 (W (i1+1))
 else pure (id ready3)
 partial_fixpoint
theorem zFM(deps:(List zR))(done:(List Bool)):∀(ready3:List Bool) (i1:Int) (o:List Bool),oU deps done ready3 i1=some o->∀{B}{I0 I:Imm}{Q p c p1 c1 p4 c4 bv},I0.le I->(S4 I p deps c)->(S4 I p1 done c1)->(RL I bv ready3)->NG Q->NO Q->(∀I' ready4 p5 c5 bH,o=ready4->I0.le I'->(RL I' bH ready4)->T 49 B Q (.exit 2) I' [hO Bool (vS p5 ready4 c5) bH] [(5,vS p5 ready4 c5)])->J Tryz.prog 49 B (nav (bodyOf f37) [1,1,1,0,1,0]) Q I [hO Bool (vS p4 ready3 c4) bv] [(0,vS p deps c),(1,vS p1 done c1),(5,vS p4 ready3 c4),(7,vI i1)]:=by
 refine oU.partial_correctness deps done _ λaI ih ready3 i1 o N B I0 I Q p c p1 c1 p4 c4 bv H h h1 h6 hg ho hx=>yV hg ho<|yB<|yH [28] rfl<|zG<|yE N ?_ ?_
 ·intro aE N;refine zT<|zZ<|yI<|yF<|yG 3 [] [31,32,33] rfl<|bE N λx2 bk N=>xK rfl rfl h bk ?_;intro ad2 bO aS aZ;obtain rfl:=rJ aZ;refine yG 5 [] [35] rfl<|xA 0 aS [vI x2.From] (vI x2.From) rfl<|bE N λx3 bC N=>xK rfl rfl h1 bC ?_;intro ad3 ccs3 hat3 bB;obtain rfl:=bB;refine xA 0 hat3 [.bool x3] (.bool x3) rfl<|yK [] [39] rfl<|zG ?_;obtain⟨aO,aB,aQ⟩:=zB N;refine qQ (λI' ag m'=>∃(ready5:List Bool) (p6:Option Addr) (c6:Nat) (cs6:List Value),aO=ready5/\I.le I'/\(RL I' cs6 ready5)/\ag=[hO Bool (vS p6 ready5 c6) cs6]/\m'=[(0,vS p deps c),(1,vS p1 done c1),(5,vS p6 ready5 c6),(7,vI i1)]) ?_ ?_
  ·have H:=iS I;refine yE aB ?_ ?_
   ·intro aV N;refine zJ<|yG 3 [] [40,41,42] rfl<|bE N λx4 hy6 N=>xK rfl rfl h hy6 ?_;intro ad4 ccs4 hat4 hrep4;obtain rfl:=rJ hrep4;refine yG 5 [] [44] rfl<|xA 1 hat4 [vI x4.To] (vI x4.To) rfl<|bE N λx5 hy7 N=>pF 0 rfl rfl rfl h6 hy7 ?_;intro ad5 ccs5 hat5 hcc1 hrep5;obtain rfl:=hrep5;obtain⟨l1,hy8,N⟩:=zB N;refine zGm 0 0 hat5 hcc1 h6 hy7 hy8 rfl ?_;intro cs7 h9 hl01;rw[vE hl01];exact yA rfl<|yS<|zV ⟨_,_,_,_,(zD N).symm,H,h9,rfl,rfl⟩
   intro aV N;exact zT<|yS<|zV ⟨_,_,_,_,(zD N).symm,H,h6,rfl,rfl⟩
  rintro aT av m2 ⟨ready5,p6,c6,cs6,heq1,aa,h8,rfl,rfl⟩;subst aO;have ⟨h,h1,H⟩:=m3 aa h h1 H;exact zL<|zG<|zJ<|yK [] [7] rfl<|yU<|nD<|ih ready5 (W (i1+1)) _ aQ H h h1 h8 hg ho hx
 intro aE N;exact wM<|yS<|hx _ _ _ _ _ (zD N).symm H h6
def dS(deps:(List zR))(done:(List Bool)):Option ((List Int)):=do
 let ready<-mkrow 1 (done.length:Int) (false:Bool);let ready2<-oT done ready 0;let ready4<-oU deps done ready2 0;let y<-fK ready4;pure (id y)
theorem zHr:∀deps done r,dS deps done=some r->∀{I:Imm}{p c p1 c1},(S4 I p deps c)->(S4 I p1 done c1)->RT 37 [vS p deps c,vS p1 done c1] I [] (zBF  r):=by
 intro deps done r N I p c p1 c1 h h1;unfold dS at N;refine yL func37 λB=>wL []<|yW<|yG 2 [] [9] rfl<|bE N λready hy N=>zNM 1 [vF] rfl hy rfl λb cs h2=>yK [] [5] rfl<|zZ<|yH [6] rfl<|xY<|pE [(0,vS p deps c),(1,vS p1 done c1),(5,vS (some ⟨b,0,none⟩) ready ready.length),(6,vI 0)] ?_;obtain⟨o0,aA,aG⟩:=zB N;refine zFL done ready 0 o0 aA iR h h1 h2 nG nO ?_;intro I0 ready2 p3 c3 aM heq le h4;subst o0;have ⟨h,h1⟩:=m2 le h h1;refine zS<|zZ<|yH [7] rfl<|xY<|pE [(0,vS p deps c),(1,vS p1 done c1),(5,vS p3 ready2 c3),(7,vI 0)] ?_;obtain⟨o02,ho02,hMl1⟩:=zB aG;refine zFM deps done ready2 0 o02 ho02 iR h h1 h4 nG nO ?_;intro aP ready4 p5 c5 bH heq2 aD h7;subst o02;refine zS<|yW<|yG 1 [] [47] rfl<|xM 0 rfl ?_;intro bx aH hl02;have h10:=SL.of_frozen hl02 aH h7;obtain⟨y,hy9,N⟩:=zB hMl1;refine xF (zGP ready4 _ hy9 h10) ?_;rintro bI av v2 k2 bf - ⟨p7,c7,cs8,rfl,rfl,h11⟩ -;refine yK [] [4] rfl<|zG<|yX ?_;exact xU N (resT rfl) (zX [0] rfl (by decide)) ⟨_,_,_,rfl,rfl,h11⟩
def eC(choices:(List Int))(n0:Int)(many:Int):Option (Int):=do
 if((choices.length:Int)==0) then pure (id 0)
 else
  let q<-rem n0 (choices.length:Int);let x<-idx choices q;let q1<-rem x many;if(decide (q1<0)) then pure (id 0)
  else pure (id q1)
theorem zHP:∀choices n0 many r,eC choices n0 many=some r->∀{I:Imm}{p c},(S4 I p choices c)->RT 38 [vS p choices c,vI n0,vI many] I [] (yJ  r):=by
 intro choices n0 many r N I p c h;unfold eC at N;refine yL func38 λB=>wL []<|zZ<|yH [10] rfl<|zG<|yE N ?_ ?_
 ·intro hc N;refine yH [6] rfl<|xD<|zH ?_;obtain rfl:=zD N;exact wC
 intro hc N;refine zT<|yW<|yG 4 [] [11,12,14] rfl<|bE N λq hy N=>zNL rfl hy<|bE N λx ay N=>xK rfl rfl h ay ?_;intro ad aN ap ak;obtain rfl:=ak;refine xA 0 ap [vI x] (vI x) rfl<|yG 8 [] [18] rfl<|bE N λq1 aF N=>zNL rfl aF<|yK [] [7] rfl<|zZ<|yH [21] rfl<|zG<|yE N ?_ ?_
 ·intro aE N;refine yH [6] rfl<|xD<|zH ?_;obtain rfl:=zD N;exact wC
 intro aE N;refine zT<|wV [6] rfl<|zG<|yX ?_;obtain rfl:=zD N;exact wC
def uB(choices:(List Int))(y:(List zR))(out:List Int)(done1:List Bool)(n0:Int):Option (List Int):=do
 if(decide (n0<(done1.length:Int))) then
  let y2<-dS y done1;let y3<-eC choices n0 (y2.length:Int);let x<-idx y2 y3;let x1<-idx done1 x;let l<-pure (done1.set x.toNat true);let aq<-app 8 out ([x]:List Int);uB choices y aq l (W (n0+1))
 else pure (id out)
 partial_fixpoint
theorem zC5(choices:(List Int))(y:(List zR)):∀(out:List Int) (done1:List Bool) (n0:Int) (o:List Int),uB choices y out done1 n0=some o->∀{B}{I0 I:Imm}{Q p3 c2 p4 c3 p6 c5 az p7 c6 aM},I0.le I->(S4 I p3 choices c2)->(S4 I p4 y c3)->(RL I az out)->(RL I aM done1)->NG Q->NO Q->(∀I' aj p8 c7 aU,o=aj->I0.le I'->(RL I' aU aj)->T 43 B Q (.exit 0) I' [hO Int (vS p8 aj c7) aU] [(5,vS p8 aj c7)])->J Tryz.prog 43 B (nav (bodyOf f15) [1,1,1,1,0,1,0]) Q I [hO Bool (vS p7 done1 c6) aM,hO Int (vS p6 out c5) az] [(1,vS p3 choices c2),(5,vS p6 out c5),(6,vS p4 y c3),(7,vS p7 done1 c6),(8,vI n0)]:=by
 refine uB.partial_correctness choices y _ λaI ih out done1 n0 o N B I0 I Q p3 c2 p4 c3 p6 c5 az p7 c6 aM H h2 h4 h7 h8 hg ho hx=>yV hg ho<|yB<|yH [21] rfl<|zG<|yE N ?_ ?_
 ·intro hc N;refine zT<|zZ<|yI<|yF<|yG 2 [] [24,25] rfl<|bE N λy2 aX N=>zDV (L:=[hO Bool (vS p7 done1 c6) aM]) (hs1:=[]) (rest:=[hO Int (vS p6 out c5) az]) rfl rfl rfl rfl (by kernel_rfl) rfl rfl (λi1 aa hl1=>zHr y done1 _ aX (h4.mono aa) ⟨_,hl1 (hO Bool (vS p7 done1 c6) aM) (by simp),iM aa h8⟩) ?_;rintro bx aP av v2 k2 aD - - - ⟨p9,c8,bv,rfl,rfl,h10⟩ -;have h10:RL aP bv y2:=h10;have ⟨h2,h7,h4,h8,H⟩:=m5 aD h2 h7 h4 h8 H;refine yK [] [9] rfl<|yW<|yG 5 [] [27,28,29,31] rfl<|bE N λy3 bk N=>eO (zHP choices n0 (y2.length:Int) _ bk h2) ?_;intro bI aH;have ⟨h2,h7,h4,h8,h10,H⟩:=m6 aH h2 h7 h4 h8 h10 H;obtain⟨x,bC,N⟩:=zB N;refine pF 1 rfl rfl rfl h10 bC ?_;intro ad aN ap bJ ak;obtain rfl:=ak;refine zBt 1 0 ap bJ [vI x] (vI x) rfl rfl<|yK [] [10] rfl<|yW<|yG 2 [] [35,36] rfl<|bE N λx1 hy6 N=>pF 0 rfl rfl rfl h8 hy6 ?_;intro ad1 bm ar hcc1 au;obtain rfl:=au;obtain⟨l,hy7,N⟩:=zB N;refine zGm 0 0 ar hcc1 h8 hy6 hy7 rfl ?_;intro bH h12 hl0;rw[vE hl0];refine yA rfl<|zG<|zJ<|yG 2 [] [38,39] rfl<|uP [vI x] Int ?_;intro b3 hb2;have h13:RL bI [vI x] ([x]:List Int):=rI [x];obtain⟨aq,hy8,N⟩:=zB N;exact qA 3 1 3 rfl rfl rfl h7 (.inr ⟨0,rfl⟩) h13 hy8 λbb c9 cs6 h14=>tX (zY [1,2,3] (ag:=[hO Bool (vS p7 l c6) bH,hO Int (vS p9 y2 c8) bv,hO Int (vS bb aq c9) cs6]))<|yK [] [5] rfl<|zL<|zG<|zJ<|yK [] [8] rfl<|yU<|jS (zX [0,2] rfl (by decide))<|nD<|ih aq l (W (n0+1)) _ N H h2 h4 h14 h12 hg ho hx
 intro hc N;exact wM<|xW (zX [1] rfl (by decide))<|yS<|hx _ _ _ _ _ (zD N).symm H h7
def oX(p:zC)(choices:(List Int)):Option ((List Int)):=do
 let y<-gA p;let y1<-pU p;let done<-mkrow 1 (y1.length:Int) (false:Bool);let aj<-uB choices y ([]:List Int) done 0;pure (id aj)
theorem zAt:∀p choices r,oX p choices=some r->∀{I:Imm}{p1 c p2 c1 p3 c2},(S4 I p1 p.Arrays c)->(S4 I p2 p.Parts c1)->(S4 I p3 choices c2)->RT 15 [vA (cProg p p1 c p2 c1),vS p3 choices c2] I [] (nI  r):=by
 intro p choices r N I p1 c p2 c1 p3 c2 h h1 h2;unfold oX at N;refine yL func15 λB=>yF<|vK (cProg p p1 c p2 c1) ?_;intro b hb;refine wB [] []<|yW<|uP [] Int ?_;intro b1 hb1;have h3:RL I [] ([]:List Int):=rfl;refine yK [] [5] rfl<|yW<|sW 1 [1] [(12,vA (cProg p p1 c p2 c1))]<|bE N λy hy N=>xF (zFK p _ hy h h1) ?_;rintro I0 av v2 k2 le - ⟨v0,rfl,rfl,h4⟩ -;have ⟨h2,h3,h,h1⟩:=m4 le h2 h3 h h1;obtain⟨p4,c3,rfl⟩:=h4.form;refine yK [] [6] rfl<|yW<|sW 1 [1] [(14,vA (cProg p p1 c p2 c1))]<|bE N λy1 ay N=>xF (zCD p _ ay h h1) ?_;rintro aT av v2 k2 aa - ⟨v01,rfl,rfl,h5⟩ -;have ⟨h2,h3,h4,h⟩:=m4 aa h2 h3 h4 h;obtain⟨p5,c4,rfl⟩:=h5.form;refine yG 3 [] [16] rfl<|bE N λdone aF N=>zNM 1 [vF] rfl aF rfl λb2 cs h6=>yK [] [7] rfl<|zZ<|yH [8] rfl<|xY<|jS (zY [0,1] (ag:=[hO Bool (vS (some ⟨b2,0,none⟩) done done.length) cs,hO Int (vS (some ⟨b1,0,none⟩) ([]:List Int) 0) []]))<|pE [(1,vS p3 choices c2),(5,vS (some ⟨b1,0,none⟩) ([]:List Int) 0),(6,vS p4 y c3),(7,vS (some ⟨b2,0,none⟩) done done.length),(8,vI 0)] ?_;obtain⟨o0,aA,aG⟩:=zB N;refine zC5 choices y ([]:List Int) done 0 o0 aA iR h2 h4 h3 h6 nG nO ?_;intro bL aj p8 c7 aU heq bf h9;subst o0;refine zS<|wV [4] rfl<|xD<|yZ 0 rfl ?_;intro I06 bu hl01;have h15:=SL.of_frozen hl01 bu h9;exact xU aG (resT rfl) zM ⟨_,rfl,rfl,h15⟩
def oV(order:(List Int))(many:Int)(met1:List Bool)(t12:Int):Option (Out Unit (Bool)):=do
 if(decide (t12<(order.length:Int))) then
  let x<-idx order t12;let t26<-(do
   let y<-wR x 0 (W (many - 1));if(!y) then pure true
   else
    let x1<-idx met1 x;pure (id x1)
     : Option Bool)
  if t26 then pure (.ret false)
  else
   let x2<-idx met1 x;let l<-pure (met1.set x.toNat true);oV order many l (W (t12+1))
 else pure (.done ())
 partial_fixpoint
theorem zFN(order:(List Int))(many:Int):∀(met1:List Bool) (t12:Int) (o:Out Unit (Bool)),oV order many met1 t12=some o->∀{B}{I0 I:Imm}{Q p c p1 c1 az},I0.le I->(S4 I p order c)->(RL I az met1)->NG Q->NO Q->(∀I',o=(.done ())->I0.le I'->T 35 B Q (.exit 0) I' [] [(0,vS p order c),(1,vI many)])->(∀r I' ag m',o=(.ret r)->I0.le I'->RS Tryz.prog f96 B (zU  r) I' ag m'->T 35 B Q .ret I' ag m')->J Tryz.prog 35 B (nav (bodyOf f96) [1,1,0,1,0]) Q I [hO Bool (vS p1 met1 c1) az] [(0,vS p order c),(1,vI many),(5,vS p1 met1 c1),(10,vS p order c),(11,vI (order.length:Int)),(12,vI t12)]:=by
 refine oV.partial_correctness order many _ λaI ih met1 t12 o N B I0 I Q p c p1 c1 az H h h2 hg ho hx hr=>yV hg ho<|yH [13] rfl<|zZ<|yE N ?_ ?_
 ·intro hc N;refine zT<|zZ<|yI<|yF<|bE N λx ay N=>xK rfl rfl h ay ?_;intro ad aN ap ak;obtain rfl:=ak;refine xA 0 ap [vI x] (vI x) rfl<|yK [] [7] rfl<|zZ<|yB ?_;refine wK N [hO Bool (vS p1 met1 c1) az] (λt26=>[(0,vS p order c),(1,vI many),(5,vS p1 met1 c1),(7,vI x),(10,vS p order c),(11,vI (order.length:Int)),(12,vI t12),(26,.bool t26)]) (λo0 aA=>?_) ?_
  ·have H:=iS I;refine zJ<|yG 3 [] [16,18] rfl ?_;obtain⟨y,aF,N⟩:=zB aA;refine vJ (vM x 0 (W (many - 1)) _ aF ) ?_;intro aT le;have ⟨h2,H⟩:=m2 le h2 H;refine yG 6 [] [21] rfl<|xZ [21] N ?_ ?_
   ·intro aE N;exact wB [] [(26,vY)]<|yS<|zV (ct N H)
   intro aE N;refine yG 8 [] [22,23] rfl<|bE N λx1 aX N=>pF 0 rfl rfl rfl h2 aX ?_;intro ad1 bm ar bJ au;obtain rfl:=au;exact zBt 0 0 ar bJ [.bool x1] (.bool x1) rfl rfl<|yK [] [26] rfl<|yS<|zV (ct N H)
  intro t26 I0 aa aQ;have ⟨h,h2,H⟩:=m3 aa h h2 H;refine zG<|yE aQ ?_ ?_
  ·intro aV N;exact wL [(4,vF)]<|xD<|zH<|zW<|zH<|zH<|hr _ _ _ _ (zD N).symm H ⟨_,_,(resT rfl),zM,⟨_,rfl,rfl,rfl⟩⟩
  intro aV N;refine zT<|zG<|zJ<|yG 2 [] [27,28] rfl<|bE N λx2 bk N=>pF 0 rfl rfl rfl h2 bk ?_;intro ad2 bO aS hcc1 aZ;obtain rfl:=aZ;obtain⟨l,bC,N⟩:=zB N;refine zGm 0 0 aS hcc1 h2 bk bC rfl ?_;intro aM h4 hl0;rw[vE hl0];exact yA rfl<|zL<|zG<|zJ<|yK [] [12] rfl<|yU<|nD<|ih l (W (t12+1)) _ N H h h4 hg ho hx hr
 intro hc N;exact wM<|xW zM<|yS<|hx _  (zD N).symm H
def dU(order:(List Int))(many:Int):Option (Bool):=do
 let met<-mkrow 1 many (false:Bool)
 match<-oV order many met 0 with
 | .ret r0=>pure r0
 | .done _=>
  pure ((order.length:Int)==many)
theorem zHs:∀order many r,dU order many=some r->∀{I:Imm}{p c},(S4 I p order c)->RT 96 [vS p order c,vI many] I [] (zU  r):=by
 intro order many r N I p c h;unfold dU at N;refine yL func96 λB=>wL []<|yW<|yG 1 [] [8] rfl<|bE N λmet hy N=>zNM 1 [vF] rfl hy rfl λb cs h1=>yK [] [5] rfl<|zZ<|yH [10,11,12] rfl<|xY<|pE [(0,vS p order c),(1,vI many),(5,vS (some ⟨b,0,none⟩) met met.length),(10,vS p order c),(11,vI (order.length:Int)),(12,vI 0)] ?_;obtain⟨aO,aB,aG⟩:=zB N;refine zFN order many met 0 aO aB iR h h1 nG nO ?_ ?_
 ·intro aP  heq1 aD;subst aO;refine zS<|wV [4] rfl<|zG<|yX ?_;obtain rfl:=zD aG;exact wC
 intro r0 I9 hs9 m9 aW le9 aY;subst aW;refine zW<|zH ?_;obtain rfl:=zD aG;exact fO aY
def gB(p:zC)(order:(List Int)):Option (Bool):=do
 let (y1,y2)<-uC p;let t4<-(do
  if y2 then
   let y3<-dU order (y1.length:Int);pure (id y3)
  else
   pure false
    : Option Bool)
 pure (id t4)
theorem zFO:∀p order r,gB p order=some r->∀{I:Imm}{p1 c p2 c1 p3 c2},(S4 I p1 p.Arrays c)->(S4 I p2 p.Parts c1)->(S4 I p3 order c2)->RT 56 [vA (cProg p p1 c p2 c1),vS p3 order c2] I [] (zU  r):=by
 intro p order r N I p1 c p2 c1 p3 c2 h h1 h2;unfold gB at N;refine yL func56 λB=>?_;have H:=iS I;refine yF<|vK (cProg p p1 c p2 c1) ?_;intro b hb;refine wB [] []<|yW<|sW 1 [0] [(8,vA (cProg p p1 c p2 c1))] ?_;obtain⟨⟨y1,y2⟩,hy,N⟩:=zB N;refine xF (nC p _ hy h h1) ?_;rintro I0 av v2 k2 le - ⟨v0,v01,rfl,rfl,h3,rfl⟩ -;have ⟨h2,H⟩:=m2 le h2 H;obtain⟨p4,c3,rfl⟩:=h3.form;refine yK [] [5,6] rfl<|zG<|yB ?_;refine wK N [] (λt4=>[(4,.bool t4)]) (λo0 aA=>?_) ?_
 ·have H:=iS I0;refine zJ<|yG 2 [] [13] rfl<|xZ [13] aA ?_ ?_
  ·intro hc N;refine yG 5 [] [14,16] rfl<|bE N λy3 ay N=>vJ (zHs order (y1.length:Int) _ ay h2) ?_;intro aP aa;have H:=H.trans aa;exact yK [] [4] rfl<|xW zM<|yS<|zV (ct N H)
  intro hc N;exact wB [] [(4,vF)]<|xW zM<|yS<|zV (ct N H)
 intro t4 aT aD aQ;refine zG<|yX ?_;obtain rfl:=zD aQ;exact wC
def nB(d0:zR)(x:(List Int)):Option (Bool):=do
 let x1<-idx x d0.To;let x2<-idx x d0.From;pure (decide (x1<x2))
theorem zHQ:∀d0 x r,nB d0 x=some r->∀{I:Imm}{ad:Addr}{p c},(S4 I p x c)->(At I ad [vS p x c])->RT 98 [vA [vI d0.From,vI d0.To,vI d0.Kinds],.pointer (some ad)] I [] (zU  r):=by
 intro d0 x r N I ad p c h ap;unfold nB at N;refine yL func98 λB=>yF<|vK [vI d0.From,vI d0.To,vI d0.Kinds] ?_;intro b hb;refine wB [] []<|zZ<|mV (by kernel_rfl) (by kernel_rfl)<|gT 0 ap [vS p x c] (vS p x c) rfl<|eX 3 [0] [6] rfl<|bE N λx1 hy N=>dZ rfl rfl h hy ?_;intro ad1 aN ar ak;obtain rfl:=ak;refine gT 0 ar [vI x1] (vI x1) rfl<|gT 0 ap [vS p x c] (vS p x c) rfl<|eX 8 [0] [11] rfl<|bE N λx2 ay N=>dZ rfl rfl h ay ?_;intro ad2 bm aS au;obtain rfl:=au;refine gT 0 aS [vI x2] (vI x2) rfl<|zGl [] [3] rfl<|zG<|yX ?_;obtain rfl:=zD N;exact wC
def pV(order:(List Int))(t13:Int)(x:List Int):Option (List Int):=do
 if(decide (t13<(order.length:Int))) then
  let x2<-idx order t13;let x3<-idx x x2;let l1<-pure (x.set x2.toNat t13);pV order (W (t13+1)) l1
 else pure (id x)
 partial_fixpoint
theorem zGQ(order:(List Int)):∀(t13:Int) (x:List Int) (o:List Int),pV order t13 x=some o->∀{B}{I0 I:Imm}{Q}{deps:(List zR)}{p c p1 c1}{b1}{p2 c2 az},I0.le I->(S4 I p deps c)->(S4 I p1 order c1)->(RL I az x)->NG Q->NO Q->(∀I' x1 p3 c3 aM,o=x1->I0.le I'->(RL I' aM x1)->T 26 B Q (.exit 0) I' [hB b1 [vS p3 x1 c3],hO Int (vS p3 x1 c3) aM] [(0,vS p deps c),(5,vP b1 0)])->J Tryz.prog 26 B (nav (bodyOf f57) [1,1,0,1,0]) Q I [hB b1 [vS p2 x c2],hO Int (vS p2 x c2) az] [(0,vS p deps c),(5,vP b1 0),(11,vS p1 order c1),(12,vI (order.length:Int)),(13,vI t13)]:=by
 refine pV.partial_correctness order _ λaI ih t13 x o N B I0 I Q deps p c p1 c1 b1 p2 c2 az H h h1 h3 hg ho hx=>yV hg ho<|yH [14] rfl<|zZ<|yE N ?_ ?_
 ·intro hc N;refine zT<|zZ<|yI<|yF<|yG 1 [] [15] rfl<|bE N λx2 ay N=>xK rfl rfl h1 ay ?_;intro ad aN ap ak;obtain rfl:=ak;refine xA 0 ap [vI x2] (vI x2) rfl<|yK [] [6,7] rfl<|zG<|zJ<|yG 3 [0] [18,19,20] rfl<|bE N λx3 aF N=>pF 1 rfl rfl rfl h3 aF ?_;intro ad1 bm ar bJ au;obtain rfl:=au;obtain⟨l1,aX,N⟩:=zB N;refine zGm 1 0 ar bJ h3 aF aX rfl ?_;intro aU h5 hl0;rw[vE hl0];exact yA rfl<|zL<|zG<|zJ<|yK [] [13] rfl<|yU<|nD<|ih (W (t13+1)) l1 _ N H h h1 h5 hg ho hx
 intro hc N;exact wM<|yS<|hx _ _ _ _ _ (zD N).symm H h3
def eM(deps:(List zR))(order:(List Int)):Option (Int):=do
 let l<-mkrow 8 (order.length:Int) (0:Int);let x1<-pV order 0 l;let y<-xO deps (λx0=>nB x0 x1);pure (id y)
theorem zIp:∀deps order r,eM deps order=some r->∀{I:Imm}{p c p1 c1},(S4 I p deps c)->(S4 I p1 order c1)->RT 57 [vS p deps c,vS p1 order c1] I [] (yJ  r):=by
 intro deps order r N I p c p1 c1 h h1;unfold eM at N;refine yL func57 λB=>wL []<|yW<|yG 2 [] [9] rfl<|bE N λl hy N=>zNM 8 [vI 0] rfl hy rfl λb cs h2=>wI [z0] ?_;intro b1 hb;refine xI 0 [vS (some ⟨b,0,none⟩) l l.length] rfl<|yA rfl<|zZ<|yH [11,12,13] rfl<|xY<|pE [(0,vS p deps c),(5,vP b1 0),(11,vS p1 order c1),(12,vI (order.length:Int)),(13,vI 0)] ?_;obtain⟨o0,aA,aG⟩:=zB N;refine zGQ order 0 l o0 aA iR h h1 h2 nG nO ?_;intro I0 x1 p3 c3 aM heq le h4;subst o0;have h:=h.mono le;refine zS<|yW<|yG 2 [] [23,24] rfl<|xM 1 rfl ?_;intro aT aa hl01;have h6:=SL.of_frozen hl01 aa h4;have h:=h.mono aa;refine xM 0 rfl ?_;intro aP aD hl02;have aS:At aP ⟨b1,0,none⟩ [vS p3 x1 c3]:=At.of_blk hl02;have ⟨h,h6⟩:=m2 aD h h6;have hf0:FV1 Tryz.prog aP [] (.func (.func 98) ⟨[]⟩ ⟨[vP b1 0]⟩) (λx0=>nB x0 x1):=by
  refine FV1.intro ?_;intro I1 aa x0 r u0 hF k0;obtain⟨_,rfl,k0⟩:=k0;obtain rfl:=rJ k0;exact(zHQ x0 x1 r hF (h6.mono aa) (aS.mono aa)).mono (by rintro k i hs u ⟨v0,rfl,rfl,h⟩;exact⟨rfl,h⟩)
 obtain⟨y,bk,N⟩:=zB aG;refine xF (rZ deps (λx0=>nB x0 x1) _ bk h hf0) ?_;rintro bx av v2 k2 aH - ⟨v0,rfl,rfl,rfl⟩ -;refine yK [] [4] rfl<|zG<|yX ?_;obtain rfl:=zD N;exact wC
def zBL(p:zC)(order:(List Int)):Option (Bool):=do
 let t6<-(do
  let y<-gB p order;if y then
   let y1<-mT p;let y2<-eM y1 order;pure (decide (y2<0))
  else
   pure false
    : Option Bool)
 pure (id t6)
theorem zJ6:∀p order r,zBL p order=some r->∀{I:Imm}{p1 c p2 c1 p3 c2},(S4 I p1 p.Arrays c)->(S4 I p2 p.Parts c1)->(S4 I p3 order c2)->RT 30 [vA (cProg p p1 c p2 c1),vS p3 order c2,.func (.func 34) ⟨[]⟩ ⟨[]⟩] I [] (zU  r):=by
 intro p order r N I p1 c p2 c1 p3 c2 h h1 h2;unfold zBL at N;refine yL func30 λB=>?_;have H:=iS I;refine yF<|vK (cProg p p1 c p2 c1) ?_;intro b hb;refine wB [] []<|zG<|yB ?_;refine wK N [] (λt6=>[(6,.bool t6)]) (λo0 aA=>?_) ?_
 ·have H:=iS I;refine zJ<|sW 2 [0] [(7,vA (cProg p p1 c p2 c1)),(8,vS p3 order c2)] ?_;obtain⟨y,hy,N⟩:=zB aA;refine vJ (zFO p order _ hy h h1 h2) ?_;intro aT le;have ⟨h2,h,h1,H⟩:=m4 le h2 h h1 H;refine yG 4 [] [10] rfl<|xZ [10] N ?_ ?_
  ·intro hc N;refine sW 6 [0] [(11,.func (.func 34) ⟨[]⟩ ⟨[]⟩),(12,vA (cProg p p1 c p2 c1))]<|bE N λy1 ay N=>xF (zB4 p _ ay h h1) ?_;rintro aP av v2 k2 aa - ⟨v01,rfl,rfl,h4⟩ -;have ⟨h2,H⟩:=m2 aa h2 H;obtain⟨p4,c3,rfl⟩:=h4.form;refine yG 8 [] [14] rfl<|bE N λy2 aF N=>eO (zIp y1 order _ aF h4 h2) ?_;intro bx aD;have H:=H.trans aD;exact yK [] [6] rfl<|xW zM<|yS<|zV (ct N H)
  intro hc N;exact wB [] [(6,vF)]<|xW zM<|yS<|zV (ct N H)
 intro t6 I0 aH aQ;refine zG<|yX ?_;obtain rfl:=zD aQ;exact wC
def uH(p:zC)(order:(List Int)):Option (Bool):=do
 let y<-zBL p order;pure (id y)
theorem pW:∀p order r,uH p order=some r->∀{I:Imm}{p1 c p2 c1 p3 c2},(S4 I p1 p.Arrays c)->(S4 I p2 p.Parts c1)->(S4 I p3 order c2)->RT 16 [vA (cProg p p1 c p2 c1),vS p3 order c2] I [] (zU  r):=by
 intro p order r N I p1 c p2 c1 p3 c2 h h1 h2;unfold uH at N;refine yL func16 λB=>yF<|vK (cProg p p1 c p2 c1) ?_;intro b hb;refine wB [] []<|yW<|sW 2 [0] [(5,vA (cProg p p1 c p2 c1)),(6,vS p3 order c2)]<|bE N λy hy N=>vJ (zJ6 p order _ hy h h1 h2) λI0 le=>wB [] [(4,.bool y)]<|zG<|yX ?_;obtain rfl:=zD N;exact wC
def jD(p:zC)(choices:(List Int)):Option ((List Int)):=do
 let y<-pK p;let y1<-tF p;let y2<-eK y (y1.length:Int) choices;pure (id y2)
theorem zBG:∀p choices r,jD p choices=some r->∀{I:Imm}{p1 c p2 c1 p3 c2},(S4 I p1 p.Arrays c)->(S4 I p2 p.Parts c1)->(S4 I p3 choices c2)->RT 17 [vA (cProg p p1 c p2 c1),vS p3 choices c2] I [] (nI  r):=by
 intro p choices r N I p1 c p2 c1 p3 c2 h h1 h2;unfold jD at N;refine yL func17 λB=>?_;have H:=iS I;refine yF<|vK (cProg p p1 c p2 c1) ?_;intro b hb;refine wB [] []<|zG<|yB ?_;obtain⟨y,hy,N⟩:=zB N;obtain⟨y1,ay,N⟩:=zB N;obtain⟨y2,aF,N⟩:=zB N;refine wA [.p (vA (cProg p p1 c p2 c1)) [0],.x (eS y),.p (vA (cProg p p1 c p2 c1)) [0],.x (eS y1),.q (vI (y1.length:Int)),.p (vS p3 choices c2) [],.x (eS y2)] [[],[(0,false)],[],[(2,false)],[(3,false)],[],[(1,false),(4,false),(5,false)]] [hB b (cProg p p1 c p2 c1)] [] [(6,false)] (zY [0]) ?_ ?_
 ·refine Op<|Ox ?_<|Op<|Ox ?_<|Oq ?_<|Op<|Ox ?_<|On
  ·intro I1 hf aa;refine yP [5] rfl ?_;have H:=iS I1;have ⟨h,h1⟩:=m2 aa h h1;refine xF (zBD p _ hy h h1) ?_;rintro I0 av v2 k2 le - ⟨v0,rfl,rfl,h3⟩ -;have H:=H.trans le;obtain⟨p4,c3,rfl⟩:=h3.form;exact yM [] H ⟨_,_,rfl,rfl,h3⟩
  ·intro I1 hf aa;refine yP [7] rfl ?_;have H:=iS I1;have ⟨h,h1⟩:=m2 aa h h1;refine xF (gI p _ ay h h1) ?_;rintro aT av v2 k2 aa - ⟨v01,rfl,rfl,h4⟩ -;have H:=H.trans aa;obtain⟨p5,c4,rfl⟩:=h4.form;exact yM [] H ⟨_,_,rfl,rfl,h4⟩
  ·rintro I1 hf aa _ _ ⟨p5,c4,rfl,rfl,h4⟩;exact yP [8] rfl<|tD 5 [(9,vI (y1.length:Int))]<|yR iR
  rintro I1 hf aa _ _ ⟨p4,c3,rfl,rfl,h3⟩;refine yP [6,9,10] rfl ?_;have H:=iS I1;have h2:=h2.mono aa;refine xF (zDn y (y1.length:Int) choices _ aF h3 h2) ?_;rintro aP av v2 k2 aD - ⟨v02,rfl,rfl,h5⟩ -;have H:=H.trans aD;obtain⟨p6,c5,rfl⟩:=h5.form;exact yM [] H ⟨_,_,rfl,rfl,h5⟩
 rintro bx aH _ _ ⟨p6,c5,rfl,rfl,h5⟩;refine yP [11] rfl ?_;refine yK [] [4] rfl<|zG<|yX ?_;exact xU N (resT rfl) zM ⟨_,rfl,rfl,h5⟩
def jH(code:(List UInt8)):Option (Bool):=do
 if(decide ((code.length:Int)>1048576)) then pure true
 else
  let (y1,y2)<-pT code;let y3<-kJ y1 y2;let t27<-(do
   let y4<-oX y1 y2;let y5<-eE y3 y4;if(!y5) then pure true
   else
    let y6<-kH y1;pure (!y6)
     : Option Bool)
  if t27 then
   let y7<-oX y1 y2;let y8<-eE y3 y7;pure (id y8)
  else
   let t2<-(do
    let y9<-uH y1 y3;if y9 then
     let y10<-jD y1 y2;let y11<-uH y1 y10;if y11 then
      let y12<-jW y1;let y13<-uH y1 y12;pure (id y13)
     else pure false
    else
     pure false
      : Option Bool)
   pure (id t2)
theorem zK5:∀code r,jH code=some r->∀{I:Imm}{p c},(S4 I p code c)->RT 4 [vS p code c] I [] (zU  r):=by
 intro code r N I p c h;unfold jH at N;refine yL func4 λB=>?_;have H:=iS I;refine wL []<|zZ<|yH [8] rfl<|zG<|yE N ?_ ?_
 ·intro hc N;refine wL [(2,vY)]<|xD<|zH ?_;obtain rfl:=zD N;exact wC
 intro hc N;refine zT<|yW<|yG 1 [] [10] rfl ?_;obtain⟨⟨y1,y2⟩,hy,N⟩:=zB N;refine xF (zCC code _ hy h) ?_;rintro I0 av v2 k2 le - ⟨v0,v01,rfl,rfl,⟨cs,rfl,h1⟩,h2⟩ -;have H:=H.trans le;obtain⟨p1,c1,p2,c2,rfl,h3,h4⟩:=sF h1;obtain⟨p3,c3,rfl⟩:=h2.form;refine yG 5 [] [12,13] rfl<|wI zTwo ?_;intro b hb;refine xI 0 (cProg y1 p1 c1 p2 c2) rfl<|yK [] [4] rfl<|yW<|sW 2 [0] [(14,vA (cProg y1 p1 c1 p2 c2)),(15,vS p3 y2 c3)]<|bE N λy3 ay N=>xF (zDp y1 y2 _ ay h3 h4 h2) ?_;rintro aT av v2 k2 aa - ⟨v04,rfl,rfl,h5⟩ -;have ⟨h2,h3,h4,H⟩:=m4 aa h2 h3 h4 H;obtain⟨p4,c4,rfl⟩:=h5.form;refine yK [] [5] rfl<|zZ<|yB ?_;refine wK N [hB b (cProg y1 p1 c1 p2 c2)] (λt27=>[(3,vP b 0),(4,vS p3 y2 c3),(5,vS p4 y3 c4),(27,.bool t27)]) (λo0 aA=>?_) ?_
 ·have H:=iS aT;refine zJ<|sW 3 [0] [(17,vS p4 y3 c4),(18,vA (cProg y1 p1 c1 p2 c2)),(19,vS p3 y2 c3)] ?_;obtain⟨y4,aF,N⟩:=zB aA;refine xF (zAt y1 y2 _ aF h3 h4 h2) ?_;rintro bx av v2 k2 aD - ⟨v05,rfl,rfl,h6⟩ -;have ⟨h5,h3,h4,H⟩:=m4 aD h5 h3 h4 H;obtain⟨p5,c5,rfl⟩:=h6.form;obtain⟨y5,aX,N⟩:=zB N;refine vJ (zD7 y3 y4 _ aX h5 h6) ?_;intro bI aH;have ⟨h3,h4,H⟩:=m3 aH h3 h4 H;refine yG 7 [] [23] rfl<|xZ [23] N ?_ ?_
  ·intro aE N;exact wB [] [(27,vY)]<|yS<|zV (ct N H)
  intro aE N;refine sW 8 [0] [(24,vA (cProg y1 p1 c1 p2 c2))]<|bE N λy6 bk N=>vJ (zD8 y1 _ bk h3 h4) ?_;intro bL bf;have H:=H.trans bf;exact yK [] [27] rfl<|yS<|zV (ct N H)
 intro t27 aP bu aQ;have ⟨h2,h5,h3,h4,H⟩:=m5 bu h2 h5 h3 h4 H;refine zG<|yE aQ ?_ ?_
 ·intro aV N;refine yF<|sW 3 [0] [(28,vS p4 y3 c4),(29,vA (cProg y1 p1 c1 p2 c2)),(30,vS p3 y2 c3)]<|bE N λy7 bC N=>xF (zAt y1 y2 _ bC h3 h4 h2) ?_;rintro I06 av v2 k2 bG - ⟨v08,rfl,rfl,h9⟩ -;have h5:=h5.mono bG;obtain⟨p6,c6,rfl⟩:=h9.form;obtain⟨y8,hy6,N⟩:=zB N;refine vJ (zD7 y3 y7 _ hy6 h5 h9) λI07 le7=>wB [] [(2,.bool y8)]<|xD<|zH ?_;obtain rfl:=zD N;exact wC
 intro aV N;refine zT<|zG<|yB ?_;refine wK N [] (λt2=>[(2,.bool t2)]) (λaO aB=>?_) ?_
 ·have H:=iS aP;obtain⟨y9,hy7,N⟩:=zB aB;cases bD:y9 with
  | true=>
   have hM0:=wQ bD N;obtain⟨y10,hy8,N⟩:=zB hM0;obtain⟨y11,hy9,N⟩:=zB N;cases bM:y11 with
   | true=>
    have hM01:=wQ bM N;obtain⟨y12,hy10,N⟩:=zB hM01;obtain⟨y13,hy11,N⟩:=zB N;refine wA [.p (vA (cProg y1 p1 c1 p2 c2)) [0],.p (vS p4 y3 c4) [],.q vY,.q vY,.p (vA (cProg y1 p1 c1 p2 c2)) [0],.p (vA (cProg y1 p1 c1 p2 c2)) [0],.p (vS p3 y2 c3) [],.x (eS y10),.q vY,.q vY,.q vY,.p (vA (cProg y1 p1 c1 p2 c2)) [0],.p (vA (cProg y1 p1 c1 p2 c2)) [0],.x (eS y12),.q (.bool y13),.p (.bool y13) []] [[],[],[(0,false),(1,false)],[(2,false)],[(3,false)],[(3,false)],[(3,false)],[(3,false),(5,false),(6,false)],[(3,false),(4,false),(7,false)],[(3,false),(8,false)],[(9,false)],[(10,false)],[(10,false)],[(10,false),(12,false)],[(10,false),(11,false),(13,false)],[(10,false),(14,false)]] [hB b (cProg y1 p1 c1 p2 c2)] [] [(15,false)] (zY [0]) ?_ ?_
    ·refine O2<|Oq ?_<|Oq ?_<|O3<|Ox ?_<|Oq ?_<|Oq ?_<|Oq ?_<|O2<|Ox ?_<|Oq ?_<|Op<|On
     ·intro I1 hf aa;refine yP [33,34] rfl ?_;have H:=iS I1;have ⟨h5,h3,h4⟩:=m3 aa h5 h3 h4;refine vJ (pW y1 y3 _ hy7 h3 h4 h5) ?_;intro I09 le8;have H:=H.trans le8;rw[bD];exact yR H
     ·intro I1 hf aa;exact eN [(35,vY)]<|tD 4 [(36,vY)]<|yR iR
     ·intro I1 hf aa;refine yP [36,38,39] rfl ?_;have H:=iS I1;have ⟨h2,h3,h4⟩:=m3 aa h2 h3 h4;refine xF (zBG y1 y2 _ hy8 h3 h4 h2) ?_;rintro bP av v2 k2 le9 - ⟨v011,rfl,rfl,h12⟩ -;have H:=H.trans le9;obtain⟨p7,c7,rfl⟩:=h12.form;exact yM [] H ⟨_,_,rfl,rfl,h12⟩
     ·rintro I1 hf aa _ _ ⟨rfl,rfl⟩ _ _ ⟨rfl,rfl⟩ _ _ ⟨p7,c7,rfl,rfl,h12⟩;refine yP [36,37,40] rfl ?_;have H:=iS I1;have ⟨h3,h4⟩:=m2 aa h3 h4;refine vJ (pW y1 y10 _ hy9 h3 h4 h12) ?_;intro bV le10;have H:=H.trans le10;rw[bM];exact yR H
     ·intro I1 hf aa;exact yP [36,41] rfl<|tD 10 [(42,vY)]<|yR iR
     ·intro I1 hf aa;exact eN [(42,vY)]<|tD 11 [(43,vY)]<|yR iR
     ·intro I1 hf aa;refine yP [43,45] rfl ?_;have H:=iS I1;have ⟨h3,h4⟩:=m2 aa h3 h4;refine xF (zEr y1 _ hy10 h3 h4) ?_;rintro bW av v2 k2 le11 - ⟨v013,rfl,rfl,h14⟩ -;have H:=H.trans le11;obtain⟨p8,c8,rfl⟩:=h14.form;exact yM [] H ⟨_,_,rfl,rfl,h14⟩
     rintro I1 hf aa _ _ ⟨rfl,rfl⟩ _ _ ⟨rfl,rfl⟩ _ _ ⟨p8,c8,rfl,rfl,h14⟩;refine yP [43,44,46] rfl ?_;have H:=iS I1;have ⟨h3,h4⟩:=m2 aa h3 h4;refine vJ (pW y1 y12 _ hy11 h3 h4 h14) ?_;intro I013 le12;have H:=H.trans le12;exact yR H
    intro I014 le13;refine yP [48] rfl ?_;have H:=H.trans le13;exact yK [] [2] rfl<|xW zM<|yS<|zV (ct N H)
   | false=>
    have hM02:=wE bM N;refine wA [.p (vA (cProg y1 p1 c1 p2 c2)) [0],.p (vS p4 y3 c4) [],.q vY,.q vY,.p (vA (cProg y1 p1 c1 p2 c2)) [0],.p (vA (cProg y1 p1 c1 p2 c2)) [0],.p (vS p3 y2 c3) [],.x (eS y10),.q vF,.q vF,.q vF,.p undef [],.p undef [],.p undef [],.p undef [],.p vF []] [[],[],[(0,false),(1,false)],[(2,false)],[(3,false)],[(3,false)],[(3,false)],[(3,false),(5,false),(6,false)],[(3,false),(4,false),(7,false)],[(3,false),(8,false)],[(9,false)],[(10,false)],[(10,false)],[(10,false),(12,false)],[(10,false),(11,false),(13,false)],[(10,false),(14,false)]] [hB b (cProg y1 p1 c1 p2 c2)] [] [(15,false)] (zY [0]) ?_ ?_
    ·refine O2<|Oq ?_<|Oq ?_<|O3<|Ox ?_<|Oq ?_<|Oq ?_<|Oq ?_<|O4<|Op<|On
     ·intro I1 hf aa;refine yP [33,34] rfl ?_;have H:=iS I1;have ⟨h5,h3,h4⟩:=m3 aa h5 h3 h4;refine vJ (pW y1 y3 _ hy7 h3 h4 h5) ?_;intro I09 le8;have H:=H.trans le8;rw[bD];exact yR H
     ·intro I1 hf aa;exact eN [(35,vY)]<|tD 4 [(36,vY)]<|yR iR
     ·intro I1 hf aa;refine yP [36,38,39] rfl ?_;have H:=iS I1;have ⟨h2,h3,h4⟩:=m3 aa h2 h3 h4;refine xF (zBG y1 y2 _ hy8 h3 h4 h2) ?_;rintro bP av v2 k2 le9 - ⟨v011,rfl,rfl,h12⟩ -;have H:=H.trans le9;obtain⟨p7,c7,rfl⟩:=h12.form;exact yM [] H ⟨_,_,rfl,rfl,h12⟩
     ·rintro I1 hf aa _ _ ⟨rfl,rfl⟩ _ _ ⟨rfl,rfl⟩ _ _ ⟨p7,c7,rfl,rfl,h12⟩;refine yP [36,37,40] rfl ?_;have H:=iS I1;have ⟨h3,h4⟩:=m2 aa h3 h4;refine vJ (pW y1 y10 _ hy9 h3 h4 h12) ?_;intro bV le10;have H:=H.trans le10;rw[bM];exact yR H
     ·intro I1 hf aa;exact yP [36,41] rfl<|tD 10 [(42,vF)]<|yR iR
     intro I1 hf aa;exact eN [(42,vF)]<|tD 11 [(43,vF)]<|yR iR
    intro I015 le14;refine eN [(48,vF)] ?_;have H:=H.trans le14;exact wB [] [(2,vF)]<|xW zM<|yS<|zV (ct hM02 H)
  | false=>
   have hM03:=wE bD N;refine wA [.p (vA (cProg y1 p1 c1 p2 c2)) [0],.p (vS p4 y3 c4) [],.q vF,.q vF,.p undef [],.p undef [],.p undef [],.p undef [],.p undef [],.p vF [],.p vF [],.p undef [],.p undef [],.p undef [],.p undef [],.p vF []] [[],[],[(0,false),(1,false)],[(2,false)],[(3,false)],[(3,false)],[(3,false)],[(3,false),(5,false),(6,false)],[(3,false),(4,false),(7,false)],[(3,false),(8,false)],[(9,false)],[(10,false)],[(10,false)],[(10,false),(12,false)],[(10,false),(11,false),(13,false)],[(10,false),(14,false)]] [hB b (cProg y1 p1 c1 p2 c2)] [] [(15,false)] (zY [0]) ?_ ?_
   ·refine O2<|Oq ?_<|Oq ?_<|O4<|O4<|O4<|On
    ·intro I1 hf aa;refine yP [33,34] rfl ?_;have H:=iS I1;have ⟨h5,h3,h4⟩:=m3 aa h5 h3 h4;refine vJ (pW y1 y3 _ hy7 h3 h4 h5) ?_;intro I09 le8;have H:=H.trans le8;rw[bD];exact yR H
    intro I1 hf aa;exact eN [(35,vF)]<|tD 4 [(36,vF)]<|yR iR
   intro I016 le15;refine eN [(48,vF)] ?_;have H:=H.trans le15;exact wB [] [(2,vF)]<|xW zM<|yS<|zV (ct hM03 H)
 intro t2 I08 le16 hMc1;refine zG<|yX ?_;obtain rfl:=zD hMc1;exact wC
end Go.LN
