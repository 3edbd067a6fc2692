/- Helper of the proof (see the last text). -/
import Derived.Test.YtkipogionmkncaaGreatDoorHM6
set_option linter.unusedVariables false
set_option linter.unusedSimpArgs false
namespace Go.LN
open Go.Proofs Go.Proofs.Tryz
set_option maxRecDepth 20000
def tG(a0:zP)(b:zP)(i:Int):Option (Out Unit (Bool)):=do
 if(decide (i<(a0.Arrays.length:Int))) then
  let t58<-(do
   let x<-idx a0.Arrays i
   let x1<-idx b.Arrays i
   if(!(x.Name.l==x1.Name.l)) then
    pure true
   else
    let x2<-idx a0.Arrays i
    let x3<-idx b.Arrays i
    let y<-jY x2.Dims x3.Dims
    pure (!y)
     : Option Bool)
  if t58 then
   pure (.ret false)
  else
   tG a0 b (W (i+1))
 else
  pure (.done ())
 partial_fixpoint
theorem zBA(a0:zP)(b:zP):∀(i:Int) (o:Out Unit (Bool)),tG a0 b i=some o->∀{B}{I0 I:Imm}{Q p c p1 c1 p2 c2 p3 c3}{b1:Nat}{b2:Nat},I0.le I->(S4 I p2 b.Arrays c2)->(S4 I p3 b.Parts c3)->(S4 I p a0.Arrays c)->(S4 I p1 a0.Parts c1)->NG Q->NO Q->(∀(I':Imm) ,o=(.done ())->I0.le I'->T 78 B Q (.exit 0) I' [hB b2 (cProg b p2 c2 p3 c3),hB b1 (cProg a0 p c p1 c1)] [(2,vP b1 0),(3,vP b2 0)])->(∀r I' ai m',o=(.ret r)->I0.le I'->RS Tryz.prog f26 B (zQ  r) I' ai m'->T 78 B Q .ret I' ai m')->J Tryz.prog 78 B (nav (bodyOf f26) [1,1,0,1,0]) Q I [hB b2 (cProg b p2 c2 p3 c3),hB b1 (cProg a0 p c p1 c1)] [(2,vP b1 0),(3,vP b2 0),(5,vI i)]:=by
 refine tG.partial_correctness a0 b _ λaN ih i o N B I0 I Q p c p1 c1 p2 c2 p3 c3 b1 b2 H h2 h3 h h1 hg ho hx hr=>yY hg ho<|yA<|yE<|yQ [1] [27] rfl<|zI<|yC N ?_ ?_
 ·intro aQ N;refine zS<|zW<|yK<|yA ?_;refine wQ N [hB b2 (cProg b p2 c2 p3 c3),hB b1 (cProg a0 p c p1 c1)] (λt58=>[(2,vP b1 0),(3,vP b2 0),(5,vI i),(58,.bool t58)]) (λaO aB=>?_) ?_
  ·have H:=iS I;obtain⟨x,hy,N⟩:=zC aB;obtain⟨x1,ay,N⟩:=zC N;cases bu:(!(x.Name.l==x1.Name.l)) with
   | true=>
    have hM0:=rY bu N;refine wU [.p (vP b1 0) [],.p (vS p a0.Arrays c) [1],.p (vI i) [],.x (ePArr x),.x (ePArr x),.q (vT x.Name.l),.p (vP b2 0) [],.p (vS p2 b.Arrays c2) [0],.p (vI i) [],.x (ePArr x1),.x (ePArr x1),.q (vT x1.Name.l),.q vY,.q vY,.p undef [],.p undef [],.p undef [],.p undef [],.p undef [],.p undef [],.p undef [],.p undef [],.p undef [],.p undef [],.p undef [],.p undef [],.p undef [],.p undef [],.p vY []] [[],[(0,false)],[],[(1,false),(2,false)],[(3,false)],[(4,false)],[],[(6,false)],[],[(7,false),(8,false)],[(9,false)],[(10,false)],[(5,false),(11,false)],[(12,false)],[(13,false)],[(13,false),(14,false)],[(13,false)],[(13,false),(15,false),(16,false)],[(13,false),(17,false)],[(13,false),(18,false)],[(13,false)],[(13,false),(20,false)],[(13,false)],[(13,false),(21,false),(22,false)],[(13,false),(23,false)],[(13,false),(24,false)],[(13,false),(19,false),(25,false)],[(13,false),(26,false)],[(13,false),(27,false)]] [hB b2 (cProg b p2 c2 p3 c3),hB b1 (cProg a0 p c p1 c1)] [] [(28,false)] (zY [0,1]) ?_ ?_
    ·refine Op<|Op<|Op<|Ox ?_<|Ox ?_<|Oq ?_<|Op<|Op<|Op<|Ox ?_<|Ox ?_<|Oq ?_<|Oq ?_<|Oq ?_<|Op<|Op<|Op<|Op<|Op<|Op<|Op<|Op<|Op<|Op<|Op<|Op<|Op<|Op<|Op<|On
     ·intro I1 hf af;refine yV [31,32] rfl ?_;have h:=h.mono af;refine wB rfl rfl h hy ?_;intro ad aK ar al;obtain⟨p4,c4,rfl,h4⟩:=xQ al;exact yR [] iR ⟨_,_,_,rfl,rfl,ar,h4⟩
     ·rintro I1 hf af _ _ ⟨ad,p4,c4,rfl,rfl,ar,h4⟩;exact yV [33] rfl<|pG 5 [(34,.pointer (some ad))]<|yR [] iR ⟨_,_,_,rfl,rfl,ar,h4⟩
     ·rintro I1 hf af _ _ ⟨ad1,p41,c41,rfl,rfl,ap,h41⟩;exact yV [34] rfl<|xU 0 ap [vT x.Name.l] (vT x.Name.l) rfl<|xA iR
     ·intro I1 hf af;refine yV [37,38] rfl ?_;have h2:=h2.mono af;refine wB rfl rfl h2 ay ?_;intro ad2 bi bh aw;obtain⟨p5,c5,rfl,h5⟩:=xQ aw;exact yR [] iR ⟨_,_,_,rfl,rfl,bh,h5⟩
     ·rintro I1 hf af _ _ ⟨ad2,p5,c5,rfl,rfl,bh,h5⟩;exact yV [39] rfl<|pG 11 [(40,.pointer (some ad2))]<|yR [] iR ⟨_,_,_,rfl,rfl,bh,h5⟩
     ·rintro I1 hf af _ _ ⟨ad21,p51,c51,rfl,rfl,hat21,h51⟩;exact yV [40] rfl<|xU 0 hat21 [vT x1.Name.l] (vT x1.Name.l) rfl<|xA iR
     ·intro I1 hf af;refine yV [35,41] rfl<|pG 13 [(42,.bool (!(x.Name.l==x1.Name.l)))] ?_;rw[bu];exact xA iR
     intro I1 hf af;exact dD [(42,vY)]<|pG 14 [(43,vY)]<|xA iR
    intro aS af;refine yV [2,3,5,58] rfl ?_;have H:=H.trans af;exact yB rfl<|yS<|zU (ct hM0 H)
   | false=>
    have hM01:=sP bu N;obtain⟨x2,aI,N⟩:=zC hM01;obtain⟨x3,aW,N⟩:=zC N;obtain⟨y,br,N⟩:=zC N;refine wU [.p (vP b1 0) [],.p (vS p a0.Arrays c) [1],.p (vI i) [],.x (ePArr x),.x (ePArr x),.q (vT x.Name.l),.p (vP b2 0) [],.p (vS p2 b.Arrays c2) [0],.p (vI i) [],.x (ePArr x1),.x (ePArr x1),.q (vT x1.Name.l),.q vF,.q vF,.p (vP b1 0) [],.p (vS p a0.Arrays c) [1],.p (vI i) [],.x (ePArr x2),.x (eQArr 1 x2),.x (eS x2.Dims),.p (vP b2 0) [],.p (vS p2 b.Arrays c2) [0],.p (vI i) [],.x (ePArr x3),.x (eQArr 1 x3),.x (eS x3.Dims),.q (.bool y),.p (.bool (!y)) [],.p (.bool (!y)) []] [[],[(0,false)],[],[(1,false),(2,false)],[(3,false)],[(4,false)],[],[(6,false)],[],[(7,false),(8,false)],[(9,false)],[(10,false)],[(5,false),(11,false)],[(12,false)],[(13,false)],[(13,false),(14,false)],[(13,false)],[(13,false),(15,false),(16,false)],[(13,false),(17,false)],[(13,false),(18,false)],[(13,false)],[(13,false),(20,false)],[(13,false)],[(13,false),(21,false),(22,false)],[(13,false),(23,false)],[(13,false),(24,false)],[(13,false),(19,false),(25,false)],[(13,false),(26,false)],[(13,false),(27,false)]] [hB b2 (cProg b p2 c2 p3 c3),hB b1 (cProg a0 p c p1 c1)] [] [(28,false)] (zY [0,1]) ?_ ?_
    ·refine Op<|Op<|Op<|Ox ?_<|Ox ?_<|Oq ?_<|Op<|Op<|Op<|Ox ?_<|Ox ?_<|Oq ?_<|Oq ?_<|Oq ?_<|Op<|Op<|Op<|Ox ?_<|Ox ?_<|Ox ?_<|Op<|Op<|Op<|Ox ?_<|Ox ?_<|Ox ?_<|Oq ?_<|Op<|Op<|On
     ·intro I1 hf af;refine yV [31,32] rfl ?_;have h:=h.mono af;refine wB rfl rfl h hy ?_;intro ad aK ar al;obtain⟨p4,c4,rfl,h4⟩:=xQ al;exact yR [] iR ⟨_,_,_,rfl,rfl,ar,h4⟩
     ·rintro I1 hf af _ _ ⟨ad,p4,c4,rfl,rfl,ar,h4⟩;exact yV [33] rfl<|pG 5 [(34,.pointer (some ad))]<|yR [] iR ⟨_,_,_,rfl,rfl,ar,h4⟩
     ·rintro I1 hf af _ _ ⟨ad1,p41,c41,rfl,rfl,ap,h41⟩;exact yV [34] rfl<|xU 0 ap [vT x.Name.l] (vT x.Name.l) rfl<|xA iR
     ·intro I1 hf af;refine yV [37,38] rfl ?_;have h2:=h2.mono af;refine wB rfl rfl h2 ay ?_;intro ad2 bi bh aw;obtain⟨p5,c5,rfl,h5⟩:=xQ aw;exact yR [] iR ⟨_,_,_,rfl,rfl,bh,h5⟩
     ·rintro I1 hf af _ _ ⟨ad2,p5,c5,rfl,rfl,bh,h5⟩;exact yV [39] rfl<|pG 11 [(40,.pointer (some ad2))]<|yR [] iR ⟨_,_,_,rfl,rfl,bh,h5⟩
     ·rintro I1 hf af _ _ ⟨ad21,p51,c51,rfl,rfl,hat21,h51⟩;exact yV [40] rfl<|xU 0 hat21 [vT x1.Name.l] (vT x1.Name.l) rfl<|xA iR
     ·intro I1 hf af;refine yV [35,41] rfl<|pG 13 [(42,.bool (!(x.Name.l==x1.Name.l)))] ?_;rw[bu];exact xA iR
     ·intro I1 hf af;exact dD [(42,vF)]<|pG 14 [(43,vF)]<|xA iR
     ·intro I1 hf af;refine yV [43,45,46] rfl ?_;have h:=h.mono af;refine wB rfl rfl h aI ?_;intro ad3 bP hat3 bj;obtain⟨p6,c6,rfl,h6⟩:=xQ bj;exact yR [] iR ⟨_,_,_,rfl,rfl,hat3,h6⟩
     ·rintro I1 hf af _ _ ⟨rfl,rfl⟩ _ _ ⟨ad3,p6,c6,rfl,rfl,hat3,h6⟩;exact yV [43,47] rfl<|pG 19 [(48,.pointer (some (ad3.add 1)))]<|yR [] iR ⟨_,_,_,rfl,rfl,hat3,h6⟩
     ·rintro I1 hf af _ _ ⟨rfl,rfl⟩ _ _ ⟨ad31,p61,c61,rfl,rfl,hat31,h61⟩;exact yV [43,48] rfl<|xU 1 hat31 [vS p61 x2.Dims c61] (vS p61 x2.Dims c61) rfl<|yR [] iR ⟨_,_,rfl,rfl,h61⟩
     ·intro I1 hf af;refine yV [43,51,52] rfl ?_;have h2:=h2.mono af;refine wB rfl rfl h2 aW ?_;intro ad4 ccs3 hat4 bC;obtain⟨p7,c7,rfl,h7⟩:=xQ bC;exact yR [] iR ⟨_,_,_,rfl,rfl,hat4,h7⟩
     ·rintro I1 hf af _ _ ⟨rfl,rfl⟩ _ _ ⟨ad4,p7,c7,rfl,rfl,hat4,h7⟩;exact yV [43,53] rfl<|pG 25 [(54,.pointer (some (ad4.add 1)))]<|yR [] iR ⟨_,_,_,rfl,rfl,hat4,h7⟩
     ·rintro I1 hf af _ _ ⟨rfl,rfl⟩ _ _ ⟨ad41,p71,c71,rfl,rfl,hat41,h71⟩;exact yV [43,54] rfl<|xU 1 hat41 [vS p71 x3.Dims c71] (vS p71 x3.Dims c71) rfl<|yR [] iR ⟨_,_,rfl,rfl,h71⟩
     rintro I1 hf af _ _ ⟨rfl,rfl⟩ _ _ ⟨p611,c611,rfl,rfl,h611⟩ _ _ ⟨p711,c711,rfl,rfl,h711⟩;refine yV [43,49,55] rfl ?_;have H:=iS I1;refine vH (zBo x2.Dims x3.Dims _ br h611 h711) ?_;intro bw aE;have H:=H.trans aE;exact xA H
    intro bI aJ;refine yV [2,3,5,58] rfl ?_;have H:=H.trans aJ;exact yB rfl<|yS<|zU (ct N H)
  intro t58 aP aX hMc1;have ⟨h2,h3,h,h1,H⟩:=m5 aX h2 h3 h h1 H;refine zI<|yC hMc1 ?_ ?_
  ·intro bK N;exact wM [(4,vF)]<|xJ<|zR<|zF<|zF<|hr _ _ _ _ (zB N).symm H ⟨_,_,(.tmp rfl ResV.nil),zN,⟨_,rfl,rfl,rfl⟩⟩
  intro bK N;exact zS<|zO<|zI<|zL<|yQ [] [5] rfl<|yW<|mE<|ih (W (i+1)) _ N H h2 h3 h h1 hg ho hx hr
 intro aQ N;exact vQ<|yS<|hx _  (zB N).symm H
def tH(a0:zP)(b:zP)(i1:Int):Option (Out Unit (Bool)):=do
 if(decide (i1<(a0.Parts.length:Int))) then
  let x4<-idx a0.Parts i1
  let x5<-idx b.Parts i1
  let y1<-oZ x4 x5
  if(!y1) then
   pure (.ret false)
  else
   tH a0 b (W (i1+1))
 else
  pure (.done ())
 partial_fixpoint
theorem zBB(a0:zP)(b:zP):∀(i1:Int) (o:Out Unit (Bool)),tH a0 b i1=some o->∀{B}{I0 I:Imm}{Q p c p1 c1 p2 c2 p3 c3}{b1:Nat}{b2:Nat},I0.le I->(S4 I p2 b.Arrays c2)->(S4 I p3 b.Parts c3)->(S4 I p a0.Arrays c)->(S4 I p1 a0.Parts c1)->NG Q->NO Q->(∀(I':Imm) ,o=(.done ())->I0.le I'->T 78 B Q (.exit 2) I' [] [])->(∀r I' ai m',o=(.ret r)->I0.le I'->RS Tryz.prog f26 B (zQ  r) I' ai m'->T 78 B Q .ret I' ai m')->J Tryz.prog 78 B (nav (bodyOf f26) [1,1,1,0,1,0]) Q I [hB b2 (cProg b p2 c2 p3 c3),hB b1 (cProg a0 p c p1 c1)] [(2,vP b1 0),(3,vP b2 0),(6,vI i1)]:=by
 refine tH.partial_correctness a0 b _ λaN ih i1 o N B I0 I Q p c p1 c1 p2 c2 p3 c3 b1 b2 H h2 h3 h h1 hg ho hx hr=>yY hg ho<|yA<|yE<|yQ [1] [63] rfl<|zI<|yC N ?_ ?_
 ·intro hc5 N;refine zS<|zW<|yK<|yA ?_;obtain⟨x4,bB,N⟩:=zC N;obtain⟨x5,hy6,N⟩:=zC N;obtain⟨y1,hy7,N⟩:=zC N;refine wU [.p (vP b1 1) [],.p (vS p1 a0.Parts c1) [1],.p (vI i1) [],.x (ePPart x4),.x (eVPart x4),.p (vP b2 1) [],.p (vS p3 b.Parts c3) [0],.p (vI i1) [],.x (ePPart x5),.x (eVPart x5),.q (.bool y1),.p (.bool (!y1)) []] [[],[(0,false)],[],[(1,false),(2,false)],[(3,false)],[],[(5,false)],[],[(6,false),(7,false)],[(8,false)],[(4,false),(9,false)],[(10,false)]] [hB b2 (cProg b p2 c2 p3 c3),hB b1 (cProg a0 p c p1 c1)] [] [(11,false)] (zY [0,1]) ?_ ?_
  ·refine Op<|Op<|Op<|Ox ?_<|Ox ?_<|Op<|Op<|Op<|Ox ?_<|Ox ?_<|Oq ?_<|Op<|On
   ·intro I1 hf af;refine yV [67,68] rfl ?_;have h1:=h1.mono af;refine wB rfl rfl h1 bB ?_;intro ad5 ccs4 hat5 hrep4;obtain⟨p8,c8,p9,c9,rfl,h9,h10⟩:=vL hrep4;exact yR [] iR ⟨_,_,_,_,_,rfl,rfl,hat5,h9,h10⟩
   ·rintro I1 hf af _ _ ⟨ad5,p8,c8,p9,c9,rfl,rfl,hat5,h9,h10⟩;exact yV [69] rfl<|xU 0 hat5 (cPart x4 p8 c8 p9 c9) (vA (cPart x4 p8 c8 p9 c9)) rfl<|yR [] iR ⟨_,_,_,_,rfl,rfl,h9,h10⟩
   ·intro I1 hf af;refine yV [72,73] rfl ?_;have h3:=h3.mono af;refine wB rfl rfl h3 hy6 ?_;intro ad6 ccs5 hat6 hrep5;obtain⟨aZ,ba,aT,aU,rfl,h11,h12⟩:=vL hrep5;exact yR [] iR ⟨_,_,_,_,_,rfl,rfl,hat6,h11,h12⟩
   ·rintro I1 hf af _ _ ⟨ad6,aZ,ba,aT,aU,rfl,rfl,hat6,h11,h12⟩;exact yV [74] rfl<|xU 0 hat6 (cPart x5 aZ ba aT aU) (vA (cPart x5 aZ ba aT aU)) rfl<|yR [] iR ⟨_,_,_,_,rfl,rfl,h11,h12⟩
   rintro I1 hf af _ _ ⟨p81,c81,p91,c91,rfl,rfl,h91,h101⟩ _ _ ⟨p101,c101,p111,c111,rfl,rfl,h111,h121⟩;refine yV [70,75] rfl ?_;have H:=iS I1;refine vH (zCq x4 x5 _ hy7 h91 h101 h111 h121) ?_;intro I06 bx;have H:=H.trans bx;exact xA H
  intro I07 le7;refine yV [2,3,6,77] rfl ?_;have ⟨h2,h3,h,h1,H⟩:=m5 le7 h2 h3 h h1 H;refine yB rfl<|zI<|yC N ?_ ?_
  ·intro hc6 N;exact wM [(4,vF)]<|xJ<|zR<|zF<|zF<|hr _ _ _ _ (zB N).symm H ⟨_,_,(.tmp rfl ResV.nil),zN,⟨_,rfl,rfl,rfl⟩⟩
  intro hc6 N;exact zS<|zO<|zI<|zL<|yQ [] [6] rfl<|yW<|mE<|ih (W (i1+1)) _ N H h2 h3 h h1 hg ho hx hr
 intro hc5 N;exact vQ<|wD zN<|yS<|hx _  (zB N).symm H
def rM(a0:zP)(b:zP):Option (Bool):=do
 let t22<-(do
  if((a0.Arrays.length:Int) != (b.Arrays.length:Int)) then
   pure true
  else
   pure ((a0.Parts.length:Int) != (b.Parts.length:Int))
    : Option Bool)
 if t22 then
  pure false
 else
  match<-tG a0 b 0 with
  | .ret r0=>pure r0
  | .done _=>
   match<-tH a0 b 0 with
   | .ret r0=>pure r0
   | .done _=>
    pure true
theorem zCR:∀a0 b r,rM a0 b=some r->∀{I:Imm}{p c p1 c1 p2 c2 p3 c3},(S4 I p a0.Arrays c)->(S4 I p1 a0.Parts c1)->(S4 I p2 b.Arrays c2)->(S4 I p3 b.Parts c3)->RT 26 [vA (cProg a0 p c p1 c1),vA (cProg b p2 c2 p3 c3)] I [] (zQ  r):=by
 intro a0 b r N I p c p1 c1 p2 c2 p3 c3 h h1 h2 h3;unfold rM at N;refine yP func26 λB=>?_;have H:=iS I;refine yE<|vM (cProg a0 p c p1 c1) ?_;intro b1 hb;refine vM (cProg b p2 c2 p3 c3) ?_;intro b2 hb1;refine wN [] []<|zW<|yA ?_;refine wQ N [hB b2 (cProg b p2 c2 p3 c3),hB b1 (cProg a0 p c p1 c1)] (λt22=>[(2,vP b1 0),(3,vP b2 0),(22,.bool t22)]) (λo0 az=>?_) ?_
 ·have H:=iS I;refine zL<|yG 8 [1,0] [14] rfl<|wC [14] az ?_ ?_
  ·intro hc N;exact wN [] [(22,vY)]<|yS<|zU (ct N H)
  intro hc N;exact yQ [1,0] [22] rfl<|yS<|zU (ct N H)
 intro t22 I0 le aM;have ⟨h2,h3,h,h1⟩:=m4 le h2 h3 h h1;refine zI<|yC aM ?_ ?_
 ·intro aD N;refine wM [(4,vF)]<|xJ<|zF ?_;obtain rfl:=zB N;exact wI
 intro aD N;refine zS<|zW<|yJ [5] rfl<|wS<|oR [(2,vP b1 0),(3,vP b2 0),(5,vI 0)] ?_;obtain⟨o02,ho02,aF⟩:=zC N;refine zBA a0 b 0 o02 ho02 iR h2 h3 h h1 (λ_ _ _ h=>h) (λ_ _ h=>h) ?_ ?_
 ·intro bL  heq2 bt;subst o02;have ⟨h2,h3,h,h1⟩:=m4 bt h2 h3 h h1;refine zT<|zW<|yJ [6] rfl<|wS<|oR [(2,vP b1 0),(3,vP b2 0),(6,vI 0)] ?_;obtain⟨o03,ho03,hMl1⟩:=zC aF;refine zBB a0 b 0 o03 ho03 iR h2 h3 h h1 (λ_ _ _ h=>h) (λ_ _ h=>h) ?_ ?_
  ·intro I08  heq3 le8;subst o03;refine zT<|zBL [(4,vY)]<|zI<|yX ?_;obtain rfl:=zB hMl1;exact wI
  intro r0 I9 hs9 m9 aG le9 aH;subst aG;refine zR<|zF ?_;obtain rfl:=zB hMl1;exact xL aH
 intro r0 I9 hs9 m9 aG le9 aH;subst aG;refine zR<|zF ?_;obtain rfl:=zB aF;exact xL aH
def mT(code:(List UInt8)):Option (Bool):=do
 if(decide ((code.length:Int)>1048576)) then
  pure true
 else
  let (y1,y2)<-qV code
  let y3<-rF y1 y2
  let t36<-(do
   let y4<-rM y1 y2
   if(!(y3==y4)) then
    pure true
   else
    let y5<-rF y2 y1
    if(!(y3==y5)) then
     pure true
    else
     let y6<-rF y1 y1
     pure (!y6)
     : Option Bool)
  if t36 then
   pure false
  else
   let y7<-rO y1
   let y8<-rO y2
   let t2<-(do
    if(y7.l==([]:List UInt8)) then
     pure true
    else
     if(y8.l==([]:List UInt8)) then
      pure true
     else
      pure (y3==(y7.l==y8.l))
      : Option Bool)
   pure (id t2)
theorem zHP:∀code r,mT code=some r->∀{I:Imm}{p c},(S4 I p code c)->(GH Tryz.prog I)->RT 5 [vS p code c] I [] (zQ  r):=by
 intro code r N I p c h hG;unfold mT at N;refine yP func5 λB=>?_;have H:=iS I;refine wM []<|zW<|yJ [10] rfl<|zI<|yC N ?_ ?_
 ·intro hc N;refine wM [(2,vY)]<|xJ<|zF ?_;obtain rfl:=zB N;exact wI
 intro hc N;refine zS<|xN<|yG 1 [] [12] rfl ?_;obtain⟨⟨y1,y2⟩,hy,N⟩:=zC N;refine xX (zAi code _ hy h) ?_;rintro I0 ax v2 k2 le - ⟨v0,v01,rfl,rfl,⟨cs,rfl,h1⟩,⟨aL,rfl,h2⟩⟩ -;have ⟨hG,H⟩:=m2 le hG H;obtain⟨p1,c1,p2,c2,rfl,h3,h4⟩:=nA h1;obtain⟨p3,c3,p4,c4,rfl,h5,h6⟩:=nA h2;refine yG 5 [] [14,15] rfl<|vG zTwo ?_;intro b hb;refine vG zTwo ?_;intro b1 hb1;refine xW 1 (cProg y1 p1 c1 p2 c2) rfl<|xW 0 (cProg y2 p3 c3 p4 c4) rfl<|yB rfl<|xN<|qX 2 [1,0] [(16,vA (cProg y1 p1 c1 p2 c2)),(17,vA (cProg y2 p3 c3 p4 c4))]<|bE N λy3 ay N=>vH (gU y1 y2 _ ay h3 h4 h5 h6) ?_;intro aP af;have ⟨h5,h6,h3,h4,hG,H⟩:=m6 af h5 h6 h3 h4 hG H;refine yQ [] [5] rfl<|zW<|yA ?_;refine wQ N [hB b1 (cProg y2 p3 c3 p4 c4),hB b (cProg y1 p1 c1 p2 c2)] (λt36=>[(3,vP b 0),(4,vP b1 0),(5,.bool y3),(36,.bool t36)]) (λo0 az=>?_) ?_
 ·have H:=iS aP;refine zL<|qX 3 [1,0] [(19,.bool y3),(20,vA (cProg y1 p1 c1 p2 c2)),(21,vA (cProg y2 p3 c3 p4 c4))] ?_;obtain⟨y4,aI,N⟩:=zC az;refine vH (zCR y1 y2 _ aI h3 h4 h5 h6) ?_;intro bw aE;have ⟨h5,h6,h3,h4,H⟩:=m5 aE h5 h6 h3 h4 H;refine yG 6 [] [24] rfl<|wC [24] N ?_ ?_
  ·intro aD N;exact wN [] [(36,vY)]<|yS<|zU (ct N H)
  intro aD N;refine qX 9 [0,1] [(25,.bool y3),(26,vA (cProg y2 p3 c3 p4 c4)),(27,vA (cProg y1 p1 c1 p2 c2))]<|bE N λy5 aW N=>vH (gU y2 y1 _ aW h5 h6 h3 h4) ?_;intro bI aJ;have ⟨h3,h4,H⟩:=m3 aJ h3 h4 H;refine yG 13 [] [31] rfl<|wC [31] N ?_ ?_
  ·intro aQ N;exact wN [] [(36,vY)]<|yS<|zU (ct N H)
  intro aQ N;refine qX 15 [1,1] [(32,vA (cProg y1 p1 c1 p2 c2)),(33,vA (cProg y1 p1 c1 p2 c2))]<|bE N λy6 br N=>vH (gU y1 y1 _ br h3 h4 h3 h4) ?_;intro bL aX;have H:=H.trans aX;exact yQ [] [36] rfl<|yS<|zU (ct N H)
 intro t36 aS bt aM;have ⟨h5,h6,h3,h4,hG,H⟩:=m6 bt h5 h6 h3 h4 hG H;refine zI<|yC aM ?_ ?_
 ·intro bu N;refine wM [(2,vF)]<|xJ<|zF ?_;obtain rfl:=zB N;exact wI
 intro bu N;refine zS<|xN<|qX 1 [1] [(37,vA (cProg y1 p1 c1 p2 c2))]<|bE N λy7 bB N=>xX (fW y1 _ bB h3 h4 hG) ?_;rintro I06 ax v2 k2 bx - ⟨v010,rfl,rfl,rfl⟩ -;have ⟨h5,h6,hG,H⟩:=m4 bx h5 h6 hG H;refine yQ [] [6] rfl<|xN<|qX 1 [0] [(39,vA (cProg y2 p3 c3 p4 c4))]<|bE N λy8 hy6 N=>xX (fW y2 _ hy6 h5 h6 hG) ?_;rintro I07 ax v2 k2 le7 - ⟨v011,rfl,rfl,rfl⟩ -;have H:=H.trans le7;refine yQ [] [7] rfl<|zI<|yA ?_;refine wQ N [] (λt2=>[(2,.bool t2)]) (λaO aB=>?_) ?_
 ·have H:=iS I07;refine zL<|yG 3 [] [43] rfl<|wC [43] aB ?_ ?_
  ·intro bK N;exact wN [] [(2,vY)]<|wD zN<|yS<|zU (ct N H)
  intro bK N;refine yG 7 [] [47] rfl<|wC [47] N ?_ ?_
  ·intro hc5 N;exact wN [] [(2,vY)]<|wD zN<|yS<|zU (ct N H)
  intro hc5 N;exact yQ [] [2] rfl<|wD zN<|yS<|zU (ct N H)
 intro t2 I08 le8 hMc1;refine zI<|yX ?_;obtain rfl:=zB hMc1;exact wI
end Go.LN
