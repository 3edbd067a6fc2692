/- Helper of the proof (see the last text). -/
import Derived.Test.YtaedjkaagcbkdaaGreatHM6
set_option linter.unusedVariables false
set_option linter.unusedSimpArgs false
namespace Go.LN
open Go.Proofs
set_option maxRecDepth 20000
def gY (r:Bool):KT:=fun kk imm' hs' v=>
  ∃ v0,hs'=[]∧v=tupV [v0]∧v0=.bool r
def nH (nest:(List zI)) (p1:(List Int)) (t26:Int):Option (Out Unit (Bool)):=do
 if (decide (t26 < (nest.length:Int))) then
  let x←idx nest t26
  let l←slc p1 0 t26
  let (y3,y4)←qU x l
  let t52←(do
    let x1←idx p1 t26
    if (decide (x1 < y3)) then
     pure true
    else
     let x2←idx p1 t26
     pure (decide (x2 ≥ y4))
      : Option Bool)
  if t52 then
   pure (.ret false)
  else
   nH nest p1 (W (t26 + 1))
 else
  pure (.done ())
 partial_fixpoint
theorem zBZ (nest:(List zI)) (p1:(List Int)):∀ (t26:Int) (o:Out Unit (Bool)),nH nest p1 t26=some o→∀ {B}{imm0 imm:Imm}{Q p c p2 c1},imm0.le imm→(S4 imm p2 p1 c1)→(S4 imm p nest c)→(∀ gl a w,¬Q (.goto gl) a w)→(∀ a w,¬Q .outgrown a w)→(∀ (imm':Imm) ,o=(.done ())→imm0.le imm'→T 54 B Q (.exit 0) imm' [] [])→(∀ r imm' hs' m',o=(.ret r)→imm0.le imm'→RS Tryz.prog Tryz.f37 B (gY  r) imm' hs' m'→T 54 B Q .ret imm' hs' m')→J Tryz.prog 54 B (nav (bodyOf Tryz.f37) [1,1,0,1,0]) Q imm [] [(1,vS p2 p1 c1),(24,vS p nest c),(25,vI (nest.length:Int)),(26,vI t26)]:=by
 refine nH.partial_correctness nest p1 _ ?_;intro self ih t26 o hM B imm0 imm Q p c p2 c1 hle h1 h hg ho hx hr;refine xA hg ho<|zG<|zB<|yA [] [(27,.bool (decide (t26 < (nest.length:Int))))]<|zF<|zG<|yO hM ?_ ?_
 · intro hc3 hM;refine yE<|zF<|zG<|yC<|zG<|zB<|yK 1 [] [(28,vI t26)] ?_;obtain ⟨x,hy2,hM⟩:=zC hM;refine wD rfl rfl h hy2 ?_;intro ad ccs hat hrep;obtain ⟨v02,v03,rfl,h4,h5⟩:=vH hrep;obtain ⟨p3,c2,rfl⟩:=h4.form;obtain ⟨p4,c3,rfl⟩:=h5.form;refine xQ 0 hat (cLoop x p3 c2 p4 c3) (vA (cLoop x p3 c2 p4 c3)) rfl<|uB zTwo ?_;intro b hb;refine yK 5 [] [(5,vI t26)]<|xI 0 (cLoop x p3 c2 p4 c3) [hB b (cLoop x p3 c2 p4 c3)] rfl rfl rfl rfl<|yN rfl<|zF<|zG ?_;obtain ⟨l,hy3,hM⟩:=zC hM;obtain ⟨⟨y3,y4⟩,hy4,hM⟩:=zC hM;refine vC [.p (vA (cLoop x p3 c2 p4 c3)) [0],.p (vS p2 p1 c1) [],.p (vI t26) [],.x (fun imm' v hx=>∃ p5 c4,v=vS p5 l c4∧hx=[]∧(S4 imm' p5 l c4)),.q (.tuple ⟨[vI y3,vI y4]⟩),.p (.tuple ⟨[vI y3,vI y4]⟩) [],.p (vI y3) [],.p (vI y4) [],.p (vI y3) []] [[],[],[],[(1,false),(2,false)],[(0,false),(3,false)],[(4,false)],[(5,false)],[(5,false)],[(6,false)]] [hB b (cLoop x p3 c2 p4 c3)] [] [(7,false),(8,false)] (zL [0] rfl (by decide)) ?_ ?_
   · refine Op<|Op<|Op<|Ox ?_<|Oq ?_<|Op<|Op<|Op<|Op<|On
     · intro imm1 hf le1;refine zE ?_;rintro _ _ ⟨rfl,rfl⟩;refine zE ?_;rintro _ _ ⟨rfl,rfl⟩;refine zM<|yG [(33,vS p2 p1 c1),(34,vI t26)] ?_;have hle:=iS imm1;have h1:=h1.mono le1;refine zIz rfl h1 hy3 ?_;intro v04 h6;obtain ⟨p5,c4,rfl⟩:=h6.form;exact zZ (hx:=[]) rfl hle rfl (zK rfl) ⟨_,_,rfl,rfl,h6⟩
     intro imm1 hf le1;refine zE ?_;rintro _ _ ⟨rfl,rfl⟩;refine zE ?_;rintro _ _ ⟨p5,c4,rfl,rfl,h6⟩;refine zM<|yG [(32,vA (cLoop x p3 c2 p4 c3)),(35,vS p5 l c4)] ?_;have hle:=iS imm1;have h4:=h4.mono le1;have h5:=h5.mono le1;refine yQ (gX x l _ hy4 h4 h5 h6) ?_;rintro imm03 hs2 v2 k2 le3 - ⟨v05,v06,rfl,rfl,rfl,rfl⟩ -;have hle:=hle.trans le3;exact zZ (hx:=[]) rfl hle rfl (zK rfl) ⟨rfl,rfl⟩
   intro imm04 le4;refine zE ?_;rintro _ _ ⟨rfl,rfl⟩;refine zE ?_;rintro _ _ ⟨rfl,rfl⟩;refine zM<|yG [(1,vS p2 p1 c1),(5,vI t26),(7,vI y3),(24,vS p nest c),(25,vI (nest.length:Int)),(26,vI t26),(38,vI y4)] ?_;have h1:=h1.mono le4;have h:=h.mono le4;have hle:=hle.trans le4;refine yA [] [(8,vI y4)]<|zF<|zG ?_;obtain ⟨o01,ho01,hMc1⟩:=zC hM;refine yT (fun imm' hs' m'=>∃ (t52:Bool),o01=t52∧imm04.le imm'∧hs'=[]∧m'=[(1,vS p2 p1 c1),(24,vS p nest c),(25,vI (nest.length:Int)),(26,vI t26),(52,.bool t52)]) ?_ ?_
   · have hle:=iS imm04;refine zB<|yK 2 [] [(39,vS p2 p1 c1),(40,vI t26)] ?_;obtain ⟨x1,hy5,hM⟩:=zC ho01;refine wD rfl rfl h1 hy5 ?_;intro ad1 ccs1 hat1 hrep1;obtain rfl:=hrep1;refine xQ 0 hat1 [vI x1] (vI x1) rfl<|yK 7 [] [(45,.bool (decide (x1 < y3)))] ?_;cases hc4:(decide (x1 < y3)) with
     | true =>
      have hM04:=zV hc4 hM
      try rw [hc4]
      exact yA [] [(52,.bool true)]<|wB (zL [] rfl (by decide))<|yS [(1,vS p2 p1 c1),(24,vS p nest c),(25,vI (nest.length:Int)),(26,vI t26),(52,.bool true)]<|yB ⟨_,(zD hM04).symm,hle,rfl,rfl⟩
     | false =>
      have hM05:=zT hc4 hM
      try rw [hc4]
      refine yK 9 [] [(46,vS p2 p1 c1),(47,vI t26)] ?_;obtain ⟨x2,hy6,hM⟩:=zC hM05;refine wD rfl rfl h1 hy6 ?_;intro ad2 ccs2 hat2 hrep2;obtain rfl:=hrep2;exact xQ 0 hat2 [vI x2] (vI x2) rfl<|yA [] [(52,.bool (decide (x2 ≥ y4)))]<|wB (zL [] rfl (by decide))<|yS [(1,vS p2 p1 c1),(24,vS p nest c),(25,vI (nest.length:Int)),(26,vI t26),(52,.bool (decide (x2 ≥ y4)))]<|yB ⟨_,(zD hM).symm,hle,rfl,rfl⟩
   rintro imm05 hs2 m2 ⟨t52,heq1,le5,rfl,rfl⟩;subst o01;have h1:=h1.mono le5;have h:=h.mono le5;have hle:=hle.trans le5;refine zF<|yO hMc1 ?_ ?_
   · intro hc5 hM;exact zG<|zB<|yA [] [(4,.bool false)]<|zF<|yI<|yF<|zP<|zP<|hr _ _ _ _ (zD hM).symm hle ⟨_,_,(.tmp rfl ResV.nil),zX,⟨_,rfl,rfl,rfl⟩⟩
   intro hc5 hM;exact yE<|zY<|zF<|zB<|yA [] [(26,vI (W (t26 + 1)))]<|xB<|vG [(1,vS p2 p1 c1),(24,vS p nest c),(25,vI (nest.length:Int)),(26,vI (W (t26 + 1)))]<|ih (W (t26 + 1)) _ hM hle h1 h hg ho hx hr
 intro hc3 hM;exact yZ<|zS<|zS<|yS []<|hx _  (zD hM).symm hle
def gA (nest:(List zI)) (p1:(List Int)):Option (Bool):=do
 let t23←(do
   let y←qT nest
   if (!y) then
    pure true
   else
    let y1←oL p1
    if (!y1) then
     pure true
    else
     pure ((p1.length:Int) != (nest.length:Int))
     : Option Bool)
 if t23 then
  pure false
 else
  match←nH nest p1 0 with
  | .ret r0=>pure r0
  | .done _ =>
   pure true
theorem zDY:∀ (nest:(List zI)) (p1:(List Int)) r,gA nest p1=some r→∀ {imm:Imm}{p c p2 c1},(S4 imm p nest c)→(S4 imm p2 p1 c1)→Ret Tryz.prog 37 [vS p nest c,vS p2 p1 c1] imm [] (gY  r):=by
 intro nest p1 r hM imm p c p2 c1 h h1;unfold gA at hM;refine yH (fn:=Tryz.f37) (c:=(bodyOf Tryz.f37)) Tryz.func37 rfl rfl ?_;rintro B - -;have hle:=iS imm;refine zG<|zB<|yA [] []<|zF<|zG<|zG ?_;obtain ⟨o0,ho0,hMc⟩:=zC hM;refine yT (fun imm' hs' m'=>∃ (t23:Bool),o0=t23∧imm.le imm'∧hs'=[]∧m'=[(0,vS p nest c),(1,vS p2 p1 c1),(23,.bool t23)]) ?_ ?_
 · have hle:=iS imm;refine zB<|yK 1 [] [(9,vS p nest c)] ?_;obtain ⟨y,hy,hM⟩:=zC ho0;refine yQ (gW nest _ hy h) ?_;rintro imm01 hs2 v2 k2 le - ⟨v0,rfl,rfl,rfl⟩ -;have h1:=h1.mono le;have hle:=hle.trans le;refine yK 4 [] [(12,.bool (!y))] ?_;cases hc:(!y) with
   | true =>
    have hM0:=zV hc hM
    try rw [hc]
    exact yA [] [(23,.bool true)]<|yS [(0,vS p nest c),(1,vS p2 p1 c1),(23,.bool true)]<|yB ⟨_,(zD hM0).symm,hle,rfl,rfl⟩
   | false =>
    have hM01:=zT hc hM
    try rw [hc]
    refine yK 5 [] [(13,vS p2 p1 c1)] ?_;obtain ⟨y1,hy1,hM⟩:=zC hM01;refine yQ (dI p1 _ hy1 h1) ?_;rintro imm02 hs2 v2 k2 le1 - ⟨v01,rfl,rfl,rfl⟩ -;have hle:=hle.trans le1;refine yK 9 [] [(17,.bool (!y1))] ?_;cases hc1:(!y1) with
    | true =>
     have hM02:=zV hc1 hM
     try rw [hc1]
     exact yA [] [(23,.bool true)]<|yS [(0,vS p nest c),(1,vS p2 p1 c1),(23,.bool true)]<|yB ⟨_,(zD hM02).symm,hle,rfl,rfl⟩
    | false =>
     have hM03:=zT hc1 hM
     try rw [hc1]
     exact yA [] [(23,.bool ((p1.length:Int) != (nest.length:Int)))]<|yS [(0,vS p nest c),(1,vS p2 p1 c1),(23,.bool ((p1.length:Int) != (nest.length:Int)))]<|yB ⟨_,(zD hM03).symm,hle,rfl,rfl⟩
 rintro imm0 hs2 m2 ⟨t23,heq,le2,rfl,rfl⟩;subst o0;have h:=h.mono le2;have h1:=h1.mono le2;refine zF<|yO hMc ?_ ?_
 · intro hc2 hM;refine zG<|zB<|yA [] [(4,.bool false)]<|zF<|yI<|zP ?_;obtain rfl:=zD hM;exact yP ⟨_,_,(.tmp rfl ResV.nil),zX,⟨_,rfl,rfl,rfl⟩⟩
 intro hc2 hM;refine yE<|zF<|zG<|zG<|zB<|yA [] [(24,vS p nest c),(25,vI (nest.length:Int)),(26,vI 0)]<|zF<|yC<|vG [(1,vS p2 p1 c1),(24,vS p nest c),(25,vI (nest.length:Int)),(26,vI 0)] ?_;obtain ⟨o02,ho02,hMl⟩:=zC hM;refine zBZ nest p1 0 o02 ho02 iR h1 h (fun _ _ _ h=>h) (fun _ _ h=>h) ?_ ?_
 · intro imm06  heq2 le6;subst o02;refine yD<|zF<|zG<|zB<|yA [] [(4,.bool true)]<|zF<|yI ?_;obtain rfl:=zD hMl;exact yP ⟨_,_,(.tmp rfl ResV.nil),zX,⟨_,rfl,rfl,rfl⟩⟩
 intro r0 imm9 hs9 m9 heq9 le9 hrs9;subst heq9;refine yF<|zP ?_;obtain rfl:=zD hMl;exact yP hrs9
def jA (r:Bool):KT:=fun kk imm' hs' v=>
  ∃ v0,hs'=[]∧v=tupV [v0]∧v0=.bool r
def pF (p:zW) (x:zU):Option (Bool):=do
 let t4←(do
   let y←xP x.Part 0 (W ((p.Parts.length:Int) - 1))
   if y then
    let x1←idx p.Parts x.Part
    let y1←xP x.Stmt 0 (W ((x1.Body.length:Int) - 1))
    if y1 then
     let x2←idx p.Parts x.Part
     let y2←gA x2.Nest x.Point
     pure (id y2)
    else
     pure false
   else
    pure false
     : Option Bool)
 pure (id t4)
theorem gB:∀ (p:zW) (x:zU) r,pF p x=some r→∀ {imm:Imm}{p1 c p2 c1 p3 c2},(S4 imm p1 p.Arrays c)→(S4 imm p2 p.Parts c1)→(S4 imm p3 x.Point c2)→Ret Tryz.prog 82 [vA (cProg p p1 c p2 c1),vA (cInst x p3 c2)] imm [] (jA  r):=by
 intro p x r hM imm p1 c p2 c1 p3 c2 h h1 h2;unfold pF at hM;refine yH (fn:=Tryz.f82) (c:=(bodyOf Tryz.f82)) Tryz.func82 rfl rfl ?_;rintro B - -;have hle:=iS imm;refine zG<|zB<|tA (cProg p p1 c p2 c1) ?_;intro b hb;refine tA (cInst x p3 c2) ?_;intro b1 hb1;refine yA [] []<|zF<|zG ?_;obtain ⟨o0,ho0,hMc⟩:=zC hM;refine yT (fun imm' hs' m'=>∃ (t4:Bool),o0=t4∧imm.le imm'∧hs'=[]∧m'=[(4,.bool t4)]) ?_ ?_
 · have hle:=iS imm;obtain ⟨y,hy,hM⟩:=zC ho0;cases hc:y with
   | true =>
    have hM0:=zV hc hM;obtain ⟨x1,hy1,hM⟩:=zC hM0;obtain ⟨y1,hy2,hM⟩:=zC hM;cases hc1:y1 with
    | true =>
     have hM01:=zV hc1 hM;obtain ⟨x2,hy3,hM⟩:=zC hM01;obtain ⟨y2,hy4,hM⟩:=zC hM;refine vC [.p (vP b1 0) [],.p (vI x.Part) [0],.p (vP b 1) [],.p (vS p2 p.Parts c1) [1],.p (vI (p.Parts.length:Int)) [],.p (vI (W ((p.Parts.length:Int) - 1))) [],.q (.bool true),.q (.bool true),.p (vP b1 1) [],.p (vI x.Stmt) [0],.p (vP b 1) [],.p (vS p2 p.Parts c1) [1],.p (vP b1 0) [],.p (vI x.Part) [0],.x (fun imm' v hx=>∃ ad p4 c3 p5 c4,v=.pointer (some ad)∧hx=[]∧(At imm' ad (cPart x1 p4 c3 p5 c4))∧(S4 imm' p4 x1.Nest c3)∧(S4 imm' p5 x1.Body c4)),.x (fun imm' v hx=>∃ ad1 p41 c31 p51 c41,v=.pointer (some (ad1.add 1))∧hx=[]∧(At imm' ad1 (cPart x1 p41 c31 p51 c41))∧(S4 imm' p41 x1.Nest c31)∧(S4 imm' p51 x1.Body c41)),.x (fun imm' v hx=>∃ p511 c411,v=vS p511 x1.Body c411∧hx=[]∧(S4 imm' p511 x1.Body c411)),.q (vI (x1.Body.length:Int)),.p (vI (W ((x1.Body.length:Int) - 1))) [],.q (.bool true),.q (.bool true),.q (.bool true),.p (vP b 1) [],.p (vS p2 p.Parts c1) [1],.p (vP b1 0) [],.p (vI x.Part) [0],.x (fun imm' v hx=>∃ ad2 p6 c5 p7 c6,v=.pointer (some ad2)∧hx=[]∧(At imm' ad2 (cPart x2 p6 c5 p7 c6))∧(S4 imm' p6 x2.Nest c5)∧(S4 imm' p7 x2.Body c6)),.x (fun imm' v hx=>∃ ad21 p61 c51 p71 c61,v=.pointer (some ad21)∧hx=[]∧(At imm' ad21 (cPart x2 p61 c51 p71 c61))∧(S4 imm' p61 x2.Nest c51)∧(S4 imm' p71 x2.Body c61)),.x (fun imm' v hx=>∃ p611 c511,v=vS p611 x2.Nest c511∧hx=[]∧(S4 imm' p611 x2.Nest c511)),.p (vP b1 2) [],.p (vS p3 x.Point c2) [0],.q (.bool y2),.p (.bool y2) []] [[],[(0,false)],[],[(2,false)],[(3,false)],[(4,false)],[(1,false),(5,false)],[(6,false)],[(7,false)],[(7,false),(8,false)],[(7,false)],[(7,false),(10,false)],[(7,false)],[(7,false),(12,false)],[(7,false),(11,false),(13,false)],[(7,false),(14,false)],[(7,false),(15,false)],[(7,false),(16,false)],[(7,false),(17,false)],[(7,false),(9,false),(18,false)],[(7,false),(19,false)],[(20,false)],[(21,false)],[(21,false),(22,false)],[(21,false)],[(21,false),(24,false)],[(21,false),(23,false),(25,false)],[(21,false),(26,false)],[(21,false),(27,false)],[(21,false)],[(21,false),(29,false)],[(21,false),(28,false),(30,false)],[(21,false),(31,false)]] [hB b1 (cInst x p3 c2),hB b (cProg p p1 c p2 c1)] [] [(32,false)] (zL [0,1] rfl (by decide)) ?_ ?_
     · refine Op<|Op<|Op<|Op<|Op<|Op<|Oq ?_<|Oq ?_<|Op<|Op<|Op<|Op<|Op<|Op<|Ox ?_<|Ox ?_<|Ox ?_<|Oq ?_<|Op<|Oq ?_<|Oq ?_<|Oq ?_<|Op<|Op<|Op<|Op<|Ox ?_<|Ox ?_<|Ox ?_<|Op<|Op<|Oq ?_<|Op<|On
       · intro imm1 hf le1;refine zE ?_;rintro _ _ ⟨rfl,rfl⟩;refine zE ?_;rintro _ _ ⟨rfl,rfl⟩;refine zM<|yG [(6,vI x.Part),(10,vI (W ((p.Parts.length:Int) - 1)))] ?_;have hle:=iS imm1;refine yQ (xM x.Part 0 (W ((p.Parts.length:Int) - 1)) _ hy ) ?_;rintro imm01 hs2 v2 k2 le - ⟨v0,rfl,rfl,rfl⟩ -;have hle:=hle.trans le;rw [hc];exact zZ (hx:=[]) rfl hle rfl (zK rfl) ⟨rfl,rfl⟩
       · intro imm1 hf le1;refine zE ?_;rintro _ _ ⟨rfl,rfl⟩;refine zM<|yG [(11,.bool true)] ?_;have hle:=iS imm1;exact rW 8 [(12,.bool true)]<|zZ (hx:=[]) rfl hle rfl (zK rfl) ⟨rfl,rfl⟩
       · intro imm1 hf le1;refine zE ?_;rintro _ _ ⟨rfl,rfl⟩;refine zE ?_;rintro _ _ ⟨rfl,rfl⟩;refine zE ?_;rintro _ _ ⟨rfl,rfl⟩;refine zM<|yG [(12,.bool true),(16,vS p2 p.Parts c1),(18,vI x.Part)] ?_;have hle:=iS imm1;have h1:=h1.mono le1;refine wD rfl rfl h1 hy1 ?_;intro ad ccs hat hrep;obtain ⟨v01,v02,rfl,h4,h5⟩:=xT hrep;obtain ⟨p4,c3,rfl⟩:=h4.form;obtain ⟨p5,c4,rfl⟩:=h5.form;exact zZ (hx:=[]) rfl hle rfl (zK rfl) ⟨_,_,_,_,_,rfl,rfl,hat,h4,h5⟩
       · intro imm1 hf le1;refine zE ?_;rintro _ _ ⟨rfl,rfl⟩;refine zE ?_;rintro _ _ ⟨ad,p4,c3,p5,c4,rfl,rfl,hat,h4,h5⟩;refine zM<|yG [(12,.bool true),(19,.pointer (some ad))] ?_;have hle:=iS imm1;exact rW 16 [(20,.pointer (some (ad.add 1)))]<|zZ (hx:=[]) rfl hle rfl (zK rfl) ⟨_,_,_,_,_,rfl,rfl,hat,h4,h5⟩
       · intro imm1 hf le1;refine zE ?_;rintro _ _ ⟨rfl,rfl⟩;refine zE ?_;rintro _ _ ⟨ad1,p41,c31,p51,c41,rfl,rfl,hat1,h41,h51⟩;refine zM<|yG [(12,.bool true),(20,.pointer (some (ad1.add 1)))] ?_;have hle:=iS imm1;exact xQ 1 hat1 [vS p51 x1.Body c41] (vS p51 x1.Body c41) rfl<|zZ (hx:=[]) rfl hle rfl (zK rfl) ⟨_,_,rfl,rfl,h51⟩
       · intro imm1 hf le1;refine zE ?_;rintro _ _ ⟨rfl,rfl⟩;refine zE ?_;rintro _ _ ⟨p511,c411,rfl,rfl,h511⟩;refine zM<|yG [(12,.bool true),(21,vS p511 x1.Body c411)] ?_;have hle:=iS imm1;exact rW 18 [(22,vI (x1.Body.length:Int))]<|zZ (hx:=[]) rfl hle rfl (zK rfl) ⟨rfl,rfl⟩
       · intro imm1 hf le1;refine zE ?_;rintro _ _ ⟨rfl,rfl⟩;refine zE ?_;rintro _ _ ⟨rfl,rfl⟩;refine zE ?_;rintro _ _ ⟨rfl,rfl⟩;refine zM<|yG [(12,.bool true),(14,vI x.Stmt),(23,vI (W ((x1.Body.length:Int) - 1)))] ?_;have hle:=iS imm1;refine yQ (xM x.Stmt 0 (W ((x1.Body.length:Int) - 1)) _ hy2 ) ?_;rintro imm02 hs2 v2 k2 le1 - ⟨v03,rfl,rfl,rfl⟩ -;have hle:=hle.trans le1;rw [hc1];exact zZ (hx:=[]) rfl hle rfl (zK rfl) ⟨rfl,rfl⟩
       · intro imm1 hf le1;refine zE ?_;rintro _ _ ⟨rfl,rfl⟩;refine zE ?_;rintro _ _ ⟨rfl,rfl⟩;refine zM<|yG [(12,.bool true),(24,.bool true)] ?_;have hle:=iS imm1;exact rW 21 [(25,.bool true)]<|zZ (hx:=[]) rfl hle rfl (zK rfl) ⟨rfl,rfl⟩
       · intro imm1 hf le1;refine zE ?_;rintro _ _ ⟨rfl,rfl⟩;refine zM<|yG [(25,.bool true)] ?_;have hle:=iS imm1;exact rW 22 [(26,.bool true)]<|zZ (hx:=[]) rfl hle rfl (zK rfl) ⟨rfl,rfl⟩
       · intro imm1 hf le1;refine zE ?_;rintro _ _ ⟨rfl,rfl⟩;refine zE ?_;rintro _ _ ⟨rfl,rfl⟩;refine zE ?_;rintro _ _ ⟨rfl,rfl⟩;refine zM<|yG [(26,.bool true),(28,vS p2 p.Parts c1),(30,vI x.Part)] ?_;have hle:=iS imm1;have h1:=h1.mono le1;refine wD rfl rfl h1 hy3 ?_;intro ad2 ccs1 hat2 hrep1;obtain ⟨v04,v05,rfl,h7,h8⟩:=xT hrep1;obtain ⟨p6,c5,rfl⟩:=h7.form;obtain ⟨p7,c6,rfl⟩:=h8.form;exact zZ (hx:=[]) rfl hle rfl (zK rfl) ⟨_,_,_,_,_,rfl,rfl,hat2,h7,h8⟩
       · intro imm1 hf le1;refine zE ?_;rintro _ _ ⟨rfl,rfl⟩;refine zE ?_;rintro _ _ ⟨ad2,p6,c5,p7,c6,rfl,rfl,hat2,h7,h8⟩;refine zM<|yG [(26,.bool true),(31,.pointer (some ad2))] ?_;have hle:=iS imm1;exact rW 28 [(32,.pointer (some ad2))]<|zZ (hx:=[]) rfl hle rfl (zK rfl) ⟨_,_,_,_,_,rfl,rfl,hat2,h7,h8⟩
       · intro imm1 hf le1;refine zE ?_;rintro _ _ ⟨rfl,rfl⟩;refine zE ?_;rintro _ _ ⟨ad21,p61,c51,p71,c61,rfl,rfl,hat21,h71,h81⟩;refine zM<|yG [(26,.bool true),(32,.pointer (some ad21))] ?_;have hle:=iS imm1;exact xQ 0 hat21 [vS p61 x2.Nest c51] (vS p61 x2.Nest c51) rfl<|zZ (hx:=[]) rfl hle rfl (zK rfl) ⟨_,_,rfl,rfl,h71⟩
       intro imm1 hf le1;refine zE ?_;rintro _ _ ⟨rfl,rfl⟩;refine zE ?_;rintro _ _ ⟨p611,c511,rfl,rfl,h711⟩;refine zE ?_;rintro _ _ ⟨rfl,rfl⟩;refine zM<|yG [(26,.bool true),(33,vS p611 x2.Nest c511),(35,vS p3 x.Point c2)] ?_;have hle:=iS imm1;have h2:=h2.mono le1;refine yQ (zDY x2.Nest x.Point _ hy4 h711 h2) ?_;rintro imm03 hs2 v2 k2 le2 - ⟨v06,rfl,rfl,rfl⟩ -;have hle:=hle.trans le2;exact zZ (hx:=[]) rfl hle rfl (zK rfl) ⟨rfl,rfl⟩
     intro imm04 le3;refine zE ?_;rintro _ _ ⟨rfl,rfl⟩;refine zM<|yG [(37,.bool y2)] ?_;have hle:=hle.trans le3;exact yA [] [(4,.bool y2)]<|wB (zL [] rfl (by decide))<|yS [(4,.bool y2)]<|yB ⟨_,(zD hM).symm,hle,rfl,rfl⟩
    | false =>
     have hM02:=zT hc1 hM;refine vC [.p (vP b1 0) [],.p (vI x.Part) [0],.p (vP b 1) [],.p (vS p2 p.Parts c1) [1],.p (vI (p.Parts.length:Int)) [],.p (vI (W ((p.Parts.length:Int) - 1))) [],.q (.bool true),.q (.bool true),.p (vP b1 1) [],.p (vI x.Stmt) [0],.p (vP b 1) [],.p (vS p2 p.Parts c1) [1],.p (vP b1 0) [],.p (vI x.Part) [0],.x (fun imm' v hx=>∃ ad p4 c3 p5 c4,v=.pointer (some ad)∧hx=[]∧(At imm' ad (cPart x1 p4 c3 p5 c4))∧(S4 imm' p4 x1.Nest c3)∧(S4 imm' p5 x1.Body c4)),.x (fun imm' v hx=>∃ ad1 p41 c31 p51 c41,v=.pointer (some (ad1.add 1))∧hx=[]∧(At imm' ad1 (cPart x1 p41 c31 p51 c41))∧(S4 imm' p41 x1.Nest c31)∧(S4 imm' p51 x1.Body c41)),.x (fun imm' v hx=>∃ p511 c411,v=vS p511 x1.Body c411∧hx=[]∧(S4 imm' p511 x1.Body c411)),.q (vI (x1.Body.length:Int)),.p (vI (W ((x1.Body.length:Int) - 1))) [],.q (.bool false),.q (.bool false),.q (.bool false),.p undef [],.p undef [],.p undef [],.p undef [],.p undef [],.p undef [],.p undef [],.p undef [],.p undef [],.p undef [],.p (.bool false) []] [[],[(0,false)],[],[(2,false)],[(3,false)],[(4,false)],[(1,false),(5,false)],[(6,false)],[(7,false)],[(7,false),(8,false)],[(7,false)],[(7,false),(10,false)],[(7,false)],[(7,false),(12,false)],[(7,false),(11,false),(13,false)],[(7,false),(14,false)],[(7,false),(15,false)],[(7,false),(16,false)],[(7,false),(17,false)],[(7,false),(9,false),(18,false)],[(7,false),(19,false)],[(20,false)],[(21,false)],[(21,false),(22,false)],[(21,false)],[(21,false),(24,false)],[(21,false),(23,false),(25,false)],[(21,false),(26,false)],[(21,false),(27,false)],[(21,false)],[(21,false),(29,false)],[(21,false),(28,false),(30,false)],[(21,false),(31,false)]] [hB b1 (cInst x p3 c2),hB b (cProg p p1 c p2 c1)] [] [(32,false)] (zL [0,1] rfl (by decide)) ?_ ?_
     · refine Op<|Op<|Op<|Op<|Op<|Op<|Oq ?_<|Oq ?_<|Op<|Op<|Op<|Op<|Op<|Op<|Ox ?_<|Ox ?_<|Ox ?_<|Oq ?_<|Op<|Oq ?_<|Oq ?_<|Oq ?_<|Op<|Op<|Op<|Op<|Op<|Op<|Op<|Op<|Op<|Op<|Op<|On
       · intro imm1 hf le1;refine zE ?_;rintro _ _ ⟨rfl,rfl⟩;refine zE ?_;rintro _ _ ⟨rfl,rfl⟩;refine zM<|yG [(6,vI x.Part),(10,vI (W ((p.Parts.length:Int) - 1)))] ?_;have hle:=iS imm1;refine yQ (xM x.Part 0 (W ((p.Parts.length:Int) - 1)) _ hy ) ?_;rintro imm01 hs2 v2 k2 le - ⟨v0,rfl,rfl,rfl⟩ -;have hle:=hle.trans le;rw [hc];exact zZ (hx:=[]) rfl hle rfl (zK rfl) ⟨rfl,rfl⟩
       · intro imm1 hf le1;refine zE ?_;rintro _ _ ⟨rfl,rfl⟩;refine zM<|yG [(11,.bool true)] ?_;have hle:=iS imm1;exact rW 8 [(12,.bool true)]<|zZ (hx:=[]) rfl hle rfl (zK rfl) ⟨rfl,rfl⟩
       · intro imm1 hf le1;refine zE ?_;rintro _ _ ⟨rfl,rfl⟩;refine zE ?_;rintro _ _ ⟨rfl,rfl⟩;refine zE ?_;rintro _ _ ⟨rfl,rfl⟩;refine zM<|yG [(12,.bool true),(16,vS p2 p.Parts c1),(18,vI x.Part)] ?_;have hle:=iS imm1;have h1:=h1.mono le1;refine wD rfl rfl h1 hy1 ?_;intro ad ccs hat hrep;obtain ⟨v01,v02,rfl,h4,h5⟩:=xT hrep;obtain ⟨p4,c3,rfl⟩:=h4.form;obtain ⟨p5,c4,rfl⟩:=h5.form;exact zZ (hx:=[]) rfl hle rfl (zK rfl) ⟨_,_,_,_,_,rfl,rfl,hat,h4,h5⟩
       · intro imm1 hf le1;refine zE ?_;rintro _ _ ⟨rfl,rfl⟩;refine zE ?_;rintro _ _ ⟨ad,p4,c3,p5,c4,rfl,rfl,hat,h4,h5⟩;refine zM<|yG [(12,.bool true),(19,.pointer (some ad))] ?_;have hle:=iS imm1;exact rW 16 [(20,.pointer (some (ad.add 1)))]<|zZ (hx:=[]) rfl hle rfl (zK rfl) ⟨_,_,_,_,_,rfl,rfl,hat,h4,h5⟩
       · intro imm1 hf le1;refine zE ?_;rintro _ _ ⟨rfl,rfl⟩;refine zE ?_;rintro _ _ ⟨ad1,p41,c31,p51,c41,rfl,rfl,hat1,h41,h51⟩;refine zM<|yG [(12,.bool true),(20,.pointer (some (ad1.add 1)))] ?_;have hle:=iS imm1;exact xQ 1 hat1 [vS p51 x1.Body c41] (vS p51 x1.Body c41) rfl<|zZ (hx:=[]) rfl hle rfl (zK rfl) ⟨_,_,rfl,rfl,h51⟩
       · intro imm1 hf le1;refine zE ?_;rintro _ _ ⟨rfl,rfl⟩;refine zE ?_;rintro _ _ ⟨p511,c411,rfl,rfl,h511⟩;refine zM<|yG [(12,.bool true),(21,vS p511 x1.Body c411)] ?_;have hle:=iS imm1;exact rW 18 [(22,vI (x1.Body.length:Int))]<|zZ (hx:=[]) rfl hle rfl (zK rfl) ⟨rfl,rfl⟩
       · intro imm1 hf le1;refine zE ?_;rintro _ _ ⟨rfl,rfl⟩;refine zE ?_;rintro _ _ ⟨rfl,rfl⟩;refine zE ?_;rintro _ _ ⟨rfl,rfl⟩;refine zM<|yG [(12,.bool true),(14,vI x.Stmt),(23,vI (W ((x1.Body.length:Int) - 1)))] ?_;have hle:=iS imm1;refine yQ (xM x.Stmt 0 (W ((x1.Body.length:Int) - 1)) _ hy2 ) ?_;rintro imm02 hs2 v2 k2 le1 - ⟨v03,rfl,rfl,rfl⟩ -;have hle:=hle.trans le1;rw [hc1];exact zZ (hx:=[]) rfl hle rfl (zK rfl) ⟨rfl,rfl⟩
       · intro imm1 hf le1;refine zE ?_;rintro _ _ ⟨rfl,rfl⟩;refine zE ?_;rintro _ _ ⟨rfl,rfl⟩;refine zM<|yG [(12,.bool true),(24,.bool false)] ?_;have hle:=iS imm1;exact rW 21 [(25,.bool false)]<|zZ (hx:=[]) rfl hle rfl (zK rfl) ⟨rfl,rfl⟩
       intro imm1 hf le1;refine zE ?_;rintro _ _ ⟨rfl,rfl⟩;refine zM<|yG [(25,.bool false)] ?_;have hle:=iS imm1;exact rW 22 [(26,.bool false)]<|zZ (hx:=[]) rfl hle rfl (zK rfl) ⟨rfl,rfl⟩
     intro imm05 le4;refine zE ?_;rintro _ _ ⟨rfl,rfl⟩;refine zM<|yG [(37,.bool false)] ?_;have hle:=hle.trans le4;exact yA [] [(4,.bool false)]<|wB (zL [] rfl (by decide))<|yS [(4,.bool false)]<|yB ⟨_,(zD hM02).symm,hle,rfl,rfl⟩
   | false =>
    have hM03:=zT hc hM;refine vC [.p (vP b1 0) [],.p (vI x.Part) [0],.p (vP b 1) [],.p (vS p2 p.Parts c1) [1],.p (vI (p.Parts.length:Int)) [],.p (vI (W ((p.Parts.length:Int) - 1))) [],.q (.bool false),.q (.bool false),.p undef [],.p undef [],.p undef [],.p undef [],.p undef [],.p undef [],.p undef [],.p undef [],.p undef [],.p undef [],.p undef [],.p undef [],.p (.bool false) [],.p (.bool false) [],.p undef [],.p undef [],.p undef [],.p undef [],.p undef [],.p undef [],.p undef [],.p undef [],.p undef [],.p undef [],.p (.bool false) []] [[],[(0,false)],[],[(2,false)],[(3,false)],[(4,false)],[(1,false),(5,false)],[(6,false)],[(7,false)],[(7,false),(8,false)],[(7,false)],[(7,false),(10,false)],[(7,false)],[(7,false),(12,false)],[(7,false),(11,false),(13,false)],[(7,false),(14,false)],[(7,false),(15,false)],[(7,false),(16,false)],[(7,false),(17,false)],[(7,false),(9,false),(18,false)],[(7,false),(19,false)],[(20,false)],[(21,false)],[(21,false),(22,false)],[(21,false)],[(21,false),(24,false)],[(21,false),(23,false),(25,false)],[(21,false),(26,false)],[(21,false),(27,false)],[(21,false)],[(21,false),(29,false)],[(21,false),(28,false),(30,false)],[(21,false),(31,false)]] [hB b1 (cInst x p3 c2),hB b (cProg p p1 c p2 c1)] [] [(32,false)] (zL [0,1] rfl (by decide)) ?_ ?_
    · refine Op<|Op<|Op<|Op<|Op<|Op<|Oq ?_<|Oq ?_<|Op<|Op<|Op<|Op<|Op<|Op<|Op<|Op<|Op<|Op<|Op<|Op<|Op<|Op<|Op<|Op<|Op<|Op<|Op<|Op<|Op<|Op<|Op<|Op<|Op<|On
      · intro imm1 hf le1;refine zE ?_;rintro _ _ ⟨rfl,rfl⟩;refine zE ?_;rintro _ _ ⟨rfl,rfl⟩;refine zM<|yG [(6,vI x.Part),(10,vI (W ((p.Parts.length:Int) - 1)))] ?_;have hle:=iS imm1;refine yQ (xM x.Part 0 (W ((p.Parts.length:Int) - 1)) _ hy ) ?_;rintro imm01 hs2 v2 k2 le - ⟨v0,rfl,rfl,rfl⟩ -;have hle:=hle.trans le;rw [hc];exact zZ (hx:=[]) rfl hle rfl (zK rfl) ⟨rfl,rfl⟩
      intro imm1 hf le1;refine zE ?_;rintro _ _ ⟨rfl,rfl⟩;refine zM<|yG [(11,.bool false)] ?_;have hle:=iS imm1;exact rW 8 [(12,.bool false)]<|zZ (hx:=[]) rfl hle rfl (zK rfl) ⟨rfl,rfl⟩
    intro imm06 le5;refine zE ?_;rintro _ _ ⟨rfl,rfl⟩;refine zM<|yG [(37,.bool false)] ?_;have hle:=hle.trans le5;exact yA [] [(4,.bool false)]<|wB (zL [] rfl (by decide))<|yS [(4,.bool false)]<|yB ⟨_,(zD hM03).symm,hle,rfl,rfl⟩
 rintro imm0 hs2 m2 ⟨t4,heq,le6,rfl,rfl⟩;subst o0;refine zF<|yI ?_;obtain rfl:=zD hMc;exact yP ⟨_,_,(.tmp rfl ResV.nil),zX,⟨_,rfl,rfl,rfl⟩⟩
def dB (r:zR):KT:=fun kk imm' hs' v=>
  ∃ v0,hs'=[]∧v=tupV [v0]∧(∃ cs,v0=.agg ⟨cs⟩∧Rp.rep imm' cs r)
def nX (p:zW) (x:zU):Option (zR):=do
 let x1←idx p.Parts x.Part
 let x2←idx x1.Body x.Stmt
 pure (id x2)
theorem zAY:∀ (p:zW) (x:zU) r,nX p x=some r→∀ {imm:Imm}{p1 c p2 c1 p3 c2},(S4 imm p1 p.Arrays c)→(S4 imm p2 p.Parts c1)→(S4 imm p3 x.Point c2)→Ret Tryz.prog 139 [vA (cProg p p1 c p2 c1),vA (cInst x p3 c2)] imm [] (dB  r):=by
 intro p x r hM imm p1 c p2 c1 p3 c2 h h1 h2;unfold nX at hM;refine yH (fn:=Tryz.f139) (c:=(bodyOf Tryz.f139)) Tryz.func139 rfl rfl ?_;rintro B - -;have hle:=iS imm;refine zG<|zB<|tA (cProg p p1 c p2 c1) ?_;intro b hb;refine tA (cInst x p3 c2) ?_;intro b1 hb1;refine uB [vT ([]),z0,vI 0,vI 0,z0,vI 0,vT ([]),z0,z0] ?_;intro b2 hb2;refine yN rfl<|zF<|zG ?_;obtain ⟨x1,hy,hM⟩:=zC hM;obtain ⟨x2,hy1,hM⟩:=zC hM;refine vC [.p (vP b 1) [],.p (vS p2 p.Parts c1) [2],.p (vP b1 0) [],.p (vI x.Part) [1],.x (fun imm' v hx=>∃ ad p4 c3 p5 c4,v=.pointer (some ad)∧hx=[]∧(At imm' ad (cPart x1 p4 c3 p5 c4))∧(S4 imm' p4 x1.Nest c3)∧(S4 imm' p5 x1.Body c4)),.x (fun imm' v hx=>∃ ad1 p41 c31 p51 c41,v=.pointer (some (ad1.add 1))∧hx=[]∧(At imm' ad1 (cPart x1 p41 c31 p51 c41))∧(S4 imm' p41 x1.Nest c31)∧(S4 imm' p51 x1.Body c41)),.x (fun imm' v hx=>∃ p511 c411,v=vS p511 x1.Body c411∧hx=[]∧(S4 imm' p511 x1.Body c411)),.p (vP b1 1) [],.p (vI x.Stmt) [1],.x (fun imm' v hx=>∃ ad2 p6 c5 p7 c6 p8 c7 p9 c8,v=.pointer (some ad2)∧hx=[]∧(At imm' ad2 (cStmt x2 p6 c5 p7 c6 p8 c7 p9 c8))∧(S4 imm' p6 x2.Write.Subs c5)∧(S4 imm' p7 x2.Value.Index.Coefs c6)∧(S4 imm' p8 x2.Value.Read.Subs c7)∧(S4 imm' p9 x2.Value.Kids c8)),.x (fun imm' v hx=>∃ p61 c51 p71 c61 p81 c71 p91 c81,v=vA (cStmt x2 p61 c51 p71 c61 p81 c71 p91 c81)∧hx=[]∧(S4 imm' p61 x2.Write.Subs c51)∧(S4 imm' p71 x2.Value.Index.Coefs c61)∧(S4 imm' p81 x2.Value.Read.Subs c71)∧(S4 imm' p91 x2.Value.Kids c81))] [[],[(0,false)],[],[(2,false)],[(1,false),(3,false)],[(4,false)],[(5,false)],[],[(7,false)],[(6,false),(8,false)],[(9,false)]] [hB b2 [vT ([]),z0,vI 0,vI 0,z0,vI 0,vT ([]),z0,z0],hB b1 (cInst x p3 c2),hB b (cProg p p1 c p2 c1)] [] [(10,false)] (zL [0,1,2] rfl (by decide)) ?_ ?_
 · refine Op<|Op<|Op<|Op<|Ox ?_<|Ox ?_<|Ox ?_<|Op<|Op<|Ox ?_<|Ox ?_<|On
   · intro imm1 hf le1;refine zE ?_;rintro _ _ ⟨rfl,rfl⟩;refine zE ?_;rintro _ _ ⟨rfl,rfl⟩;refine zM<|yG [(6,vS p2 p.Parts c1),(8,vI x.Part)] ?_;have hle:=iS imm1;have h1:=h1.mono le1;refine wD rfl rfl h1 hy ?_;intro ad ccs hat hrep;obtain ⟨v0,v01,rfl,h3,h4⟩:=xT hrep;obtain ⟨p4,c3,rfl⟩:=h3.form;obtain ⟨p5,c4,rfl⟩:=h4.form;exact zZ (hx:=[]) rfl hle rfl (zK rfl) ⟨_,_,_,_,_,rfl,rfl,hat,h3,h4⟩
   · intro imm1 hf le1;refine zE ?_;rintro _ _ ⟨ad,p4,c3,p5,c4,rfl,rfl,hat,h3,h4⟩;refine zM<|yG [(9,.pointer (some ad))] ?_;have hle:=iS imm1;exact rW 6 [(10,.pointer (some (ad.add 1)))]<|zZ (hx:=[]) rfl hle rfl (zK rfl) ⟨_,_,_,_,_,rfl,rfl,hat,h3,h4⟩
   · intro imm1 hf le1;refine zE ?_;rintro _ _ ⟨ad1,p41,c31,p51,c41,rfl,rfl,hat1,h31,h41⟩;refine zM<|yG [(10,.pointer (some (ad1.add 1)))] ?_;have hle:=iS imm1;exact xQ 1 hat1 [vS p51 x1.Body c41] (vS p51 x1.Body c41) rfl<|zZ (hx:=[]) rfl hle rfl (zK rfl) ⟨_,_,rfl,rfl,h41⟩
   · intro imm1 hf le1;refine zE ?_;rintro _ _ ⟨p511,c411,rfl,rfl,h411⟩;refine zE ?_;rintro _ _ ⟨rfl,rfl⟩;refine zM<|yG [(11,vS p511 x1.Body c411),(13,vI x.Stmt)] ?_;have hle:=iS imm1;refine wD rfl rfl h411 hy1 ?_;intro ad2 ccs1 hat2 hrep1;obtain ⟨v02,v03,v04,v05,rfl,h5,h6,h7,h8⟩:=wE hrep1;obtain ⟨p6,c5,rfl⟩:=h5.form;obtain ⟨p7,c6,rfl⟩:=h6.form;obtain ⟨p8,c7,rfl⟩:=h7.form;obtain ⟨p9,c8,rfl⟩:=h8.form;exact zZ (hx:=[]) rfl hle rfl (zK rfl) ⟨_,_,_,_,_,_,_,_,_,rfl,rfl,hat2,h5,h6,h7,h8⟩
   intro imm1 hf le1;refine zE ?_;rintro _ _ ⟨ad2,p6,c5,p7,c6,p8,c7,p9,c8,rfl,rfl,hat2,h5,h6,h7,h8⟩;refine zM<|yG [(14,.pointer (some ad2))] ?_;have hle:=iS imm1;exact xQ 0 hat2 (cStmt x2 p6 c5 p7 c6 p8 c7 p9 c8) (vA (cStmt x2 p6 c5 p7 c6 p8 c7 p9 c8)) rfl<|zZ (hx:=[]) rfl hle rfl (zK rfl) ⟨_,_,_,_,_,_,_,_,rfl,rfl,h5,h6,h7,h8⟩
 intro imm0 le;refine zE ?_;rintro _ _ ⟨p61,c51,p71,c61,p81,c71,p91,c81,rfl,rfl,h51,h61,h71,h81⟩;refine zM<|yG [(4,vP b2 0),(15,vA (cStmt x2 p61 c51 p71 c61 p81 c71 p91 c81))] ?_;refine xI 0 (cStmt x2 p61 c51 p71 c61 p81 c71 p91 c81) [hB b2 (cStmt x2 p61 c51 p71 c61 p81 c71 p91 c81),hB b1 (cInst x p3 c2),hB b (cProg p p1 c p2 c1)] rfl rfl rfl rfl<|yN rfl<|zF<|yI ?_;obtain rfl:=zD hM;exact yP ⟨_,_,(.cell 0 rfl rfl (by kernel_rfl) ResV.nil),zX,⟨_,rfl,rfl,⟨_,rfl,(wN ⟨_,_,_,_,rfl,h51,h61,h71,h81⟩)⟩⟩⟩
def gF (r:(List Int)×Int):KT:=fun kk imm' hs' v=>
  ∃ v0 v1,hs'=[]∧v=tupV [v0,v1]∧SL imm' v0 r.1∧v1=.int .i64 r.2
def rB (p:zW) (x:zU) (y1:(List zN)) (out:List Int) (t17:Int):Option (List Int):=do
 if (decide (t17 < (y1.length:Int))) then
  let x1←idx y1 t17
  let y2←uO p x1 x.Point
  let out2←app 8 out ([y2]:List Int)
  rB p x y1 out2 (W (t17 + 1))
 else
  pure (id out)
 partial_fixpoint
theorem gC (p:zW) (x:zU) (y1:(List zN)):∀ (out:List Int) (t17:Int) (o:List Int),rB p x y1 out t17=some o→∀ {B}{imm0 imm:Imm}{Q}{y:zR}{p1 c p2 c1 p3 c2}{b:Nat}{b1:Nat}{p4 c3 p5 c4 p6 c5 p7 c6}{b2:Nat}{p8 c7 p9 c8 cs1},imm0.le imm→(S4 imm p8 y1 c7)→(S4 imm p4 y.Write.Subs c3)→(S4 imm p5 y.Value.Index.Coefs c4)→(S4 imm p6 y.Value.Read.Subs c5)→(S4 imm p7 y.Value.Kids c6)→(S4 imm p3 x.Point c2)→(S4 imm p1 p.Arrays c)→(S4 imm p2 p.Parts c1)→(RL imm cs1 out)→(∀ gl a w,¬Q (.goto gl) a w)→(∀ a w,¬Q .outgrown a w)→(∀ (imm':Imm) (out1:List Int) (p10:Option Addr) (c9:Nat) (cs2:List Value),o=out1→imm0.le imm'→(RL imm' cs2 out1)→T 37 B Q (.exit 0) imm' [hO Int (vS p10 out1 c9) cs2,hB b2 (cStmt y p4 c3 p5 c4 p6 c5 p7 c6),hB b1 (cInst x p3 c2),hB b (cProg p p1 c p2 c1)] [(2,vP b 0),(3,vP b1 0),(6,vP b2 0),(7,vS p10 out1 c9)])→J Tryz.prog 37 B (nav (bodyOf Tryz.f83) [1,1,1,0,1,0]) Q imm [hO Int (vS p9 out c8) cs1,hB b2 (cStmt y p4 c3 p5 c4 p6 c5 p7 c6),hB b1 (cInst x p3 c2),hB b (cProg p p1 c p2 c1)] [(2,vP b 0),(3,vP b1 0),(6,vP b2 0),(7,vS p9 out c8),(15,vS p8 y1 c7),(16,vI (y1.length:Int)),(17,vI t17)]:=by
 refine rB.partial_correctness p x y1 _ ?_;intro self ih out t17 o hM B imm0 imm Q y p1 c p2 c1 p3 c2 b b1 p4 c3 p5 c4 p6 c5 p7 c6 b2 p8 c7 p9 c8 cs1 hle h8 h4 h5 h6 h7 h2 h h1 h10 hg ho hx;refine xA hg ho<|zG<|zB<|yA [] [(18,.bool (decide (t17 < (y1.length:Int))))]<|zF<|zG<|yO hM ?_ ?_
 · intro hc hM;refine yE<|zF<|zG<|yC<|zG<|zB ?_;obtain ⟨x1,hy2,hM⟩:=zC hM;refine wD rfl rfl h8 hy2 ?_;intro ad ccs hat hrep;obtain ⟨v06,rfl,h12⟩:=sC hrep;obtain ⟨p11,c10,rfl⟩:=h12.form;refine xQ 0 hat (cAccess x1 p11 c10) (vA (cAccess x1 p11 c10)) rfl<|uB [vT ([]),z0] ?_;intro b3 hb3;refine xI 0 (cAccess x1 p11 c10) [hB b3 (cAccess x1 p11 c10),hO Int (vS p9 out c8) cs1,hB b2 (cStmt y p4 c3 p5 c4 p6 c5 p7 c6),hB b1 (cInst x p3 c2),hB b (cProg p p1 c p2 c1)] rfl rfl rfl rfl<|yN rfl<|zF<|zB<|yK 5 [4,0,3] [(21,vS p9 out c8),(22,vA (cProg p p1 c p2 c1)),(23,vA (cAccess x1 p11 c10)),(25,vS p3 x.Point c2)] ?_;obtain ⟨y2,hy3,hM⟩:=zC hM;refine yQ (pU p x1 x.Point _ hy3 h h1 h12 h2) ?_;rintro imm02 hs2 v2 k2 le2 - ⟨v07,rfl,rfl,rfl⟩ -;have h8:=h8.mono le2;have h10:=iM le2 h10;have h4:=h4.mono le2;have h5:=h5.mono le2;have h6:=h6.mono le2;have h7:=h7.mono le2;have h2:=h2.mono le2;have h:=h.mono le2;have h1:=h1.mono le2;have hle:=hle.trans le2;refine xV [vI y2] Int ?_;intro b4 hb4;have h14:RL imm02 [vI y2] ([y2]:List Int):=⟨[vI y2],_,rfl,rfl,rfl,rfl⟩;obtain ⟨out2,hy4,hM⟩:=zC hM;refine qQ 3 1 2 rfl rfl rfl h10 (.inr ⟨0,rfl⟩) h14 hy4 ?_;intro p12 c11 cs3 h15;exact rY (zL [1,2,3,4,5] (hs':=[hB b3 (cAccess x1 p11 c10),hO Int (vS p12 out2 c11) cs3,hB b2 (cStmt y p4 c3 p5 c4 p6 c5 p7 c6),hB b1 (cInst x p3 c2),hB b (cProg p p1 c p2 c1)]) rfl (by decide))<|yA [] [(7,vS p12 out2 c11)]<|zY<|zF<|zB<|yA [] [(17,vI (W (t17 + 1)))]<|xB<|qP (zL [1,2,3,4] rfl (by decide))<|vG [(2,vP b 0),(3,vP b1 0),(6,vP b2 0),(7,vS p12 out2 c11),(15,vS p8 y1 c7),(16,vI (y1.length:Int)),(17,vI (W (t17 + 1)))]<|ih out2 (W (t17 + 1)) _ hM hle h8 h4 h5 h6 h7 h2 h h1 h15 hg ho hx
 intro hc hM;exact yZ<|zS<|zS<|yS [(2,vP b 0),(3,vP b1 0),(6,vP b2 0),(7,vS p9 out c8)]<|hx _ _ _ _ _ (zD hM).symm hle h10
def nA (p:zW) (x:zU):Option ((List Int)×Int):=do
 let y←nX p x
 let y1←pV y.Value
 let out1←rB p x y1 ([]:List Int) 0
 let y3←uO p y.Write x.Point
 pure (out1,y3)
theorem eF:∀ (p:zW) (x:zU) r,nA p x=some r→∀ {imm:Imm}{p1 c p2 c1 p3 c2},(S4 imm p1 p.Arrays c)→(S4 imm p2 p.Parts c1)→(S4 imm p3 x.Point c2)→Ret Tryz.prog 83 [vA (cProg p p1 c p2 c1),vA (cInst x p3 c2)] imm [] (gF  r):=by
 intro p x r hM imm p1 c p2 c1 p3 c2 h h1 h2;unfold nA at hM;refine yH (fn:=Tryz.f83) (c:=(bodyOf Tryz.f83)) Tryz.func83 rfl rfl ?_;rintro B - -;refine zG<|zB<|tA (cProg p p1 c p2 c1) ?_;intro b hb;refine tA (cInst x p3 c2) ?_;intro b1 hb1;refine yA [] []<|zF<|zG<|zB<|yK 2 [1,0] [(10,vA (cProg p p1 c p2 c1)),(11,vA (cInst x p3 c2))] ?_;obtain ⟨y,hy,hM⟩:=zC hM;refine yQ (zAY p x _ hy h h1 h2) ?_;rintro imm0 hs2 v2 k2 le - ⟨v0,rfl,rfl,⟨cs,rfl,h3⟩⟩ -;have h2:=h2.mono le;have h:=h.mono le;have h1:=h1.mono le;obtain ⟨v01,v02,v03,v04,rfl,h4,h5,h6,h7⟩:=wE h3;obtain ⟨p4,c3,rfl⟩:=h4.form;obtain ⟨p5,c4,rfl⟩:=h5.form;obtain ⟨p6,c5,rfl⟩:=h6.form;obtain ⟨p7,c6,rfl⟩:=h7.form;refine uB [vT ([]),z0,vI 0,vI 0,z0,vI 0,vT ([]),z0,z0] ?_;intro b2 hb2;refine xI 0 (cStmt y p4 c3 p5 c4 p6 c5 p7 c6) [hB b2 (cStmt y p4 c3 p5 c4 p6 c5 p7 c6),hB b1 (cInst x p3 c2),hB b (cProg p p1 c p2 c1)] rfl rfl rfl rfl<|yN rfl<|zF<|zG<|zB<|yA [] [(7,z0)]<|zF<|zG<|zG<|zB<|yK 2 [0] [(14,vA (cExpr y.Value p5 c4 p6 c5 p7 c6))] ?_;obtain ⟨y1,hy1,hM⟩:=zC hM;refine yQ (zAu y.Value _ hy1 h5 h6 h7) ?_;rintro imm01 hs2 v2 k2 le1 - ⟨v05,rfl,rfl,h8⟩ -;have h4:=h4.mono le1;have h5:=h5.mono le1;have h6:=h6.mono le1;have h7:=h7.mono le1;have h2:=h2.mono le1;have h:=h.mono le1;have h1:=h1.mono le1;obtain ⟨p8,c7,rfl⟩:=h8.form;refine yA [] [(16,vI (y1.length:Int)),(17,vI 0)]<|zF<|yC<|vG [(2,vP b 0),(3,vP b1 0),(6,vP b2 0),(7,z0),(15,vS p8 y1 c7),(16,vI (y1.length:Int)),(17,vI 0)]<|qP (uS (Rp.sz Int)) ?_;have h9:RL imm01 [] ([]:List Int):=RepL.nil;obtain ⟨o0,ho0,hMl⟩:=zC hM;refine gC p x y1 ([]:List Int) 0 o0 ho0 iR h8 h4 h5 h6 h7 h2 h h1 h9 (fun _ _ _ h=>h) (fun _ _ h=>h) ?_;intro imm03 out1 p10 c9 cs2 heq le3 h11;subst o0;have h4:=h4.mono le3;have h2:=h2.mono le3;have h:=h.mono le3;have h1:=h1.mono le3;refine yD<|zF<|zG<|zB<|yK 6 [3,1,2] [(30,vS p10 out1 c9),(31,vA (cProg p p1 c p2 c1)),(33,vA (cAccess y.Write p4 c3)),(35,vS p3 x.Point c2)] ?_;obtain ⟨y3,hy5,hM⟩:=zC hMl;refine yQ (pU p y.Write x.Point _ hy5 h h1 h4 h2) ?_;rintro imm04 hs2 v2 k2 le4 - ⟨v08,rfl,rfl,rfl⟩ -;have h11:=iM le4 h11;refine yA [] [(4,vS p10 out1 c9),(5,vI y3)]<|zF<|yI<|xJ 0 rfl ?_;intro imm05 le5 hl0;have h17:=SL.of_frozen hl0 le5 h11;obtain rfl:=zD hM;exact yP ⟨_,_,(.tmp rfl (.tmp rfl ResV.nil)),zX,⟨_,_,rfl,rfl,h17,rfl⟩⟩
def eG (r:(List Int)×Int×Bool):KT:=fun kk imm' hs' v=>
  ∃ v0 v1 v2,hs'=[]∧v=tupV [v0,v1,v2]∧SL imm' v0 r.1∧v1=.int .i64 r.2.1∧v2=.bool r.2.2
def kT (p:zW) (x:zU):Option ((List Int)×Int×Bool):=do
 let t17←(do
   let y←qK p
   if (!y) then
    pure true
   else
    let y1←pF p x
    pure (!y1)
     : Option Bool)
 if t17 then
  pure (([]:List Int),0,false)
 else
  let (y3,y4)←nA p x
  pure (y3,y4,true)
theorem zF5:∀ (p:zW) (x:zU) r,kT p x=some r→∀ {imm:Imm}{p1 c p2 c1 p3 c2},(S4 imm p1 p.Arrays c)→(S4 imm p2 p.Parts c1)→(S4 imm p3 x.Point c2)→Ret Tryz.prog 36 [vA (cProg p p1 c p2 c1),vA (cInst x p3 c2)] imm [] (eG  r):=by
 intro p x r hM imm p1 c p2 c1 p3 c2 h h1 h2;unfold kT at hM;refine yH (fn:=Tryz.f36) (c:=(bodyOf Tryz.f36)) Tryz.func36 rfl rfl ?_;rintro B - -;have hle:=iS imm;refine zG<|zB<|tA (cProg p p1 c p2 c1) ?_;intro b hb;refine tA (cInst x p3 c2) ?_;intro b1 hb1;refine yA [] []<|zF<|zG<|zG ?_;obtain ⟨o0,ho0,hMc⟩:=zC hM;refine yT (fun imm' hs' m'=>∃ (t17:Bool),o0=t17∧imm.le imm'∧hs'=[hB b1 (cInst x p3 c2),hB b (cProg p p1 c p2 c1)]∧m'=[(2,vP b 0),(3,vP b1 0),(17,.bool t17)]) ?_ ?_
 · have hle:=iS imm;refine zB<|yK 1 [1] [(9,vA (cProg p p1 c p2 c1))] ?_;obtain ⟨y,hy,hM⟩:=zC ho0;refine yQ (zAX p _ hy h h1) ?_;rintro imm01 hs2 v2 k2 le - ⟨v0,rfl,rfl,rfl⟩ -;have h2:=h2.mono le;have h:=h.mono le;have h1:=h1.mono le;have hle:=hle.trans le;refine yK 4 [] [(12,.bool (!y))] ?_;cases hc:(!y) with
   | true =>
    have hM0:=zV hc hM
    try rw [hc]
    exact yA [] [(17,.bool true)]<|yS [(2,vP b 0),(3,vP b1 0),(17,.bool true)]<|yB ⟨_,(zD hM0).symm,hle,rfl,rfl⟩
   | false =>
    have hM01:=zT hc hM
    try rw [hc]
    refine yK 6 [1,0] [(13,vA (cProg p p1 c p2 c1)),(14,vA (cInst x p3 c2))] ?_;obtain ⟨y1,hy1,hM⟩:=zC hM01;refine yQ (gB p x _ hy1 h h1 h2) ?_;rintro imm02 hs2 v2 k2 le1 - ⟨v01,rfl,rfl,rfl⟩ -;have hle:=hle.trans le1;exact yA [] [(17,.bool (!y1))]<|yS [(2,vP b 0),(3,vP b1 0),(17,.bool (!y1))]<|yB ⟨_,(zD hM).symm,hle,rfl,rfl⟩
 rintro imm0 hs2 m2 ⟨t17,heq,le2,rfl,rfl⟩;subst o0;have h2:=h2.mono le2;have h:=h.mono le2;have h1:=h1.mono le2;refine zF<|yO hMc ?_ ?_
 · intro hc1 hM;refine zG<|zB<|yA [] [(4,z0),(5,vI 0),(6,.bool false)]<|zF<|yI<|zP ?_;obtain rfl:=zD hM;exact yP ⟨_,_,(.tmp rfl (.tmp rfl (.tmp rfl ResV.nil))),zX,⟨_,_,_,rfl,rfl,(SL.nil _),rfl,rfl⟩⟩
 intro hc1 hM;refine yE<|zF<|zG<|zB<|yK 2 [1,0] [(19,vA (cProg p p1 c p2 c1)),(20,vA (cInst x p3 c2))] ?_;obtain ⟨⟨y3,y4⟩,hy2,hM⟩:=zC hM;refine yQ (eF p x _ hy2 h h1 h2) ?_;rintro imm03 hs2 v2 k2 le3 - ⟨v02,v03,rfl,rfl,h5,rfl⟩ -;obtain ⟨p4,c3,rfl⟩:=h5.form;refine yA [] [(7,vS p4 y3 c3),(8,vI y4)]<|zF<|zG<|zB<|yA [] [(4,vS p4 y3 c3),(5,vI y4),(6,.bool true)]<|zF<|yI ?_;obtain rfl:=zD hM;exact yP ⟨_,_,(.tmp rfl (.tmp rfl (.tmp rfl ResV.nil))),zX,⟨_,_,_,rfl,rfl,h5,rfl,rfl⟩⟩
end Go.LN
