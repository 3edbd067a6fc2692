/- Helper of the proof (see the last text). -/
import Derived.Test.YtknadcjnkbdpdaaGreatLnA
import Derived.Test.YtknadcjnkbdpdaaGreatLnI
import Derived.Test.YtknadcjnkbdpdaaGreatLnP
import Derived.Test.YtknadcjnkbdpdaaGreatTryzShelf
import Derived.Test.YtknadcjnkbdpdaaGreatHM1
import Derived.Test.YtknadcjnkbdpdaaGreatHM2
import Derived.Test.YtknadcjnkbdpdaaGreatHM3
import Derived.Test.YtknadcjnkbdpdaaGreatHM4
import Derived.Test.YtknadcjnkbdpdaaGreatHM5
import Derived.Test.YtknadcjnkbdpdaaGreatHM6
import Derived.Test.YtknadcjnkbdpdaaGreatHM7
import Derived.Test.YtknadcjnkbdpdaaGreatHM8
import Derived.Test.YtknadcjnkbdpdaaGreatQT
import Derived.Test.YtknadcjnkbdpdaaGreatQZ
import Derived.Test.YtknadcjnkbdpdaaGreatVB1
import Derived.Test.YtknadcjnkbdpdaaGreatVB8
import Derived.Test.YtknadcjnkbdpdaaGreatLnR
set_option linter.unusedVariables false
set_option linter.unusedSimpArgs false
namespace Go.LN
open Go.Proofs
set_option maxRecDepth 20000
def zLU (p:zH):Option (Bool):=do
 let (y1,y2)←tE p
 pure (id y2)
theorem zLe:∀ p r,zLU p=some r→∀ {I:Imm}{p1 c p2 c1},(S4 I p1 p.Arrays c)→(S4 I p2 p.Parts c1)→RT 47 [vA (cProg p p1 c p2 c1)] I [] (zY  r):=by
 intro p r N I p1 c p2 c1 h h1;unfold zLU at N;refine zX (fn:=Tryz.f47) (c:=(bodyOf Tryz.f47)) Tryz.func47 rfl rfl ?_;rintro B - -;refine yK<|tO (cProg p p1 c p2 c1) ?_;intro b hb;refine yB [] []<|xD<|yC 1 [0] [(6,vA (cProg p p1 c p2 c1))] ?_;obtain ⟨⟨y1,y2⟩,hy,N⟩:=zB N;refine xS (kY p _ hy h h1) ?_;rintro I0 hs2 v2 k2 le - ⟨v0,v01,rfl,rfl,h2,rfl⟩ -;obtain ⟨p3,c2,rfl⟩:=h2.form;refine yB [] [(4,.bool y2)]<|wW [(2,.bool y2)]<|zL<|xG ?_;obtain rfl:=zC N;exact uM
def zLN (nest:(List zE)) (p1:(List Int)) (t26:Int):Option (Out Unit (Bool)):=do
 if (decide (t26 < (nest.length:Int))) then
  let x←idx nest t26
  let l←slc p1 0 t26
  let (y3,y4)←mJ x l
  let t52←(do
    let x1←idx p1 t26
    if (decide (x1 < y3)) then
     pure true
    else
     let x2←idx p1 t26
     pure (decide (x2 ≥ y4))
      : Option Bool)
  if t52 then
   pure (.ret false)
  else
   zLN nest p1 (W (t26 + 1))
 else
  pure (.done ())
 partial_fixpoint
theorem zLj (nest:(List zE)) (p1:(List Int)):∀ (t26:Int) (o:Out Unit (Bool)),zLN nest p1 t26=some o→∀ {B}{I0 I:Imm}{Q p c p2 c1},I0.le I→(S4 I p2 p1 c1)→(S4 I p nest c)→NG Q→NO Q→(∀ (I':Imm) ,o=(.done ())→I0.le I'→T 54 B Q (.exit 0) I' [] [])→(∀ r I' hs' m',o=(.ret r)→I0.le I'→RS Tryz.prog Tryz.f92 B (zY  r) I' hs' m'→T 54 B Q .ret I' hs' m')→J Tryz.prog 54 B (nav (bodyOf Tryz.f92) [1,1,0,1,0]) Q I [] [(1,vS p2 p1 c1),(24,vS p nest c),(25,vI (nest.length:Int)),(26,vI t26)]:=by
 refine zLN.partial_correctness nest p1 _ fun self ih t26 o N B I0 I Q p c p2 c1 H h1 h hg ho hx hr=>yW hg ho<|yF [(27,.bool (decide (t26 < (nest.length:Int))))]<|yG<|yL N ?_ ?_
 · intro hc3 N;refine zV<|yG<|yM<|yK<|yC 1 [] [(28,vI t26)]<|bE N fun x hy2 N=>xR rfl rfl h hy2 ?_;intro ad ccs hat hrep;obtain ⟨p3,c2,p4,c3,rfl,h4,h5⟩:=tM hrep;refine xN 0 hat (cLoop x p3 c2 p4 c3) (vA (cLoop x p3 c2 p4 c3)) rfl<|wU zTwo ?_;intro b hb;refine yC 5 [] [(5,vI t26)]<|xB 0 (cLoop x p3 c2 p4 c3) [hB b (cLoop x p3 c2 p4 c3)] rfl rfl rfl rfl<|yH rfl<|zL<|yI ?_;obtain ⟨l,hy3,N⟩:=zB N;obtain ⟨⟨y3,y4⟩,hy4,N⟩:=zB N;refine vC [.p (vA (cLoop x p3 c2 p4 c3)) [0],.p (vS p2 p1 c1) [],.p (vI t26) [],.x (fun I' v hx=>∃ p5 c4,v=vS p5 l c4∧hx=[]∧(S4 I' p5 l c4)),.q (.tuple ⟨[vI y3,vI y4]⟩),.p (.tuple ⟨[vI y3,vI y4]⟩) [],.p (vI y3) [],.p (vI y4) [],.p (vI y3) []] [[],[],[],[(1,false),(2,false)],[(0,false),(3,false)],[(4,false)],[(5,false)],[(5,false)],[(6,false)]] [hB b (cLoop x p3 c2 p4 c3)] [] [(7,false),(8,false)] (yD [0]) ?_ ?_
   · refine Op<|Op<|Op<|Ox ?_<|Oq ?_<|Op<|Op<|Op<|Op<|On
     · intro I1 hf le1;refine yR [(33,vS p2 p1 c1),(34,vI t26)] ?_;have h1:=h1.mono le1;refine zKy rfl h1 hy3 ?_;intro v04 h6;obtain ⟨p5,c4,rfl⟩:=h6.form;exact yP [] iR ⟨_,_,rfl,rfl,h6⟩
     intro I1 hf le1;refine zF ?_;rintro _ _ ⟨rfl,rfl⟩;refine zF ?_;rintro _ _ ⟨p5,c4,rfl,rfl,h6⟩;refine yR [(32,vA (cLoop x p3 c2 p4 c3)),(35,vS p5 l c4)] ?_;have H:=iS I1;have h4:=h4.mono le1;have h5:=h5.mono le1;refine xS (zCz x l _ hy4 h4 h5 h6) ?_;rintro I03 hs2 v2 k2 le3 - ⟨v05,v06,rfl,rfl,rfl,rfl⟩ -;have H:=H.trans le3;exact xI H
   intro I04 le4;refine yR [(1,vS p2 p1 c1),(5,vI t26),(7,vI y3),(24,vS p nest c),(25,vI (nest.length:Int)),(26,vI t26),(38,vI y4)] ?_;have h1:=h1.mono le4;have h:=h.mono le4;have H:=H.trans le4;refine yB [] [(8,vI y4)]<|zL<|yI ?_;obtain ⟨o01,ho01,hMc1⟩:=zB N;refine yU (fun I' hs' m'=>∃ (t52:Bool),o01=t52∧I04.le I'∧hs'=[]∧m'=[(1,vS p2 p1 c1),(24,vS p nest c),(25,vI (nest.length:Int)),(26,vI t26),(52,.bool t52)]) ?_ ?_
   · have H:=iS I04;refine zP<|yC 2 [] [(39,vS p2 p1 c1),(40,vI t26)] ?_;obtain ⟨x1,hy5,N⟩:=zB ho01;refine xR rfl rfl h1 hy5 ?_;intro ad1 ccs1 hat1 hrep1;obtain rfl:=hrep1;refine xN 0 hat1 [vI x1] (vI x1) rfl<|yC 7 [] [(45,.bool (decide (x1 < y3)))] ?_;cases hc4:(decide (x1 < y3)) with
     | true =>
      have hM04:=zS hc4 N
      try rw [hc4]
      exact yB [] [(52,vY)]<|wC zT<|yS [(1,vS p2 p1 c1),(24,vS p nest c),(25,vI (nest.length:Int)),(26,vI t26),(52,vY)]<|zW (ct hM04 H)
     | false =>
      have hM05:=zQ hc4 N
      try rw [hc4]
      refine yC 9 [] [(46,vS p2 p1 c1),(47,vI t26)] ?_;obtain ⟨x2,hy6,N⟩:=zB hM05;refine xR rfl rfl h1 hy6 ?_;intro ad2 ccs2 hat2 hrep2;obtain rfl:=hrep2;exact xN 0 hat2 [vI x2] (vI x2) rfl<|yB [] [(52,.bool (decide (x2 ≥ y4)))]<|wC zT<|yS [(1,vS p2 p1 c1),(24,vS p nest c),(25,vI (nest.length:Int)),(26,vI t26),(52,.bool (decide (x2 ≥ y4)))]<|zW (ct N H)
   rintro I05 hs2 m2 ⟨t52,heq1,le5,rfl,rfl⟩;subst o01;have h1:=h1.mono le5;have h:=h.mono le5;have H:=H.trans le5;refine zL<|yL hMc1 ?_ ?_
   · intro hc5 N;exact yF [(4,vF)]<|xP<|yA<|zN<|zN<|hr _ _ _ _ (zC N).symm H ⟨_,_,(.tmp rfl ResV.nil),zT,⟨_,rfl,rfl,rfl⟩⟩
   intro hc5 N;exact zV<|zR<|zL<|zP<|yB [] [(26,vI (W (t26 + 1)))]<|yT<|wN [(1,vS p2 p1 c1),(24,vS p nest c),(25,vI (nest.length:Int)),(26,vI (W (t26 + 1)))]<|ih (W (t26 + 1)) _ N H h1 h hg ho hx hr
 intro hc3 N;exact vD<|yS []<|hx _  (zC N).symm H
def zL2 (nest:(List zE)) (p1:(List Int)):Option (Bool):=do
 let t23←(do
   let y←mH nest
   if (!y) then
    pure true
   else
    let y1←kU p1
    if (!y1) then
     pure true
    else
     pure ((p1.length:Int) != (nest.length:Int))
     : Option Bool)
 if t23 then
  pure false
 else
  match←zLN nest p1 0 with
  | .ret r0=>pure r0
  | .done _ =>
   pure true
theorem zLr:∀ nest p1 r,zL2 nest p1=some r→∀ {I:Imm}{p c p2 c1},(S4 I p nest c)→(S4 I p2 p1 c1)→RT 92 [vS p nest c,vS p2 p1 c1] I [] (zY  r):=by
 intro nest p1 r N I p c p2 c1 h h1;unfold zL2 at N;refine zX (fn:=Tryz.f92) (c:=(bodyOf Tryz.f92)) Tryz.func92 rfl rfl ?_;rintro B - -;have H:=iS I;refine yF []<|yG<|yI ?_;obtain ⟨o0,ho0,hMc⟩:=zB N;refine yU (fun I' hs' m'=>∃ (t23:Bool),o0=t23∧I.le I'∧hs'=[]∧m'=[(0,vS p nest c),(1,vS p2 p1 c1),(23,.bool t23)]) ?_ ?_
 · have H:=iS I;refine zP<|yC 1 [] [(9,vS p nest c)] ?_;obtain ⟨y,hy,N⟩:=zB ho0;refine tQ (zCy nest _ hy h) ?_;intro I01 le;have h1:=h1.mono le;have H:=H.trans le;refine yC 4 [] [(12,.bool (!y))] ?_;cases hc:(!y) with
   | true =>
    have hM0:=zS hc N
    try rw [hc]
    exact yB [] [(23,vY)]<|yS [(0,vS p nest c),(1,vS p2 p1 c1),(23,vY)]<|zW (ct hM0 H)
   | false =>
    have hM01:=zQ hc N
    try rw [hc]
    refine yC 5 [] [(13,vS p2 p1 c1)] ?_;obtain ⟨y1,hy1,N⟩:=zB hM01;refine tQ (zEP p1 _ hy1 h1) ?_;intro I02 le1;have H:=H.trans le1;refine yC 9 [] [(17,.bool (!y1))] ?_;cases hc1:(!y1) with
    | true =>
     have hM02:=zS hc1 N
     try rw [hc1]
     exact yB [] [(23,vY)]<|yS [(0,vS p nest c),(1,vS p2 p1 c1),(23,vY)]<|zW (ct hM02 H)
    | false =>
     have hM03:=zQ hc1 N
     try rw [hc1]
     exact yB [] [(23,.bool ((p1.length:Int) != (nest.length:Int)))]<|yS [(0,vS p nest c),(1,vS p2 p1 c1),(23,.bool ((p1.length:Int) != (nest.length:Int)))]<|zW (ct hM03 H)
 rintro I0 hs2 m2 ⟨t23,heq,le2,rfl,rfl⟩;subst o0;have h:=h.mono le2;have h1:=h1.mono le2;refine zL<|yL hMc ?_ ?_
 · intro hc2 N;refine yF [(4,vF)]<|xP<|zN ?_;obtain rfl:=zC N;exact uM
 intro hc2 N;refine zV<|yG<|yF [(24,vS p nest c),(25,vI (nest.length:Int)),(26,vI 0)]<|wD<|wN [(1,vS p2 p1 c1),(24,vS p nest c),(25,vI (nest.length:Int)),(26,vI 0)] ?_;obtain ⟨o02,ho02,hMl⟩:=zB N;refine zLj nest p1 0 o02 ho02 iR h1 h (fun _ _ _ h=>h) (fun _ _ h=>h) ?_ ?_
 · intro I06  heq2 le6;subst o02;refine zU<|wW [(4,vY)]<|zL<|xG ?_;obtain rfl:=zC hMl;exact uM
 intro r0 I9 hs9 m9 heq9 le9 hrs9;subst heq9;refine yA<|zN ?_;obtain rfl:=zC hMl;exact xF hrs9
def zLO (p:zH) (x:zO):Option (Bool):=do
 let t4←(do
   let y←wA x.Part 0 (W ((p.Parts.length:Int) - 1))
   if y then
    let x1←idx p.Parts x.Part
    let y1←wA x.Stmt 0 (W ((x1.Body.length:Int) - 1))
    if y1 then
     let x2←idx p.Parts x.Part
     let y2←zL2 x2.Nest x.Point
     pure (id y2)
    else
     pure false
   else
    pure false
     : Option Bool)
 pure (id t4)
theorem zL7:∀ p x r,zLO p x=some r→∀ {I:Imm}{p1 c p2 c1 p3 c2},(S4 I p1 p.Arrays c)→(S4 I p2 p.Parts c1)→(S4 I p3 x.Point c2)→RT 41 [vA (cProg p p1 c p2 c1),vA (cInst x p3 c2)] I [] (zY  r):=by
 intro p x r N I p1 c p2 c1 p3 c2 h h1 h2;unfold zLO at N;refine zX (fn:=Tryz.f41) (c:=(bodyOf Tryz.f41)) Tryz.func41 rfl rfl ?_;rintro B - -;have H:=iS I;refine yK<|tO (cProg p p1 c p2 c1) ?_;intro b hb;refine tO (cInst x p3 c2) ?_;intro b1 hb1;refine yB [] []<|zL<|yI ?_;obtain ⟨o0,ho0,hMc⟩:=zB N;refine yU (fun I' hs' m'=>∃ (t4:Bool),o0=t4∧I.le I'∧hs'=[]∧m'=[(4,.bool t4)]) ?_ ?_
 · have H:=iS I;obtain ⟨y,hy,N⟩:=zB ho0;cases hc:y with
   | true =>
    have hM0:=zS hc N;obtain ⟨x1,hy1,N⟩:=zB hM0;obtain ⟨y1,hy2,N⟩:=zB N;cases hc1:y1 with
    | true =>
     have hM01:=zS hc1 N;obtain ⟨x2,hy3,N⟩:=zB hM01;obtain ⟨y2,hy4,N⟩:=zB N;refine vC [.p (vP b1 0) [],.p (vI x.Part) [0],.p (vP b 1) [],.p (vS p2 p.Parts c1) [1],.p (vI (p.Parts.length:Int)) [],.p (vI (W ((p.Parts.length:Int) - 1))) [],.q vY,.q vY,.p (vP b1 1) [],.p (vI x.Stmt) [0],.p (vP b 1) [],.p (vS p2 p.Parts c1) [1],.p (vP b1 0) [],.p (vI x.Part) [0],.x (fun I' v hx=>∃ ad p4 c3 p5 c4,v=.pointer (some ad)∧hx=[]∧(At I' ad (cPart x1 p4 c3 p5 c4))∧(S4 I' p4 x1.Nest c3)∧(S4 I' p5 x1.Body c4)),.x (fun I' v hx=>∃ ad1 p41 c31 p51 c41,v=.pointer (some (ad1.add 1))∧hx=[]∧(At I' ad1 (cPart x1 p41 c31 p51 c41))∧(S4 I' p41 x1.Nest c31)∧(S4 I' p51 x1.Body c41)),.x (fun I' v hx=>∃ p511 c411,v=vS p511 x1.Body c411∧hx=[]∧(S4 I' p511 x1.Body c411)),.q (vI (x1.Body.length:Int)),.p (vI (W ((x1.Body.length:Int) - 1))) [],.q vY,.q vY,.q vY,.p (vP b 1) [],.p (vS p2 p.Parts c1) [1],.p (vP b1 0) [],.p (vI x.Part) [0],.x (fun I' v hx=>∃ ad2 p6 c5 p7 c6,v=.pointer (some ad2)∧hx=[]∧(At I' ad2 (cPart x2 p6 c5 p7 c6))∧(S4 I' p6 x2.Nest c5)∧(S4 I' p7 x2.Body c6)),.x (fun I' v hx=>∃ ad21 p61 c51 p71 c61,v=.pointer (some ad21)∧hx=[]∧(At I' ad21 (cPart x2 p61 c51 p71 c61))∧(S4 I' p61 x2.Nest c51)∧(S4 I' p71 x2.Body c61)),.x (fun I' v hx=>∃ p611 c511,v=vS p611 x2.Nest c511∧hx=[]∧(S4 I' p611 x2.Nest c511)),.p (vP b1 2) [],.p (vS p3 x.Point c2) [0],.q (.bool y2),.p (.bool y2) []] [[],[(0,false)],[],[(2,false)],[(3,false)],[(4,false)],[(1,false),(5,false)],[(6,false)],[(7,false)],[(7,false),(8,false)],[(7,false)],[(7,false),(10,false)],[(7,false)],[(7,false),(12,false)],[(7,false),(11,false),(13,false)],[(7,false),(14,false)],[(7,false),(15,false)],[(7,false),(16,false)],[(7,false),(17,false)],[(7,false),(9,false),(18,false)],[(7,false),(19,false)],[(20,false)],[(21,false)],[(21,false),(22,false)],[(21,false)],[(21,false),(24,false)],[(21,false),(23,false),(25,false)],[(21,false),(26,false)],[(21,false),(27,false)],[(21,false)],[(21,false),(29,false)],[(21,false),(28,false),(30,false)],[(21,false),(31,false)]] [hB b1 (cInst x p3 c2),hB b (cProg p p1 c p2 c1)] [] [(32,false)] (yD [0,1]) ?_ ?_
     · refine Op<|Op<|Op<|Op<|Op<|Op<|Oq ?_<|Oq ?_<|Op<|Op<|Op<|Op<|Op<|Op<|Ox ?_<|Ox ?_<|Ox ?_<|Oq ?_<|Op<|Oq ?_<|Oq ?_<|Oq ?_<|Op<|Op<|Op<|Op<|Ox ?_<|Ox ?_<|Ox ?_<|Op<|Op<|Oq ?_<|Op<|On
       · intro I1 hf le1;refine yR [(6,vI x.Part),(10,vI (W ((p.Parts.length:Int) - 1)))] ?_;have H:=iS I1;refine tQ (wM x.Part 0 (W ((p.Parts.length:Int) - 1)) _ hy ) ?_;intro I01 le;have H:=H.trans le;rw [hc];exact xI H
       · intro I1 hf le1;exact yR [(11,vY)]<|pM 8 [(12,vY)]<|xI iR
       · intro I1 hf le1;refine yR [(12,vY),(16,vS p2 p.Parts c1),(18,vI x.Part)] ?_;have h1:=h1.mono le1;refine xR rfl rfl h1 hy1 ?_;intro ad ccs hat hrep;obtain ⟨p4,c3,p5,c4,rfl,h4,h5⟩:=wZ hrep;exact yP [] iR ⟨_,_,_,_,_,rfl,rfl,hat,h4,h5⟩
       · intro I1 hf le1;refine zF ?_;rintro _ _ ⟨rfl,rfl⟩;refine zF ?_;rintro _ _ ⟨ad,p4,c3,p5,c4,rfl,rfl,hat,h4,h5⟩;exact yR [(12,vY),(19,.pointer (some ad))]<|pM 16 [(20,.pointer (some (ad.add 1)))]<|yP [] iR ⟨_,_,_,_,_,rfl,rfl,hat,h4,h5⟩
       · intro I1 hf le1;refine zF ?_;rintro _ _ ⟨rfl,rfl⟩;refine zF ?_;rintro _ _ ⟨ad1,p41,c31,p51,c41,rfl,rfl,hat1,h41,h51⟩;exact yR [(12,vY),(20,.pointer (some (ad1.add 1)))]<|xN 1 hat1 [vS p51 x1.Body c41] (vS p51 x1.Body c41) rfl<|yP [] iR ⟨_,_,rfl,rfl,h51⟩
       · intro I1 hf le1;refine zF ?_;rintro _ _ ⟨rfl,rfl⟩;refine zF ?_;rintro _ _ ⟨p511,c411,rfl,rfl,h511⟩;exact yR [(12,vY),(21,vS p511 x1.Body c411)]<|pM 18 [(22,vI (x1.Body.length:Int))]<|xI iR
       · intro I1 hf le1;refine yR [(12,vY),(14,vI x.Stmt),(23,vI (W ((x1.Body.length:Int) - 1)))] ?_;have H:=iS I1;refine tQ (wM x.Stmt 0 (W ((x1.Body.length:Int) - 1)) _ hy2 ) ?_;intro I02 le1;have H:=H.trans le1;rw [hc1];exact xI H
       · intro I1 hf le1;exact yR [(12,vY),(24,vY)]<|pM 21 [(25,vY)]<|xI iR
       · intro I1 hf le1;exact yR [(25,vY)]<|pM 22 [(26,vY)]<|xI iR
       · intro I1 hf le1;refine yR [(26,vY),(28,vS p2 p.Parts c1),(30,vI x.Part)] ?_;have h1:=h1.mono le1;refine xR rfl rfl h1 hy3 ?_;intro ad2 ccs1 hat2 hrep1;obtain ⟨p6,c5,p7,c6,rfl,h7,h8⟩:=wZ hrep1;exact yP [] iR ⟨_,_,_,_,_,rfl,rfl,hat2,h7,h8⟩
       · intro I1 hf le1;refine zF ?_;rintro _ _ ⟨rfl,rfl⟩;refine zF ?_;rintro _ _ ⟨ad2,p6,c5,p7,c6,rfl,rfl,hat2,h7,h8⟩;exact yR [(26,vY),(31,.pointer (some ad2))]<|pM 28 [(32,.pointer (some ad2))]<|yP [] iR ⟨_,_,_,_,_,rfl,rfl,hat2,h7,h8⟩
       · intro I1 hf le1;refine zF ?_;rintro _ _ ⟨rfl,rfl⟩;refine zF ?_;rintro _ _ ⟨ad21,p61,c51,p71,c61,rfl,rfl,hat21,h71,h81⟩;exact yR [(26,vY),(32,.pointer (some ad21))]<|xN 0 hat21 [vS p61 x2.Nest c51] (vS p61 x2.Nest c51) rfl<|yP [] iR ⟨_,_,rfl,rfl,h71⟩
       intro I1 hf le1;refine zF ?_;rintro _ _ ⟨rfl,rfl⟩;refine zF ?_;rintro _ _ ⟨p611,c511,rfl,rfl,h711⟩;refine yR [(26,vY),(33,vS p611 x2.Nest c511),(35,vS p3 x.Point c2)] ?_;have H:=iS I1;have h2:=h2.mono le1;refine tQ (zLr x2.Nest x.Point _ hy4 h711 h2) ?_;intro I03 le2;have H:=H.trans le2;exact xI H
     intro I04 le3;refine yR [(37,.bool y2)] ?_;have H:=H.trans le3;exact yB [] [(4,.bool y2)]<|wC zT<|yS [(4,.bool y2)]<|zW (ct N H)
    | false =>
     have hM02:=zQ hc1 N;refine vC [.p (vP b1 0) [],.p (vI x.Part) [0],.p (vP b 1) [],.p (vS p2 p.Parts c1) [1],.p (vI (p.Parts.length:Int)) [],.p (vI (W ((p.Parts.length:Int) - 1))) [],.q vY,.q vY,.p (vP b1 1) [],.p (vI x.Stmt) [0],.p (vP b 1) [],.p (vS p2 p.Parts c1) [1],.p (vP b1 0) [],.p (vI x.Part) [0],.x (fun I' v hx=>∃ ad p4 c3 p5 c4,v=.pointer (some ad)∧hx=[]∧(At I' ad (cPart x1 p4 c3 p5 c4))∧(S4 I' p4 x1.Nest c3)∧(S4 I' p5 x1.Body c4)),.x (fun I' v hx=>∃ ad1 p41 c31 p51 c41,v=.pointer (some (ad1.add 1))∧hx=[]∧(At I' ad1 (cPart x1 p41 c31 p51 c41))∧(S4 I' p41 x1.Nest c31)∧(S4 I' p51 x1.Body c41)),.x (fun I' v hx=>∃ p511 c411,v=vS p511 x1.Body c411∧hx=[]∧(S4 I' p511 x1.Body c411)),.q (vI (x1.Body.length:Int)),.p (vI (W ((x1.Body.length:Int) - 1))) [],.q vF,.q vF,.q vF,.p undef [],.p undef [],.p undef [],.p undef [],.p undef [],.p undef [],.p undef [],.p undef [],.p undef [],.p undef [],.p vF []] [[],[(0,false)],[],[(2,false)],[(3,false)],[(4,false)],[(1,false),(5,false)],[(6,false)],[(7,false)],[(7,false),(8,false)],[(7,false)],[(7,false),(10,false)],[(7,false)],[(7,false),(12,false)],[(7,false),(11,false),(13,false)],[(7,false),(14,false)],[(7,false),(15,false)],[(7,false),(16,false)],[(7,false),(17,false)],[(7,false),(9,false),(18,false)],[(7,false),(19,false)],[(20,false)],[(21,false)],[(21,false),(22,false)],[(21,false)],[(21,false),(24,false)],[(21,false),(23,false),(25,false)],[(21,false),(26,false)],[(21,false),(27,false)],[(21,false)],[(21,false),(29,false)],[(21,false),(28,false),(30,false)],[(21,false),(31,false)]] [hB b1 (cInst x p3 c2),hB b (cProg p p1 c p2 c1)] [] [(32,false)] (yD [0,1]) ?_ ?_
     · refine Op<|Op<|Op<|Op<|Op<|Op<|Oq ?_<|Oq ?_<|Op<|Op<|Op<|Op<|Op<|Op<|Ox ?_<|Ox ?_<|Ox ?_<|Oq ?_<|Op<|Oq ?_<|Oq ?_<|Oq ?_<|Op<|Op<|Op<|Op<|Op<|Op<|Op<|Op<|Op<|Op<|Op<|On
       · intro I1 hf le1;refine yR [(6,vI x.Part),(10,vI (W ((p.Parts.length:Int) - 1)))] ?_;have H:=iS I1;refine tQ (wM x.Part 0 (W ((p.Parts.length:Int) - 1)) _ hy ) ?_;intro I01 le;have H:=H.trans le;rw [hc];exact xI H
       · intro I1 hf le1;exact yR [(11,vY)]<|pM 8 [(12,vY)]<|xI iR
       · intro I1 hf le1;refine yR [(12,vY),(16,vS p2 p.Parts c1),(18,vI x.Part)] ?_;have h1:=h1.mono le1;refine xR rfl rfl h1 hy1 ?_;intro ad ccs hat hrep;obtain ⟨p4,c3,p5,c4,rfl,h4,h5⟩:=wZ hrep;exact yP [] iR ⟨_,_,_,_,_,rfl,rfl,hat,h4,h5⟩
       · intro I1 hf le1;refine zF ?_;rintro _ _ ⟨rfl,rfl⟩;refine zF ?_;rintro _ _ ⟨ad,p4,c3,p5,c4,rfl,rfl,hat,h4,h5⟩;exact yR [(12,vY),(19,.pointer (some ad))]<|pM 16 [(20,.pointer (some (ad.add 1)))]<|yP [] iR ⟨_,_,_,_,_,rfl,rfl,hat,h4,h5⟩
       · intro I1 hf le1;refine zF ?_;rintro _ _ ⟨rfl,rfl⟩;refine zF ?_;rintro _ _ ⟨ad1,p41,c31,p51,c41,rfl,rfl,hat1,h41,h51⟩;exact yR [(12,vY),(20,.pointer (some (ad1.add 1)))]<|xN 1 hat1 [vS p51 x1.Body c41] (vS p51 x1.Body c41) rfl<|yP [] iR ⟨_,_,rfl,rfl,h51⟩
       · intro I1 hf le1;refine zF ?_;rintro _ _ ⟨rfl,rfl⟩;refine zF ?_;rintro _ _ ⟨p511,c411,rfl,rfl,h511⟩;exact yR [(12,vY),(21,vS p511 x1.Body c411)]<|pM 18 [(22,vI (x1.Body.length:Int))]<|xI iR
       · intro I1 hf le1;refine yR [(12,vY),(14,vI x.Stmt),(23,vI (W ((x1.Body.length:Int) - 1)))] ?_;have H:=iS I1;refine tQ (wM x.Stmt 0 (W ((x1.Body.length:Int) - 1)) _ hy2 ) ?_;intro I02 le1;have H:=H.trans le1;rw [hc1];exact xI H
       · intro I1 hf le1;exact yR [(12,vY),(24,vF)]<|pM 21 [(25,vF)]<|xI iR
       intro I1 hf le1;exact yR [(25,vF)]<|pM 22 [(26,vF)]<|xI iR
     intro I05 le4;refine yR [(37,vF)] ?_;have H:=H.trans le4;exact yB [] [(4,vF)]<|wC zT<|yS [(4,vF)]<|zW (ct hM02 H)
   | false =>
    have hM03:=zQ hc N;refine vC [.p (vP b1 0) [],.p (vI x.Part) [0],.p (vP b 1) [],.p (vS p2 p.Parts c1) [1],.p (vI (p.Parts.length:Int)) [],.p (vI (W ((p.Parts.length:Int) - 1))) [],.q vF,.q vF,.p undef [],.p undef [],.p undef [],.p undef [],.p undef [],.p undef [],.p undef [],.p undef [],.p undef [],.p undef [],.p undef [],.p undef [],.p vF [],.p vF [],.p undef [],.p undef [],.p undef [],.p undef [],.p undef [],.p undef [],.p undef [],.p undef [],.p undef [],.p undef [],.p vF []] [[],[(0,false)],[],[(2,false)],[(3,false)],[(4,false)],[(1,false),(5,false)],[(6,false)],[(7,false)],[(7,false),(8,false)],[(7,false)],[(7,false),(10,false)],[(7,false)],[(7,false),(12,false)],[(7,false),(11,false),(13,false)],[(7,false),(14,false)],[(7,false),(15,false)],[(7,false),(16,false)],[(7,false),(17,false)],[(7,false),(9,false),(18,false)],[(7,false),(19,false)],[(20,false)],[(21,false)],[(21,false),(22,false)],[(21,false)],[(21,false),(24,false)],[(21,false),(23,false),(25,false)],[(21,false),(26,false)],[(21,false),(27,false)],[(21,false)],[(21,false),(29,false)],[(21,false),(28,false),(30,false)],[(21,false),(31,false)]] [hB b1 (cInst x p3 c2),hB b (cProg p p1 c p2 c1)] [] [(32,false)] (yD [0,1]) ?_ ?_
    · refine Op<|Op<|Op<|Op<|Op<|Op<|Oq ?_<|Oq ?_<|Op<|Op<|Op<|Op<|Op<|Op<|Op<|Op<|Op<|Op<|Op<|Op<|Op<|Op<|Op<|Op<|Op<|Op<|Op<|Op<|Op<|Op<|Op<|Op<|Op<|On
      · intro I1 hf le1;refine yR [(6,vI x.Part),(10,vI (W ((p.Parts.length:Int) - 1)))] ?_;have H:=iS I1;refine tQ (wM x.Part 0 (W ((p.Parts.length:Int) - 1)) _ hy ) ?_;intro I01 le;have H:=H.trans le;rw [hc];exact xI H
      intro I1 hf le1;exact yR [(11,vF)]<|pM 8 [(12,vF)]<|xI iR
    intro I06 le5;refine yR [(37,vF)] ?_;have H:=H.trans le5;exact yB [] [(4,vF)]<|wC zT<|yS [(4,vF)]<|zW (ct hM03 H)
 rintro I0 hs2 m2 ⟨t4,heq,le6,rfl,rfl⟩;subst o0;refine zL<|xG ?_;obtain rfl:=zC hMc;exact uM
def zLR (p:zH) (x:zO):Option ((List Int)×Int×Bool):=do
 let t17←(do
   let y←zLU p
   if (!y) then
    pure true
   else
    let y1←zLO p x
    pure (!y1)
     : Option Bool)
 if t17 then
  pure (([]:List Int),0,false)
 else
  let (y3,y4)←qG p x
  pure (y3,y4,true)
theorem zLc:∀ p x r,zLR p x=some r→∀ {I:Imm}{p1 c p2 c1 p3 c2},(S4 I p1 p.Arrays c)→(S4 I p2 p.Parts c1)→(S4 I p3 x.Point c2)→RT 12 [vA (cProg p p1 c p2 c1),vA (cInst x p3 c2)] I [] (eW  r):=by
 intro p x r N I p1 c p2 c1 p3 c2 h h1 h2;unfold zLR at N;refine zX (fn:=Tryz.f12) (c:=(bodyOf Tryz.f12)) Tryz.func12 rfl rfl ?_;rintro B - -;have H:=iS I;refine yK<|tO (cProg p p1 c p2 c1) ?_;intro b hb;refine tO (cInst x p3 c2) ?_;intro b1 hb1;refine yB [] []<|yG<|yI ?_;obtain ⟨o0,ho0,hMc⟩:=zB N;refine yU (fun I' hs' m'=>∃ (t17:Bool),o0=t17∧I.le I'∧hs'=[hB b1 (cInst x p3 c2),hB b (cProg p p1 c p2 c1)]∧m'=[(2,vP b 0),(3,vP b1 0),(17,.bool t17)]) ?_ ?_
 · have H:=iS I;refine zP<|yC 1 [1] [(9,vA (cProg p p1 c p2 c1))] ?_;obtain ⟨y,hy,N⟩:=zB ho0;refine tQ (zLe p _ hy h h1) ?_;intro I01 le;have h2:=h2.mono le;have h:=h.mono le;have h1:=h1.mono le;have H:=H.trans le;refine yC 4 [] [(12,.bool (!y))] ?_;cases hc:(!y) with
   | true =>
    have hM0:=zS hc N
    try rw [hc]
    exact yB [] [(17,vY)]<|yS [(2,vP b 0),(3,vP b1 0),(17,vY)]<|zW (ct hM0 H)
   | false =>
    have hM01:=zQ hc N
    try rw [hc]
    refine yC 6 [1,0] [(13,vA (cProg p p1 c p2 c1)),(14,vA (cInst x p3 c2))] ?_;obtain ⟨y1,hy1,N⟩:=zB hM01;refine tQ (zL7 p x _ hy1 h h1 h2) ?_;intro I02 le1;have H:=H.trans le1;exact yB [] [(17,.bool (!y1))]<|yS [(2,vP b 0),(3,vP b1 0),(17,.bool (!y1))]<|zW (ct N H)
 rintro I0 hs2 m2 ⟨t17,heq,le2,rfl,rfl⟩;subst o0;have h2:=h2.mono le2;have h:=h.mono le2;have h1:=h1.mono le2;refine zL<|yL hMc ?_ ?_
 · intro hc1 N;refine yF [(4,z0),(5,vI 0),(6,vF)]<|xP<|zN ?_;obtain rfl:=zC N;exact xF ⟨_,_,(.tmp rfl (.tmp rfl (.tmp rfl ResV.nil))),zT,⟨_,_,_,rfl,rfl,(SL.nil _),rfl,rfl⟩⟩
 intro hc1 N;refine zV<|xD<|yC 2 [1,0] [(19,vA (cProg p p1 c p2 c1)),(20,vA (cInst x p3 c2))] ?_;obtain ⟨⟨y3,y4⟩,hy2,N⟩:=zB N;refine xS (zAK p x _ hy2 h h1 h2) ?_;rintro I03 hs2 v2 k2 le3 - ⟨v02,v03,rfl,rfl,h5,rfl⟩ -;obtain ⟨p4,c3,rfl⟩:=h5.form;refine yB [] [(7,vS p4 y3 c3),(8,vI y4)]<|wW [(4,vS p4 y3 c3),(5,vI y4),(6,vY)]<|zL<|xG ?_;obtain rfl:=zC N;exact xF ⟨_,_,(.tmp rfl (.tmp rfl (.tmp rfl ResV.nil))),zT,⟨_,_,_,rfl,rfl,h5,rfl,rfl⟩⟩
end Go.LN
namespace Go.LN
open Go.Proofs
set_option maxRecDepth 20000
def zLP (a0:(List Int)) (b:(List Int)) (i:Int):Option (Out Unit (Bool)):=do
 if (decide (i < (a0.length:Int))) then
  let x←idx a0 i
  let x1←idx b i
  if (x != x1) then
   pure (.ret false)
  else
   zLP a0 b (W (i + 1))
 else
  pure (.done ())
 partial_fixpoint
theorem zLm (a0:(List Int)) (b:(List Int)):∀ (i:Int) (o:Out Unit (Bool)),zLP a0 b i=some o→∀ {B}{I0 I:Imm}{Q p c p1 c1},I0.le I→(S4 I p a0 c)→(S4 I p1 b c1)→NG Q→NO Q→(∀ (I':Imm) ,o=(.done ())→I0.le I'→T 26 B Q (.exit 0) I' [] [])→(∀ r I' hs' m',o=(.ret r)→I0.le I'→RS Tryz.prog Tryz.f15 B (zY  r) I' hs' m'→T 26 B Q .ret I' hs' m')→J Tryz.prog 26 B (nav (bodyOf Tryz.f15) [1,1,0,1,0]) Q I [] [(0,vS p a0 c),(1,vS p1 b c1),(5,vI i)]:=by
 refine zLP.partial_correctness a0 b _ fun self ih i o N B I0 I Q p c p1 c1 H h h1 hg ho hx hr=>yW hg ho<|yI<|yF [(14,.bool (decide (i < (a0.length:Int))))]<|zL<|yL N ?_ ?_
 · intro hc1 N;refine zV<|yG<|yM<|yI<|fP (by kernel_rfl) (by kernel_rfl)<|zAd 2 [] [(17,vS p a0 c),(18,vI i)]<|bE N fun x hy N=>zEn rfl rfl h hy ?_;intro ad ccs hat hrep;obtain rfl:=hrep;refine zEm 0 hat [vI x] (vI x) rfl<|zAd 6 [] [(21,vS p1 b c1),(22,vI i)]<|bE N fun x1 hy1 N=>zEn rfl rfl h1 hy1 ?_;intro ad1 ccs1 hat1 hrep1;obtain rfl:=hrep1;refine zEm 0 hat1 [vI x1] (vI x1) rfl<|zEA [] [(25,.bool (x != x1))]<|zL<|yL N ?_ ?_
   · intro hc2 N;exact yF [(4,vF)]<|xP<|yA<|zN<|zN<|hr _ _ _ _ (zC N).symm H ⟨_,_,(.tmp rfl ResV.nil),zT,⟨_,rfl,rfl,rfl⟩⟩
   intro hc2 N;exact zV<|zR<|zL<|zP<|yB [] [(5,vI (W (i + 1)))]<|yT<|wN [(0,vS p a0 c),(1,vS p1 b c1),(5,vI (W (i + 1)))]<|ih (W (i + 1)) _ N H h h1 hg ho hx hr
 intro hc1 N;exact vD<|yS []<|hx _  (zC N).symm H
def zL0 (a0:(List Int)) (b:(List Int)):Option (Bool):=do
 if ((a0.length:Int) != (b.length:Int)) then
  pure false
 else
  match←zLP a0 b 0 with
  | .ret r0=>pure r0
  | .done _ =>
   pure true
theorem zLf:∀ a0 b r,zL0 a0 b=some r→∀ {I:Imm}{p c p1 c1},(S4 I p a0 c)→(S4 I p1 b c1)→RT 15 [vS p a0 c,vS p1 b c1] I [] (zY  r):=by
 intro a0 b r N I p c p1 c1 h h1;unfold zL0 at N;refine zX (fn:=Tryz.f15) (c:=(bodyOf Tryz.f15)) Tryz.func15 rfl rfl ?_;rintro B - -;refine yF []<|yG<|yF [(10,.bool ((a0.length:Int) != (b.length:Int)))]<|zL<|yL N ?_ ?_
 · intro hc N;refine yF [(4,vF)]<|xP<|zN ?_;obtain rfl:=zC N;exact uM
 intro hc N;refine zV<|yG<|yF [(5,vI 0)]<|wD<|wN [(0,vS p a0 c),(1,vS p1 b c1),(5,vI 0)] ?_;obtain ⟨o0,ho0,hMl⟩:=zB N;refine zLm a0 b 0 o0 ho0 iR h h1 (fun _ _ _ h=>h) (fun _ _ h=>h) ?_ ?_
 · intro I0  heq le;subst o0;refine zU<|wW [(4,vY)]<|zL<|xG ?_;obtain rfl:=zC hMl;exact uM
 intro r0 I9 hs9 m9 heq9 le9 hrs9;subst heq9;refine yA<|zN ?_;obtain rfl:=zC hMl;exact xF hrs9
def zL9 (r:zH×Int):KT:=fun kk I' hs' v=>
  ∃ v0 v1,hs'=[]∧v=tupV [v0,v1]∧(∃ cs,v0=.agg ⟨cs⟩∧Rp.rep I' cs r.1)∧v1=.int .i64 r.2
def zLS (code:(List UInt8)):Option (zH×Int):=do
 let y←jR code
 let (y2,y3,y4)←zBM y
 pure (y2,y3)
theorem zLd:∀ code r,zLS code=some r→∀ {I:Imm}{p c},(S4 I p code c)→RT 28 [vS p code c] I [] (zL9  r):=by
 intro code r N I p c h;unfold zLS at N;refine zX (fn:=Tryz.f28) (c:=(bodyOf Tryz.f28)) Tryz.func28 rfl rfl ?_;rintro B - -;refine yK<|wU zTwo ?_;intro b hb;refine yB [] []<|xD<|yC 1 [] [(4,vS p code c)]<|bE N fun y hy N=>xS (zIb code _ hy h) ?_;rintro I0 hs2 v2 k2 le - ⟨b1,p1,c1,rfl,rfl,h1⟩ -;obtain ⟨⟨y2,y3,y4⟩,hy1,N⟩:=zB N;refine tS [hB b1 (cRd y p1 c1)] [hB b zTwo] (zIc y _ hy1 h1) ?_;rintro I01 hs2 v2 k2 le1 - ⟨v0,v01,kk,rfl,rfl,⟨cs,rfl,h2⟩,rfl,h4⟩ -;obtain ⟨p2,c2,p3,c3,rfl,h5,h6⟩:=oZ h2;obtain ⟨p4,c4,rfl,h7⟩:=yE h4;refine yC 5 [] [(7,vA (cProg y2 p2 c2 p3 c3)),(8,vI y3)]<|xB 1 (cProg y2 p2 c2 p3 c3) [hB b1 (cRd y4 p4 c4),hB b (cProg y2 p2 c2 p3 c3)] rfl rfl rfl rfl<|yB [] [(3,vI y3)]<|zL<|xG ?_;obtain rfl:=zC N;exact xF ⟨_,_,(.cell 1 rfl rfl (by kernel_rfl) (.tmp rfl ResV.nil)),zT,⟨_,_,rfl,rfl,⟨_,rfl,(wV ⟨_,_,rfl,h5,h6⟩)⟩,rfl⟩⟩
def zLQ (list:(List Bool)) (out:List Int) (t8:Int):Option (List Int):=do
 if (decide (t8 < (list.length:Int))) then
  let x←idx list t8
  let out2←(do
    if x then
     let out3←app 8 out ([t8]:List Int)
     pure (id out3)
    else
     pure (id out)
      : Option (List Int))
  zLQ list out2 (W (t8 + 1))
 else
  pure (id out)
 partial_fixpoint
theorem zLn (list:(List Bool)):∀ (out:List Int) (t8:Int) (o:List Int),zLQ list out t8=some o→∀ {B}{I0 I:Imm}{Q p c p1 c1 cs},I0.le I→(S4 I p list c)→(RL I cs out)→NG Q→NO Q→(∀ (I':Imm) (out1:List Int) (p2:Option Addr) (c2:Nat) (cs1:List Value),o=out1→I0.le I'→(RL I' cs1 out1)→T 20 B Q (.exit 0) I' [hO Int (vS p2 out1 c2) cs1] [(3,vS p2 out1 c2)])→J Tryz.prog 20 B (nav (bodyOf Tryz.f79) [1,1,0,1,0]) Q I [hO Int (vS p1 out c1) cs] [(3,vS p1 out c1),(6,vS p list c),(7,vI (list.length:Int)),(8,vI t8)]:=by
 refine zLQ.partial_correctness list _ fun self ih out t8 o N B I0 I Q p c p1 c1 cs H h h2 hg ho hx=>yW hg ho<|yF [(9,.bool (decide (t8 < (list.length:Int))))]<|yG<|yL N ?_ ?_
 · intro hc N;refine zV<|yG<|yM<|yK<|yC 1 [] [(10,vI t8)]<|bE N fun x hy N=>xR rfl rfl h hy ?_;intro ad ccs hat hrep;obtain rfl:=hrep;refine xN 0 hat [.bool x] (.bool x) rfl<|yB [] [(4,vI t8),(5,.bool x)]<|wW [(13,.bool x)]<|zL ?_;obtain ⟨o0,ho0,hMc⟩:=zB N;refine yU (fun I' hs' m'=>∃ (out2:List Int) (p3:Option Addr) (c3:Nat) (cs2:List Value),o0=out2∧I.le I'∧(RL I' cs2 out2)∧hs'=[hO Int (vS p3 out2 c3) cs2]∧m'=[(3,vS p3 out2 c3),(6,vS p list c),(7,vI (list.length:Int)),(8,vI t8)]) ?_ ?_
   · have H:=iS I;refine yL ho0 ?_ ?_
     · intro hc1 N;refine zP<|yC 2 [] [(14,vS p1 out c1),(15,vI t8)]<|xU [vI t8] Int ?_;intro b hb;have h5:RL I [vI t8] ([t8]:List Int):=⟨[vI t8],_,rfl,rfl,rfl,rfl⟩;obtain ⟨out3,hy1,N⟩:=zB N;exact qI 3 1 1 rfl rfl rfl h2 (.inr ⟨0,rfl⟩) h5 hy1 fun p4 c4 cs3 h6=>sU (yD [1] (hs':=[hO Int (vS p4 out3 c4) cs3]))<|yB [] [(3,vS p4 out3 c4)]<|yS [(3,vS p4 out3 c4),(6,vS p list c),(7,vI (list.length:Int)),(8,vI t8)]<|zW ⟨_,_,_,_,(zC N).symm,H,h6,rfl,rfl⟩
     intro hc1 N;exact zV<|yS [(3,vS p1 out c1),(6,vS p list c),(7,vI (list.length:Int)),(8,vI t8)]<|zW ⟨_,_,_,_,(zC N).symm,H,h2,rfl,rfl⟩
   rintro I0 hs2 m2 ⟨out2,p3,c3,cs2,heq,le,h4,rfl,rfl⟩;subst o0;have h:=h.mono le;have H:=H.trans le;exact zR<|zL<|zP<|yB [] [(8,vI (W (t8 + 1)))]<|yT<|wN [(3,vS p3 out2 c3),(6,vS p list c),(7,vI (list.length:Int)),(8,vI (W (t8 + 1)))]<|ih out2 (W (t8 + 1)) _ hMc H h h4 hg ho hx
 intro hc N;exact vD<|yS [(3,vS p1 out c1)]<|hx _ _ _ _ _ (zC N).symm H h2
def zL1 (list:(List Bool)):Option ((List Int)):=do
 let out1←zLQ list ([]:List Int) 0
 pure (id out1)
theorem zLg:∀ list r,zL1 list=some r→∀ {I:Imm}{p c},(S4 I p list c)→RT 79 [vS p list c] I [] (fH  r):=by
 intro list r N I p c h;unfold zL1 at N;refine zX (fn:=Tryz.f79) (c:=(bodyOf Tryz.f79)) Tryz.func79 rfl rfl ?_;rintro B - -;refine yF []<|wW [(3,z0)]<|yG<|yF [(6,vS p list c),(7,vI (list.length:Int)),(8,vI 0)]<|wD<|wN [(3,z0),(6,vS p list c),(7,vI (list.length:Int)),(8,vI 0)]<|rM (wT (Rp.sz Int)) ?_;have h1:RL I [] ([]:List Int):=RepL.nil;obtain ⟨o01,ho01,hMl⟩:=zB N;refine zLn list ([]:List Int) 0 o01 ho01 iR h h1 (fun _ _ _ h=>h) (fun _ _ h=>h) ?_;intro I01 out1 p2 c2 cs1 heq1 le1 h3;subst o01;refine zU<|wW [(2,vS p2 out1 c2)]<|xP<|xA 0 rfl ?_;intro I02 le2 hl0;have h7:=SL.of_frozen hl0 le2 h3;obtain rfl:=zC hMl;exact xF ⟨_,_,(.tmp rfl ResV.nil),zT,⟨_,rfl,rfl,h7⟩⟩
def zLY (p:zH) (part:Int):Option ((List Int)):=do
 let (y1,y2)←fL p
 let t21←(do
   if (!y2) then
    pure true
   else
    let y3←gE p part
    pure (!y3)
     : Option Bool)
 if t21 then
  pure ([]:List Int)
 else
  let t←y1
  let (y5,y6)←gF t part
  let y7←zL1 y5
  pure (id y7)
theorem zLo:∀ p part r,zLY p part=some r→∀ {I:Imm}{p1 c p2 c1},(S4 I p1 p.Arrays c)→(S4 I p2 p.Parts c1)→RT 29 [vA (cProg p p1 c p2 c1),vI part] I [] (fH  r):=by
 intro p part r N I p1 c p2 c1 h h1;unfold zLY at N;refine zX (fn:=Tryz.f29) (c:=(bodyOf Tryz.f29)) Tryz.func29 rfl rfl ?_;rintro B - -;have H:=iS I;refine yK<|tO (cProg p p1 c p2 c1) ?_;intro b hb;refine yB [] []<|xD<|yC 1 [0] [(10,vA (cProg p p1 c p2 c1))] ?_;obtain ⟨⟨y1,y2⟩,hy,N⟩:=zB N;refine xS (zJ3 p _ hy h h1) ?_;rintro I0 hs2 v2 k2 le - ⟨v0,v01,rfl,rfl,h2,rfl⟩ -;have h:=h.mono le;have h1:=h1.mono le;have H:=H.trans le;refine yB [] [(5,v0),(6,.bool y2)]<|yG<|yI ?_;obtain ⟨o0,ho0,hMc⟩:=zB N;refine yU (fun I' hs' m'=>∃ (t21:Bool),o0=t21∧I0.le I'∧hs'=[]∧m'=[(1,vI part),(5,v0),(21,.bool t21)]) ?_ ?_
 · have H:=iS I0;refine zP<|yC 3 [] [(16,.bool (!y2))] ?_;cases hc:(!y2) with
   | true =>
    have hM0:=zS hc ho0
    try rw [hc]
    exact yB [] [(21,vY)]<|wC zT<|yS [(1,vI part),(5,v0),(21,vY)]<|zW (ct hM0 H)
   | false =>
    have hM01:=zQ hc ho0
    try rw [hc]
    refine yC 5 [0] [(17,vA (cProg p p1 c p2 c1)),(18,vI part)] ?_;obtain ⟨y3,hy1,N⟩:=zB hM01;refine tQ (zG0 p part _ hy1 h h1) ?_;intro I02 le1;have H:=H.trans le1;exact yB [] [(21,.bool (!y3))]<|wC zT<|yS [(1,vI part),(5,v0),(21,.bool (!y3))]<|zW (ct N H)
 rintro I01 hs2 m2 ⟨t21,heq,le2,rfl,rfl⟩;subst o0;have h2:=h2.mono le2;refine zL<|yL hMc ?_ ?_
 · intro hc1 N;refine yF [(4,z0)]<|xP<|zN ?_;obtain rfl:=zC N;exact xF ⟨_,_,(.tmp rfl ResV.nil),zT,⟨_,rfl,rfl,(SL.nil _)⟩⟩
 intro hc1 N;refine zV<|xD<|yC 2 [] [(23,v0),(24,vI part)] ?_;obtain ⟨t,hy2,N⟩:=zB N;obtain ⟨ad,ccs,rfl,hat,hrep⟩:=zLH h2 hy2;obtain ⟨p3,c2,p4,c3,p5,c4,p6,c5,p7,c6,rfl,h5,h6,h7,h8,h9⟩:=zJB hrep;obtain ⟨⟨y5,y6⟩,hy3,N⟩:=zB N;refine xS (zG1 t part _ hy3 h5 h6 h7 h8 h9 hat) ?_;rintro I03 hs2 v2 k2 le3 - ⟨v08,v09,rfl,rfl,h10,h11⟩ -;obtain ⟨p8,c7,rfl⟩:=h10.form;obtain ⟨p9,c8,rfl⟩:=h11.form;refine yB [] [(7,vS p8 y5 c7)]<|xD<|yC 1 [] [(28,vS p8 y5 c7)]<|bE N fun y7 hy4 N=>xS (zLg y5 _ hy4 h10) ?_;rintro I04 hs2 v2 k2 le4 - ⟨v010,rfl,rfl,h12⟩ -;obtain ⟨p10,c9,rfl⟩:=h12.form;refine yB [] [(4,vS p10 y7 c9)]<|zL<|xG ?_;obtain rfl:=zC N;exact xF ⟨_,_,(.tmp rfl ResV.nil),zT,⟨_,rfl,rfl,h12⟩⟩
def zLW (p:zH) (part:Int):Option ((List Int)):=do
 let (y1,y2)←fL p
 let t21←(do
   if (!y2) then
    pure true
   else
    let y3←gE p part
    pure (!y3)
     : Option Bool)
 if t21 then
  pure ([]:List Int)
 else
  let t←y1
  let (y5,y6)←gF t part
  let y7←zL1 y6
  pure (id y7)
theorem zLk:∀ p part r,zLW p part=some r→∀ {I:Imm}{p1 c p2 c1},(S4 I p1 p.Arrays c)→(S4 I p2 p.Parts c1)→RT 30 [vA (cProg p p1 c p2 c1),vI part] I [] (fH  r):=by
 intro p part r N I p1 c p2 c1 h h1;unfold zLW at N;refine zX (fn:=Tryz.f30) (c:=(bodyOf Tryz.f30)) Tryz.func30 rfl rfl ?_;rintro B - -;have H:=iS I;refine yK<|tO (cProg p p1 c p2 c1) ?_;intro b hb;refine yB [] []<|xD<|yC 1 [0] [(10,vA (cProg p p1 c p2 c1))] ?_;obtain ⟨⟨y1,y2⟩,hy,N⟩:=zB N;refine xS (zJ3 p _ hy h h1) ?_;rintro I0 hs2 v2 k2 le - ⟨v0,v01,rfl,rfl,h2,rfl⟩ -;have h:=h.mono le;have h1:=h1.mono le;have H:=H.trans le;refine yB [] [(5,v0),(6,.bool y2)]<|yG<|yI ?_;obtain ⟨o0,ho0,hMc⟩:=zB N;refine yU (fun I' hs' m'=>∃ (t21:Bool),o0=t21∧I0.le I'∧hs'=[]∧m'=[(1,vI part),(5,v0),(21,.bool t21)]) ?_ ?_
 · have H:=iS I0;refine zP<|yC 3 [] [(16,.bool (!y2))] ?_;cases hc:(!y2) with
   | true =>
    have hM0:=zS hc ho0
    try rw [hc]
    exact yB [] [(21,vY)]<|wC zT<|yS [(1,vI part),(5,v0),(21,vY)]<|zW (ct hM0 H)
   | false =>
    have hM01:=zQ hc ho0
    try rw [hc]
    refine yC 5 [0] [(17,vA (cProg p p1 c p2 c1)),(18,vI part)] ?_;obtain ⟨y3,hy1,N⟩:=zB hM01;refine tQ (zG0 p part _ hy1 h h1) ?_;intro I02 le1;have H:=H.trans le1;exact yB [] [(21,.bool (!y3))]<|wC zT<|yS [(1,vI part),(5,v0),(21,.bool (!y3))]<|zW (ct N H)
 rintro I01 hs2 m2 ⟨t21,heq,le2,rfl,rfl⟩;subst o0;have h2:=h2.mono le2;refine zL<|yL hMc ?_ ?_
 · intro hc1 N;refine yF [(4,z0)]<|xP<|zN ?_;obtain rfl:=zC N;exact xF ⟨_,_,(.tmp rfl ResV.nil),zT,⟨_,rfl,rfl,(SL.nil _)⟩⟩
 intro hc1 N;refine zV<|xD<|yC 2 [] [(23,v0),(24,vI part)] ?_;obtain ⟨t,hy2,N⟩:=zB N;obtain ⟨ad,ccs,rfl,hat,hrep⟩:=zLH h2 hy2;obtain ⟨p3,c2,p4,c3,p5,c4,p6,c5,p7,c6,rfl,h5,h6,h7,h8,h9⟩:=zJB hrep;obtain ⟨⟨y5,y6⟩,hy3,N⟩:=zB N;refine xS (zG1 t part _ hy3 h5 h6 h7 h8 h9 hat) ?_;rintro I03 hs2 v2 k2 le3 - ⟨v08,v09,rfl,rfl,h10,h11⟩ -;obtain ⟨p8,c7,rfl⟩:=h10.form;obtain ⟨p9,c8,rfl⟩:=h11.form;refine yB [] [(8,vS p9 y6 c8)]<|xD<|yC 1 [] [(28,vS p9 y6 c8)]<|bE N fun y7 hy4 N=>xS (zLg y6 _ hy4 h11) ?_;rintro I04 hs2 v2 k2 le4 - ⟨v010,rfl,rfl,h12⟩ -;obtain ⟨p10,c9,rfl⟩:=h12.form;refine yB [] [(4,vS p10 y7 c9)]<|zL<|xG ?_;obtain rfl:=zC N;exact xF ⟨_,_,(.tmp rfl ResV.nil),zT,⟨_,rfl,rfl,h12⟩⟩
def zLZ (p:zH) (part:Int):Option ((List Int)):=do
 let y←tH p
 if (!y) then
  pure ([]:List Int)
 else
  let y1←zAc p part false
  pure (id y1)
theorem zLp:∀ p part r,zLZ p part=some r→∀ {I:Imm}{p1 c p2 c1},(S4 I p1 p.Arrays c)→(S4 I p2 p.Parts c1)→RT 31 [vA (cProg p p1 c p2 c1),vI part] I [] (fH  r):=by
 intro p part r N I p1 c p2 c1 h h1;unfold zLZ at N;refine zX (fn:=Tryz.f31) (c:=(bodyOf Tryz.f31)) Tryz.func31 rfl rfl ?_;rintro B - -;refine yK<|tO (cProg p p1 c p2 c1) ?_;intro b hb;refine yB [] []<|yG<|yK<|yC 1 [0] [(5,vA (cProg p p1 c p2 c1))]<|bE N fun y hy N=>tQ (gV p _ hy h h1) ?_;intro I0 le;have h:=h.mono le;have h1:=h1.mono le;refine yB [] [(7,.bool (!y))]<|zL<|yL N ?_ ?_
 · intro hc N;refine yK<|xU [] Int ?_;intro b1 hb1;have h3:RL I0 [] ([]:List Int):=rfl;refine yB [] [(4,vS (some ⟨b1,0,none⟩) ([]:List Int) 0)]<|xP<|zN<|xA 0 rfl ?_;intro I01 le1 hl0;have h4:=SL.of_frozen hl0 le1 h3;obtain rfl:=zC N;exact xF ⟨_,_,(.tmp rfl ResV.nil),zT,⟨_,rfl,rfl,h4⟩⟩
 intro hc N;refine zV<|xD<|yC 2 [0] [(9,vA (cProg p p1 c p2 c1)),(10,vI part)]<|bE N fun y1 hy1 N=>xS (zIV p part false _ hy1 h h1) ?_;rintro I02 hs2 v2 k2 le2 - ⟨v01,rfl,rfl,h5⟩ -;obtain ⟨p3,c2,rfl⟩:=h5.form;refine yB [] [(4,vS p3 y1 c2)]<|zL<|xG ?_;obtain rfl:=zC N;exact xF ⟨_,_,(.tmp rfl ResV.nil),zT,⟨_,rfl,rfl,h5⟩⟩
def zLX (p:zH) (part:Int):Option ((List Int)):=do
 let y←tH p
 if (!y) then
  pure ([]:List Int)
 else
  let y1←zAc p part true
  pure (id y1)
theorem zLl:∀ p part r,zLX p part=some r→∀ {I:Imm}{p1 c p2 c1},(S4 I p1 p.Arrays c)→(S4 I p2 p.Parts c1)→RT 32 [vA (cProg p p1 c p2 c1),vI part] I [] (fH  r):=by
 intro p part r N I p1 c p2 c1 h h1;unfold zLX at N;refine zX (fn:=Tryz.f32) (c:=(bodyOf Tryz.f32)) Tryz.func32 rfl rfl ?_;rintro B - -;refine yK<|tO (cProg p p1 c p2 c1) ?_;intro b hb;refine yB [] []<|yG<|yK<|yC 1 [0] [(5,vA (cProg p p1 c p2 c1))]<|bE N fun y hy N=>tQ (gV p _ hy h h1) ?_;intro I0 le;have h:=h.mono le;have h1:=h1.mono le;refine yB [] [(7,.bool (!y))]<|zL<|yL N ?_ ?_
 · intro hc N;refine yK<|xU [] Int ?_;intro b1 hb1;have h3:RL I0 [] ([]:List Int):=rfl;refine yB [] [(4,vS (some ⟨b1,0,none⟩) ([]:List Int) 0)]<|xP<|zN<|xA 0 rfl ?_;intro I01 le1 hl0;have h4:=SL.of_frozen hl0 le1 h3;obtain rfl:=zC N;exact xF ⟨_,_,(.tmp rfl ResV.nil),zT,⟨_,rfl,rfl,h4⟩⟩
 intro hc N;refine zV<|xD<|yC 2 [0] [(9,vA (cProg p p1 c p2 c1)),(10,vI part)]<|bE N fun y1 hy1 N=>xS (zIV p part true _ hy1 h h1) ?_;rintro I02 hs2 v2 k2 le2 - ⟨v01,rfl,rfl,h5⟩ -;obtain ⟨p3,c2,rfl⟩:=h5.form;refine yB [] [(4,vS p3 y1 c2)]<|zL<|xG ?_;obtain rfl:=zC N;exact xF ⟨_,_,(.tmp rfl ResV.nil),zT,⟨_,rfl,rfl,h5⟩⟩
def zLT (list:(List Int)) (n0:Int) (i:Int):Option (Out Unit (Bool)):=do
 if (decide (i < (list.length:Int))) then
  let x←idx list i
  if (x == n0) then
   pure (.ret true)
  else
   zLT list n0 (W (i + 1))
 else
  pure (.done ())
 partial_fixpoint
theorem zLq (list:(List Int)) (n0:Int):∀ (i:Int) (o:Out Unit (Bool)),zLT list n0 i=some o→∀ {B}{I0 I:Imm}{Q p c},I0.le I→(S4 I p list c)→NG Q→NO Q→(∀ (I':Imm) ,o=(.done ())→I0.le I'→T 18 B Q (.exit 0) I' [] [])→(∀ r I' hs' m',o=(.ret r)→I0.le I'→RS Tryz.prog Tryz.f33 B (zY  r) I' hs' m'→T 18 B Q .ret I' hs' m')→J Tryz.prog 18 B (nav (bodyOf Tryz.f33) [1,0,1,0]) Q I [] [(0,vS p list c),(1,vI n0),(5,vI i)]:=by
 refine zLT.partial_correctness list n0 _ fun self ih i o N B I0 I Q p c H h hg ho hx hr=>yW hg ho<|yI<|yF [(9,.bool (decide (i < (list.length:Int))))]<|zL<|yL N ?_ ?_
 · intro hc N;refine zV<|yG<|yM<|yK<|yC 2 [] [(12,vS p list c),(13,vI i)]<|bE N fun x hy N=>xR rfl rfl h hy ?_;intro ad ccs hat hrep;obtain rfl:=hrep;refine xN 0 hat [vI x] (vI x) rfl<|yB [] [(17,.bool (x == n0))]<|zL<|yL N ?_ ?_
   · intro hc1 N;exact yF [(4,vY)]<|xP<|yA<|zN<|zN<|hr _ _ _ _ (zC N).symm H ⟨_,_,(.tmp rfl ResV.nil),zT,⟨_,rfl,rfl,rfl⟩⟩
   intro hc1 N;exact zV<|zR<|zL<|zP<|yB [] [(5,vI (W (i + 1)))]<|yT<|wN [(0,vS p list c),(1,vI n0),(5,vI (W (i + 1)))]<|ih (W (i + 1)) _ N H h hg ho hx hr
 intro hc N;exact vD<|yS []<|hx _  (zC N).symm H
def zL3 (list:(List Int)) (n0:Int):Option (Bool):=do
 match←zLT list n0 0 with
 | .ret r0=>pure r0
 | .done _ =>
  pure false
theorem zLi:∀ list n0 r,zL3 list n0=some r→∀ {I:Imm}{p c},(S4 I p list c)→RT 33 [vS p list c,vI n0] I [] (zY  r):=by
 intro list n0 r N I p c h;unfold zL3 at N;refine zX (fn:=Tryz.f33) (c:=(bodyOf Tryz.f33)) Tryz.func33 rfl rfl ?_;rintro B - -;refine yF []<|yG<|yF [(5,vI 0)]<|wD<|wN [(0,vS p list c),(1,vI n0),(5,vI 0)] ?_;obtain ⟨o0,ho0,hMl⟩:=zB N;refine zLq list n0 0 o0 ho0 iR h (fun _ _ _ h=>h) (fun _ _ h=>h) ?_ ?_
 · intro I0  heq le;subst o0;refine zU<|wW [(4,vF)]<|zL<|xG ?_;obtain rfl:=zC hMl;exact uM
 intro r0 I9 hs9 m9 heq9 le9 hrs9;subst heq9;refine yA<|zN ?_;obtain rfl:=zC hMl;exact xF hrs9
def zLM (y3:(List Int)) (y11:(List Int)) (k0:Int):Option (Out Unit (Bool)):=do
 if (decide (k0 < (y11.length:Int))) then
  let x2←idx y11 k0
  let y14←zL3 y3 x2
  if (!y14) then
   pure (.ret false)
  else
   zLM y3 y11 (W (k0 + 1))
 else
  pure (.done ())
 partial_fixpoint
theorem zLa (y3:(List Int)) (y11:(List Int)):∀ (k0:Int) (o:Out Unit (Bool)),zLM y3 y11 k0=some o→∀ {B}{I0 I:Imm}{Q}{y1:zH}{y2:Int}{y4:(List Int)}{y9:(List zO)}{hits:Int}{i:Int}{y12:Int}{p1 c1 p2 c2}{b:Nat}{p3 c3 p4 c4 p7 c7 p10111 c10111},I0.le I→(S4 I p3 y3 c3)→(S4 I p4 y4 c4)→(S4 I p7 y9 c7)→(S4 I p10111 y11 c10111)→(S4 I p1 y1.Arrays c1)→(S4 I p2 y1.Parts c2)→NG Q→NO Q→(∀ (I':Imm) ,o=(.done ())→I0.le I'→T 92 B Q (.exit 2) I' [hB b (cProg y1 p1 c1 p2 c2)] [(3,vP b 0),(4,vI y2),(5,vS p3 y3 c3),(6,vS p4 y4 c4),(7,vS p7 y9 c7),(8,vI (W (hits + 1))),(9,vI i),(11,vI y12)])→(∀ r I' hs' m',o=(.ret r)→I0.le I'→RS Tryz.prog Tryz.f8 B (zY  r) I' hs' m'→T 92 B Q .ret I' hs' m')→J Tryz.prog 92 B (nav (bodyOf Tryz.f8) [1,1,1,1,1,1,1,1,0,1,0,0,1,0,0,1,1,1,0,1,0]) Q I [hB b (cProg y1 p1 c1 p2 c2)] [(3,vP b 0),(4,vI y2),(5,vS p3 y3 c3),(6,vS p4 y4 c4),(7,vS p7 y9 c7),(8,vI (W (hits + 1))),(9,vI i),(10,vS p10111 y11 c10111),(11,vI y12),(13,vI k0)]:=by
 refine zLM.partial_correctness y3 y11 _ fun self ih k0 o N B I0 I Q y1 y2 y4 y9 hits i y12 p1 c1 p2 c2 b p3 c3 p4 c4 p7 c7 p10111 c10111 H h5 h6 h11 h14111 h3 h4 hg ho hx hr=>yW hg ho<|yI<|yF [(72,.bool (decide (k0 < (y11.length:Int))))]<|zL<|yL N ?_ ?_
 · intro hc5 N;refine zV<|yG<|yM<|yK<|yC 3 [] [(75,vS p3 y3 c3),(76,vS p10111 y11 c10111),(77,vI k0)]<|bE N fun x2 hy11 N=>xR rfl rfl h14111 hy11 ?_;intro ad2 ccs2 hat2 hrep2;obtain rfl:=hrep2;refine xN 0 hat2 [vI x2] (vI x2) rfl<|bE N fun y14 hy12 N=>tQ (zLi y3 x2 _ hy12 h5) ?_;intro I011 le11;have h5:=h5.mono le11;have h6:=h6.mono le11;have h11:=h11.mono le11;have h14111:=h14111.mono le11;have h3:=h3.mono le11;have h4:=h4.mono le11;have H:=H.trans le11;refine yB [] [(81,.bool (!y14))]<|zL<|yL N ?_ ?_
   · intro hc6 N;exact yF [(2,vF)]<|xP<|yA<|zN<|zN<|hr _ _ _ _ (zC N).symm H ⟨_,_,(.tmp rfl ResV.nil),zT,⟨_,rfl,rfl,rfl⟩⟩
   intro hc6 N;exact zV<|zR<|zL<|zP<|yB [] [(13,vI (W (k0 + 1)))]<|yT<|wN [(3,vP b 0),(4,vI y2),(5,vS p3 y3 c3),(6,vS p4 y4 c4),(7,vS p7 y9 c7),(8,vI (W (hits + 1))),(9,vI i),(10,vS p10111 y11 c10111),(11,vI y12),(13,vI (W (k0 + 1)))]<|ih (W (k0 + 1)) _ N H h5 h6 h11 h14111 h3 h4 hg ho hx hr
 intro hc5 N;exact vD<|yS [(3,vP b 0),(4,vI y2),(5,vS p3 y3 c3),(6,vS p4 y4 c4),(7,vS p7 y9 c7),(8,vI (W (hits + 1))),(9,vI i),(11,vI y12)]<|hx _  (zC N).symm H
def zLL (y1:zH) (y2:Int) (y3:(List Int)) (y4:(List Int)) (y9:(List zO)) (hits:Int) (i:Int):Option (Out Int (Bool)):=do
 if (decide (i < (y9.length:Int))) then
  let x←idx y9 i
  if (x.Part != y2) then
   zLL y1 y2 y3 y4 y9 hits (W (i + 1))
  else
   let x1←idx y9 i
   let (y11,y12,y13)←zLR y1 x1
   match←zLM y3 y11 0 with
   | .ret r0=>pure (.ret r0)
   | .done _ =>
    let y15←zL3 y4 y12
    if (!y15) then
     pure (.ret false)
    else
     zLL y1 y2 y3 y4 y9 (W (hits + 1)) (W (i + 1))
 else
  pure (.done hits)
 partial_fixpoint
theorem zLb (y1:zH) (y2:Int) (y3:(List Int)) (y4:(List Int)) (y9:(List zO)):∀ (hits:Int) (i:Int) (o:Out Int (Bool)),zLL y1 y2 y3 y4 y9 hits i=some o→∀ {B}{I0 I:Imm}{Q p1 c1 p2 c2}{b:Nat}{p3 c3 p4 c4 p7 c7},I0.le I→(S4 I p3 y3 c3)→(S4 I p4 y4 c4)→(S4 I p7 y9 c7)→(S4 I p1 y1.Arrays c1)→(S4 I p2 y1.Parts c2)→NG Q→NO Q→(∀ (I':Imm) (hits1:Int),o=(.done hits1)→I0.le I'→T 92 B Q (.exit 0) I' [] [(6,vS p4 y4 c4),(8,vI hits1)])→(∀ r I' hs' m',o=(.ret r)→I0.le I'→RS Tryz.prog Tryz.f8 B (zY  r) I' hs' m'→T 92 B Q .ret I' hs' m')→J Tryz.prog 92 B (nav (bodyOf Tryz.f8) [1,1,1,1,1,1,1,1,0,1,0]) Q I [hB b (cProg y1 p1 c1 p2 c2)] [(3,vP b 0),(4,vI y2),(5,vS p3 y3 c3),(6,vS p4 y4 c4),(7,vS p7 y9 c7),(8,vI hits),(9,vI i)]:=by
 refine zLL.partial_correctness y1 y2 y3 y4 y9 _ fun self ih hits i o N B I0 I Q p1 c1 p2 c2 b p3 c3 p4 c4 p7 c7 H h5 h6 h11 h3 h4 hg ho hx hr=>yW hg ho<|yI<|yF [(47,.bool (decide (i < (y9.length:Int))))]<|zL<|yL N ?_ ?_
 · intro hc3 N;refine zV<|yG<|yM<|yI<|yK<|yC 2 [] [(50,vS p7 y9 c7),(51,vI i)]<|bE N fun x hy8 N=>xR rfl rfl h11 hy8 ?_;intro ad ccs hat hrep;obtain ⟨p8,c8,rfl,h12⟩:=oQ hrep;refine yC 4 [] [(53,.pointer (some ad))]<|xN 0 hat [vI x.Part] (vI x.Part) rfl<|yB [] [(56,.bool (x.Part != y2))]<|zL<|yL N ?_ ?_
   · intro hc4 N;exact zAn<|oJ<|zU<|zL<|zP<|yB [] [(9,vI (W (i + 1)))]<|yT<|wN [(3,vP b 0),(4,vI y2),(5,vS p3 y3 c3),(6,vS p4 y4 c4),(7,vS p7 y9 c7),(8,vI hits),(9,vI (W (i + 1)))]<|ih hits (W (i + 1)) _ N H h5 h6 h11 h3 h4 hg ho hx hr
   intro hc4 N;refine zV<|zL<|yI ?_;obtain ⟨x1,hy9,N⟩:=zB N;obtain ⟨⟨y11,y12,y13⟩,hy10,N⟩:=zB N;refine vC [.p (vA (cProg y1 p1 c1 p2 c2)) [0],.p (vS p7 y9 c7) [],.p (vI i) [],.x (fun I' v hx=>∃ ad1 p9 c9,v=.pointer (some ad1)∧hx=[]∧(At I' ad1 (cInst x1 p9 c9))∧(S4 I' p9 x1.Point c9)),.x (fun I' v hx=>∃ p91 c91,v=vA (cInst x1 p91 c91)∧hx=[]∧(S4 I' p91 x1.Point c91)),.x (fun I' v hx=>∃ p10 c10,v=.tuple ⟨[vS p10 y11 c10,vI y12,.bool y13]⟩∧hx=[]∧(S4 I' p10 y11 c10)),.x (fun I' v hx=>∃ p101 c101,v=.tuple ⟨[vS p101 y11 c101,vI y12,.bool y13]⟩∧hx=[]∧(S4 I' p101 y11 c101)),.x (fun I' v hx=>∃ p1011 c1011,v=vS p1011 y11 c1011∧hx=[]∧(S4 I' p1011 y11 c1011)),.q (vI y12),.q (.bool y13),.x (fun I' v hx=>∃ p10111 c10111,v=vS p10111 y11 c10111∧hx=[]∧(S4 I' p10111 y11 c10111)),.p (vI y12) []] [[],[],[],[(1,false),(2,false)],[(3,false)],[(0,false),(4,false)],[(5,false)],[(6,false)],[(6,false)],[(6,false)],[(7,false)],[(8,false)]] [hB b (cProg y1 p1 c1 p2 c2)] [] [(9,false),(10,false),(11,false)] (yD [0]) ?_ ?_
   · refine Op<|Op<|Op<|Ox ?_<|Ox ?_<|Ox ?_<|Ox ?_<|Ox ?_<|Oq ?_<|Oq ?_<|Ox ?_<|Op<|On
     · intro I1 hf le1;refine yR [(59,vS p7 y9 c7),(60,vI i)] ?_;have h11:=h11.mono le1;refine xR rfl rfl h11 hy9 ?_;intro ad1 ccs1 hat1 hrep1;obtain ⟨p9,c9,rfl,h13⟩:=oQ hrep1;exact yP [] iR ⟨_,_,_,rfl,rfl,hat1,h13⟩
     · intro I1 hf le1;refine zF ?_;rintro _ _ ⟨ad1,p9,c9,rfl,rfl,hat1,h13⟩;exact yR [(61,.pointer (some ad1))]<|xN 0 hat1 (cInst x1 p9 c9) (vA (cInst x1 p9 c9)) rfl<|yP [] iR ⟨_,_,rfl,rfl,h13⟩
     · intro I1 hf le1;refine zF ?_;rintro _ _ ⟨rfl,rfl⟩;refine zF ?_;rintro _ _ ⟨p91,c91,rfl,rfl,h131⟩;refine yR [(58,vA (cProg y1 p1 c1 p2 c2)),(62,vA (cInst x1 p91 c91))] ?_;have H:=iS I1;have h3:=h3.mono le1;have h4:=h4.mono le1;refine xS (zLc y1 x1 _ hy10 h3 h4 h131) ?_;rintro I09 hs2 v2 k2 le9 - ⟨v013,v014,v015,rfl,rfl,h14,rfl,rfl⟩ -;have H:=H.trans le9;obtain ⟨p10,c10,rfl⟩:=h14.form;exact yP [] H ⟨_,_,rfl,rfl,h14⟩
     · intro I1 hf le1;refine zF ?_;rintro _ _ ⟨p10,c10,rfl,rfl,h14⟩;exact yR [(63,.tuple ⟨[vS p10 y11 c10,vI y12,.bool y13]⟩)]<|pM 7 [(57,.tuple ⟨[vS p10 y11 c10,vI y12,.bool y13]⟩)]<|yP [] iR ⟨_,_,rfl,rfl,h14⟩
     · intro I1 hf le1;refine zF ?_;rintro _ _ ⟨p101,c101,rfl,rfl,h141⟩;exact yR [(57,.tuple ⟨[vS p101 y11 c101,vI y12,.bool y13]⟩)]<|pM 8 [(64,vS p101 y11 c101)]<|yP [] iR ⟨_,_,rfl,rfl,h141⟩
     · intro I1 hf le1;refine zF ?_;rintro _ _ ⟨p101,c101,rfl,rfl,h141⟩;exact yR [(57,.tuple ⟨[vS p101 y11 c101,vI y12,.bool y13]⟩)]<|pM 9 [(65,vI y12)]<|xI iR
     · intro I1 hf le1;refine zF ?_;rintro _ _ ⟨p101,c101,rfl,rfl,h141⟩;exact yR [(57,.tuple ⟨[vS p101 y11 c101,vI y12,.bool y13]⟩)]<|pM 10 [(66,.bool y13)]<|xI iR
     intro I1 hf le1;refine zF ?_;rintro _ _ ⟨p1011,c1011,rfl,rfl,h1411⟩;exact yR [(64,vS p1011 y11 c1011)]<|pM 11 [(10,vS p1011 y11 c1011)]<|yP [] iR ⟨_,_,rfl,rfl,h1411⟩
   intro I010 le10;refine zF ?_;rintro _ _ ⟨rfl,rfl⟩;refine zF ?_;rintro _ _ ⟨p10111,c10111,rfl,rfl,h14111⟩;refine yR [(3,vP b 0),(4,vI y2),(5,vS p3 y3 c3),(6,vS p4 y4 c4),(7,vS p7 y9 c7),(8,vI hits),(9,vI i),(10,vS p10111 y11 c10111),(11,vI y12),(66,.bool y13)] ?_;have h5:=h5.mono le10;have h6:=h6.mono le10;have h11:=h11.mono le10;have h3:=h3.mono le10;have h4:=h4.mono le10;have H:=H.trans le10;refine yB [] []<|wW [(8,vI (W (hits + 1)))]<|yG<|yF [(13,vI 0)]<|wD<|wN [(3,vP b 0),(4,vI y2),(5,vS p3 y3 c3),(6,vS p4 y4 c4),(7,vS p7 y9 c7),(8,vI (W (hits + 1))),(9,vI i),(10,vS p10111 y11 c10111),(11,vI y12),(13,vI 0)] ?_;obtain ⟨o01,ho01,hMl⟩:=zB N;refine zLa y3 y11 0 o01 ho01 iR h5 h6 h11 h14111 h3 h4 (fun _ _ _ h=>hg _ _ _ h) (fun _ _ h=>ho _ _ h) ?_ ?_
   · intro I012  heq1 le12;subst o01;have h5:=h5.mono le12;have h6:=h6.mono le12;have h11:=h11.mono le12;have h3:=h3.mono le12;have h4:=h4.mono le12;have H:=H.trans le12;refine zU<|xD<|yC 2 [] [(82,vS p4 y4 c4),(83,vI y12)] ?_;obtain ⟨y15,hy13,N⟩:=zB hMl;refine tQ (zLi y4 y12 _ hy13 h6) ?_;intro I013 le13;have h5:=h5.mono le13;have h6:=h6.mono le13;have h11:=h11.mono le13;have h3:=h3.mono le13;have h4:=h4.mono le13;have H:=H.trans le13;refine yB [] [(85,.bool (!y15))]<|zL<|yL N ?_ ?_
     · intro hc7 N;exact yF [(2,vF)]<|xP<|yA<|zN<|zN<|hr _ _ _ _ (zC N).symm H ⟨_,_,(.tmp rfl ResV.nil),zT,⟨_,rfl,rfl,rfl⟩⟩
     intro hc7 N;exact zV<|zR<|zL<|zP<|yB [] [(9,vI (W (i + 1)))]<|yT<|wN [(3,vP b 0),(4,vI y2),(5,vS p3 y3 c3),(6,vS p4 y4 c4),(7,vS p7 y9 c7),(8,vI (W (hits + 1))),(9,vI (W (i + 1)))]<|ih (W (hits + 1)) (W (i + 1)) _ N H h5 h6 h11 h3 h4 hg ho hx hr
   intro r0 I9 hs9 m9 heq9 le9 hrs9;subst heq9;exact yA<|zN<|yA<|zN<|zN<|hr _ _ _ _ (zC hMl).symm (H.trans le9) hrs9
 intro hc3 N;exact vD<|wC zT<|yS [(6,vS p4 y4 c4),(8,vI hits)]<|hx _ _ (zC N).symm H
def zLV (code:(List UInt8)):Option (Bool):=do
 if (decide ((code.length:Int) > 1048576)) then
  pure true
 else
  let (y1,y2)←zLS code
  let y3←zLY y1 y2
  let y4←zLW y1 y2
  let t41←(do
    let y5←zLZ y1 y2
    let y6←zL0 y3 y5
    if (!y6) then
     pure true
    else
     let y7←zLX y1 y2
     let y8←zL0 y4 y7
     pure (!y8)
      : Option Bool)
  if t41 then
   pure false
  else
   let y9←pW y1
   match←zLL y1 y2 y3 y4 y9 0 0 with
   | .ret r0=>pure r0
   | .done hits1 =>
    pure ((decide (hits1 > 0)) == (decide ((y4.length:Int) > 0)))
theorem zLh:∀ code r,zLV code=some r→∀ {I:Imm}{p c},(S4 I p code c)→RT 8 [vS p code c] I [] (zY  r):=by
 intro code r N I p c h;unfold zLV at N;refine zX (fn:=Tryz.f8) (c:=(bodyOf Tryz.f8)) Tryz.func8 rfl rfl ?_;rintro B - -;have H:=iS I;refine yF []<|yG<|yF [(16,.bool (decide ((code.length:Int) > 1048576)))]<|zL<|yL N ?_ ?_
 · intro hc N;refine yF [(2,vY)]<|xP<|zN ?_;obtain rfl:=zC N;exact uM
 intro hc N;refine zV<|xD<|yC 1 [] [(18,vS p code c)] ?_;obtain ⟨⟨y1,y2⟩,hy,N⟩:=zB N;refine xS (zLd code _ hy h) ?_;rintro I0 hs2 v2 k2 le - ⟨v0,v01,rfl,rfl,⟨cs,rfl,h1⟩,rfl⟩ -;have H:=H.trans le;obtain ⟨p1,c1,p2,c2,rfl,h3,h4⟩:=oZ h1;refine yC 5 [] [(20,vA (cProg y1 p1 c1 p2 c2)),(21,vI y2)]<|wU zTwo ?_;intro b hb;refine xB 0 (cProg y1 p1 c1 p2 c2) [hB b (cProg y1 p1 c1 p2 c2)] rfl rfl rfl rfl<|yB [] [(4,vI y2)]<|xD<|yC 2 [0] [(22,vA (cProg y1 p1 c1 p2 c2)),(23,vI y2)]<|bE N fun y3 hy1 N=>xS (zLo y1 y2 _ hy1 h3 h4) ?_;rintro I01 hs2 v2 k2 le1 - ⟨v04,rfl,rfl,h5⟩ -;have h3:=h3.mono le1;have h4:=h4.mono le1;have H:=H.trans le1;obtain ⟨p3,c3,rfl⟩:=h5.form;refine yB [] [(5,vS p3 y3 c3)]<|xD<|yC 2 [0] [(25,vA (cProg y1 p1 c1 p2 c2)),(26,vI y2)]<|bE N fun y4 hy2 N=>xS (zLk y1 y2 _ hy2 h3 h4) ?_;rintro I02 hs2 v2 k2 le2 - ⟨v05,rfl,rfl,h6⟩ -;have h5:=h5.mono le2;have h3:=h3.mono le2;have h4:=h4.mono le2;have H:=H.trans le2;obtain ⟨p4,c4,rfl⟩:=h6.form;refine yB [] [(6,vS p4 y4 c4)]<|yG<|yI ?_;obtain ⟨o0,ho0,hMc⟩:=zB N;refine yU (fun I' hs' m'=>∃ (t41:Bool),o0=t41∧I02.le I'∧hs'=[hB b (cProg y1 p1 c1 p2 c2)]∧m'=[(3,vP b 0),(4,vI y2),(5,vS p3 y3 c3),(6,vS p4 y4 c4),(41,.bool t41)]) ?_ ?_
 · have H:=iS I02;refine zP<|yC 3 [0] [(28,vS p3 y3 c3),(29,vA (cProg y1 p1 c1 p2 c2)),(30,vI y2)] ?_;obtain ⟨y5,hy3,N⟩:=zB ho0;refine xS (zLp y1 y2 _ hy3 h3 h4) ?_;rintro I04 hs2 v2 k2 le3 - ⟨v06,rfl,rfl,h7⟩ -;have h5:=h5.mono le3;have h6:=h6.mono le3;have h3:=h3.mono le3;have h4:=h4.mono le3;have H:=H.trans le3;obtain ⟨p5,c5,rfl⟩:=h7.form;obtain ⟨y6,hy4,N⟩:=zB N;refine tQ (zLf y3 y5 _ hy4 h5 h7) ?_;intro I05 le4;have h6:=h6.mono le4;have h3:=h3.mono le4;have h4:=h4.mono le4;have H:=H.trans le4;refine yC 7 [] [(34,.bool (!y6))] ?_;cases hc1:(!y6) with
   | true =>
    have hM0:=zS hc1 N
    try rw [hc1]
    exact yB [] [(41,vY)]<|yS [(3,vP b 0),(4,vI y2),(5,vS p3 y3 c3),(6,vS p4 y4 c4),(41,vY)]<|zW (ct hM0 H)
   | false =>
    have hM01:=zQ hc1 N
    try rw [hc1]
    refine yC 10 [0] [(35,vS p4 y4 c4),(36,vA (cProg y1 p1 c1 p2 c2)),(37,vI y2)] ?_;obtain ⟨y7,hy5,N⟩:=zB hM01;refine xS (zLl y1 y2 _ hy5 h3 h4) ?_;rintro I06 hs2 v2 k2 le5 - ⟨v08,rfl,rfl,h9⟩ -;have h6:=h6.mono le5;have H:=H.trans le5;obtain ⟨p6,c6,rfl⟩:=h9.form;obtain ⟨y8,hy6,N⟩:=zB N;refine tQ (zLf y4 y7 _ hy6 h6 h9) ?_;intro I07 le6;have H:=H.trans le6;exact yB [] [(41,.bool (!y8))]<|yS [(3,vP b 0),(4,vI y2),(5,vS p3 y3 c3),(6,vS p4 y4 c4),(41,.bool (!y8))]<|zW (ct N H)
 rintro I03 hs2 m2 ⟨t41,heq,le7,rfl,rfl⟩;subst o0;have h5:=h5.mono le7;have h6:=h6.mono le7;have h3:=h3.mono le7;have h4:=h4.mono le7;refine zL<|yL hMc ?_ ?_
 · intro hc2 N;refine yF [(2,vF)]<|xP<|zN ?_;obtain rfl:=zC N;exact uM
 intro hc2 N;refine zV<|xD<|yC 1 [0] [(42,vA (cProg y1 p1 c1 p2 c2))]<|bE N fun y9 hy7 N=>xS (zFb y1 _ hy7 h3 h4) ?_;rintro I08 hs2 v2 k2 le8 - ⟨v010,rfl,rfl,h11⟩ -;have h5:=h5.mono le8;have h6:=h6.mono le8;have h3:=h3.mono le8;have h4:=h4.mono le8;obtain ⟨p7,c7,rfl⟩:=h11.form;refine yB [] [(7,vS p7 y9 c7)]<|wW [(8,vI 0)]<|yG<|yF [(9,vI 0)]<|wD<|wN [(3,vP b 0),(4,vI y2),(5,vS p3 y3 c3),(6,vS p4 y4 c4),(7,vS p7 y9 c7),(8,vI 0),(9,vI 0)] ?_;obtain ⟨o02,ho02,hMl1⟩:=zB N;refine zLb y1 y2 y3 y4 y9 0 0 o02 ho02 iR h5 h6 h11 h3 h4 (fun _ _ _ h=>h) (fun _ _ h=>h) ?_ ?_
 · intro I014 hits1 heq2 le14;subst o02;refine zU<|wW [(2,.bool ((decide (hits1 > 0)) == (decide ((y4.length:Int) > 0))))]<|zL<|xG ?_;obtain rfl:=zC hMl1;exact uM
 intro r0 I9 hs9 m9 heq9 le9 hrs9;subst heq9;refine yA<|zN ?_;obtain rfl:=zC hMl1;exact xF hrs9
end Go.LN
namespace Go.LN
theorem zMR {α:Type}{s:List α}{f i:Nat} (hf:f ≤ i) (hi:i ≤ s.length):slc s (f:Int) (i:Int)=some ((s.take i).drop f):=by
  unfold slc;rw [if_pos (by omega)];simp
end Go.LN
namespace Go.LN
theorem implValidP (P:zH) (h:BG P):zLU P=some (validP P):=by
  unfold zLU validP;rw [implInstances P h];cases progB P <;> rfl
end Go.LN
namespace Go.LN
theorem zMA (l:List Int) (h:l.length ≤ 1048576):zL0 l l=some true:=by
  unfold zL0;have hl:=jZ (n:=l.length) (f:=zLP l l) (P:=fun _=>true) (fun i hi=>by
      rw [zLP];have h1:((i:Int) < (l.length:Int)):=by omega
      simp only [h1,dT,if_true,xC hi,oB,oS,bne_self_eq_false,bF,if_false];rw [tP (by omega)]) (by rw [zLP]; simp)
  rw [hl];have:((List.range l.length).all fun _=>true)=true:=by simp
  simp [this]
end Go.LN
namespace Go.LN
theorem zMH:∀ {ls:List zE}{p r:List Int},inP ls p r→r.length=ls.length
  | [],_,[],_=>rfl
  | l::ls,p,v::r,h=>by rw [List.length_cons,List.length_cons,zMH h.2]
  | [],_,_::_,h=>h.elim
  | _::_,_,[],h=>h.elim
end Go.LN
namespace Go.LN
theorem zLt (q:List Int) (hq:q.length ≤ 4) (nest:List zE):∀ (ls:List zE) (n:Nat),(∀ x ∈ ls,OL x)→nest.drop n=ls→inP ls (q.take n) (q.drop n)→n ≤ nest.length→nest.length ≤ 4→zLN nest q (n:Int)=some (.done ())
  | [],n,hv,hd,h,hn,h4=>by
    rw [zLN]
    have:¬((n:Int) < (nest.length:Int)):=by have:=dN.1 hd; omega
    simp only [this,dF,bF,if_false,oP]
  | l::ls,n,hv,hd,h,hn,h4=>by
    obtain ⟨hlt,hx,hd'⟩:=zDr hd
    have hnq:n < q.length:=by
      rcases Nat.lt_or_ge n q.length with h' | h'
      · exact h'
      · rw [dN.2 h'] at h; exact h.elim
    rw [gC hnq] at h
    obtain ⟨⟨k1,k2⟩,k3⟩:=h
    rw [zLN]
    have hc:((n:Int) < (nest.length:Int)):=by omega
    have hsl:slc q 0 (n:Int)=some (q.take n):=by
      have:=zMR (s:=q) (f:=0) (i:=n) (Nat.zero_le _) (by omega)
      rw [nZ,List.drop_zero] at this
      exact this
    obtain ⟨o1,o2⟩:=hv l (List.mem_cons_self ..)
    have hsp:=implSpan l (q.take n) (by rw [List.length_take]; omega) o1 o2
    have e1:¬(q[n] < loF l (q.take n)):=by omega
    have e2:¬(q[n] ≥ hiF l (q.take n)):=by omega
    simp only [hc,dT,if_true,xC hlt,hx,hsl,hsp,xC hnq,e1,e2,dF,bF,if_false,oB,oS,oP]
    rw [tP (by omega)]
    refine zLt q hq nest ls (n + 1) (fun x hx=>hv x (List.mem_cons_of_mem _ hx)) hd' ?_ (by omega) h4
    rw [List.take_succ_eq_append_getElem hnq]
    exact k3
theorem implPointIn {nest:List zE} (hb:BN nest) (h:nestB nest=true) {q:List Int} (hp:ptB q=true) (hq:inP nest [] q):zL2 nest q=some true:=by
  have hl:=zMH hq;obtain ⟨n1,n2⟩:=zE7 h;have hpl:=zLt q (by omega) nest nest 0 n2 rfl hq (Nat.zero_le _) n1;rw [nZ] at hpl;unfold zL2;simp only [implNest nest hb,h,implPoint q (by omega),hp,hl,hpl,oB,oS,oP,bT,bF,if_false,bne_self_eq_false]
theorem zLu {i n:Nat} (h:i < n) (hn:n ≤ 1000000):wA (i:Int) 0 (W ((n:Int) - 1))=some true:=by
  rw [nF,tR (by omega) (by omega)];have h1:(0:Int) ≤ (i:Int):=by omega
  have h2:(i:Int) ≤ (n:Int) - 1:=by omega
  simp [h1,h2]
end Go.LN
namespace Go.LN
theorem cellsV {P:zH} (hb:BG P) (hv:validP P=true) {z:zO} (h:InP P z):zLR P z=some (rdI P z,wrI P z,true):=by
  have hpl:=hb.2.1;have hB:(gP P z.Part.toNat).Body.length ≤ 100000:=by
    have hp:=h.part;have hi:z.Part.toNat < P.Parts.length:=by omega
    have hg:gP P z.Part.toNat=P.Parts[z.Part.toNat]:=by simp [gP,hi]
    rw [hg]; exact (hb.2.2 _ (gM hi)).2.1
  have e1:wA z.Part 0 (W ((P.Parts.length:Int) - 1))=some true:=by
    have:=h.part;rw [show z.Part=(z.Part.toNat:Int) by omega];exact zLu (by omega) (by omega)
  have e2:wA z.Stmt 0 (W (((gP P z.Part.toNat).Body.length:Int) - 1))=some true:=by
    have:=h.stmt;rw [show z.Stmt=(z.Stmt.toNat:Int) by omega];exact zLu (by omega) (by omega)
  unfold zLR zLO;simp only [implValidP P hb,hv,e1,e2,h.idxP,implPointIn h.pin.1 h.pin.2.1 h.pin.2.2.1 h.pin.2.2.2,touchedV hb hv h,oB,oS,oP,bT,bF,if_false,if_true,id]
end Go.LN
namespace Go.LN
theorem lnHasV (l:List Int) (n:Int) (hl:l.length ≤ 1048576):zL3 l n=some (hasB l n):=by
  unfold zL3;have h:=zLG (R:=Bool) (r0:=true) (n:=l.length) (f:=zLT l n) (P:=fun i=>l.getD i 0 == n) (fun i hi=>by
      rw [zLT];have h1:((i:Int) < (l.length:Int)):=by omega
      have hg:l.getD i 0=l[i]:=by simp [hi]
      simp only [h1,dT,if_true,xC hi,oB,oS,oP,hg];rw [tP (by omega)]) (by rw [zLT]; simp)
  rw [zKq l (fun x=>x == n) 0] at h;rw [h];unfold hasB;cases l.any fun x=>x == n <;> rfl
end Go.LN
namespace Go.LN
def setA:List Bool→List Int→List Bool
  | f,[]=>f
  | f,c::cs=>setA (f.set c.toNat true) cs
theorem zL6:∀ (cs:List Int) (f:List Bool),(setA f cs).length=f.length
  | [],f=>rfl
  | c::cs,f=>by rw [setA,zL6 cs,List.length_set]
theorem zLv:∀ (cs ds:List Int) (f:List Bool),setA f (cs ++ ds)=setA (setA f cs) ds
  | [],ds,f=>rfl
  | c::cs,ds,f=>by rw [List.cons_append,setA,zLv cs ds,setA]
theorem zML {f:List Bool}{i k:Nat}{b:Bool} (hi:i < f.length):(f.set i b).getD k false=if i=k then b else f.getD k false:=by
  rw [List.getD_eq_getElem?_getD,List.getElem?_set];by_cases h:i=k
  · subst h; simp [hi]
  · simp [h]
theorem zLw {k:Nat}:∀ (cs:List Int) (f:List Bool),(∀ c ∈ cs,0 ≤ c∧c < (f.length:Int))→((setA f cs).getD k false=true ↔ f.getD k false=true∨(k:Int) ∈ cs)
  | [],f,_=>by simp [setA]
  | c::cs,f,h=>by
    have hc:=h c (List.mem_cons_self ..)
    rw [setA,zLw cs _ (fun d hd=>by rw [List.length_set]; exact h d (List.mem_cons_of_mem _ hd)),zML (by omega),List.mem_cons]
    by_cases e:c.toNat=k
    · have:(k:Int)=c:=by omega
      simp [e,this]
    · have:¬((k:Int)=c):=by omega
      simp [e,this]
def repF (n:Nat):List Bool:=List.replicate n false
theorem zMM (n k:Nat):(repF n).getD k false=false:=by
  unfold repF;rw [List.getD_eq_getElem?_getD,List.getElem?_replicate];split <;> rfl
def choF:List Bool→Nat→List Int
  | [],_=>[]
  | b::l,i=>(if b then [(i:Int)] else []) ++ choF l (i + 1)
theorem zMI {c:Int}:∀ {l:List Bool}{i:Nat},c ∈ choF l i ↔ ∃ k:Nat,c=((i + k:Nat):Int)∧l.getD k false=true
  | [],i=>by simp [choF]
  | b::l,i=>by
    rw [choF,List.mem_append,zMI (l:=l)]
    constructor
    · rintro (h | ⟨k,h1,h2⟩)
      · cases b with
        | false=>simp at h
        | true=>exact ⟨0,by simpa using h,rfl⟩
      · exact ⟨k + 1,by rw [h1]; omega,by simpa using h2⟩
    · rintro ⟨k,h1,h2⟩
      cases k with
      | zero =>
        have hb:b=true:=by simpa using h2
        left; rw [hb]; simpa using h1
      | succ k=>exact .inr ⟨k,by rw [h1]; omega,by simpa using h2⟩
theorem zLx:∀ (l:List Bool) (i:Nat),(choF l i).length ≤ l.length
  | [],_=>Nat.le_refl _
  | b::l,i=>by
    have:=zLx l (i + 1)
    rw [choF,lA,List.length_cons]
    cases b <;> simp <;> omega
theorem implCho (l:List Bool) (hl:l.length ≤ 1000000):zL1 l=some (choF l 0):=by
  have key:∀ (j i:Nat) (o:List Int),i + j=l.length→o.length ≤ i→zLQ l o (i:Int)=some (o ++ choF (l.drop i) i):=by
    intro j
    induction j with
    | zero =>
      intro i o hi ho;rw [zLQ];have:¬((i:Int) < (l.length:Int)):=by omega
      simp only [this,dF,bF,if_false,oP,id];rw [dN.2 (by omega),choF,List.append_nil]
    | succ j ih =>
      intro i o hi ho;rw [zLQ];have hlt:i < l.length:=by omega
      have hc:((i:Int) < (l.length:Int)):=by omega
      rw [gC hlt,choF];simp only [hc,dT,if_true,xC hlt,oB,oS,oP,id,oI (show (o.length + [(i:Int)].length) * 8 ≤ 140737488355328 by simp; omega)];rw [tP (by omega)];cases l[i] with
      | false =>
        simp only [bF,if_false,oS];rw [ih (i + 1) o (by omega) (by omega),List.nil_append]
      | true =>
        simp only [if_true,oS];rw [ih (i + 1) _ (by omega) (by rw [lA]; simp; omega),List.append_assoc]
  have:=key _ 0 [] (Nat.zero_add _) (Nat.le_refl _);rw [nZ,List.drop_zero,List.nil_append] at this;unfold zL1;rw [this]; rfl
theorem specCho (l:List Bool) (hl:l.length ≤ 1000000):gK l=some (choF l 0):=by
  have key:∀ (j i:Nat) (o:List Int),i + j=l.length→o.length ≤ i→nY l o (i:Int)=some (o ++ choF (l.drop i) i):=by
    intro j
    induction j with
    | zero =>
      intro i o hi ho;rw [nY];have:¬((i:Int) < (l.length:Int)):=by omega
      simp only [this,dF,bF,if_false,oP,id];rw [dN.2 (by omega),choF,List.append_nil]
    | succ j ih =>
      intro i o hi ho;rw [nY];have hlt:i < l.length:=by omega
      have hc:((i:Int) < (l.length:Int)):=by omega
      rw [gC hlt,choF];simp only [hc,dT,if_true,xC hlt,oB,oS,oP,id,oI (show (o.length + [(i:Int)].length) * 8 ≤ 140737488355328 by simp; omega)];rw [tP (by omega)];cases l[i] with
      | false =>
        simp only [bF,if_false,oS];rw [ih (i + 1) o (by omega) (by omega),List.nil_append]
      | true =>
        simp only [if_true,oS];rw [ih (i + 1) _ (by omega) (by rw [lA]; simp; omega),List.append_assoc]
  have:=key _ 0 [] (Nat.zero_add _) (Nat.le_refl _);rw [nZ,List.drop_zero,List.nil_append] at this;unfold gK;rw [this]; rfl
def nCel (P:zH):Nat:=(totL P.Arrays 0).toNat
theorem zL8 {P:zH} (hv:validP P=true):totL P.Arrays 0=(nCel P:Int)∧nCel P ≤ 144:=by
  obtain ⟨t1,t2,t3⟩:=zI5 hv;unfold nCel;omega
theorem zMQ (n:Nat) (h:n ≤ 1000000):mkrow 1 (n:Int) (false:Bool)=some (repF n):=zLK n h
theorem zLs {f:List Bool}{c:Int} (h0:0 ≤ c) (h1:c < (f.length:Int)):∃ b,idx f c=some b:=by
  obtain ⟨k,rfl⟩:∃ k:Nat,c=(k:Int):=⟨c.toNat,by omega⟩;exact ⟨_,xC (by omega)⟩
theorem zL5 (n:Nat):(repF n).length=n:=List.length_replicate ..
theorem zMS (x:List Int) (hx:x.length ≤ 1048576):∀ (j i:Nat) (f:List Bool),i + j=x.length→(∀ c ∈ x,0 ≤ c∧c < (f.length:Int))→pL x f (i:Int)=some (setA f (x.drop i)):=by
  intro j
  induction j with
  | zero =>
    intro i f hi hf;rw [pL];have:¬((i:Int) < (x.length:Int)):=by omega
    simp only [this,dF,bF,if_false,oP,id];rw [dN.2 (by omega),setA]
  | succ j ih =>
    intro i f hi hf;rw [pL];have hlt:i < x.length:=by omega
    have hc:((i:Int) < (x.length:Int)):=by omega
    obtain ⟨w1,w2⟩:=hf _ (gM hlt);obtain ⟨b,hbx⟩:=zLs (f:=f) w1 w2;simp only [hc,dT,if_true,xC hlt,hbx,oB,oS,oP];rw [tP (by omega),ih (i + 1) _ (by omega) (by rw [List.length_set]; exact hf),gC hlt,setA]
def ofPart (P:zH) (part:Int) (l:List zO):List zO:=l.filter fun z=>z.Part == part
theorem zME {P:zH} (hb:BG P) (hv:validP P=true) (part:Int):∀ (j i:Nat) (f g:List Bool),i + j=(progI P).length→f.length=nCel P→g.length=nCel P→rB (trcP P) part f g (i:Int)=some (setA f ((ofPart P part ((progI P).drop i)).flatMap (rdI P)),setA g ((ofPart P part ((progI P).drop i)).map (wrI P))):=by
  have hlen:=(zBX hv).2.2.2;have hn:=zL8 hv;intro j
  induction j with
  | zero =>
    intro i f g hi hf hg;rw [rB];have:¬((i:Int) < ((trcP P).list.length:Int)):=by show ¬((i:Int) < ((progI P).length:Int)); omega
    simp only [this,dF,bF,if_false,oP,id];rw [dN.2 (by omega)];rfl
  | succ j ih =>
    intro i f g hi hf hg;rw [rB];have hlt:i < (progI P).length:=by omega
    have hc:((i:Int) < ((progI P).length:Int)):=by omega
    have hz:=zJ0 hb hv (gM hlt);have hrl:=zLI hz;obtain ⟨r1,w1,w2⟩:=zLJ hv hz;obtain ⟨b,hbx⟩:=zLs (f:=g) w1 (by omega);have hr:idx ((progI P).map (rdI P)) (i:Int)=some (rdI P (progI P)[i]):=by rw [xC (by rw [lM]; exact hlt)]; simp
    have hw:idx ((progI P).map (wrI P)) (i:Int)=some (wrI P (progI P)[i]):=by rw [xC (by rw [lM]; exact hlt)]; simp
    have h2:=zMS (rdI P (progI P)[i]) (by omega) _ 0 f (Nat.zero_add _) (fun c hc=>by have:=r1 c hc; omega);rw [nZ,List.drop_zero] at h2;have hn1:=ih (i + 1) f g (by omega) hf hg;have hn2:=ih (i + 1) (setA f (rdI P (progI P)[i])) (g.set (wrI P (progI P)[i]).toNat true) (by omega) (by rw [zL6]; exact hf) (by rw [List.length_set]; exact hg);rw [show trcP P=⟨P,progI P,(progI P).map (rdI P),(progI P).map (wrI P)⟩ from rfl] at hn1 hn2 ⊢;rw [gC hlt];simp only [hc,dT,if_true,xC hlt,hr,hw,hbx,h2,oB,oS,oP];rw [tP (by omega)];by_cases e:(progI P)[i].Part=part
    · have e1:((progI P)[i].Part != part)=false:=by simpa using e
      have e2:((progI P)[i].Part == part)=true:=by simpa using e
      simp only [e1,bF,if_false];rw [hn2];unfold ofPart;rw [List.filter_cons_of_pos (p:=fun z:zO=>z.Part == part) e2,List.flatMap_cons,List.map_cons,zLv,setA]
    · have e1:((progI P)[i].Part != part)=true:=by simpa using e
      have e2:¬(((progI P)[i].Part == part)=true):=by simpa using e
      simp only [e1,if_true];rw [hn1];unfold ofPart;rw [List.filter_cons_of_neg (p:=fun z:zO=>z.Part == part) e2]
def inR (P:zH) (part:Int):Prop:=validP P=true∧0 ≤ part∧part < (P.Parts.length:Int)
instance (P:zH) (part:Int):Decidable (inR P part):=inferInstanceAs (Decidable (_∧_))
def pwF (P:zH) (part:Int):List Int:=if inR P part then choF (setA (repF (nCel P)) ((ofPart P part (progI P)).map (wrI P))) 0 else []
def prF (P:zH) (part:Int):List Int:=if inR P part then choF (setA (repF (nCel P)) ((ofPart P part (progI P)).flatMap (rdI P))) 0 else []
theorem cellsOfV {P:zH} (hb:BG P) (hv:validP P=true) (part:Int):gF (trcP P) part=some (setA (repF (nCel P)) ((ofPart P part (progI P)).flatMap (rdI P)),setA (repF (nCel P)) ((ofPart P part (progI P)).map (wrI P))):=by
  have hn:=zL8 hv;have hl:=zME hb hv part _ 0 (repF (nCel P)) (repF (nCel P)) (Nat.zero_add _) (zL5 _) (zL5 _);rw [nZ,List.drop_zero] at hl;unfold gF;simp only [show (trcP P).Program=P from rfl,implCells P hb.1,hn.1,zMQ _ (show nCel P ≤ 1000000 by omega),hl,oB,oS,oP]
theorem isPartV {P:zH} (hb:BG P) (part:Int):gE P part=some (decide (0 ≤ part) && decide (part ≤ (P.Parts.length:Int) - 1)):=by
  have:=hb.2.1;unfold gE;simp only [nF,tR (x:=(P.Parts.length:Int) - 1) (by omega) (by omega),oB,oS,oP,id]
theorem implPw (P:zH) (hb:BG P) (part:Int):zLW P part=some (pwF P part):=by
  unfold zLW pwF;rw [implTrace P hb];cases hv:validP P with
  | false =>
    have:¬inR P part:=fun h=>by have h1:=h.1; rw [hv] at h1; cases h1
    simp [this]
  | true =>
    have hn:=zL8 hv;have hch:=implCho (setA (repF (nCel P)) ((ofPart P part (progI P)).map (wrI P))) (by rw [zL6,zL5]; omega);by_cases h:inR P part
    · rw [if_pos h];have e1:=h.2.1;have e2:part ≤ (P.Parts.length:Int) - 1:=by have:=h.2.2; omega
      simp only [if_true,oB,oS,oP,bT,bF,if_false,isPartV hb,e1,e2,dT,Bool.and_self,cellsOfV hb hv,hch,id]
    · rw [if_neg h];have e:(!(decide (0 ≤ part) && decide (part ≤ (P.Parts.length:Int) - 1)))=true:=by
        cases hd:(decide (0 ≤ part) && decide (part ≤ (P.Parts.length:Int) - 1)) with
        | false=>rfl
        | true =>
          simp only [bA,decide_eq_true_eq] at hd;exact absurd ⟨hv,hd.1,by omega⟩ h
      simp only [if_true,oB,oS,oP,bT,bF,if_false,isPartV hb,e]
theorem implPr (P:zH) (hb:BG P) (part:Int):zLY P part=some (prF P part):=by
  unfold zLY prF;rw [implTrace P hb];cases hv:validP P with
  | false =>
    have:¬inR P part:=fun h=>by have h1:=h.1; rw [hv] at h1; cases h1
    simp [this]
  | true =>
    have hn:=zL8 hv;have hch:=implCho (setA (repF (nCel P)) ((ofPart P part (progI P)).flatMap (rdI P))) (by rw [zL6,zL5]; omega);by_cases h:inR P part
    · rw [if_pos h];have e1:=h.2.1;have e2:part ≤ (P.Parts.length:Int) - 1:=by have:=h.2.2; omega
      simp only [if_true,oB,oS,oP,bT,bF,if_false,isPartV hb,e1,e2,dT,Bool.and_self,cellsOfV hb hv,hch,id]
    · rw [if_neg h];have e:(!(decide (0 ≤ part) && decide (part ≤ (P.Parts.length:Int) - 1)))=true:=by
        cases hd:(decide (0 ≤ part) && decide (part ≤ (P.Parts.length:Int) - 1)) with
        | false=>rfl
        | true =>
          simp only [bA,decide_eq_true_eq] at hd;exact absurd ⟨hv,hd.1,by omega⟩ h
      simp only [if_true,oB,oS,oP,bT,bF,if_false,isPartV hb,e]
theorem zMB {n:Nat}{cs:List Int}{c:Int} (h:∀ c ∈ cs,0 ≤ c∧c < (n:Int)):c ∈ choF (setA (repF n) cs) 0 ↔ c ∈ cs:=by
  rw [zMI];have h':∀ c ∈ cs,0 ≤ c∧c < ((repF n).length:Int):=by rw [zL5]; exact h
  constructor
  · rintro ⟨k,h1,h2⟩;rw [Nat.zero_add] at h1;rw [zLw cs _ h',zMM] at h2;rw [h1];rcases h2 with h2 | h2
    · cases h2
    · exact h2
  · intro hc;have:=h c hc;refine ⟨c.toNat,by omega,?_⟩;rw [zLw cs _ h'];exact .inr (by rw [show ((c.toNat:Nat):Int)=c by omega]; exact hc)
theorem zL4 {P:zH}{part:Int}{z:zO}:z ∈ ofPart P part (progI P) ↔ z ∈ progI P∧z.Part=part:=by
  unfold ofPart;rw [List.mem_filter];simp
theorem zMN {P:zH} (hb:BG P) {part:Int} (h:inR P part) {c:Int}:c ∈ pwF P part ↔ ∃ z ∈ progI P,z.Part=part∧wrI P z=c:=by
  have hn:=zL8 h.1;unfold pwF;rw [if_pos h,zMB,List.mem_map]
  · constructor
    · rintro ⟨z,hz,e⟩;obtain ⟨h1,h2⟩:=zL4.1 hz;exact ⟨z,h1,h2,e⟩
    · rintro ⟨z,h1,h2,e⟩;exact ⟨z,zL4.2 ⟨h1,h2⟩,e⟩
  · intro c hc;obtain ⟨z,hz,rfl⟩:=List.mem_map.1 hc;have:=(zLJ h.1 (zJ0 hb h.1 (zL4.1 hz).1)).2;omega
theorem zMT {P:zH} (hb:BG P) {part:Int} (h:inR P part) {c:Int}:c ∈ prF P part ↔ ∃ z ∈ progI P,z.Part=part∧c ∈ rdI P z:=by
  have hn:=zL8 h.1;unfold prF;rw [if_pos h,zMB,List.mem_flatMap]
  · constructor
    · rintro ⟨z,hz,e⟩;obtain ⟨h1,h2⟩:=zL4.1 hz;exact ⟨z,h1,h2,e⟩
    · rintro ⟨z,h1,h2,e⟩;exact ⟨z,zL4.2 ⟨h1,h2⟩,e⟩
  · intro c hc;obtain ⟨z,hz,hc⟩:=List.mem_flatMap.1 hc;have:=(zLJ h.1 (zJ0 hb h.1 (zL4.1 hz).1)).1 c hc;omega
theorem zMJ (P:zH) (part:Int):(pwF P part).length ≤ 1000:=by
  unfold pwF;split
  · rename_i h;have hn:=zL8 h.1;have:=zLx (setA (repF (nCel P)) ((ofPart P part (progI P)).map (wrI P))) 0;rw [zL6,zL5] at this;omega
  · simp
theorem zMK (P:zH) (part:Int):(prF P part).length ≤ 1000:=by
  unfold prF;split
  · rename_i h;have hn:=zL8 h.1;have:=zLx (setA (repF (nCel P)) ((ofPart P part (progI P)).flatMap (rdI P))) 0;rw [zL6,zL5] at this;omega
  · simp
end Go.LN
namespace Go.LN
end Go.LN
namespace Go.LN
theorem zMF {P:zH}{i:Nat} (h:i < (progI P).length):idx ((progI P).map (useI P)) (i:Int)=some ⟨rdI P (progI P)[i],wrI P (progI P)[i]⟩:=by
  rw [xC (by rw [lM]; exact h)];simp [useI]
theorem zMU {P:zH}{i:Nat} (hi:i < (progI P).length) (hl:(rdI P (progI P)[i]).length ≤ 1000):∀ (j k:Nat) (f:List Bool),k + j=(rdI P (progI P)[i]).length→(∀ c ∈ rdI P (progI P)[i],0 ≤ c∧c < (f.length:Int))→mX ((progI P).map (useI P)) (i:Int) f (k:Int)=some (setA f ((rdI P (progI P)[i]).drop k)):=by
  intro j
  induction j with
  | zero =>
    intro k f hk hf;rw [mX];have:¬((k:Int) < ((rdI P (progI P)[i]).length:Int)):=by omega
    simp only [zMF hi,this,dF,bF,if_false,oB,oS,oP,id];rw [dN.2 (by omega)]; rfl
  | succ j ih =>
    intro k f hk hf;rw [mX];have hlt:k < (rdI P (progI P)[i]).length:=by omega
    have hc:((k:Int) < ((rdI P (progI P)[i]).length:Int)):=by omega
    have hr:=hf _ (gM hlt);obtain ⟨b,hbx⟩:=zLs (f:=f) hr.1 hr.2;simp only [zMF hi,hc,dT,if_true,xC hlt,hbx,oB,oS,oP];rw [tP (by omega),ih (k + 1) _ (by omega) (fun c hc=>by rw [List.length_set]; exact hf c hc),gC hlt,setA]
theorem zMV {P:zH} (hb:BG P) (hv:validP P=true) (part:Int) (w:Bool):∀ (j i:Nat) (f:List Bool),i + j=(progI P).length→f.length=nCel P→pG part w (progI P) ((progI P).map (useI P)) f (i:Int)=some (setA f (if w then (ofPart P part ((progI P).drop i)).map (wrI P) else (ofPart P part ((progI P).drop i)).flatMap (rdI P))):=by
  have hlen:=(zBX hv).2.2.2;have hn:=zL8 hv;intro j
  induction j with
  | zero =>
    intro i f hi hf;rw [pG];have:¬((i:Int) < ((progI P).length:Int)):=by omega
    simp only [this,dF,bF,if_false,oP,id];rw [dN.2 (by omega)];cases w <;> rfl
  | succ j ih =>
    intro i f hi hf;rw [pG];have hlt:i < (progI P).length:=by omega
    have hc:((i:Int) < ((progI P).length:Int)):=by omega
    have hz:=zJ0 hb hv (gM hlt);have hrl:=zLI hz;obtain ⟨r1,w1,w2⟩:=zLJ hv hz;obtain ⟨b,hbx⟩:=zLs (f:=f) w1 (by omega);have h2:=zMU hlt (by omega) _ 0 f (Nat.zero_add _) (fun c hc=>by have:=r1 c hc; omega);rw [nZ,List.drop_zero] at h2;rw [gC hlt];simp only [hc,dT,if_true,xC hlt,oB,oS,oP];rw [tP (by omega)];by_cases e:(progI P)[i].Part=part
    · have e1:((progI P)[i].Part != part)=false:=by simpa using e
      have e2:((progI P)[i].Part == part)=true:=by simpa using e
      have eo:ofPart P part ((progI P)[i]::(progI P).drop (i + 1))=(progI P)[i]::ofPart P part ((progI P).drop (i + 1)):=List.filter_cons_of_pos (p:=fun z:zO=>z.Part == part) e2;rw [eo];simp only [e1,bF,if_false];cases w with
      | true =>
        simp only [if_true,zMF hlt,hbx,oS];have:=ih (i + 1) (f.set (wrI P (progI P)[i]).toNat true) (by omega) (by rw [List.length_set]; exact hf);rw [if_pos rfl] at this;rw [this,List.map_cons,setA]
      | false =>
        simp only [bF,if_false,h2,oS];have:=ih (i + 1) (setA f (rdI P (progI P)[i])) (by omega) (by rw [zL6]; exact hf);rw [if_neg (by decide)] at this;rw [this,List.flatMap_cons,zLv]
    · have e1:((progI P)[i].Part != part)=true:=by simpa using e
      have e2:¬(((progI P)[i].Part == part)=true):=by simpa using e
      have eo:ofPart P part ((progI P)[i]::(progI P).drop (i + 1))=ofPart P part ((progI P).drop (i + 1)):=List.filter_cons_of_neg (p:=fun z:zO=>z.Part == part) e2;rw [eo];simp only [e1,if_true];exact ih (i + 1) f (by omega) hf
theorem zLy:∀ (n i:Nat),choF (repF n) i=[]
  | 0,i=>rfl
  | n + 1,i=>by
    have e:repF (n + 1)=false::repF n:=rfl
    rw [e,choF,zLy n]; rfl
theorem zMC {P:zH} (hb:BG P) {part:Int} (hv:validP P=true) (h:¬inR P part):ofPart P part (progI P)=[]:=by
  unfold ofPart;rw [List.filter_eq_nil_iff];intro z hz e;have hp:=(zJ0 hb hv hz).part;have:z.Part=part:=by simpa using e
  exact h ⟨hv,by omega,by omega⟩
theorem spec11 (P:zH) (hb:BG P) (hv:validP P=true) (part:Int) (w:Bool):zAc P part w=some (if w then pwF P part else prF P part):=by
  have hn:=zL8 hv;have h1:=zMV hb hv part w _ 0 (repF (nCel P)) (Nat.zero_add _) (zL5 _);rw [nZ,List.drop_zero] at h1;unfold zAc;simp only [specTotal P hb.1,hn.1,zMQ _ (show nCel P ≤ 1000000 by omega),specInsts P hv,specUses P hb hv,h1,oB,oS,oP,id];rw [specCho _ (by rw [zL6,zL5]; omega)];unfold pwF prF;by_cases h:inR P part
  · rw [if_pos h,if_pos h];cases w <;> rfl
  · rw [if_neg h,if_neg h,zMC hb hv h];cases w <;> exact congrArg some (zLy _ _)
theorem specPR (P:zH) (hb:BG P) (part:Int):zLZ P part=some (prF P part):=by
  unfold zLZ;rw [specValidP P hb];cases hv:validP P with
  | false =>
    have:¬inR P part:=fun h=>by have h1:=h.1; rw [hv] at h1; cases h1
    unfold prF;rw [if_neg this]; rfl
  | true=>simp [spec11 P hb hv]
theorem specPW (P:zH) (hb:BG P) (part:Int):zLX P part=some (pwF P part):=by
  unfold zLX;rw [specValidP P hb];cases hv:validP P with
  | false =>
    have:¬inR P part:=fun h=>by have h1:=h.1; rw [hv] at h1; cases h1
    unfold pwF;rw [if_neg this]; rfl
  | true=>simp [spec11 P hb hv]
instance zMD (r:zM):Tot (eC r) (0 ≤ r.p∧r.p ≤ 30000000) (fun φ=>∀ a s,SG 1000 a→r.p ≤ s.p→s.p ≤ r.p + 4000000→φ (a,s)):=⟨by
  rintro ⟨h0,h1⟩ φ hk
  unfold eC
  refine Ok.call (fM r _) ⟨by decide,h0,by omega⟩ fun y s g1 g2=>?_
  have hy:y.l.length ≤ 1000:=by
    revert g1 y
    decide
  refine Ok.cat (by simp; omega) fun t _ ht=>?_
  simp only [List.length_cons,List.length_nil] at ht
  refine Ok.call (zDp t) (by omega) fun p b hp=>?_
  refine Ok.bind (φ:=fun o=>r.p ≤ o.2.p∧o.2.p ≤ r.p + 2) ?_ ?_
  · exact Ok.ite (fun _=>Ok.call (jL s 2) ⟨by omega,by omega⟩ fun y u k1 k2 k3=>Ok.pure ⟨by dsimp only; omega,by dsimp only; omega⟩) fun _=>Ok.pure ⟨by dsimp only; omega,by dsimp only; omega⟩
  rintro ⟨z,u⟩ ⟨g3,g4⟩
  dsimp only at g3 g4 ⊢
  refine Ok.ite (fun _=>Ok.pure (hk _ _ hp g3 (by omega))) fun _=>Ok.call (zKn u) ⟨by omega,by omega⟩ fun a v g5 g6 g7=>Ok.pure (hk _ v g5 (by omega) (by omega))⟩
theorem args11 (r:zM) (h0:r.p=0):Ok (zBM r) (fun y=>BG y.1∧0 ≤ y.2.2.p∧y.2.2.p ≤ 800000000):=by
  unfold zBM;refine Ok.call (zMD r) ⟨by omega,by omega⟩ fun a s g1 g2 g3=>?_;refine Ok.bind (mut4 s a g1.dp (by omega) (by omega)) fun p hp=>?_;obtain ⟨P,t⟩:=p;have k0:0 ≤ t.p:=hp.2.1;have k1:t.p ≤ 700001000:=hp.2.2;exact Ok.call (uT t _) ⟨by decide,k0,by omega,by decide⟩ fun y s2 _ _ k5=>Ok.pure ⟨hp.1.1,by dsimp only; omega,by dsimp only; omega⟩
theorem drawPR (code:List UInt8):Ok (zLS code) (fun y=>BG y.1):=by
  unfold zLS;refine Ok.call (zKW code) trivial fun s hs=>Ok.bind (args11 s hs) fun p hp=>?_;obtain ⟨P,part,t⟩:=p;exact Ok.pure hp.1
theorem zMW (A l:List Int) (hA:A.length ≤ 1048576) (hl:l.length ≤ 1048576) (h:∀ c ∈ l,c ∈ A):zLM A l 0=some (.done ()):=by
  have h:=jZ (n:=l.length) (f:=zLM A l) (P:=fun _=>true) (fun i hi=>by
      rw [zLM];have a1:((i:Int) < (l.length:Int)):=by omega
      have a2:hasB A l[i]=true:=zLF.2 (h _ (gM hi));simp only [a1,dT,if_true,xC hi,lnHasV A _ hA,a2,bT,bF,if_false,oB,oS,oP];rw [tP (by omega)]) (by rw [zLM]; simp)
  rw [h];have:((List.range l.length).all fun _=>true)=true:=by simp
  simp [this]
theorem zMX {P:zH} (hb:BG P) (hv:validP P=true) (part:Int):∀ (j i h:Nat),i + j=(progI P).length→h ≤ i→zLL P part (prF P part) (pwF P part) (progI P) (h:Int) (i:Int)=some (.done ((h + (ofPart P part ((progI P).drop i)).length:Nat):Int)):=by
  have hlen:=(zBX hv).2.2.2;intro j
  induction j with
  | zero =>
    intro i h hi hh;rw [zLL];have:¬((i:Int) < ((progI P).length:Int)):=by omega
    simp only [this,dF,bF,if_false,oP];rw [dN.2 (by omega)]; rfl
  | succ j ih =>
    intro i h hi hh;rw [zLL];have hlt:i < (progI P).length:=by omega
    have hc:((i:Int) < ((progI P).length:Int)):=by omega
    have hzm:=gM hlt;have hz:=zJ0 hb hv hzm;have hrl:=zLI hz;rw [gC hlt];simp only [hc,dT,if_true,xC hlt,cellsV hb hv hz,oB,oS,oP];rw [tP (show i < 9223372036854775807 by omega),tP (show h < 9223372036854775807 by omega)];by_cases e:(progI P)[i].Part=part
    · have e1:((progI P)[i].Part != part)=false:=by simpa using e
      have e2:((progI P)[i].Part == part)=true:=by simpa using e
      have eo:ofPart P part ((progI P)[i]::(progI P).drop (i + 1))=(progI P)[i]::ofPart P part ((progI P).drop (i + 1)):=List.filter_cons_of_pos (p:=fun z:zO=>z.Part == part) e2;have hr:inR P part:=⟨hv,by rw [← e]; exact hz.part.1,by rw [← e]; exact hz.part.2⟩;have l2:=zMW (prF P part) (rdI P (progI P)[i]) (by have:=zMK P part; omega) (by omega) fun c hc=>(zMT hb hr).2 ⟨_,hzm,e,hc⟩;have hw:hasB (pwF P part) (wrI P (progI P)[i])=true:=zLF.2 ((zMN hb hr).2 ⟨_,hzm,e,rfl⟩);rw [eo];simp only [e1,bF,if_false,l2,lnHasV _ _ (show (pwF P part).length ≤ 1048576 by have:=zMJ P part; omega),hw,bT,oS];rw [ih (i + 1) (h + 1) (by omega) (by omega),List.length_cons];exact congrArg some (congrArg Out.done (by omega))
    · have e1:((progI P)[i].Part != part)=true:=by simpa using e
      have e2:¬(((progI P)[i].Part == part)=true):=by simpa using e
      have eo:ofPart P part ((progI P)[i]::(progI P).drop (i + 1))=ofPart P part ((progI P).drop (i + 1)):=List.filter_cons_of_neg (p:=fun z:zO=>z.Part == part) e2;rw [eo];simp only [e1,if_true];exact ih (i + 1) h (by omega) (by omega)
theorem zLz (code:List UInt8):∃ r,zLV code=some r∧r=true:=by
  obtain ⟨⟨P,part⟩,hy,hb⟩:=drawPR code;dsimp only at hb;unfold zLV;refine ⟨true,?_,rfl⟩;by_cases h1:(code.length:Int) > 1048576
  · simp [h1]
  · have r1:=zMA (prF P part) (by have:=zMK P part; omega);have r2:=zMA (pwF P part) (by have:=zMJ P part; omega);simp only [h1,dF,bF,if_false,hy,implPr P hb,implPw P hb,specPR P hb,specPW P hb,implInstP P hb,r1,r2,bT,oP,oB,oS];cases hv:validP P with
    | false =>
      have hl:zLL P part (prF P part) (pwF P part) [] 0 0=some (.done 0):=by rw [zLL]; simp
      have hn:pwF P part=[]:=by
        unfold pwF;rw [if_neg fun h=>by have h1:=h.1; rw [hv] at h1; cases h1]
      rw [hn] at hl ⊢;simp [hl]
    | true =>
      have hl:=zMX hb hv part _ 0 0 (Nat.zero_add _) (Nat.le_refl _);rw [List.drop_zero,Nat.zero_add,nZ] at hl;simp only [if_true,hl,oS];cases ho:ofPart P part (progI P) with
      | nil =>
        have hn:pwF P part=[]:=by
          unfold pwF;rw [ho];split
          · exact zLy _ _
          · rfl
        rw [hn]; rfl
      | cons z l =>
        have hm:z ∈ ofPart P part (progI P):=by rw [ho]; exact List.mem_cons_self ..
        obtain ⟨m1,m2⟩:=zL4.1 hm;have hz:=(zJ0 hb hv m1).part;have hr:inR P part:=⟨hv,by omega,by omega⟩;have hw:=(zMN hb hr).2 ⟨z,m1,m2,rfl⟩;have hp:=List.length_pos_of_mem hw;have a1:(((z::l).length:Nat):Int) > 0:=by rw [List.length_cons]; omega
        have a2:((pwF P part).length:Int) > 0:=by omega
        simp only [a1,a2,dT,bQ]
end Go.LN
