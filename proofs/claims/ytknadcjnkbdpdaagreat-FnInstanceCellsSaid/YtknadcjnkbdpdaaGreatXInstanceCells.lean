/- Helper of the proof (see the last text). -/
import Derived.Test.YtknadcjnkbdpdaaGreatLnA
import Derived.Test.YtknadcjnkbdpdaaGreatLnI
import Derived.Test.YtknadcjnkbdpdaaGreatLnQ
import Derived.Test.YtknadcjnkbdpdaaGreatTryzShelf
import Derived.Test.YtknadcjnkbdpdaaGreatHM1
import Derived.Test.YtknadcjnkbdpdaaGreatHM2
import Derived.Test.YtknadcjnkbdpdaaGreatHM3
import Derived.Test.YtknadcjnkbdpdaaGreatHM4
import Derived.Test.YtknadcjnkbdpdaaGreatHM5
import Derived.Test.YtknadcjnkbdpdaaGreatHM6
import Derived.Test.YtknadcjnkbdpdaaGreatHM7
import Derived.Test.YtknadcjnkbdpdaaGreatHM8
import Derived.Test.YtknadcjnkbdpdaaGreatQT
import Derived.Test.YtknadcjnkbdpdaaGreatQZ
import Derived.Test.YtknadcjnkbdpdaaGreatVB1
import Derived.Test.YtknadcjnkbdpdaaGreatVB8
import Derived.Test.YtknadcjnkbdpdaaGreatLnR
set_option linter.unusedVariables false
set_option linter.unusedSimpArgs false
namespace Go.LN
open Go.Proofs
set_option maxRecDepth 20000
def zJY (a0:(List Int)) (b:(List Int)) (i:Int):Option (Out Unit (Bool)):=do
 if (decide (i < (a0.length:Int))) then
  let x←idx a0 i
  let x1←idx b i
  if (x != x1) then
   pure (.ret false)
  else
   zJY a0 b (W (i + 1))
 else
  pure (.done ())
 partial_fixpoint
theorem zJl (a0:(List Int)) (b:(List Int)):∀ (i:Int) (o:Out Unit (Bool)),zJY a0 b i=some o→∀ {B}{I0 I:Imm}{Q p c p1 c1},I0.le I→(S4 I p a0 c)→(S4 I p1 b c1)→NG Q→NO Q→(∀ (I':Imm) ,o=(.done ())→I0.le I'→T 26 B Q (.exit 0) I' [] [])→(∀ r I' hs' m',o=(.ret r)→I0.le I'→RS Tryz.prog Tryz.f15 B (zW  r) I' hs' m'→T 26 B Q .ret I' hs' m')→J Tryz.prog 26 B (nav (bodyOf Tryz.f15) [1,1,0,1,0]) Q I [] [(0,vS p a0 c),(1,vS p1 b c1),(5,vI i)]:=by
 refine zJY.partial_correctness a0 b _ fun self ih i o N B I0 I Q p c p1 c1 H h h1 hg ho hx hr=>xD hg ho<|yK<|yI [(14,.bool (decide (i < (a0.length:Int))))]<|zE<|yO N ?_ ?_
 · intro hc1 N;refine zZ<|yL<|zX<|yK<|jZ (by kernel_rfl) (by kernel_rfl)<|dL 2 [] [(17,vS p a0 c),(18,vI i)]<|bE N fun x hy N=>zDV rfl rfl h hy ?_;intro ad ccs hat hrep;obtain rfl:=hrep;refine zDU 0 hat [vI x] (vI x) rfl<|dL 6 [] [(21,vS p1 b c1),(22,vI i)]<|bE N fun x1 hy1 N=>zDV rfl rfl h1 hy1 ?_;intro ad1 ccs1 hat1 hrep1;obtain rfl:=hrep1;refine zDU 0 hat1 [vI x1] (vI x1) rfl<|zCd [] [(25,.bool (x != x1))]<|zE<|yO N ?_ ?_
   · intro hc2 N;exact yI [(4,vF)]<|zE<|yC<|yA<|zK<|zK<|hr _ _ _ _ (zB N).symm H ⟨_,_,(.tmp rfl ResV.nil),zT,⟨_,rfl,rfl,rfl⟩⟩
   intro hc2 N;exact zZ<|zU<|zE<|zR<|yF [] [(5,vI (W (i + 1)))]<|xE<|vM [(0,vS p a0 c),(1,vS p1 b c1),(5,vI (W (i + 1)))]<|ih (W (i + 1)) _ N H h h1 hg ho hx hr
 intro hc1 N;exact xC<|zO<|zO<|yV []<|hx _  (zB N).symm H
def zJ5 (a0:(List Int)) (b:(List Int)):Option (Bool):=do
 if ((a0.length:Int) != (b.length:Int)) then
  pure false
 else
  match←zJY a0 b 0 with
  | .ret r0=>pure r0
  | .done _ =>
   pure true
theorem zJh:∀ a0 b r,zJ5 a0 b=some r→∀ {I:Imm}{p c p1 c1},(S4 I p a0 c)→(S4 I p1 b c1)→Ret Tryz.prog 15 [vS p a0 c,vS p1 b c1] I [] (zW  r):=by
 intro a0 b r N I p c p1 c1 h h1;unfold zJ5 at N;refine yB (fn:=Tryz.f15) (c:=(bodyOf Tryz.f15)) Tryz.func15 rfl rfl ?_;rintro B - -;refine yI []<|yL<|yI [(10,.bool ((a0.length:Int) != (b.length:Int)))]<|zE<|yO N ?_ ?_
 · intro hc N;refine yI [(4,vF)]<|zE<|yC<|zK ?_;obtain rfl:=zB N;exact vQ
 intro hc N;refine zZ<|yL<|yI [(5,vI 0)]<|zE<|zX<|vM [(0,vS p a0 c),(1,vS p1 b c1),(5,vI 0)] ?_;obtain ⟨o0,ho0,hMl⟩:=zC N;refine zJl a0 b 0 o0 ho0 iR h h1 (fun _ _ _ h=>h) (fun _ _ h=>h) ?_ ?_
 · intro I0  heq le;subst o0;refine zY<|vO [(4,vY)]<|zE<|yC ?_;obtain rfl:=zB hMl;exact vQ
 intro r0 I9 hs9 m9 heq9 le9 hrs9;subst heq9;refine yA<|zK ?_;obtain rfl:=zB hMl;exact xM hrs9
def zJ9 (r:zS×zM):KT:=fun kk I' hs' v=>
  ∃ v0 v1,hs'=[]∧v=tupV [v0,v1]∧(∃ cs,v0=.agg ⟨cs⟩∧Rp.rep I' cs r.1)∧(∃ cs,v1=.agg ⟨cs⟩∧Rp.rep I' cs r.2)
def zJW (code:(List UInt8)):Option (zS×zM):=do
 let y←kI code
 let (y2,y3)←jC y
 let (y5,y6)←qV y3 y2
 let (y8,y9)←jU y6 y5
 pure (y5,y8)
theorem zJb:∀ code r,zJW code=some r→∀ {I:Imm}{p c},(S4 I p code c)→Ret Tryz.prog 13 [vS p code c] I [] (zJ9  r):=by
 intro code r N I p c h;unfold zJW at N;refine yB (fn:=Tryz.f13) (c:=(bodyOf Tryz.f13)) Tryz.func13 rfl rfl ?_;rintro B - -;have H:=iS I;refine yM<|uK zTwo ?_;intro b hb;refine uK [vI 0,vI 0,z0] ?_;intro b1 hb1;refine yN rfl<|xP<|yG 1 [] [(6,vS p code c)]<|bE N fun y hy N=>xX (zGv code _ hy h) ?_;rintro I0 hs2 v2 k2 le - ⟨b2,p1,c1,rfl,rfl,h1⟩ -;have H:=H.trans le;refine yF [] [(4,vP b2 0)]<|xP<|yG 2 [] [(8,vP b2 0),(9,vP b2 0)] ?_;obtain ⟨⟨y2,y3⟩,hy1,N⟩:=zC N;refine tF [hB b2 (cRd y p1 c1)] [hB b1 [vI 0,vI 0,z0],hB b zTwo] (zH1 y _ hy1 h1) ?_;rintro I01 hs2 v2 k2 le1 - ⟨v0,kk,rfl,rfl,⟨cs,rfl,h2⟩,h3⟩ -;have H:=H.trans le1;obtain ⟨p2,c2,p3,c3,rfl,h4,h5⟩:=zGu h2;obtain ⟨p4,c4,rfl,h6⟩:=yE h3;obtain ⟨⟨y5,y6⟩,hy2,N⟩:=zC N;refine tF [hB b2 (cRd y3 p4 c4)] [hB b1 [vI 0,vI 0,z0],hB b zTwo] (zGg y3 y2 _ hy2 h6 h4 h5) ?_;rintro I02 hs2 v2 k2 le2 - ⟨v04,kk1,rfl,rfl,⟨cs1,rfl,h7⟩,h8⟩ -;have H:=H.trans le2;obtain ⟨p5,c5,p6,c6,rfl,h9,h10⟩:=zGu h7;obtain ⟨p7,c7,rfl,h11⟩:=yE h8;refine uK zTwo ?_;intro b3 hb2;refine xN 0 (cProg y5 p5 c5 p6 c6) [hB b3 (cProg y5 p5 c5 p6 c6),hB b2 (cRd y6 p7 c7),hB b1 [vI 0,vI 0,z0],hB b zTwo] rfl rfl rfl rfl<|yN rfl<|zE<|yK ?_;obtain ⟨⟨y8,y9⟩,hy3,N⟩:=zC N;refine vK [.p (vA (cProg y5 p5 c5 p6 c6)) [0],.p (vP b2 0) [],.p (vA (cProg y5 p5 c5 p6 c6)) [0],.x (fun I' v hx=>∃ p8 c8 p9 c9,v=vA (cInst y8 p8 c8)∧hx=[hB b2 (cRd y9 p9 c9)]∧(S4 I' p8 y8.Point c8)∧(S4 I' p9 y9.b c9)),.x (fun I' v hx=>hx=[hB b (cProg y5 p5 c5 p6 c6)])] [[],[],[],[(1,false),(2,false),(6,true)],[(0,false),(7,true)]] [hB b3 (cProg y5 p5 c5 p6 c6),hB b1 [vI 0,vI 0,z0]] [[hB b2 (cRd y6 p7 c7)],[hB b zTwo]] [(3,true),(4,true)] (yH [0,2,1,3]) ?_ ?_
 · refine Op<|Op<|Op<|Ox ?_<|Ox ?_<|On
   · intro I1 hf le1;refine zH ?_;rintro _ _ ⟨rfl,rfl⟩;refine zH ?_;rintro _ _ ⟨rfl,rfl⟩;refine zH ?_;rintro _ _ rfl;refine yX [(13,vP b2 0),(14,vA (cProg y5 p5 c5 p6 c6))] ?_;have H:=iS I1;have h9:=h9.mono le1;have h10:=h10.mono le1;have h11:=h11.mono le1;refine tF [hB b2 (cRd y6 p7 c7)] (hB b3 (cProg y5 p5 c5 p6 c6)::hB b1 [vI 0,vI 0,z0]::hf) (zHn y6 y5 _ hy3 h11 h9 h10) ?_;rintro I03 hs2 v2 k2 le3 - ⟨v08,kk2,rfl,rfl,⟨cs2,rfl,h12⟩,h13⟩ -;have H:=H.trans le3;obtain ⟨p8,c8,rfl,h14⟩:=zCL h12;obtain ⟨p9,c9,rfl,h15⟩:=yE h13;exact yY [hB b2 (cRd y9 p9 c9)] H ⟨_,_,_,_,rfl,rfl,h14,h15⟩
   intro I1 hf le1;refine zH ?_;rintro _ _ ⟨rfl,rfl⟩;refine zH ?_;rintro _ _ rfl;refine yX [(2,vP b 0),(12,vA (cProg y5 p5 c5 p6 c6))] ?_;have H:=iS I1;exact xN 0 (cProg y5 p5 c5 p6 c6) (hB b (cProg y5 p5 c5 p6 c6)::hB b3 (cProg y5 p5 c5 p6 c6)::hB b1 [vI 0,vI 0,z0]::hf) rfl rfl rfl rfl<|zE4 (hx:=[hB b (cProg y5 p5 c5 p6 c6)]) rfl H rfl (zHM (v:=undef)) rfl
 intro I04 le4;refine zH ?_;rintro _ _ ⟨p8,c8,p9,c9,rfl,rfl,h14,h15⟩;refine zH ?_;rintro _ _ rfl;refine yX [(2,vP b 0),(3,vP b1 0),(15,vA (cInst y8 p8 c8))] ?_;have h9:=h9.mono le4;have h10:=h10.mono le4;refine xN 3 (cInst y8 p8 c8) [hB b (cProg y5 p5 c5 p6 c6),hB b2 (cRd y9 p9 c9),hB b3 (cProg y5 p5 c5 p6 c6),hB b1 (cInst y8 p8 c8)] rfl rfl rfl rfl<|yN rfl<|zE<|yC ?_;obtain rfl:=zB N;exact xM ⟨_,_,(.cell 0 rfl rfl (by kernel_rfl) (.cell 3 rfl rfl (by kernel_rfl) ResV.nil)),zT,⟨_,_,rfl,rfl,⟨_,rfl,(mE ⟨_,_,rfl,h9,h10⟩)⟩,⟨_,rfl,(nN ⟨_,rfl,h14⟩)⟩⟩⟩
def zJ0 (p:zS) (x:zM):Option ((List Int)×Int×Bool):=do
 let t15←(do
   let y←uV p
   if (!y) then
    pure true
   else
    let y1←fH p x
    pure (!y1)
     : Option Bool)
 if t15 then
  pure (([]:List Int),0,false)
 else
  let x1←idx p.Parts x.Part
  let x2←idx x1.Body x.Stmt
  let (y3,y4,y5)←pU p.Arrays x2 x.Point
  pure (y3,y4,y5)
theorem zJg:∀ p x r,zJ0 p x=some r→∀ {I:Imm}{p1 c p2 c1 p3 c2},(S4 I p1 p.Arrays c)→(S4 I p2 p.Parts c1)→(S4 I p3 x.Point c2)→Ret Tryz.prog 14 [vA (cProg p p1 c p2 c1),vA (cInst x p3 c2)] I [] (kJ  r):=by
 intro p x r N I p1 c p2 c1 p3 c2 h h1 h2;unfold zJ0 at N;refine yB (fn:=Tryz.f14) (c:=(bodyOf Tryz.f14)) Tryz.func14 rfl rfl ?_;rintro B - -;have H:=iS I;refine yM<|tD (cProg p p1 c p2 c1) ?_;intro b hb;refine tD (cInst x p3 c2) ?_;intro b1 hb1;refine yF [] []<|yL<|yK ?_;obtain ⟨o0,ho0,hMc⟩:=zC N;refine yU (fun I' hs' m'=>∃ (t15:Bool),o0=t15∧I.le I'∧hs'=[hB b1 (cInst x p3 c2),hB b (cProg p p1 c p2 c1)]∧m'=[(2,vP b 0),(3,vP b1 0),(15,.bool t15)]) ?_ ?_
 · have H:=iS I;refine zR<|yG 1 [1] [(7,vA (cProg p p1 c p2 c1))] ?_;obtain ⟨y,hy,N⟩:=zC ho0;refine vL (jG p _ hy h h1) ?_;intro I01 le;have h2:=h2.mono le;have h:=h.mono le;have h1:=h1.mono le;have H:=H.trans le;refine yG 4 [] [(10,.bool (!y))] ?_;cases hc:(!y) with
   | true =>
    have hM0:=zQ hc N
    try rw [hc]
    exact yF [] [(15,vY)]<|yV [(2,vP b 0),(3,vP b1 0),(15,vY)]<|zV ⟨_,(zB hM0).symm,H,rfl,rfl⟩
   | false =>
    have hM01:=zN hc N
    try rw [hc]
    refine yG 6 [1,0] [(11,vA (cProg p p1 c p2 c1)),(12,vA (cInst x p3 c2))] ?_;obtain ⟨y1,hy1,N⟩:=zC hM01;refine vL (zIL p x _ hy1 h h1 h2) ?_;intro I02 le1;have H:=H.trans le1;exact yF [] [(15,.bool (!y1))]<|yV [(2,vP b 0),(3,vP b1 0),(15,.bool (!y1))]<|zV ⟨_,(zB N).symm,H,rfl,rfl⟩
 rintro I0 hs2 m2 ⟨t15,heq,le2,rfl,rfl⟩;subst o0;have h2:=h2.mono le2;have h:=h.mono le2;have h1:=h1.mono le2;have H:=H.trans le2;refine zE<|yO hMc ?_ ?_
 · intro hc1 N;refine yM<|xW [] Int ?_;intro b2 hb2;have h5:RL I0 [] ([]:List Int):=rfl;refine yF [] [(4,vS (some ⟨b2,0,none⟩) ([]:List Int) 0),(5,vI 0),(6,vF)]<|zE<|yC<|zK<|xO 0 rfl ?_;intro I03 le3 hl0;have h6:=SL.of_frozen hl0 le3 h5;obtain rfl:=zB N;exact xM ⟨_,_,(.tmp rfl (.tmp rfl (.tmp rfl ResV.nil))),zT,⟨_,_,_,rfl,rfl,h6,rfl,rfl⟩⟩
 intro hc1 N;refine zZ<|zE<|yK ?_;obtain ⟨x1,hy2,N⟩:=zC N;obtain ⟨x2,hy3,N⟩:=zC N;obtain ⟨⟨y3,y4,y5⟩,hy4,N⟩:=zC N;refine vK [.p (vP b 0) [],.p (vS p1 p.Arrays c) [1],.p (vP b 1) [],.p (vS p2 p.Parts c1) [1],.p (vP b1 0) [],.p (vI x.Part) [0],.x (fun I' v hx=>∃ ad p4 c3 p5 c4,v=.pointer (some ad)∧hx=[]∧(At I' ad (cPart x1 p4 c3 p5 c4))∧(S4 I' p4 x1.Nest c3)∧(S4 I' p5 x1.Body c4)),.x (fun I' v hx=>∃ ad1 p41 c31 p51 c41,v=.pointer (some (ad1.add 1))∧hx=[]∧(At I' ad1 (cPart x1 p41 c31 p51 c41))∧(S4 I' p41 x1.Nest c31)∧(S4 I' p51 x1.Body c41)),.x (fun I' v hx=>∃ p511 c411,v=vS p511 x1.Body c411∧hx=[]∧(S4 I' p511 x1.Body c411)),.p (vP b1 1) [],.p (vI x.Stmt) [0],.x (fun I' v hx=>∃ ad2 p6 c5 p7 c6 p8 c7 p9 c8,v=.pointer (some ad2)∧hx=[]∧(At I' ad2 (cStmt x2 p6 c5 p7 c6 p8 c7 p9 c8))∧(S4 I' p6 x2.Write.Subs c5)∧(S4 I' p7 x2.Value.Index.Coefs c6)∧(S4 I' p8 x2.Value.Read.Subs c7)∧(S4 I' p9 x2.Value.Kids c8)),.x (fun I' v hx=>∃ p61 c51 p71 c61 p81 c71 p91 c81,v=vA (cStmt x2 p61 c51 p71 c61 p81 c71 p91 c81)∧hx=[]∧(S4 I' p61 x2.Write.Subs c51)∧(S4 I' p71 x2.Value.Index.Coefs c61)∧(S4 I' p81 x2.Value.Read.Subs c71)∧(S4 I' p91 x2.Value.Kids c81)),.p (vP b1 2) [],.p (vS p3 x.Point c2) [0],.x (fun I' v hx=>∃ p10 c9,v=.tuple ⟨[vS p10 y3 c9,vI y4,.bool y5]⟩∧hx=[]∧(S4 I' p10 y3 c9)),.x (fun I' v hx=>∃ p101 c91,v=vS p101 y3 c91∧hx=[]∧(S4 I' p101 y3 c91)),.q (vI y4),.q (.bool y5)] [[],[(0,false)],[],[(2,false)],[],[(4,false)],[(3,false),(5,false)],[(6,false)],[(7,false)],[],[(9,false)],[(8,false),(10,false)],[(11,false)],[],[(13,false)],[(1,false),(12,false),(14,false)],[(15,false)],[(15,false)],[(15,false)]] [hB b1 (cInst x p3 c2),hB b (cProg p p1 c p2 c1)] [] [(16,false),(17,false),(18,false)] (yH [0,1]) ?_ ?_
 · refine Op<|Op<|Op<|Op<|Op<|Op<|Ox ?_<|Ox ?_<|Ox ?_<|Op<|Op<|Ox ?_<|Ox ?_<|Op<|Op<|Ox ?_<|Ox ?_<|Oq ?_<|Oq ?_<|On
   · intro I1 hf le1;refine yX [(20,vS p2 p.Parts c1),(22,vI x.Part)] ?_;have h1:=h1.mono le1;refine wD rfl rfl h1 hy2 ?_;intro ad ccs hat hrep;obtain ⟨p4,c3,p5,c4,rfl,h7,h8⟩:=wT hrep;exact yY [] iR ⟨_,_,_,_,_,rfl,rfl,hat,h7,h8⟩
   · intro I1 hf le1;refine zH ?_;rintro _ _ ⟨ad,p4,c3,p5,c4,rfl,rfl,hat,h7,h8⟩;exact yX [(23,.pointer (some ad))]<|qO 8 [(24,.pointer (some (ad.add 1)))]<|yY [] iR ⟨_,_,_,_,_,rfl,rfl,hat,h7,h8⟩
   · intro I1 hf le1;refine zH ?_;rintro _ _ ⟨ad1,p41,c31,p51,c41,rfl,rfl,hat1,h71,h81⟩;exact yX [(24,.pointer (some (ad1.add 1)))]<|xT 1 hat1 [vS p51 x1.Body c41] (vS p51 x1.Body c41) rfl<|yY [] iR ⟨_,_,rfl,rfl,h81⟩
   · intro I1 hf le1;refine zH ?_;rintro _ _ ⟨p511,c411,rfl,rfl,h811⟩;refine yX [(25,vS p511 x1.Body c411),(27,vI x.Stmt)]<|wD rfl rfl h811 hy3 ?_;intro ad2 ccs1 hat2 hrep1;obtain ⟨p6,c5,p7,c6,p8,c7,p9,c8,rfl,h9,h10,h11,h12⟩:=qK hrep1;exact yY [] iR ⟨_,_,_,_,_,_,_,_,_,rfl,rfl,hat2,h9,h10,h11,h12⟩
   · intro I1 hf le1;refine zH ?_;rintro _ _ ⟨ad2,p6,c5,p7,c6,p8,c7,p9,c8,rfl,rfl,hat2,h9,h10,h11,h12⟩;exact yX [(28,.pointer (some ad2))]<|xT 0 hat2 (cStmt x2 p6 c5 p7 c6 p8 c7 p9 c8) (vA (cStmt x2 p6 c5 p7 c6 p8 c7 p9 c8)) rfl<|yY [] iR ⟨_,_,_,_,_,_,_,_,rfl,rfl,h9,h10,h11,h12⟩
   · intro I1 hf le1;refine zH ?_;rintro _ _ ⟨rfl,rfl⟩;refine zH ?_;rintro _ _ ⟨p61,c51,p71,c61,p81,c71,p91,c81,rfl,rfl,h91,h101,h111,h121⟩;refine yX [(18,vS p1 p.Arrays c),(29,vA (cStmt x2 p61 c51 p71 c61 p81 c71 p91 c81)),(31,vS p3 x.Point c2)] ?_;have H:=iS I1;have h2:=h2.mono le1;have h:=h.mono le1;refine xX (zCj p.Arrays x2 x.Point _ hy4 h h91 h101 h111 h121 h2) ?_;rintro I04 hs2 v2 k2 le4 - ⟨v08,v09,v010,rfl,rfl,h13,rfl,rfl⟩ -;have H:=H.trans le4;obtain ⟨p10,c9,rfl⟩:=h13.form;exact yY [] H ⟨_,_,rfl,rfl,h13⟩
   · intro I1 hf le1;refine zH ?_;rintro _ _ ⟨p10,c9,rfl,rfl,h13⟩;exact yX [(32,.tuple ⟨[vS p10 y3 c9,vI y4,.bool y5]⟩)]<|qO 17 [(33,vS p10 y3 c9)]<|yY [] iR ⟨_,_,rfl,rfl,h13⟩
   · intro I1 hf le1;refine zH ?_;rintro _ _ ⟨p10,c9,rfl,rfl,h13⟩;exact yX [(32,.tuple ⟨[vS p10 y3 c9,vI y4,.bool y5]⟩)]<|qO 18 [(34,vI y4)]<|xJ iR
   intro I1 hf le1;refine zH ?_;rintro _ _ ⟨p10,c9,rfl,rfl,h13⟩;exact yX [(32,.tuple ⟨[vS p10 y3 c9,vI y4,.bool y5]⟩)]<|qO 19 [(35,.bool y5)]<|xJ iR
 intro I05 le5;refine zH ?_;rintro _ _ ⟨p101,c91,rfl,rfl,h131⟩;refine yX [(33,vS p101 y3 c91),(34,vI y4),(35,.bool y5)] ?_;refine yF [] [(4,vS p101 y3 c91),(5,vI y4),(6,.bool y5)]<|zE<|yC ?_;obtain rfl:=zB N;exact xM ⟨_,_,(.tmp rfl (.tmp rfl (.tmp rfl ResV.nil))),zT,⟨_,_,_,rfl,rfl,h131,rfl,rfl⟩⟩
def zJ8 (s:zP):Option (Bool):=do
 let y←nI s 4
 pure (id y)
theorem zJs:∀ s r,zJ8 s=some r→∀ {I:Imm}{p c p1 c1 p2 c2 p3 c3},(S4 I p s.Write.Subs c)→(S4 I p1 s.Value.Index.Coefs c1)→(S4 I p2 s.Value.Read.Subs c2)→(S4 I p3 s.Value.Kids c3)→Ret Tryz.prog 51 [vA (cStmt s p c p1 c1 p2 c2 p3 c3)] I [] (zW  r):=by
 intro s r N I p c p1 c1 p2 c2 p3 c3 h h1 h2 h3;unfold zJ8 at N;refine yB (fn:=Tryz.f51) (c:=(bodyOf Tryz.f51)) Tryz.func51 rfl rfl ?_;rintro B - -;refine yM<|tD (cStmt s p c p1 c1 p2 c2 p3 c3) ?_;intro b hb;refine yF [] []<|xP<|yG 1 [0] [(3,vA (cStmt s p c p1 c1 p2 c2 p3 c3))]<|bE N fun y hy N=>vL (zBv s 4 _ hy h h1 h2 h3) fun I0 le=>yF [] [(2,.bool y)]<|zE<|yC ?_;obtain rfl:=zB N;exact vQ
def zJ1 (a0:zA):Option (zA):=do
 let y←tV a0.Coefs
 pure (zA.mk y a0.Const)
theorem zJc:∀ a0 r,zJ1 a0=some r→∀ {I:Imm}{p c},(S4 I p a0.Coefs c)→Ret Tryz.prog 102 [vA (cAff a0 p c)] I [] (nO  r):=by
 intro a0 r N I p c h;unfold zJ1 at N;refine yB (fn:=Tryz.f102) (c:=(bodyOf Tryz.f102)) Tryz.func102 rfl rfl ?_;rintro B - -;have H:=iS I;refine yM<|tD (cAff a0 p c) ?_;intro b hb;refine uK [z0,vI 0] ?_;intro b1 hb1;refine yN rfl<|yL<|bE N fun y hy N=>vK [.p (vP b 0) [],.p (vS p a0.Coefs c) [1],.x (fun I' v hx=>∃ p1 c1 cs,v=vS p1 y c1∧hx=[hO Int (vS p1 y c1) cs]∧(RL I' cs y)),.p (vP b 1) [],.p (vI a0.Const) [1],.x (fun I' v hx=>∃ p11 c11 cs1,v=vA [vS p11 y c11,vI a0.Const]∧hx=[hO Int (vS p11 y c11) cs1]∧(RL I' cs1 y))] [[],[(0,false)],[(1,false)],[],[(3,false)],[(2,true),(4,false)]] [hB b1 [z0,vI 0],hB b (cAff a0 p c)] [] [(5,true)] (yH [0,1]) ?_ ?_
 · refine Op<|Op<|Ox ?_<|Op<|Op<|Ox ?_<|On
   · intro I1 hf le1;refine yX [(4,vS p a0.Coefs c)] ?_;have H:=iS I1;have h:=h.mono le1;refine xX (nG a0.Coefs _ hy h) ?_;rintro I0 hs2 v2 k2 le - ⟨p1,c1,cs,rfl,rfl,h1⟩ -;have H:=H.trans le;exact yY [hO Int (vS p1 y c1) cs] H ⟨_,_,_,rfl,rfl,h1⟩
   intro I1 hf le1;refine zH ?_;rintro _ _ ⟨p1,c1,cs,rfl,rfl,h1⟩;exact yX [(5,vS p1 y c1),(7,vI a0.Const)]<|qO 6 [(8,vA [vS p1 y c1,vI a0.Const])]<|yY [hO Int (vS p1 y c1) cs] iR ⟨_,_,_,rfl,rfl,h1⟩
 intro I01 le1;refine zH ?_;rintro _ _ ⟨p11,c11,cs1,rfl,rfl,h11⟩;refine yX [(2,vP b1 0),(8,vA [vS p11 y c11,vI a0.Const])] ?_;refine xN 1 [vS p11 y c11,vI a0.Const] [hO Int (vS p11 y c11) cs1,hB b1 [vS p11 y c11,vI a0.Const],hB b (cAff a0 p c)] rfl rfl rfl rfl<|yN rfl<|zE<|yC<|xO 0 rfl ?_;intro I02 le2 hl0;have h2:=SL.of_frozen hl0 le2 h11;obtain rfl:=zB N;exact xM ⟨_,_,(.cell 0 rfl rfl (by kernel_rfl) ResV.nil),zT,⟨_,rfl,rfl,⟨_,rfl,(yP ⟨_,rfl,h2⟩)⟩⟩⟩
def zJk (r:zI):KT:=fun kk I' hs' v=>
  ∃ v0,hs'=[]∧v=tupV [v0]∧(∃ cs,v0=.agg ⟨cs⟩∧Rp.rep I' cs r)
def zJU (a0:zI) (t14:Int) (Subs:List zA):Option (List zA):=do
 if (decide (t14 < (a0.Subs.length:Int))) then
  let x←idx a0.Subs t14
  let y←zJ1 x
  let l←app 32 Subs ([y]:List zA)
  zJU a0 (W (t14 + 1)) l
 else
  pure (id Subs)
 partial_fixpoint
theorem zJi (a0:zI):∀ (t14:Int) (Subs:List zA) (o:List zA),zJU a0 t14 Subs=some o→∀ {B}{I0 I:Imm}{Q p c}{b1:Nat}{b2:Nat}{p1 c1 cs},I0.le I→(S4 I p a0.Subs c)→(RL I cs Subs)→NG Q→NO Q→(∀ (I':Imm) (Subs1:List zA) (p2:Option Addr) (c2:Nat) (cs1:List Value),o=Subs1→I0.le I'→(RL I' cs1 Subs1)→T 28 B Q (.exit 0) I' [hO zA (vS p2 Subs1 c2) cs1,hB b2 [vT a0.Array.l,vS p2 Subs1 c2],hB b1 [vT ([]),z0]] [(4,vP b1 0),(5,vP b2 0)])→J Tryz.prog 28 B (nav (bodyOf Tryz.f112) [1,1,0,1,0]) Q I [hO zA (vS p1 Subs c1) cs,hB b2 [vT a0.Array.l,vS p1 Subs c1],hB b1 [vT ([]),z0]] [(1,.func (.func 102) ⟨[]⟩ ⟨[]⟩),(4,vP b1 0),(5,vP b2 0),(12,vS p a0.Subs c),(13,vI (a0.Subs.length:Int)),(14,vI t14)]:=by
 refine zJU.partial_correctness a0 _ fun self ih t14 Subs o N B I0 I Q p c b1 b2 p1 c1 cs H h h2 hg ho hx=>xD hg ho<|yI [(15,.bool (decide (t14 < (a0.Subs.length:Int))))]<|yL<|yO N ?_ ?_
 · intro hc N;refine zZ<|yL<|zX<|yM<|bE N fun x hy N=>wD rfl rfl h hy ?_;intro ad ccs hat hrep;obtain ⟨p3,c3,rfl,h4⟩:=yQ hrep;refine xT 0 hat (cAff x p3 c3) (vA (cAff x p3 c3)) rfl<|uK [z0,vI 0] ?_;intro b3 hb3;refine xN 0 (cAff x p3 c3) [hB b3 (cAff x p3 c3),hO zA (vS p1 Subs c1) cs,hB b2 [vT a0.Array.l,vS p1 Subs c1],hB b1 [vT ([]),z0]] rfl rfl rfl rfl<|yN rfl<|zE ?_;obtain ⟨y,hy1,N⟩:=zC N;obtain ⟨l,hy2,N⟩:=zC N;refine vK [.p (vP b2 1) [],.p (vS p1 Subs c1) [1],.p (.func (.func 102) ⟨[]⟩ ⟨[]⟩) [],.p (vA (cAff x p3 c3)) [0],.x (fun I' v hx=>∃ p4 c4,v=vA (cAff y p4 c4)∧hx=[]∧(S4 I' p4 y.Coefs c4)),.x (fun I' v hx=>∃ b4,v=vS (some ⟨b4,0,none⟩) ([y]:List zA) 1∧hx=[]∧(SL I' (vS (some ⟨b4,0,none⟩) ([y]:List zA) 1) ([y]:List zA))),.x (fun I' v hx=>∃ p5 c5 cs3,v=vS p5 l c5∧hx=[hO zA (vS p5 l c5) cs3]∧(RL I' cs3 l))] [[],[(0,false)],[],[],[(2,false),(3,false)],[(4,false)],[(1,false),(5,false),(9,true)]] [hB b3 (cAff x p3 c3),hB b2 [vT a0.Array.l,vS p1 Subs c1],hB b1 [vT ([]),z0]] [[hO zA (vS p1 Subs c1) cs]] [(6,true)] (yH [0,2,3,1]) ?_ ?_
   · refine Op<|Op<|Op<|Op<|Ox ?_<|Ox ?_<|Ox ?_<|On
     · intro I1 hf le1;refine yX [(20,.func (.func 102) ⟨[]⟩ ⟨[]⟩),(21,vA (cAff x p3 c3))] ?_;have H:=iS I1;have h4:=h4.mono le1;refine xX (zJc x _ hy1 h4) ?_;rintro I0 hs2 v2 k2 le - ⟨v01,rfl,rfl,⟨cs2,rfl,h5⟩⟩ -;have H:=H.trans le;obtain ⟨p4,c4,rfl,h6⟩:=yQ h5;exact yY [] H ⟨_,_,rfl,rfl,h6⟩
     · intro I1 hf le1;refine zH ?_;rintro _ _ ⟨p4,c4,rfl,rfl,h6⟩;refine yX [(22,vA (cAff y p4 c4))] ?_;have H:=iS I1;refine xW (cAff y p4 c4) zA ?_;intro b4 hb4;have h7:RL I1 (cAff y p4 c4) ([y]:List zA):=⟨(cAff y p4 c4),_,rfl,rfl,(yP ⟨_,rfl,h6⟩),rfl⟩;refine yJ 0 rfl ?_;intro I01 le1 hl0;have h8:=SL.of_frozen hl0 le1 h7;have H:=H.trans le1;exact yY [] H ⟨_,rfl,rfl,h8⟩
     intro I1 hf le1;refine zH ?_;rintro _ _ ⟨rfl,rfl⟩;refine zH ?_;rintro _ _ ⟨b4,rfl,rfl,h8⟩;refine zH ?_;rintro _ _ rfl;refine yX [(19,vS p1 Subs c1),(23,vS (some ⟨b4,0,none⟩) ([y]:List zA) 1)] ?_;have h2:=iM le1 h2;obtain ⟨ccs1,k0,k01⟩:=h8;have h8:SL I1 (vS (some ⟨b4,0,none⟩) ([y]:List zA) 1) ([y]:List zA):=⟨_,k0,k01⟩;exact qZ 44 2 0 rfl rfl rfl h2 (.inl k0) k01 hy2 fun p5 c5 cs3 h9=>uY (hs':=(hO zA (vS p5 l c5) cs3::hB b3 (cAff x p3 c3)::hB b2 [vT a0.Array.l,vS p1 Subs c1]::hB b1 [vT ([]),z0]::hf)) rfl<|yY [hO zA (vS p5 l c5) cs3] iR ⟨_,_,_,rfl,rfl,h9⟩
   intro I02 le2;refine zH ?_;rintro _ _ ⟨p5,c5,cs3,rfl,rfl,h9⟩;refine yX [(1,.func (.func 102) ⟨[]⟩ ⟨[]⟩),(4,vP b1 0),(5,vP b2 0),(12,vS p a0.Subs c),(13,vI (a0.Subs.length:Int)),(14,vI t14),(24,vS p5 l c5)] ?_;have h:=h.mono le2;have H:=H.trans le2;exact yG 8 [] [(25,vP b2 1)]<|xN 2 [vT a0.Array.l,vS p5 l c5] [hO zA (vS p5 l c5) cs3,hB b3 (cAff x p3 c3),hB b2 [vT a0.Array.l,vS p5 l c5],hB b1 [vT ([]),z0]] rfl rfl rfl rfl<|yN rfl<|zU<|zE<|zR<|yF [] [(14,vI (W (t14 + 1)))]<|xE<|pJ (yD [0,2,3] rfl (by decide))<|vM [(1,.func (.func 102) ⟨[]⟩ ⟨[]⟩),(4,vP b1 0),(5,vP b2 0),(12,vS p a0.Subs c),(13,vI (a0.Subs.length:Int)),(14,vI (W (t14 + 1)))]<|ih (W (t14 + 1)) l _ N H h h9 hg ho hx
 intro hc N;exact xC<|zO<|zO<|yV [(4,vP b1 0),(5,vP b2 0)]<|hx _ _ _ _ _ (zB N).symm H h2
def zJZ (a0:zI):Option (zI):=do
 let Subs1←zJU a0 0 ([]:List zA)
 pure (zI.mk a0.Array Subs1)
theorem zJd:∀ a0 r,zJZ a0=some r→∀ {I:Imm}{p c},(S4 I p a0.Subs c)→Ret Tryz.prog 112 [vA (cAccess a0 p c),.func (.func 102) ⟨[]⟩ ⟨[]⟩] I [] (zJk  r):=by
 intro a0 r N I p c h;unfold zJZ at N;refine yB (fn:=Tryz.f112) (c:=(bodyOf Tryz.f112)) Tryz.func112 rfl rfl ?_;rintro B - -;refine yM<|tD (cAccess a0 p c) ?_;intro b hb;refine uK [vT ([]),z0] ?_;intro b1 hb1;refine yN rfl<|xP<|yG 3 [1] [(10,vA [vT a0.Array.l,z0])]<|uK [vT ([]),z0] ?_;intro b2 hb2;refine xN 0 [vT a0.Array.l,z0] [hB b2 [vT a0.Array.l,z0],hB b1 [vT ([]),z0],hB b (cAccess a0 p c)] rfl rfl rfl rfl<|yN rfl<|yL<|yM<|yF [2] [(12,vS p a0.Subs c),(13,vI (a0.Subs.length:Int)),(14,vI 0)]<|zE<|zX<|pJ (yH [0,1] (hs':=[hB b2 [vT a0.Array.l,z0],hB b1 [vT ([]),z0]]))<|vM [(1,.func (.func 102) ⟨[]⟩ ⟨[]⟩),(4,vP b1 0),(5,vP b2 0),(12,vS p a0.Subs c),(13,vI (a0.Subs.length:Int)),(14,vI 0)]<|pJ (tE (Rp.sz zA)) ?_;have h1:RL I [] ([]:List zA):=RepL.nil;obtain ⟨o0,ho0,hMl⟩:=zC N;refine zJi a0 0 ([]:List zA) o0 ho0 iR h h1 (fun _ _ _ h=>h) (fun _ _ h=>h) ?_;intro I03 Subs1 p2 c2 cs1 heq le3 h3;subst o0;refine zY<|xP<|yG 1 [1] [(27,vA [vT a0.Array.l,vS p2 Subs1 c2])]<|xN 2 [vT a0.Array.l,vS p2 Subs1 c2] [hO zA (vS p2 Subs1 c2) cs1,hB b2 [vT a0.Array.l,vS p2 Subs1 c2],hB b1 [vT a0.Array.l,vS p2 Subs1 c2]] rfl rfl rfl rfl<|yN rfl<|zE<|yC<|xO 0 rfl ?_;intro I04 le4 hl01;have h10:=SL.of_frozen hl01 le4 h3;obtain rfl:=zB hMl;exact xM ⟨_,_,(.cell 1 rfl rfl (by kernel_rfl) ResV.nil),zT,⟨_,rfl,rfl,⟨_,rfl,(pK ⟨_,rfl,h10⟩)⟩⟩⟩
def zJe (r:zF):KT:=fun kk I' hs' v=>
  ∃ v0,hs'=[]∧v=tupV [v0]∧(∃ cs,v0=.agg ⟨cs⟩∧Rp.rep I' cs r)
mutual
def zJ2 (e0:zF):Option (zF):=do
 let (IndexCoefs,IndexConst,ReadArray,ReadSubs)←(do
   if (e0.Kind == 2) then
    let y←zJ1 e0.Index
    pure (y.Coefs,y.Const,(⟨[]⟩:Str),([]:List zA))
   else
    let (ReadArray1,ReadSubs1)←(do
      if (e0.Kind == 3) then
       let y1←zJZ e0.Read
       pure (y1.Array,y1.Subs)
      else
       pure ((⟨[]⟩:Str),([]:List zA))
        : Option (Str×List zA))
    pure (([]:List Int),0,ReadArray1,ReadSubs1)
     : Option (List Int×Int×Str×List zA))
 let Kids1←zJV (same e0) (same 0) ([]:List zF)
 pure (zF.mk e0.Kind e0.Num (zA.mk IndexCoefs IndexConst) (zI.mk ReadArray ReadSubs) Kids1)
 partial_fixpoint
def zJV (e0:zF) (t32:Int) (Kids:List zF):Option (List zF):=do
 if (decide (t32 < (e0.Kids.length:Int))) then
  let x←idx e0.Kids t32
  let y2←zJ2 (same x)
  let l←app 112 Kids ([y2]:List zF)
  zJV (same e0) (W (t32 + 1)) (same l)
 else
  pure (id Kids)
 partial_fixpoint
end
theorem zJo:(∀ (e0:zF) r,zJ2 e0=some r→∀ {I:Imm}{p c p1 c1 p2 c2},(S4 I p e0.Index.Coefs c)→(S4 I p1 e0.Read.Subs c1)→(S4 I p2 e0.Kids c2)→Ret Tryz.prog 113 [vA (cExpr e0 p c p1 c1 p2 c2),.func (.func 102) ⟨[]⟩ ⟨[]⟩] I [] (zJe  r))∧(∀ (e0:zF) (t32:Int) (Kids:List zF) o,zJV e0 t32 Kids=some o→∀ {B}{I0 I:Imm}{Q}{IndexCoefs:List Int}{IndexConst:Int}{ReadArray:Str}{ReadSubs:List zA}{p2 c2}{b1:Nat}{b2:Nat}{p3 c3 p4 c4 p8 c8 cs2},I0.le I→(S4 I p2 e0.Kids c2)→(S4 I p3 IndexCoefs c3)→(S4 I p4 ReadSubs c4)→(RL I cs2 Kids)→NG Q→NO Q→(∀ (I':Imm) (Kids1:List zF) (p9:Option Addr) (c9:Nat) (cs3:List Value),o=Kids1→I0.le I'→(RL I' cs3 Kids1)→T 46 B Q (.exit 1) I' [hO zF (vS p9 Kids1 c9) cs3,hB b2 [vI e0.Kind,vI e0.Num,vS p3 IndexCoefs c3,vI IndexConst,vT ReadArray.l,vS p4 ReadSubs c4,vS p9 Kids1 c9],hB b1 zExpr] [(4,vP b1 0),(5,vP b2 0)])→J Tryz.prog 46 B (nav (bodyOf Tryz.f113) [1,1,1,0,1,0]) Q I [hO zF (vS p8 Kids c8) cs2,hB b2 [vI e0.Kind,vI e0.Num,vS p3 IndexCoefs c3,vI IndexConst,vT ReadArray.l,vS p4 ReadSubs c4,vS p8 Kids c8],hB b1 zExpr] [(1,.func (.func 102) ⟨[]⟩ ⟨[]⟩),(4,vP b1 0),(5,vP b2 0),(30,vS p2 e0.Kids c2),(31,vI (e0.Kids.length:Int)),(32,vI t32)]):=by
  refine zJ2.mutual_partial_correctness _ _ ?_ ?_
  · intro F_impl_exprMap_l1 ih_impl_exprMap_l1 e0 r N I p c p1 c1 p2 c2 h h1 h2;refine yB (fn:=Tryz.f113) (c:=(bodyOf Tryz.f113)) Tryz.func113 rfl rfl ?_;rintro B - -;have H:=iS I;refine yM<|tD (cExpr e0 p c p1 c1 p2 c2) ?_;intro b hb;refine uK zExpr ?_;intro b1 hb1;refine yN rfl<|xP<|yG 5 [1,1] [(12,vA [vI e0.Kind,vI e0.Num,z0,vI 0,vT ([]),z0,z0])]<|uK zExpr ?_;intro b2 hb2;refine xN 0 [vI e0.Kind,vI e0.Num,z0,vI 0,vT ([]),z0,z0] [hB b2 [vI e0.Kind,vI e0.Num,z0,vI 0,vT ([]),z0,z0],hB b1 zExpr,hB b (cExpr e0 p c p1 c1 p2 c2)] rfl rfl rfl rfl<|yN rfl<|yL<|yM<|yF [2] [(14,vI e0.Kind)]<|zE<|zX<|yI [(15,.bool (e0.Kind == 2))]<|zE ?_;obtain ⟨o0,ho0,hMc⟩:=zC N;refine yU (fun I' hs' m'=>∃ (IndexCoefs:List Int) (IndexConst:Int) (ReadArray:Str) (ReadSubs:List zA) (p3:Option Addr) (c3:Nat) (p4:Option Addr) (c4:Nat),o0=(IndexCoefs,IndexConst,ReadArray,ReadSubs)∧I.le I'∧(S4 I' p3 IndexCoefs c3)∧(S4 I' p4 ReadSubs c4)∧hs'=[hB b2 [vI e0.Kind,vI e0.Num,vS p3 IndexCoefs c3,vI IndexConst,vT ReadArray.l,vS p4 ReadSubs c4,z0],hB b1 zExpr,hB b (cExpr e0 p c p1 c1 p2 c2)]∧m'=[(1,.func (.func 102) ⟨[]⟩ ⟨[]⟩),(2,vP b 0),(4,vP b1 0),(5,vP b2 0)]) ?_ ?_
    · have H:=iS I;refine yO ho0 ?_ ?_
      · intro hc N;refine zR<|yG 3 [2] [(17,.func (.func 102) ⟨[]⟩ ⟨[]⟩),(19,vA (cAff e0.Index p c))]<|bE N fun y hy N=>xX (zJc e0.Index _ hy h) ?_;rintro I01 hs2 v2 k2 le - ⟨v0,rfl,rfl,⟨cs,rfl,h5⟩⟩ -;have H:=H.trans le;obtain ⟨p5,c5,rfl,h6⟩:=yQ h5;exact yG 5 [] [(21,vP b2 2)]<|xN 0 [vI e0.Kind,vI e0.Num,vS p5 y.Coefs c5,vI y.Const,vT ([]),z0,z0] [hB b2 [vI e0.Kind,vI e0.Num,vS p5 y.Coefs c5,vI y.Const,vT ([]),z0,z0],hB b1 zExpr,hB b (cExpr e0 p c p1 c1 p2 c2)] rfl rfl rfl rfl<|yN rfl<|yV [(1,.func (.func 102) ⟨[]⟩ ⟨[]⟩),(2,vP b 0),(4,vP b1 0),(5,vP b2 0)]<|zV ⟨_,_,_,_,_,_,_,_,(zB N).symm,H,h6,(SL.nil _),rfl,rfl⟩
      intro hc N;refine yI [(22,.bool (e0.Kind == 3))]<|zE ?_;obtain ⟨o01,ho01,hMc1⟩:=zC N;refine yU (fun I' hs' m'=>∃ (ReadArray1:Str) (ReadSubs1:List zA) (p6:Option Addr) (c6:Nat),o01=(ReadArray1,ReadSubs1)∧I.le I'∧(S4 I' p6 ReadSubs1 c6)∧hs'=[hB b2 [vI e0.Kind,vI e0.Num,z0,vI 0,vT ReadArray1.l,vS p6 ReadSubs1 c6,z0],hB b1 zExpr,hB b (cExpr e0 p c p1 c1 p2 c2)]∧m'=[(1,.func (.func 102) ⟨[]⟩ ⟨[]⟩),(2,vP b 0),(4,vP b1 0),(5,vP b2 0)]) ?_ ?_
      · have H:=iS I;refine yO ho01 ?_ ?_
        · intro hc1 N;refine zR<|yG 3 [2] [(25,vA (cAccess e0.Read p1 c1)),(26,.func (.func 102) ⟨[]⟩ ⟨[]⟩)]<|bE N fun y1 hy1 N=>xX (zJd e0.Read _ hy1 h1) ?_;rintro I03 hs2 v2 k2 le1 - ⟨v02,rfl,rfl,⟨cs1,rfl,h8⟩⟩ -;have H:=H.trans le1;obtain ⟨p7,c7,rfl,h9⟩:=qP h8;exact yG 5 [] [(28,vP b2 4)]<|xN 0 [vI e0.Kind,vI e0.Num,z0,vI 0,vT y1.Array.l,vS p7 y1.Subs c7,z0] [hB b2 [vI e0.Kind,vI e0.Num,z0,vI 0,vT y1.Array.l,vS p7 y1.Subs c7,z0],hB b1 zExpr,hB b (cExpr e0 p c p1 c1 p2 c2)] rfl rfl rfl rfl<|yN rfl<|yV [(1,.func (.func 102) ⟨[]⟩ ⟨[]⟩),(2,vP b 0),(4,vP b1 0),(5,vP b2 0)]<|zV ⟨_,_,_,_,(zB N).symm,H,h9,rfl,rfl⟩
        intro hc1 N;exact zZ<|yV [(1,.func (.func 102) ⟨[]⟩ ⟨[]⟩),(2,vP b 0),(4,vP b1 0),(5,vP b2 0)]<|zV ⟨_,_,_,_,(zB N).symm,H,(SL.nil _),rfl,rfl⟩
      rintro I02 hs2 m2 ⟨ReadArray1,ReadSubs1,p6,c6,heq,le2,h7,rfl,rfl⟩;subst o01;have H:=H.trans le2;exact yV [(1,.func (.func 102) ⟨[]⟩ ⟨[]⟩),(2,vP b 0),(4,vP b1 0),(5,vP b2 0)]<|zV ⟨_,_,_,_,_,_,_,_,(zB hMc1).symm,H,(SL.nil _),h7,rfl,rfl⟩
    rintro I0 hs2 m2 ⟨IndexCoefs,IndexConst,ReadArray,ReadSubs,p3,c3,p4,c4,heq1,le3,h3,h4,rfl,rfl⟩;subst o0;have h:=h.mono le3;have h2:=h2.mono le3;refine zU<|yL<|yM<|yF [2] [(30,vS p2 e0.Kids c2),(31,vI (e0.Kids.length:Int)),(32,vI 0)]<|zE<|zX<|pJ (yH [0,1] (hs':=[hB b2 [vI e0.Kind,vI e0.Num,vS p3 IndexCoefs c3,vI IndexConst,vT ReadArray.l,vS p4 ReadSubs c4,z0],hB b1 zExpr]))<|vM [(1,.func (.func 102) ⟨[]⟩ ⟨[]⟩),(4,vP b1 0),(5,vP b2 0),(30,vS p2 e0.Kids c2),(31,vI (e0.Kids.length:Int)),(32,vI 0)]<|pJ (tE (Rp.sz zF)) ?_;have h10:RL I0 [] ([]:List zF):=RepL.nil;obtain ⟨o02,ho02,hMl⟩:=zC hMc;refine ih_impl_exprMap_l1 e0 0 ([]:List zF) o02 ho02 iR h2 h3 h4 h10 (fun _ _ _ h=>h) (fun _ _ h=>h) ?_;intro I07 Kids1 p9 c9 cs3 heq2 le7 h12;subst o02;have h3:=h3.mono le7;have h4:=h4.mono le7;refine zY<|xP<|yG 1 [1] [(45,vA [vI e0.Kind,vI e0.Num,vS p3 IndexCoefs c3,vI IndexConst,vT ReadArray.l,vS p4 ReadSubs c4,vS p9 Kids1 c9])]<|xN 2 [vI e0.Kind,vI e0.Num,vS p3 IndexCoefs c3,vI IndexConst,vT ReadArray.l,vS p4 ReadSubs c4,vS p9 Kids1 c9] [hO zF (vS p9 Kids1 c9) cs3,hB b2 [vI e0.Kind,vI e0.Num,vS p3 IndexCoefs c3,vI IndexConst,vT ReadArray.l,vS p4 ReadSubs c4,vS p9 Kids1 c9],hB b1 [vI e0.Kind,vI e0.Num,vS p3 IndexCoefs c3,vI IndexConst,vT ReadArray.l,vS p4 ReadSubs c4,vS p9 Kids1 c9]] rfl rfl rfl rfl<|yN rfl<|zE<|yC<|xO 0 rfl ?_;intro I08 le8 hl01;have h23:=SL.of_frozen hl01 le8 h12;have h3:=h3.mono le8;have h4:=h4.mono le8;obtain rfl:=zB hMl;exact xM ⟨_,_,(.cell 1 rfl rfl (by kernel_rfl) ResV.nil),zT,⟨_,rfl,rfl,⟨_,rfl,(xS ⟨_,_,_,rfl,h3,h4,h23⟩)⟩⟩⟩
  intro F_impl_exprMap F_impl_exprMap_l1 ih_impl_exprMap ih_impl_exprMap_l1 e0 t32 Kids o N B I0 I Q IndexCoefs IndexConst ReadArray ReadSubs p2 c2 b1 b2 p3 c3 p4 c4 p8 c8 cs2 H h2 h3 h4 h11 hg ho hx;refine xD hg ho<|yI [(33,.bool (decide (t32 < (e0.Kids.length:Int))))]<|yL<|yO N ?_ ?_
  · intro hc2 N;refine zZ<|yL<|zX<|yM<|bE N fun x hy2 N=>wD rfl rfl h2 hy2 ?_;intro ad ccs hat hrep;obtain ⟨p10,c10,p11,c11,p12,c12,rfl,h13,h14,h15⟩:=uL hrep;refine xT 0 hat (cExpr x p10 c10 p11 c11 p12 c12) (vA (cExpr x p10 c10 p11 c11 p12 c12)) rfl<|uK zExpr ?_;intro b3 hb3;refine xN 0 (cExpr x p10 c10 p11 c11 p12 c12) [hB b3 (cExpr x p10 c10 p11 c11 p12 c12),hO zF (vS p8 Kids c8) cs2,hB b2 [vI e0.Kind,vI e0.Num,vS p3 IndexCoefs c3,vI IndexConst,vT ReadArray.l,vS p4 ReadSubs c4,vS p8 Kids c8],hB b1 zExpr] rfl rfl rfl rfl<|yN rfl<|zE ?_;obtain ⟨y2,hy3,N⟩:=zC N;obtain ⟨l,hy4,N⟩:=zC N;refine vK [.p (vP b2 6) [],.p (vS p8 Kids c8) [1],.p (vA (cExpr x p10 c10 p11 c11 p12 c12)) [0],.p (.func (.func 102) ⟨[]⟩ ⟨[]⟩) [],.x (fun I' v hx=>∃ p13 c13 p14 c14 p15 c15,v=vA (cExpr y2 p13 c13 p14 c14 p15 c15)∧hx=[]∧(S4 I' p13 y2.Index.Coefs c13)∧(S4 I' p14 y2.Read.Subs c14)∧(S4 I' p15 y2.Kids c15)),.x (fun I' v hx=>∃ b4,v=vS (some ⟨b4,0,none⟩) ([y2]:List zF) 1∧hx=[]∧(SL I' (vS (some ⟨b4,0,none⟩) ([y2]:List zF) 1) ([y2]:List zF))),.x (fun I' v hx=>∃ p16 c16 cs5,v=vS p16 l c16∧hx=[hO zF (vS p16 l c16) cs5]∧(RL I' cs5 l))] [[],[(0,false)],[],[],[(2,false),(3,false)],[(4,false)],[(1,false),(5,false),(9,true)]] [hB b3 (cExpr x p10 c10 p11 c11 p12 c12),hB b2 [vI e0.Kind,vI e0.Num,vS p3 IndexCoefs c3,vI IndexConst,vT ReadArray.l,vS p4 ReadSubs c4,vS p8 Kids c8],hB b1 zExpr] [[hO zF (vS p8 Kids c8) cs2]] [(6,true)] (yH [0,2,3,1]) ?_ ?_
    · refine Op<|Op<|Op<|Op<|Ox ?_<|Ox ?_<|Ox ?_<|On
      · intro I1 hf le1;refine yX [(38,vA (cExpr x p10 c10 p11 c11 p12 c12)),(39,.func (.func 102) ⟨[]⟩ ⟨[]⟩)] ?_;have H:=iS I1;have h13:=h13.mono le1;have h14:=h14.mono le1;have h15:=h15.mono le1;refine xX (ih_impl_exprMap x _ hy3 h13 h14 h15) ?_;rintro I04 hs2 v2 k2 le4 - ⟨v07,rfl,rfl,⟨cs4,rfl,h16⟩⟩ -;have H:=H.trans le4;obtain ⟨p13,c13,p14,c14,p15,c15,rfl,h17,h18,h19⟩:=uL h16;exact yY [] H ⟨_,_,_,_,_,_,rfl,rfl,h17,h18,h19⟩
      · intro I1 hf le1;refine zH ?_;rintro _ _ ⟨p13,c13,p14,c14,p15,c15,rfl,rfl,h17,h18,h19⟩;refine yX [(40,vA (cExpr y2 p13 c13 p14 c14 p15 c15))] ?_;have H:=iS I1;refine xW (cExpr y2 p13 c13 p14 c14 p15 c15) zF ?_;intro b4 hb4;have h20:RL I1 (cExpr y2 p13 c13 p14 c14 p15 c15) ([y2]:List zF):=⟨(cExpr y2 p13 c13 p14 c14 p15 c15),_,rfl,rfl,(xS ⟨_,_,_,rfl,h17,h18,h19⟩),rfl⟩;refine yJ 0 rfl ?_;intro I05 le5 hl0;have h21:=SL.of_frozen hl0 le5 h20;have H:=H.trans le5;exact yY [] H ⟨_,rfl,rfl,h21⟩
      intro I1 hf le1;refine zH ?_;rintro _ _ ⟨rfl,rfl⟩;refine zH ?_;rintro _ _ ⟨b4,rfl,rfl,h21⟩;refine zH ?_;rintro _ _ rfl;refine yX [(37,vS p8 Kids c8),(41,vS (some ⟨b4,0,none⟩) ([y2]:List zF) 1)] ?_;have h11:=iM le1 h11;obtain ⟨ccs1,k0,k01⟩:=h21;have h21:SL I1 (vS (some ⟨b4,0,none⟩) ([y2]:List zF) 1) ([y2]:List zF):=⟨_,k0,k01⟩;exact qZ 47 7 0 rfl rfl rfl h11 (.inl k0) k01 hy4 fun p16 c16 cs5 h22=>uY (hs':=(hO zF (vS p16 l c16) cs5::hB b3 (cExpr x p10 c10 p11 c11 p12 c12)::hB b2 [vI e0.Kind,vI e0.Num,vS p3 IndexCoefs c3,vI IndexConst,vT ReadArray.l,vS p4 ReadSubs c4,vS p8 Kids c8]::hB b1 zExpr::hf)) rfl<|yY [hO zF (vS p16 l c16) cs5] iR ⟨_,_,_,rfl,rfl,h22⟩
    intro I06 le6;refine zH ?_;rintro _ _ ⟨p16,c16,cs5,rfl,rfl,h22⟩;refine yX [(1,.func (.func 102) ⟨[]⟩ ⟨[]⟩),(4,vP b1 0),(5,vP b2 0),(30,vS p2 e0.Kids c2),(31,vI (e0.Kids.length:Int)),(32,vI t32),(42,vS p16 l c16)] ?_;have h2:=h2.mono le6;have h3:=h3.mono le6;have h4:=h4.mono le6;have H:=H.trans le6;exact yG 8 [] [(43,vP b2 6)]<|xN 2 [vI e0.Kind,vI e0.Num,vS p3 IndexCoefs c3,vI IndexConst,vT ReadArray.l,vS p4 ReadSubs c4,vS p16 l c16] [hO zF (vS p16 l c16) cs5,hB b3 (cExpr x p10 c10 p11 c11 p12 c12),hB b2 [vI e0.Kind,vI e0.Num,vS p3 IndexCoefs c3,vI IndexConst,vT ReadArray.l,vS p4 ReadSubs c4,vS p16 l c16],hB b1 zExpr] rfl rfl rfl rfl<|yN rfl<|zU<|zE<|zR<|yF [] [(32,vI (W (t32 + 1)))]<|xE<|pJ (yD [0,2,3] rfl (by decide))<|vM [(1,.func (.func 102) ⟨[]⟩ ⟨[]⟩),(4,vP b1 0),(5,vP b2 0),(30,vS p2 e0.Kids c2),(31,vI (e0.Kids.length:Int)),(32,vI (W (t32 + 1)))]<|ih_impl_exprMap_l1 e0 (W (t32 + 1)) l _ N H h2 h3 h4 h22 hg ho hx
  intro hc2 N;exact xC<|zO<|zO<|yV [(4,vP b1 0),(5,vP b2 0)]<|hx _ _ _ _ _ (zB N).symm H h11
theorem zJp:∀ e0 r,zJ2 e0=some r→∀ {I:Imm}{p c p1 c1 p2 c2},(S4 I p e0.Index.Coefs c)→(S4 I p1 e0.Read.Subs c1)→(S4 I p2 e0.Kids c2)→Ret Tryz.prog 113 [vA (cExpr e0 p c p1 c1 p2 c2),.func (.func 102) ⟨[]⟩ ⟨[]⟩] I [] (zJe  r):=zJo.1
def zJ6 (s:zP):Option (zP):=do
 let y←zJZ s.Write
 let y1←zJ2 s.Value
 pure (zP.mk y y1)
theorem zJq:∀ s r,zJ6 s=some r→∀ {I:Imm}{p c p1 c1 p2 c2 p3 c3},(S4 I p s.Write.Subs c)→(S4 I p1 s.Value.Index.Coefs c1)→(S4 I p2 s.Value.Read.Subs c2)→(S4 I p3 s.Value.Kids c3)→Ret Tryz.prog 61 [vA (cStmt s p c p1 c1 p2 c2 p3 c3),.func (.func 102) ⟨[]⟩ ⟨[]⟩] I [] (dA  r):=by
 intro s r N I p c p1 c1 p2 c2 p3 c3 h h1 h2 h3;unfold zJ6 at N;refine yB (fn:=Tryz.f61) (c:=(bodyOf Tryz.f61)) Tryz.func61 rfl rfl ?_;rintro B - -;have H:=iS I;refine yM<|tD (cStmt s p c p1 c1 p2 c2 p3 c3) ?_;intro b hb;refine uK [vT ([]),z0,vI 0,vI 0,z0,vI 0,vT ([]),z0,z0] ?_;intro b1 hb1;refine yN rfl<|zE<|yK ?_;obtain ⟨y,hy,N⟩:=zC N;obtain ⟨y1,hy1,N⟩:=zC N;refine vK [.p (vP b 0) [],.p (vA (cAccess s.Write p c)) [1],.p (.func (.func 102) ⟨[]⟩ ⟨[]⟩) [],.x (fun I' v hx=>∃ p4 c4,v=vA (cAccess y p4 c4)∧hx=[]∧(S4 I' p4 y.Subs c4)),.p (vP b 2) [],.p (vA (cExpr s.Value p1 c1 p2 c2 p3 c3)) [1],.p (.func (.func 102) ⟨[]⟩ ⟨[]⟩) [],.x (fun I' v hx=>∃ p5 c5 p6 c6 p7 c7,v=vA (cExpr y1 p5 c5 p6 c6 p7 c7)∧hx=[]∧(S4 I' p5 y1.Index.Coefs c5)∧(S4 I' p6 y1.Read.Subs c6)∧(S4 I' p7 y1.Kids c7)),.x (fun I' v hx=>∃ p41 c41 p51 c51 p61 c61 p71 c71,v=vA [vT y.Array.l,vS p41 y.Subs c41,vI y1.Kind,vI y1.Num,vS p51 y1.Index.Coefs c51,vI y1.Index.Const,vT y1.Read.Array.l,vS p61 y1.Read.Subs c61,vS p71 y1.Kids c71]∧hx=[]∧(S4 I' p41 y.Subs c41)∧(S4 I' p51 y1.Index.Coefs c51)∧(S4 I' p61 y1.Read.Subs c61)∧(S4 I' p71 y1.Kids c71))] [[],[(0,false)],[],[(1,false),(2,false)],[],[(4,false)],[],[(5,false),(6,false)],[(3,false),(7,false)]] [hB b1 [vT ([]),z0,vI 0,vI 0,z0,vI 0,vT ([]),z0,z0],hB b (cStmt s p c p1 c1 p2 c2 p3 c3)] [] [(8,false)] (yH [0,1]) ?_ ?_
 · refine Op<|Op<|Op<|Ox ?_<|Op<|Op<|Op<|Ox ?_<|Ox ?_<|On
   · intro I1 hf le1;refine yX [(6,vA (cAccess s.Write p c)),(7,.func (.func 102) ⟨[]⟩ ⟨[]⟩)] ?_;have H:=iS I1;have h:=h.mono le1;refine xX (zJd s.Write _ hy h) ?_;rintro I0 hs2 v2 k2 le - ⟨v0,rfl,rfl,⟨cs,rfl,h4⟩⟩ -;have H:=H.trans le;obtain ⟨p4,c4,rfl,h5⟩:=qP h4;exact yY [] H ⟨_,_,rfl,rfl,h5⟩
   · intro I1 hf le1;refine yX [(10,vA (cExpr s.Value p1 c1 p2 c2 p3 c3)),(11,.func (.func 102) ⟨[]⟩ ⟨[]⟩)] ?_;have H:=iS I1;have h1:=h1.mono le1;have h2:=h2.mono le1;have h3:=h3.mono le1;refine xX (zJp s.Value _ hy1 h1 h2 h3) ?_;rintro I01 hs2 v2 k2 le1 - ⟨v02,rfl,rfl,⟨cs1,rfl,h6⟩⟩ -;have H:=H.trans le1;obtain ⟨p5,c5,p6,c6,p7,c7,rfl,h7,h8,h9⟩:=uL h6;exact yY [] H ⟨_,_,_,_,_,_,rfl,rfl,h7,h8,h9⟩
   intro I1 hf le1;refine zH ?_;rintro _ _ ⟨p4,c4,rfl,rfl,h5⟩;refine zH ?_;rintro _ _ ⟨p5,c5,p6,c6,p7,c7,rfl,rfl,h7,h8,h9⟩;exact yX [(8,vA (cAccess y p4 c4)),(12,vA (cExpr y1 p5 c5 p6 c6 p7 c7))]<|qO 9 [(13,vA [vT y.Array.l,vS p4 y.Subs c4,vI y1.Kind,vI y1.Num,vS p5 y1.Index.Coefs c5,vI y1.Index.Const,vT y1.Read.Array.l,vS p6 y1.Read.Subs c6,vS p7 y1.Kids c7])]<|yY [] iR ⟨_,_,_,_,_,_,_,_,rfl,rfl,h5,h7,h8,h9⟩
 intro I02 le2;refine zH ?_;rintro _ _ ⟨p41,c41,p51,c51,p61,c61,p71,c71,rfl,rfl,h51,h71,h81,h91⟩;refine yX [(4,vP b1 0),(13,vA [vT y.Array.l,vS p41 y.Subs c41,vI y1.Kind,vI y1.Num,vS p51 y1.Index.Coefs c51,vI y1.Index.Const,vT y1.Read.Array.l,vS p61 y1.Read.Subs c61,vS p71 y1.Kids c71])] ?_;refine xN 0 [vT y.Array.l,vS p41 y.Subs c41,vI y1.Kind,vI y1.Num,vS p51 y1.Index.Coefs c51,vI y1.Index.Const,vT y1.Read.Array.l,vS p61 y1.Read.Subs c61,vS p71 y1.Kids c71] [hB b1 [vT y.Array.l,vS p41 y.Subs c41,vI y1.Kind,vI y1.Num,vS p51 y1.Index.Coefs c51,vI y1.Index.Const,vT y1.Read.Array.l,vS p61 y1.Read.Subs c61,vS p71 y1.Kids c71],hB b (cStmt s p c p1 c1 p2 c2 p3 c3)] rfl rfl rfl rfl<|yN rfl<|zE<|yC ?_;obtain rfl:=zB N;exact xM ⟨_,_,(.cell 0 rfl rfl (by kernel_rfl) ResV.nil),zT,⟨_,rfl,rfl,⟨_,rfl,(wQ ⟨_,_,_,_,rfl,h51,h71,h81,h91⟩)⟩⟩⟩
def zJ7 (s:zP):Option (zP):=do
 let y←zJ6 s
 pure (id y)
theorem zJr:∀ s r,zJ7 s=some r→∀ {I:Imm}{p c p1 c1 p2 c2 p3 c3},(S4 I p s.Write.Subs c)→(S4 I p1 s.Value.Index.Coefs c1)→(S4 I p2 s.Value.Read.Subs c2)→(S4 I p3 s.Value.Kids c3)→Ret Tryz.prog 53 [vA (cStmt s p c p1 c1 p2 c2 p3 c3)] I [] (dA  r):=by
 intro s r N I p c p1 c1 p2 c2 p3 c3 h h1 h2 h3;unfold zJ7 at N;refine yB (fn:=Tryz.f53) (c:=(bodyOf Tryz.f53)) Tryz.func53 rfl rfl ?_;rintro B - -;refine yM<|tD (cStmt s p c p1 c1 p2 c2 p3 c3) ?_;intro b hb;refine uK [vT ([]),z0,vI 0,vI 0,z0,vI 0,vT ([]),z0,z0] ?_;intro b1 hb1;refine yN rfl<|xP<|yG 1 [1] [(3,vA (cStmt s p c p1 c1 p2 c2 p3 c3))]<|bE N fun y hy N=>xX (zJq s _ hy h h1 h2 h3) ?_;rintro I0 hs2 v2 k2 le - ⟨v0,rfl,rfl,⟨cs,rfl,h4⟩⟩ -;obtain ⟨p4,c4,p5,c5,p6,c6,p7,c7,rfl,h5,h6,h7,h8⟩:=qK h4;refine xN 0 (cStmt y p4 c4 p5 c5 p6 c6 p7 c7) [hB b1 (cStmt y p4 c4 p5 c5 p6 c6 p7 c7),hB b (cStmt s p c p1 c1 p2 c2 p3 c3)] rfl rfl rfl rfl<|yN rfl<|zE<|yC ?_;obtain rfl:=zB N;exact xM ⟨_,_,(.cell 0 rfl rfl (by kernel_rfl) ResV.nil),zT,⟨_,rfl,rfl,⟨_,rfl,(wQ ⟨_,_,_,_,rfl,h5,h6,h7,h8⟩)⟩⟩⟩
def zJ4 (s:zP):Option ((List zI)):=do
 let y←zJ8 s
 if (!y) then
  pure ([]:List zI)
 else
  let y1←zJ7 s
  let y2←oI y1.Value
  pure (id y2)
theorem zJm:∀ s r,zJ4 s=some r→∀ {I:Imm}{p c p1 c1 p2 c2 p3 c3},(S4 I p s.Write.Subs c)→(S4 I p1 s.Value.Index.Coefs c1)→(S4 I p2 s.Value.Read.Subs c2)→(S4 I p3 s.Value.Kids c3)→Ret Tryz.prog 16 [vA (cStmt s p c p1 c1 p2 c2 p3 c3)] I [] (dK  r):=by
 intro s r N I p c p1 c1 p2 c2 p3 c3 h h1 h2 h3;unfold zJ4 at N;refine yB (fn:=Tryz.f16) (c:=(bodyOf Tryz.f16)) Tryz.func16 rfl rfl ?_;rintro B - -;refine yM<|tD (cStmt s p c p1 c1 p2 c2 p3 c3) ?_;intro b hb;refine yF [] []<|yL<|yM<|yG 1 [0] [(3,vA (cStmt s p c p1 c1 p2 c2 p3 c3))]<|bE N fun y hy N=>vL (zJs s _ hy h h1 h2 h3) ?_;intro I0 le;have h:=h.mono le;have h1:=h1.mono le;have h2:=h2.mono le;have h3:=h3.mono le;refine yF [] [(5,.bool (!y))]<|zE<|yO N ?_ ?_
 · intro hc N;refine yI [(2,z0)]<|zE<|yC<|zK ?_;obtain rfl:=zB N;exact xM ⟨_,_,(.tmp rfl ResV.nil),zT,⟨_,rfl,rfl,(SL.nil _)⟩⟩
 intro hc N;refine zZ<|xP<|yG 1 [0] [(6,vA (cStmt s p c p1 c1 p2 c2 p3 c3))]<|bE N fun y1 hy1 N=>xX (zJr s _ hy1 h h1 h2 h3) ?_;rintro I01 hs2 v2 k2 le1 - ⟨v01,rfl,rfl,⟨cs,rfl,h5⟩⟩ -;obtain ⟨p4,c4,p5,c5,p6,c6,p7,c7,rfl,h6,h7,h8,h9⟩:=qK h5;refine yG 3 [] [(8,vA (cExpr y1.Value p5 c5 p6 c6 p7 c7))]<|bE N fun y2 hy2 N=>xX (zAj y1.Value _ hy2 h7 h8 h9) ?_;rintro I02 hs2 v2 k2 le2 - ⟨v06,rfl,rfl,h10⟩ -;obtain ⟨p8,c8,rfl⟩:=h10.form;refine yF [] [(2,vS p8 y2 c8)]<|zE<|yC ?_;obtain rfl:=zB N;exact xM ⟨_,_,(.tmp rfl ResV.nil),zT,⟨_,rfl,rfl,h10⟩⟩
def zJ3 (p:zS) (a0:zI) (point:(List Int)):Option (Int):=do
 let t19←(do
   let y←pE p
   if (!y) then
    pure true
   else
    let y1←oC a0 4
    if (!y1) then
     pure true
    else
     let y2←nE point
     pure (!y2)
     : Option Bool)
 if t19 then
  pure (-1)
 else
  let y3←uX p a0 point
  pure (id y3)
theorem zJj:∀ p a0 point r,zJ3 p a0 point=some r→∀ {I:Imm}{p1 c p2 c1 p3 c2 p4 c3},(S4 I p1 p.Arrays c)→(S4 I p2 p.Parts c1)→(S4 I p3 a0.Subs c2)→(S4 I p4 point c3)→Ret Tryz.prog 17 [vA (cProg p p1 c p2 c1),vA (cAccess a0 p3 c2),vS p4 point c3] I [] (xK  r):=by
 intro p a0 point r N I p1 c p2 c1 p3 c2 p4 c3 h h1 h2 h3;unfold zJ3 at N;refine yB (fn:=Tryz.f17) (c:=(bodyOf Tryz.f17)) Tryz.func17 rfl rfl ?_;rintro B - -;have H:=iS I;refine yM<|tD (cProg p p1 c p2 c1) ?_;intro b hb;refine tD (cAccess a0 p3 c2) ?_;intro b1 hb1;refine yF [] []<|yL<|yK ?_;obtain ⟨o0,ho0,hMc⟩:=zC N;refine yU (fun I' hs' m'=>∃ (t19:Bool),o0=t19∧I.le I'∧hs'=[hB b1 (cAccess a0 p3 c2),hB b (cProg p p1 c p2 c1)]∧m'=[(2,vS p4 point c3),(3,vP b 0),(4,vP b1 0),(19,.bool t19)]) ?_ ?_
 · have H:=iS I;refine zR<|yG 1 [1] [(7,vA (cProg p p1 c p2 c1))] ?_;obtain ⟨y,hy,N⟩:=zC ho0;refine vL (zAO p _ hy h h1) ?_;intro I01 le;have h3:=h3.mono le;have h2:=h2.mono le;have H:=H.trans le;refine yG 4 [] [(10,.bool (!y))] ?_;cases hc:(!y) with
   | true =>
    have hM0:=zQ hc N
    try rw [hc]
    exact yF [] [(19,vY)]<|yV [(2,vS p4 point c3),(3,vP b 0),(4,vP b1 0),(19,vY)]<|zV ⟨_,(zB hM0).symm,H,rfl,rfl⟩
   | false =>
    have hM01:=zN hc N
    try rw [hc]
    refine yG 5 [0] [(11,vA (cAccess a0 p3 c2))] ?_;obtain ⟨y1,hy1,N⟩:=zC hM01;refine vL (eF a0 4 _ hy1 h2) ?_;intro I02 le1;have h3:=h3.mono le1;have H:=H.trans le1;refine yG 9 [] [(15,.bool (!y1))] ?_;cases hc1:(!y1) with
    | true =>
     have hM02:=zQ hc1 N
     try rw [hc1]
     exact yF [] [(19,vY)]<|yV [(2,vS p4 point c3),(3,vP b 0),(4,vP b1 0),(19,vY)]<|zV ⟨_,(zB hM02).symm,H,rfl,rfl⟩
    | false =>
     have hM03:=zN hc1 N
     try rw [hc1]
     refine yG 10 [] [(16,vS p4 point c3)] ?_;obtain ⟨y2,hy2,N⟩:=zC hM03;refine vL (dJ point _ hy2 h3) ?_;intro I03 le2;have H:=H.trans le2;exact yF [] [(19,.bool (!y2))]<|yV [(2,vS p4 point c3),(3,vP b 0),(4,vP b1 0),(19,.bool (!y2))]<|zV ⟨_,(zB N).symm,H,rfl,rfl⟩
 rintro I0 hs2 m2 ⟨t19,heq,le3,rfl,rfl⟩;subst o0;have h3:=h3.mono le3;have h2:=h2.mono le3;have h:=h.mono le3;have h1:=h1.mono le3;refine zE<|yO hMc ?_ ?_
 · intro hc2 N;refine yI [(6,vI (-1))]<|zE<|yC<|zK ?_;obtain rfl:=zB N;exact vQ
 intro hc2 N;refine zZ<|xP<|yG 3 [1,0] [(20,vA (cProg p p1 c p2 c1)),(21,vA (cAccess a0 p3 c2)),(22,vS p4 point c3)]<|bE N fun y3 hy3 N=>kD (oK p a0 point _ hy3 h h1 h2 h3) fun I04 le4=>yF [] [(6,vI y3)]<|zE<|yC ?_;obtain rfl:=zB N;exact vQ
def zJT (y1:zS) (y2:zM) (y4:(List Int)) (y13:(List zI)) (i:Int):Option (Out Unit (Bool)):=do
 if (decide (i < (y13.length:Int))) then
  let t105←(do
    if ((y13.length:Int) != (y4.length:Int)) then
     pure true
    else
     let x2←idx y13 i
     let y14←zJ3 y1 x2 y2.Point
     let x3←idx y4 i
     pure (y14 != x3)
      : Option Bool)
  if t105 then
   pure (.ret false)
  else
   zJT y1 y2 y4 y13 (W (i + 1))
 else
  pure (.done ())
 partial_fixpoint
theorem zJa (y1:zS) (y2:zM) (y4:(List Int)) (y13:(List zI)):∀ (i:Int) (o:Out Unit (Bool)),zJT y1 y2 y4 y13 i=some o→∀ {B}{I0 I:Imm}{Q}{y5:Int}{x1:zP}{p1 c1 p2 c2 p3 c3}{b:Nat}{b1:Nat}{p4 c4 p81 c81 p91 c91 p101 c101 p111 c111}{b2:Nat}{p12 c12},I0.le I→(S4 I p4 y4 c4)→(S4 I p12 y13 c12)→(S4 I p81 x1.Write.Subs c81)→(S4 I p91 x1.Value.Index.Coefs c91)→(S4 I p101 x1.Value.Read.Subs c101)→(S4 I p111 x1.Value.Kids c111)→(S4 I p3 y2.Point c3)→(S4 I p1 y1.Arrays c1)→(S4 I p2 y1.Parts c2)→NG Q→NO Q→(∀ (I':Imm) ,o=(.done ())→I0.le I'→T 114 B Q (.exit 0) I' [hB b2 (cStmt x1 p81 c81 p91 c91 p101 c101 p111 c111),hB b1 (cInst y2 p3 c3),hB b (cProg y1 p1 c1 p2 c2)] [(3,vP b 0),(4,vP b1 0),(6,vI y5),(11,vP b2 0)])→(∀ r I' hs' m',o=(.ret r)→I0.le I'→RS Tryz.prog Tryz.f4 B (zW  r) I' hs' m'→T 114 B Q .ret I' hs' m')→J Tryz.prog 114 B (nav (bodyOf Tryz.f4) [1,1,1,1,1,1,1,1,0,1,0]) Q I [hB b2 (cStmt x1 p81 c81 p91 c91 p101 c101 p111 c111),hB b1 (cInst y2 p3 c3),hB b (cProg y1 p1 c1 p2 c2)] [(3,vP b 0),(4,vP b1 0),(5,vS p4 y4 c4),(6,vI y5),(11,vP b2 0),(12,vS p12 y13 c12),(13,vI i)]:=by
 refine zJT.partial_correctness y1 y2 y4 y13 _ fun self ih i o N B I0 I Q y5 x1 p1 c1 p2 c2 p3 c3 b b1 p4 c4 p81 c81 p91 c91 p101 c101 p111 c111 b2 p12 c12 H h6 h20 h161 h171 h181 h191 h5 h3 h4 hg ho hx hr=>xD hg ho<|yK<|yI [(83,.bool (decide (i < (y13.length:Int))))]<|zE<|yO N ?_ ?_
 · intro hc7 N;refine zZ<|yL<|zX<|yK ?_;obtain ⟨o02,ho02,hMc2⟩:=zC N;refine yU (fun I' hs' m'=>∃ (t105:Bool),o02=t105∧I.le I'∧hs'=[hB b2 (cStmt x1 p81 c81 p91 c91 p101 c101 p111 c111),hB b1 (cInst y2 p3 c3),hB b (cProg y1 p1 c1 p2 c2)]∧m'=[(3,vP b 0),(4,vP b1 0),(5,vS p4 y4 c4),(6,vI y5),(11,vP b2 0),(12,vS p12 y13 c12),(13,vI i),(105,.bool t105)]) ?_ ?_
   · have H:=iS I;cases hc8:((y13.length:Int) != (y4.length:Int)) with
     | true =>
      have hM010:=zQ hc8 ho02;refine vK [.p (vS p12 y13 c12) [],.p (vI (y13.length:Int)) [],.p (vS p4 y4 c4) [],.p (vI (y4.length:Int)) [],.q vY,.q vY,.p undef [],.p undef [],.p undef [],.p undef [],.p undef [],.p undef [],.p undef [],.p undef [],.p undef [],.p undef [],.p undef [],.p undef [],.p undef [],.p vY []] [[],[(0,false)],[],[(2,false)],[(1,false),(3,false)],[(4,false)],[(5,false)],[(5,false)],[(5,false)],[(5,false),(7,false),(8,false)],[(5,false),(9,false)],[(5,false)],[(5,false),(11,false)],[(5,false),(6,false),(10,false),(12,false)],[(5,false)],[(5,false)],[(5,false),(14,false),(15,false)],[(5,false),(16,false)],[(5,false),(13,false),(17,false)],[(5,false),(18,false)]] [hB b2 (cStmt x1 p81 c81 p91 c91 p101 c101 p111 c111),hB b1 (cInst y2 p3 c3),hB b (cProg y1 p1 c1 p2 c2)] [] [(19,false)] (yH [0,1,2]) ?_ ?_
      · refine Op<|Op<|Op<|Op<|Oq ?_<|Oq ?_<|Op<|Op<|Op<|Op<|Op<|Op<|Op<|Op<|Op<|Op<|Op<|Op<|Op<|Op<|On
        · intro I1 hf le1;refine yX [(87,vI (y13.length:Int)),(89,vI (y4.length:Int))]<|qO 5 [(90,.bool ((y13.length:Int) != (y4.length:Int)))] ?_;rw [hc8];exact xJ iR
        intro I1 hf le1;exact yX [(90,vY)]<|qO 6 [(91,vY)]<|xJ iR
      intro I010 le9;refine yX [(3,vP b 0),(4,vP b1 0),(5,vS p4 y4 c4),(6,vI y5),(11,vP b2 0),(12,vS p12 y13 c12),(13,vI i),(105,vY)] ?_;have H:=H.trans le9;exact yN rfl<|yV [(3,vP b 0),(4,vP b1 0),(5,vS p4 y4 c4),(6,vI y5),(11,vP b2 0),(12,vS p12 y13 c12),(13,vI i),(105,vY)]<|zV ⟨_,(zB hM010).symm,H,rfl,rfl⟩
     | false =>
      have hM011:=zN hc8 ho02;obtain ⟨x2,hy8,N⟩:=zC hM011;obtain ⟨y14,hy9,N⟩:=zC N;obtain ⟨x3,hy10,N⟩:=zC N;refine vK [.p (vS p12 y13 c12) [],.p (vI (y13.length:Int)) [],.p (vS p4 y4 c4) [],.p (vI (y4.length:Int)) [],.q vF,.q vF,.p (vA (cProg y1 p1 c1 p2 c2)) [2],.p (vS p12 y13 c12) [],.p (vI i) [],.x (fun I' v hx=>∃ ad3 p13 c13,v=.pointer (some ad3)∧hx=[]∧(At I' ad3 (cAccess x2 p13 c13))∧(S4 I' p13 x2.Subs c13)),.x (fun I' v hx=>∃ p131 c131,v=vA (cAccess x2 p131 c131)∧hx=[]∧(S4 I' p131 x2.Subs c131)),.p (vP b1 2) [],.p (vS p3 y2.Point c3) [1],.q (vI y14),.p (vS p4 y4 c4) [],.p (vI i) [],.x (fun I' v hx=>∃ ad4,v=.pointer (some ad4)∧hx=[]∧(At I' ad4 [vI x3])),.q (vI x3),.p (.bool (y14 != x3)) [],.p (.bool (y14 != x3)) []] [[],[(0,false)],[],[(2,false)],[(1,false),(3,false)],[(4,false)],[(5,false)],[(5,false)],[(5,false)],[(5,false),(7,false),(8,false)],[(5,false),(9,false)],[(5,false)],[(5,false),(11,false)],[(5,false),(6,false),(10,false),(12,false)],[(5,false)],[(5,false)],[(5,false),(14,false),(15,false)],[(5,false),(16,false)],[(5,false),(13,false),(17,false)],[(5,false),(18,false)]] [hB b2 (cStmt x1 p81 c81 p91 c91 p101 c101 p111 c111),hB b1 (cInst y2 p3 c3),hB b (cProg y1 p1 c1 p2 c2)] [] [(19,false)] (yH [0,1,2]) ?_ ?_
      · refine Op<|Op<|Op<|Op<|Oq ?_<|Oq ?_<|Op<|Op<|Op<|Ox ?_<|Ox ?_<|Op<|Op<|Oq ?_<|Op<|Op<|Ox ?_<|Oq ?_<|Op<|Op<|On
        · intro I1 hf le1;refine yX [(87,vI (y13.length:Int)),(89,vI (y4.length:Int))]<|qO 5 [(90,.bool ((y13.length:Int) != (y4.length:Int)))] ?_;rw [hc8];exact xJ iR
        · intro I1 hf le1;exact yX [(90,vF)]<|qO 6 [(91,vF)]<|xJ iR
        · intro I1 hf le1;refine yX [(91,vF),(93,vS p12 y13 c12),(94,vI i)] ?_;have h20:=h20.mono le1;refine wD rfl rfl h20 hy8 ?_;intro ad3 ccs2 hat3 hrep2;obtain ⟨p13,c13,rfl,h21⟩:=qP hrep2;exact yY [] iR ⟨_,_,_,rfl,rfl,hat3,h21⟩
        · intro I1 hf le1;refine zH ?_;rintro _ _ ⟨rfl,rfl⟩;refine zH ?_;rintro _ _ ⟨ad3,p13,c13,rfl,rfl,hat3,h21⟩;exact yX [(91,vF),(95,.pointer (some ad3))]<|xT 0 hat3 (cAccess x2 p13 c13) (vA (cAccess x2 p13 c13)) rfl<|yY [] iR ⟨_,_,rfl,rfl,h21⟩
        · intro I1 hf le1;refine zH ?_;rintro _ _ ⟨rfl,rfl⟩;refine zH ?_;rintro _ _ ⟨rfl,rfl⟩;refine zH ?_;rintro _ _ ⟨p131,c131,rfl,rfl,h211⟩;refine yX [(91,vF),(92,vA (cProg y1 p1 c1 p2 c2)),(96,vA (cAccess x2 p131 c131)),(98,vS p3 y2.Point c3)] ?_;have H:=iS I1;have h5:=h5.mono le1;have h3:=h3.mono le1;have h4:=h4.mono le1;refine kD (zJj y1 x2 y2.Point _ hy9 h3 h4 h211 h5) ?_;intro I011 le10;have H:=H.trans le10;exact xJ H
        · intro I1 hf le1;refine yX [(91,vF),(100,vS p4 y4 c4),(101,vI i)] ?_;have h6:=h6.mono le1;refine wD rfl rfl h6 hy10 ?_;intro ad4 ccs3 hat4 hrep3;obtain rfl:=hrep3;exact yY [] iR ⟨_,rfl,rfl,hat4⟩
        intro I1 hf le1;refine zH ?_;rintro _ _ ⟨rfl,rfl⟩;refine zH ?_;rintro _ _ ⟨ad4,rfl,rfl,hat4⟩;exact yX [(91,vF),(102,.pointer (some ad4))]<|xT 0 hat4 [vI x3] (vI x3) rfl<|xJ iR
      intro I012 le11;refine yX [(3,vP b 0),(4,vP b1 0),(5,vS p4 y4 c4),(6,vI y5),(11,vP b2 0),(12,vS p12 y13 c12),(13,vI i),(105,.bool (y14 != x3))] ?_;have H:=H.trans le11;exact yN rfl<|yV [(3,vP b 0),(4,vP b1 0),(5,vS p4 y4 c4),(6,vI y5),(11,vP b2 0),(12,vS p12 y13 c12),(13,vI i),(105,.bool (y14 != x3))]<|zV ⟨_,(zB N).symm,H,rfl,rfl⟩
   rintro I09 hs2 m2 ⟨t105,heq2,le12,rfl,rfl⟩;subst o02;have h6:=h6.mono le12;have h20:=h20.mono le12;have h161:=h161.mono le12;have h171:=h171.mono le12;have h181:=h181.mono le12;have h191:=h191.mono le12;have h5:=h5.mono le12;have h3:=h3.mono le12;have h4:=h4.mono le12;have H:=H.trans le12;refine zE<|yO hMc2 ?_ ?_
   · intro hc9 N;exact yI [(2,vF)]<|zE<|yC<|yA<|zK<|zK<|hr _ _ _ _ (zB N).symm H ⟨_,_,(.tmp rfl ResV.nil),zT,⟨_,rfl,rfl,rfl⟩⟩
   intro hc9 N;exact zZ<|zU<|zE<|zR<|yF [] [(13,vI (W (i + 1)))]<|xE<|vM [(3,vP b 0),(4,vP b1 0),(5,vS p4 y4 c4),(6,vI y5),(11,vP b2 0),(12,vS p12 y13 c12),(13,vI (W (i + 1)))]<|ih (W (i + 1)) _ N H h6 h20 h161 h171 h181 h191 h5 h3 h4 hg ho hx hr
 intro hc7 N;exact xC<|zO<|zO<|yV [(3,vP b 0),(4,vP b1 0),(6,vI y5),(11,vP b2 0)]<|hx _  (zB N).symm H
def zJX (code:(List UInt8)):Option (Bool):=do
 if (decide ((code.length:Int) > 1048576)) then
  pure true
 else
  let (y1,y2)←zJW code
  let (y4,y5,y6)←jJ y1 y2
  let (y8,y9,y10)←zJ0 y1 y2
  let t53←(do
    if (!(y6 == y10)) then
     pure true
    else
     if (y5 != y9) then
      pure true
     else
      let y11←zJ5 y4 y8
      if (!y11) then
       pure true
      else
       pure (!y6)
      : Option Bool)
  if t53 then
   let t2←(do
     if (y6 == y10) then
      if (y5 == y9) then
       let y12←zJ5 y4 y8
       pure (id y12)
      else
       pure false
     else
      pure false
       : Option Bool)
   pure (id t2)
  else
   let x←idx y1.Parts y2.Part
   let x1←idx x.Body y2.Stmt
   let y13←zJ4 x1
   match←zJT y1 y2 y4 y13 0 with
   | .ret r0=>pure r0
   | .done _ =>
    let y15←zJ3 y1 x1.Write y2.Point
    pure (y15 == y5)
theorem zJf:∀ code r,zJX code=some r→∀ {I:Imm}{p c},(S4 I p code c)→Ret Tryz.prog 4 [vS p code c] I [] (zW  r):=by
 intro code r N I p c h;unfold zJX at N;refine yB (fn:=Tryz.f4) (c:=(bodyOf Tryz.f4)) Tryz.func4 rfl rfl ?_;rintro B - -;have H:=iS I;refine yI []<|yL<|yI [(16,.bool (decide ((code.length:Int) > 1048576)))]<|zE<|yO N ?_ ?_
 · intro hc N;refine yI [(2,vY)]<|zE<|yC<|zK ?_;obtain rfl:=zB N;exact vQ
 intro hc N;refine zZ<|xP<|yG 1 [] [(18,vS p code c)] ?_;obtain ⟨⟨y1,y2⟩,hy,N⟩:=zC N;refine xX (zJb code _ hy h) ?_;rintro I0 hs2 v2 k2 le - ⟨v0,v01,rfl,rfl,⟨cs,rfl,h1⟩,⟨cs1,rfl,h2⟩⟩ -;have H:=H.trans le;obtain ⟨p1,c1,p2,c2,rfl,h3,h4⟩:=zGu h1;obtain ⟨p3,c3,rfl,h5⟩:=zCL h2;refine yG 5 [] [(20,vA (cProg y1 p1 c1 p2 c2)),(21,vA (cInst y2 p3 c3))]<|uK zTwo ?_;intro b hb;refine uK [vI 0,vI 0,z0] ?_;intro b1 hb1;refine xN 1 (cProg y1 p1 c1 p2 c2) [hB b1 [vI 0,vI 0,z0],hB b (cProg y1 p1 c1 p2 c2)] rfl rfl rfl rfl<|xN 0 (cInst y2 p3 c3) [hB b1 (cInst y2 p3 c3),hB b (cProg y1 p1 c1 p2 c2)] rfl rfl rfl rfl<|yN rfl<|xP<|yG 2 [1,0] [(23,vA (cProg y1 p1 c1 p2 c2)),(24,vA (cInst y2 p3 c3))] ?_;obtain ⟨⟨y4,y5,y6⟩,hy1,N⟩:=zC N;refine xX (zFC y1 y2 _ hy1 h3 h4 h5) ?_;rintro I01 hs2 v2 k2 le1 - ⟨v05,v06,v07,rfl,rfl,h6,rfl,rfl⟩ -;have h5:=h5.mono le1;have h3:=h3.mono le1;have h4:=h4.mono le1;have H:=H.trans le1;obtain ⟨p4,c4,rfl⟩:=h6.form;refine yF [] [(5,vS p4 y4 c4),(6,vI y5),(7,.bool y6)]<|xP<|yG 2 [1,0] [(30,vA (cProg y1 p1 c1 p2 c2)),(31,vA (cInst y2 p3 c3))] ?_;obtain ⟨⟨y8,y9,y10⟩,hy2,N⟩:=zC N;refine xX (zJg y1 y2 _ hy2 h3 h4 h5) ?_;rintro I02 hs2 v2 k2 le2 - ⟨v08,v09,v010,rfl,rfl,h9,rfl,rfl⟩ -;have h6:=h6.mono le2;have h5:=h5.mono le2;have h3:=h3.mono le2;have h4:=h4.mono le2;have H:=H.trans le2;obtain ⟨p5,c5,rfl⟩:=h9.form;refine yF [] [(8,vS p5 y8 c5),(9,vI y9),(10,.bool y10)]<|yL<|yK ?_;obtain ⟨o0,ho0,hMc⟩:=zC N;refine yU (fun I' hs' m'=>∃ (t53:Bool),o0=t53∧I02.le I'∧hs'=[hB b1 (cInst y2 p3 c3),hB b (cProg y1 p1 c1 p2 c2)]∧m'=[(3,vP b 0),(4,vP b1 0),(5,vS p4 y4 c4),(6,vI y5),(7,.bool y6),(8,vS p5 y8 c5),(9,vI y9),(10,.bool y10),(53,.bool t53)]) ?_ ?_
 · have H:=iS I02;refine zR<|yG 4 [] [(39,.bool (!(y6 == y10)))] ?_;cases hc1:(!(y6 == y10)) with
   | true =>
    have hM0:=zQ hc1 ho0
    try rw [hc1]
    exact yF [] [(53,vY)]<|yV [(3,vP b 0),(4,vP b1 0),(5,vS p4 y4 c4),(6,vI y5),(7,.bool y6),(8,vS p5 y8 c5),(9,vI y9),(10,.bool y10),(53,vY)]<|zV ⟨_,(zB hM0).symm,H,rfl,rfl⟩
   | false =>
    have hM01:=zN hc1 ho0
    try rw [hc1]
    refine yG 9 [] [(44,.bool (y5 != y9))] ?_;cases hc2:(y5 != y9) with
    | true =>
     have hM02:=zQ hc2 hM01
     try rw [hc2]
     exact yF [] [(53,vY)]<|yV [(3,vP b 0),(4,vP b1 0),(5,vS p4 y4 c4),(6,vI y5),(7,.bool y6),(8,vS p5 y8 c5),(9,vI y9),(10,.bool y10),(53,vY)]<|zV ⟨_,(zB hM02).symm,H,rfl,rfl⟩
    | false =>
     have hM03:=zN hc2 hM01
     try rw [hc2]
     refine yG 11 [] [(45,vS p4 y4 c4),(46,vS p5 y8 c5)] ?_;obtain ⟨y11,hy3,N⟩:=zC hM03;refine vL (zJh y4 y8 _ hy3 h6 h9) ?_;intro I04 le3;have H:=H.trans le3;refine yG 15 [] [(50,.bool (!y11))] ?_;cases hc3:(!y11) with
     | true =>
      have hM04:=zQ hc3 N
      try rw [hc3]
      exact yF [] [(53,vY)]<|yV [(3,vP b 0),(4,vP b1 0),(5,vS p4 y4 c4),(6,vI y5),(7,.bool y6),(8,vS p5 y8 c5),(9,vI y9),(10,.bool y10),(53,vY)]<|zV ⟨_,(zB hM04).symm,H,rfl,rfl⟩
     | false =>
      have hM05:=zN hc3 N
      try rw [hc3]
      exact yF [] [(53,.bool (!y6))]<|yV [(3,vP b 0),(4,vP b1 0),(5,vS p4 y4 c4),(6,vI y5),(7,.bool y6),(8,vS p5 y8 c5),(9,vI y9),(10,.bool y10),(53,.bool (!y6))]<|zV ⟨_,(zB hM05).symm,H,rfl,rfl⟩
 rintro I03 hs2 m2 ⟨t53,heq,le4,rfl,rfl⟩;subst o0;have h6:=h6.mono le4;have h9:=h9.mono le4;have h5:=h5.mono le4;have h3:=h3.mono le4;have h4:=h4.mono le4;have H:=H.trans le4;refine zE<|yO hMc ?_ ?_
 · intro hc4 N;refine yK ?_;obtain ⟨o01,ho01,hMc1⟩:=zC N;refine yU (fun I' hs' m'=>∃ (t2:Bool),o01=t2∧I03.le I'∧hs'=[]∧m'=[(2,.bool t2)]) ?_ ?_
   · have H:=iS I03;refine zR<|yG 4 [] [(57,.bool (y6 == y10))] ?_;cases hc5:(y6 == y10) with
     | true =>
      have hM06:=zQ hc5 ho01
      try rw [hc5]
      refine yG 9 [] [(62,.bool (y5 == y9))] ?_;cases hc6:(y5 == y9) with
      | true =>
       have hM07:=zQ hc6 hM06
       try rw [hc6]
       refine yG 11 [] [(63,vS p4 y4 c4),(64,vS p5 y8 c5)] ?_;obtain ⟨y12,hy4,N⟩:=zC hM07;refine vL (zJh y4 y8 _ hy4 h6 h9) ?_;intro I06 le5;have H:=H.trans le5;exact yF [] [(2,.bool y12)]<|wB zT<|yV [(2,.bool y12)]<|zV ⟨_,(zB N).symm,H,rfl,rfl⟩
      | false =>
       have hM08:=zN hc6 hM06
       try rw [hc6]
       exact yF [] [(2,vF)]<|wB zT<|yV [(2,vF)]<|zV ⟨_,(zB hM08).symm,H,rfl,rfl⟩
     | false =>
      have hM09:=zN hc5 ho01
      try rw [hc5]
      exact yF [] [(2,vF)]<|wB zT<|yV [(2,vF)]<|zV ⟨_,(zB hM09).symm,H,rfl,rfl⟩
   rintro I05 hs2 m2 ⟨t2,heq1,le6,rfl,rfl⟩;subst o01;refine zE<|yC<|zK ?_;obtain rfl:=zB hMc1;exact vQ
 intro hc4 N;refine zZ<|zE<|yK ?_;obtain ⟨x,hy5,N⟩:=zC N;obtain ⟨x1,hy6,N⟩:=zC N;refine vK [.p (vP b 1) [],.p (vS p2 y1.Parts c2) [1],.p (vP b1 0) [],.p (vI y2.Part) [0],.x (fun I' v hx=>∃ ad p6 c6 p7 c7,v=.pointer (some ad)∧hx=[]∧(At I' ad (cPart x p6 c6 p7 c7))∧(S4 I' p6 x.Nest c6)∧(S4 I' p7 x.Body c7)),.x (fun I' v hx=>∃ ad1 p61 c61 p71 c71,v=.pointer (some (ad1.add 1))∧hx=[]∧(At I' ad1 (cPart x p61 c61 p71 c71))∧(S4 I' p61 x.Nest c61)∧(S4 I' p71 x.Body c71)),.x (fun I' v hx=>∃ p711 c711,v=vS p711 x.Body c711∧hx=[]∧(S4 I' p711 x.Body c711)),.p (vP b1 1) [],.p (vI y2.Stmt) [0],.x (fun I' v hx=>∃ ad2 p8 c8 p9 c9 p10 c10 p11 c11,v=.pointer (some ad2)∧hx=[]∧(At I' ad2 (cStmt x1 p8 c8 p9 c9 p10 c10 p11 c11))∧(S4 I' p8 x1.Write.Subs c8)∧(S4 I' p9 x1.Value.Index.Coefs c9)∧(S4 I' p10 x1.Value.Read.Subs c10)∧(S4 I' p11 x1.Value.Kids c11)),.x (fun I' v hx=>∃ p81 c81 p91 c91 p101 c101 p111 c111,v=vA (cStmt x1 p81 c81 p91 c91 p101 c101 p111 c111)∧hx=[]∧(S4 I' p81 x1.Write.Subs c81)∧(S4 I' p91 x1.Value.Index.Coefs c91)∧(S4 I' p101 x1.Value.Read.Subs c101)∧(S4 I' p111 x1.Value.Kids c111)),.x (fun I' v hx=>∃ b2,v=vP b2 0∧hx=[hB b2 [vT ([]),z0,vI 0,vI 0,z0,vI 0,vT ([]),z0,z0]])] [[],[(0,false)],[],[(2,false)],[(1,false),(3,false)],[(4,false)],[(5,false)],[],[(7,false)],[(6,false),(8,false)],[(9,false)],[]] [hB b1 (cInst y2 p3 c3),hB b (cProg y1 p1 c1 p2 c2)] [] [(10,false),(11,true)] (yH [0,1]) ?_ ?_
 · refine Op<|Op<|Op<|Op<|Ox ?_<|Ox ?_<|Ox ?_<|Op<|Op<|Ox ?_<|Ox ?_<|Ox ?_<|On
   · intro I1 hf le1;refine yX [(68,vS p2 y1.Parts c2),(70,vI y2.Part)] ?_;have h4:=h4.mono le1;refine wD rfl rfl h4 hy5 ?_;intro ad ccs hat hrep;obtain ⟨p6,c6,p7,c7,rfl,h14,h15⟩:=wT hrep;exact yY [] iR ⟨_,_,_,_,_,rfl,rfl,hat,h14,h15⟩
   · intro I1 hf le1;refine zH ?_;rintro _ _ ⟨ad,p6,c6,p7,c7,rfl,rfl,hat,h14,h15⟩;exact yX [(71,.pointer (some ad))]<|qO 6 [(72,.pointer (some (ad.add 1)))]<|yY [] iR ⟨_,_,_,_,_,rfl,rfl,hat,h14,h15⟩
   · intro I1 hf le1;refine zH ?_;rintro _ _ ⟨ad1,p61,c61,p71,c71,rfl,rfl,hat1,h141,h151⟩;exact yX [(72,.pointer (some (ad1.add 1)))]<|xT 1 hat1 [vS p71 x.Body c71] (vS p71 x.Body c71) rfl<|yY [] iR ⟨_,_,rfl,rfl,h151⟩
   · intro I1 hf le1;refine zH ?_;rintro _ _ ⟨p711,c711,rfl,rfl,h1511⟩;refine yX [(73,vS p711 x.Body c711),(75,vI y2.Stmt)]<|wD rfl rfl h1511 hy6 ?_;intro ad2 ccs1 hat2 hrep1;obtain ⟨p8,c8,p9,c9,p10,c10,p11,c11,rfl,h16,h17,h18,h19⟩:=qK hrep1;exact yY [] iR ⟨_,_,_,_,_,_,_,_,_,rfl,rfl,hat2,h16,h17,h18,h19⟩
   · intro I1 hf le1;refine zH ?_;rintro _ _ ⟨ad2,p8,c8,p9,c9,p10,c10,p11,c11,rfl,rfl,hat2,h16,h17,h18,h19⟩;exact yX [(76,.pointer (some ad2))]<|xT 0 hat2 (cStmt x1 p8 c8 p9 c9 p10 c10 p11 c11) (vA (cStmt x1 p8 c8 p9 c9 p10 c10 p11 c11)) rfl<|yY [] iR ⟨_,_,_,_,_,_,_,_,rfl,rfl,h16,h17,h18,h19⟩
   intro I1 hf le1;refine yX []<|uK [vT ([]),z0,vI 0,vI 0,z0,vI 0,vT ([]),z0,z0] ?_;intro b2 hb2;exact yY [hB b2 [vT ([]),z0,vI 0,vI 0,z0,vI 0,vT ([]),z0,z0]] iR ⟨_,rfl,rfl⟩
 intro I07 le7;refine zH ?_;rintro _ _ ⟨p81,c81,p91,c91,p101,c101,p111,c111,rfl,rfl,h161,h171,h181,h191⟩;refine zH ?_;rintro _ _ ⟨b2,rfl,rfl⟩;refine yX [(3,vP b 0),(4,vP b1 0),(5,vS p4 y4 c4),(6,vI y5),(11,vP b2 0),(77,vA (cStmt x1 p81 c81 p91 c91 p101 c101 p111 c111))] ?_;have h6:=h6.mono le7;have h5:=h5.mono le7;have h3:=h3.mono le7;have h4:=h4.mono le7;refine xN 0 (cStmt x1 p81 c81 p91 c91 p101 c101 p111 c111) [hB b2 (cStmt x1 p81 c81 p91 c91 p101 c101 p111 c111),hB b1 (cInst y2 p3 c3),hB b (cProg y1 p1 c1 p2 c2)] rfl rfl rfl rfl<|yN rfl<|xP<|yG 1 [0] [(78,vA (cStmt x1 p81 c81 p91 c91 p101 c101 p111 c111))]<|bE N fun y13 hy7 N=>xX (zJm x1 _ hy7 h161 h171 h181 h191) ?_;rintro I08 hs2 v2 k2 le8 - ⟨v019,rfl,rfl,h20⟩ -;have h6:=h6.mono le8;have h161:=h161.mono le8;have h171:=h171.mono le8;have h181:=h181.mono le8;have h191:=h191.mono le8;have h5:=h5.mono le8;have h3:=h3.mono le8;have h4:=h4.mono le8;obtain ⟨p12,c12,rfl⟩:=h20.form;refine yF [] [(12,vS p12 y13 c12)]<|yL<|yI [(13,vI 0)]<|zE<|zX<|vM [(3,vP b 0),(4,vP b1 0),(5,vS p4 y4 c4),(6,vI y5),(11,vP b2 0),(12,vS p12 y13 c12),(13,vI 0)] ?_;obtain ⟨o03,ho03,hMl⟩:=zC N;refine zJa y1 y2 y4 y13 0 o03 ho03 iR h6 h20 h161 h171 h181 h191 h5 h3 h4 (fun _ _ _ h=>h) (fun _ _ h=>h) ?_ ?_
 · intro I013  heq3 le13;subst o03;have h161:=h161.mono le13;have h5:=h5.mono le13;have h3:=h3.mono le13;have h4:=h4.mono le13;refine zY<|xP<|yG 5 [2,0,1] [(106,vA (cProg y1 p1 c1 p2 c2)),(108,vA (cAccess x1.Write p81 c81)),(110,vS p3 y2.Point c3)] ?_;obtain ⟨y15,hy11,N⟩:=zC hMl;refine kD (zJj y1 x1.Write y2.Point _ hy11 h3 h4 h161 h5) fun I014 le14=>yF [] [(2,.bool (y15 == y5))]<|zE<|yC ?_;obtain rfl:=zB N;exact vQ
 intro r0 I9 hs9 m9 heq9 le9 hrs9;subst heq9;refine yA<|zK ?_;obtain rfl:=zB hMl;exact xM hrs9
end Go.LN
namespace Go.LN
theorem zJt (l:List Int) (h:l.length ≤ 1048576):zJ5 l l=some true:=by
  unfold zJ5;have hl:=kQ (n:=l.length) (f:=zJY l l) (P:=fun _=>true) (fun i hi=>by
      rw [zJY];have h1:((i:Int) < (l.length:Int)):=by omega
      simp only [h1,dT,if_true,xB hi,oB,oS,bne_self_eq_false,bF,if_false];rw [tL (by omega)]) (by rw [zJY]; simp)
  rw [hl];have:((List.range l.length).all fun _=>true)=true:=by simp
  simp [this]
end Go.LN
namespace Go.LN
def cellO (P:zS) (a:zI) (p:List Int):Int:=if (validP P && (accB a 4 && ptB p))=true then cellF a p P.Arrays 0 else -1
theorem implCellOf (P:zS) (h:BG P) (a:zI) (ha:BL a.Subs) (p:List Int) (hp:p.length ≤ 1048576):zJ3 P a p=some (cellO P a p):=by
  unfold zJ3 cellO;rw [implValidP P h,implAccess a ha,implPoint p hp];cases hv:validP P with
  | false=>rfl
  | true =>
    cases hA:accB a 4 with
    | false=>rfl
    | true =>
      cases hP:ptB p with
      | false=>rfl
      | true =>
        have:=implCell P a p (AV.of hA) (zHj hP) (zHi h hv);simp [this]
end Go.LN
namespace Go.LN
theorem drawIC (code:List UInt8):Ok (zJW code) (fun y=>BG y.1∧y.2.Point.length ≤ 100):=by
  unfold zJW;refine Ok.call (zI8 code) trivial fun s hs=>Ok.call (zIw s) ⟨by omega,by omega⟩ fun a t g1 g2 g3=>?_;refine Ok.bind (mut4 t a g1.dp (by omega) (by omega)) fun p hp=>?_;obtain ⟨P,r⟩:=p;refine Ok.bind (zJS r P hp.1.1 hp.2.1 (by have:=hp.2.2; dsimp only at this ⊢; omega)) fun o ho=>?_;obtain ⟨x,r4⟩:=o;exact Ok.pure ⟨hp.1.1,ho⟩
end Go.LN
namespace Go.LN
def icF (P:zS) (x:zM):List Int×Int×Bool:=if validP P && isB P x then (rdI P x,wrI P x,true) else ([],0,false)
theorem implIC (P:zS) (hb:BG P) (x:zM) (hx:x.Point.length ≤ 1048576):jJ P x=some (icF P x):=by
  unfold jJ icF;rw [implValidP P hb];cases hv:validP P with
  | false=>simp
  | true =>
    rw [implIs P hb x hx];cases hi:isB P x with
    | false=>simp
    | true=>simp [touchedV hb hv (zJQ hb hv hi)]
theorem specIC (P:zS) (hb:BG P) (x:zM) (hx:x.Point.length ≤ 1048576):zJ0 P x=some (icF P x):=by
  unfold zJ0 icF;rw [specValidP P hb];cases hv:validP P with
  | false=>simp
  | true =>
    rw [specIs P hb x hx];cases hi:isB P x with
    | false=>simp
    | true =>
      have h:=zJQ hb hv hi;obtain ⟨d,hd⟩:=h.st;have hc:=specCells P.Arrays (stI P x) x.Point hd h.bs h.pt (zHi hb hv);rw [h.ok] at hc;simp [h.idxP,h.idxS,hc,rdI,wrI]
end Go.LN
namespace Go.LN
theorem ownA (a:zA) (h:a.Coefs.length ≤ 1000000):zJ1 a=some a:=by
  unfold zJ1 tV;rw [oX (by simp; omega)]; rfl
theorem zKD (a:zI) (hs:a.Subs.length ≤ 1000) (ha:∀ s ∈ a.Subs,s.Coefs.length ≤ 1000000):∀ (j i:Nat) (o:List zA),i + j=a.Subs.length→o.length=i→zJU a (i:Int) o=some (o ++ a.Subs.drop i):=by
  intro j
  induction j with
  | zero =>
    intro i o hi ho;rw [zJU];have:¬((i:Int) < (a.Subs.length:Int)):=by omega
    simp only [this,dF,bF,if_false,oP,id];rw [dN.2 (by omega),List.append_nil]
  | succ j ih =>
    intro i o hi ho;rw [zJU];have hlt:i < a.Subs.length:=by omega
    have hc:((i:Int) < (a.Subs.length:Int)):=by omega
    rw [gC hlt];simp only [hc,dT,if_true,xB hlt,ownA _ (ha _ (gM hlt)),oX (show (o.length + [a.Subs[i]].length) * 32 ≤ 140737488355328 by simp; omega),oB,oS];rw [tL (by omega),ih (i + 1) _ (by omega) (by rw [lA]; simp; omega),List.append_assoc]; rfl
theorem ownC (a:zI) (hs:a.Subs.length ≤ 1000) (ha:∀ s ∈ a.Subs,s.Coefs.length ≤ 1000000):zJZ a=some a:=by
  unfold zJZ;have h:=zKD a hs ha _ 0 [] (Nat.zero_add _) rfl;rw [nZ,List.drop_zero,List.nil_append] at h;simp only [h,oB,oS,oP]
theorem AV.own {a:zI} (h:AV a):zJZ a=some a:=ownC a (by have:=h.2.1; omega) fun s hs=>by have:=h.2.2 s hs; omega
def owE:Nat→zF→zF
  | 0,e=>e
  | n + 1,e=>.mk e.Kind e.Num (if e.Kind=2 then e.Index else ⟨[],0⟩) (if e.Kind=3 then e.Read else ⟨⟨[]⟩,[]⟩) (e.Kids.map (owE n))
theorem zJx {d:Int}{n:Nat}{e:zF} (h:shapeB d n e=true):shapeB d n (owE n e)=true∧readsF n (owE n e)=readsF n e:=by
  induction n generalizing e with
  | zero=>cases h
  | succ n ih =>
    have k1:(owE (n + 1) e).Kind=e.Kind:=rfl;have k2:(owE (n + 1) e).Num=e.Num:=rfl;have k3:(owE (n + 1) e).Index=if e.Kind=2 then e.Index else ⟨[],0⟩:=rfl;have k4:(owE (n + 1) e).Read=if e.Kind=3 then e.Read else ⟨⟨[]⟩,[]⟩:=rfl;have k5:(owE (n + 1) e).Kids=e.Kids.map (owE n):=rfl;have hk:=(jA h).2;constructor
    · simp only [shapeB,bA] at h ⊢;rw [k1,k5,lM];refine ⟨⟨h.1.1,?_⟩,?_⟩
      · have ho:=h.1.2;have na:noA ⟨[],0⟩=true:=rfl;have nc:noC ⟨⟨[]⟩,[]⟩=true:=rfl;unfold ownB at ho ⊢;rw [k1,k2,k3,k4];by_cases h2:e.Kind=2
        · rw [if_pos h2] at ho ⊢;simp only [h2,show ¬(2:Int)=3 by decide,if_true,if_false,nc,Bool.and_true,bA] at ho ⊢;exact ⟨ho.1.1,ho.2⟩
        · rw [if_neg h2] at ho ⊢;by_cases h3:e.Kind=3
          · rw [if_pos h3] at ho ⊢;simp only [h3,show ¬(3:Int)=2 by decide,if_true,if_false,na,Bool.and_true,bA] at ho ⊢;exact ⟨ho.1.1,ho.2⟩
          · rw [if_neg h3] at ho ⊢;rw [if_neg h2,if_neg h3];by_cases h4:e.Kind=1
            · rw [if_pos h4] at ho ⊢;simp only [na,nc,Bool.and_true,bA] at ho ⊢;exact ho.1.1
            · rw [if_neg h4] at ho ⊢;simp only [na,nc,Bool.and_true,bA] at ho ⊢;exact ho.1.1
      · rw [List.all_eq_true];intro z hz;obtain ⟨y,hy,rfl⟩:=List.mem_map.1 hz;exact (ih (hk y hy)).1
    · rw [readsF,readsF,k1,k4,k5];by_cases h3:e.Kind=3
      · rw [if_pos h3,if_pos h3,if_pos h3]
      · rw [if_neg h3,if_neg h3];rcases (jA h).1 with h0 | ⟨a,b,h0⟩
        · rw [h0]; rfl
        · have ea:=(ih (hk a (by rw [h0]; simp))).2;have eb:=(ih (hk b (by rw [h0]; simp))).2;rw [h0];simp [ea,eb]
theorem ownE {d:Int}:∀ (n m:Nat) (e:zF),shapeB d n e=true→BE m e→zJ2 e=some (owE n e)
  | 0,m,e,h,_=>by cases h
  | n + 1,m,e,h,hb=>by
    rw [zJ2,owE]
    obtain ⟨h1,h2⟩:=jA h
    have hbo:=hb.own
    have hkl:zJV e 0 []=some (e.Kids.map (owE n)):=by
      rcases h1 with hk | ⟨a,b,hk⟩
      · rw [zJV]
        simp [hk]
      · have ka:a ∈ e.Kids:=by rw [hk]; simp
        have kb:b ∈ e.Kids:=by rw [hk]; simp
        obtain ⟨ma,_,ba⟩:=hb.kid ka
        obtain ⟨mb,_,bb⟩:=hb.kid kb
        have ra:=ownE n ma a (h2 a ka) ba
        have rb:=ownE n mb b (h2 b kb) bb
        have l0:((0:Int) < (e.Kids.length:Int)):=by rw [hk]; simp
        have l1:((1:Int) < (e.Kids.length:Int)):=by rw [hk]; simp
        have l2:¬((2:Int) < (e.Kids.length:Int)):=by rw [hk]; simp
        have i0:idx e.Kids 0=some a:=by rw [hk]; rfl
        have i1:idx e.Kids 1=some b:=by rw [hk]; rfl
        have w0:W ((0:Int) + 1)=1:=by rw [sF (by omega) (by omega)]; rfl
        have w1:W ((1:Int) + 1)=2:=by rw [sF (by omega) (by omega)]; rfl
        have p0:app 112 ([]:List zF) [owE n a]=some [owE n a]:=by rw [oX (by simp)]; rfl
        have p1:app 112 [owE n a] [owE n b]=some [owE n a,owE n b]:=by rw [oX (by simp)]; rfl
        rw [zJV]
        simp only [l0,dT,if_true,oB,oS,i0,same,ra,p0,w0]
        rw [zJV]
        simp only [l1,dT,if_true,oB,oS,i1,same,rb,p1,w1]
        rw [zJV]
        simp only [l2,dF,bF,if_false,oP,id]
        rw [hk]; rfl
    rcases zIz h with hk | ⟨hk,_⟩
    · rcases hk with k | k | k
      · have e2:(e.Kind == 2)=false:=by simp; omega
        have e3:(e.Kind == 3)=false:=by simp; omega
        rw [if_neg (show ¬e.Kind=2 by omega),if_neg (show ¬e.Kind=3 by omega)]
        simp [e2,e3,same,hkl]
      · have e2:(e.Kind == 2)=true:=by simpa using k
        have hc:=zJR (zI9 h k)
        rw [if_pos k,if_neg (show ¬e.Kind=3 by omega)]
        simp [e2,same,hkl,ownA e.Index (by omega)]
      · have e2:(e.Kind == 2)=false:=by simp; omega
        have e3:(e.Kind == 3)=true:=by simpa using k
        have hav:=AV.of (zDt h k).2
        rw [if_neg (show ¬e.Kind=2 by omega),if_pos k]
        simp [e2,e3,same,hkl,hav.own]
    · have e2:(e.Kind == 2)=false:=by simp; omega
      have e3:(e.Kind == 3)=false:=by simp; omega
      rw [if_neg (show ¬e.Kind=2 by omega),if_neg (show ¬e.Kind=3 by omega)]
      simp [e2,e3,same,hkl]
theorem zJy {d d2:Int} (h:d ≤ d2) {a:zA} (k:okA d a=true):okA d2 a=true:=by
  simp only [okA,bA,decide_eq_true_eq] at k ⊢;exact ⟨k.1,by omega⟩
theorem zJz {d d2:Int} (h:d ≤ d2) {a:zI} (k:accB a d=true):accB a d2=true:=by
  simp only [accB,bA,List.all_eq_true] at k ⊢;exact ⟨k.1,fun s hs=>zJy h (k.2 s hs)⟩
theorem zJu {d d2:Int} (h:d ≤ d2):∀ (n:Nat) (e:zF),shapeB d n e=true→shapeB d2 n e=true
  | 0,e,k=>by cases k
  | n + 1,e,k=>by
    simp only [shapeB,bA,List.all_eq_true] at k ⊢
    refine ⟨⟨k.1.1,?_⟩,fun y hy=>zJu h n y (k.2 y hy)⟩
    have ho:=k.1.2
    unfold ownB at ho ⊢
    by_cases h2:e.Kind=2
    · rw [if_pos h2,bA] at ho ⊢
      exact ⟨ho.1,zJy h ho.2⟩
    · rw [if_neg h2] at ho ⊢
      by_cases h3:e.Kind=3
      · rw [if_pos h3,bA] at ho ⊢
        exact ⟨ho.1,zJz h ho.2⟩
      · rw [if_neg h3] at ho ⊢
        exact ho
theorem zJw {s:zP}{d:Int} (h:stmtB s d=true):stmtB s 4=true:=by
  simp only [stmtB,bA,decide_eq_true_eq] at h ⊢;obtain ⟨⟨⟨d0,d1⟩,ha⟩,hs,hc⟩:=h;exact ⟨⟨by omega,zJz d1 ha⟩,zJu d1 5 _ hs,hc⟩
theorem implSR (s:zP) (hb:BS s) {d:Int} (hs:stmtB s d=true):zJ4 s=some (readsF 5 s.Value):=by
  obtain ⟨s1,s2,s3⟩:=dD hs;obtain ⟨w,m,hm⟩:=id hb;have h4:=zJw hs;have ho:=ownE 5 m s.Value s2 hm;obtain ⟨o1,o2⟩:=zJx s2;have hr:=implReads 5 (owE 5 s.Value) o1 (by omega);unfold zJ4 zJ8 zJ7 zJ6;simp only [implStmt s 4 hb,h4,s1.own,ho,hr,o2,oB,oS,oP,bT,bF,if_false,id]
theorem AV.bl {a:zI} (h:AV a):BL a.Subs:=⟨by have:=h.2.1; omega,fun s hs=>by have:=h.2.2 s hs; unfold BA; omega⟩
theorem zKA {P:zS} (hv:validP P=true) {x:zM} (h:InP P x) {a:zI} (ha:accB a 4=true):cellO P a x.Point=cellA P.Arrays x.Point a:=by
  unfold cellO cellA;simp [hv,ha,h.pin.2.2.1]
theorem clAt {P:zS} (hb:BG P) (hv:validP P=true) {x:zM} (h:InP P x) {a:zI} (ha:accB a 4=true):zJ3 P a x.Point=some (cellA P.Arrays x.Point a):=by
  rw [implCellOf P hb a (AV.of ha).bl x.Point (by have:=h.pt; omega),zKA hv h ha]
theorem zJn (code:List UInt8):∃ r,zJX code=some r∧r=true:=by
  obtain ⟨⟨P,x⟩,hy,hb,hx⟩:=drawIC code;dsimp only at hb hx;unfold zJX;refine ⟨true,?_,rfl⟩;by_cases h1:(code.length:Int) > 1048576
  · simp [h1]
  · simp only [h1,dF,bF,if_false,hy,implIC P hb x (by omega),specIC P hb x (by omega),oP,oB,oS,id];unfold icF;cases hc:(validP P && isB P x) with
    | false =>
      have hr:=zJt [] (by simp);simp [hr]
    | true =>
      rw [bA] at hc;obtain ⟨hv,hi⟩:=hc;have h:=zJQ hb hv hi;obtain ⟨d,hd⟩:=h.st;have hrl:=zJP h;have hr:=zJt (rdI P x) (by omega);have hsr:=implSR (stI P x) h.bs hd;have h4:=zJw hd;have hlen:(rdI P x).length=(readsF 5 (stI P x).Value).length:=by unfold rdI; rw [lM]
      have hrd:∀ a ∈ readsF 5 (stI P x).Value,accB a 4=true:=zDu 5 _ (dD h4).2.1;have hw:accB (stI P x).Write 4=true:=by simp only [stmtB,bA] at h4; exact h4.1.2
      have hl:=kQ (n:=(readsF 5 (stI P x).Value).length) (f:=zJT P x (rdI P x) (readsF 5 (stI P x).Value)) (P:=fun _=>true) (fun i hi2=>by
        rw [zJT];have a1:((i:Int) < ((readsF 5 (stI P x).Value).length:Int)):=by omega
        have a2:(((readsF 5 (stI P x).Value).length:Int) != ((rdI P x).length:Int))=false:=by rw [hlen]; simp
        have a3:idx (rdI P x) (i:Int)=some (cellA P.Arrays x.Point (readsF 5 (stI P x).Value)[i]):=by
          rw [xB (by omega)];simp [rdI]
        simp only [a1,a2,a3,dT,if_true,xB hi2,clAt hb hv h (hrd _ (gM hi2)),bne_self_eq_false,oB,oS,oP,bF,if_false];rw [tL (by omega)]) (by
        rw [zJT];simp)
      have hal:((List.range (readsF 5 (stI P x).Value).length).all fun _=>true)=true:=by simp
      rw [hal,if_pos rfl] at hl;have hwr:wrI P x=cellA P.Arrays x.Point (stI P x).Write:=rfl;simp only [if_true,bQ,bne_self_eq_false,hr,bT,bF,if_false,h.idxP,h.idxS,hsr,hl,clAt hb hv h hw,hwr,oS]
end Go.LN
