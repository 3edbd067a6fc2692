/- Helper of the proof (see the last text). -/
import Derived.Test.YtmlnffbepjijhaaGreatHM4
set_option linter.unusedVariables false
set_option linter.unusedSimpArgs false
namespace Go.LN
open Go.Proofs Go.Proofs.Tryz
set_option maxRecDepth 20000
def zCh (b0:Nat) (r:zI×zQ):KT:=fun kk I' af v=>
  ∃ v0 k0,af=[.blk b0 ⟨k0⟩]/\v=tupV [v0]/\(∃ cs,v0=.agg ⟨cs⟩/\Rp.rep I' cs r.1)/\Rp.rep I' k0 r.2
def kC (y1:(List zF)) (Body2:List zL) (n0:Int) (x6:zQ):Option ((List zL×zQ)):=do
 if (decide (n0<5)) then
  let (y7,y8)<-zAZ x6 (y1.length:Int);let y9<-fF;let (y11,y12)<-kQ y9 (zI.mk y1 ([y7]:List zL));if y12 then
   let l<-app 152 Body2 ([y7]:List zL);pure (l,y8)
  else kC y1 Body2 (W (n0+1)) y8
 else pure (Body2,x6)
 partial_fixpoint
theorem zGR (y1:(List zF)) (Body2:List zL):∀ (n0:Int) (x6:zQ) (o:(List zL×zQ)),kC y1 Body2 n0 x6=some o->∀ {B}{I0 I:Imm}{Q}{i:Int}{x:zI}{k0:Int}{ar b}{p1 c1 p2 c2 p7 c7}{b1}{p14 c14 aP p15 c15},I0.le I->(S4 I p7 y1 c7)->(S4 I p1 x.Nest c1)->(S4 I p2 x.Body c2)->(RL I aP Body2)->(S4 I p15 x6.b c15)->NG Q->NO Q->(∀ I' Body3 x7 p16 c16 aI p17 c17,o=(Body3,x7)->I0.le I'->(RL I' aI Body3)->(S4 I' p17 x7.b c17)->T 81 B Q (.exit 4) I' [hO zL (vS p16 Body3 c16) aI,hB ar (cRd x7 p17 c17),hB b1 [vS p7 y1 c7,vS p16 Body3 c16],hB b (cPart x p1 c1 p2 c2)] [(0,vP ar 0),(2,vP b 0),(3,vI i),(4,vP b1 0),(5,vI k0)])->J Tryz.prog 81 B (nav (bodyOf f155) [1,0,1,0,0,1,0,0,1,0,1,0,0,1,0,0,1,0]) Q I [hO zL (vS p14 Body2 c14) aP,hB ar (cRd x6 p15 c15),hB b1 [vS p7 y1 c7,vS p14 Body2 c14],hB b (cPart x p1 c1 p2 c2)] [(0,vP ar 0),(2,vP b 0),(3,vI i),(4,vP b1 0),(5,vI k0),(6,vI n0)]:=by
 refine kC.partial_correctness y1 Body2 _ fun aE ih n0 x6 o N B I0 I Q i x k0 ar b p1 c1 p2 c2 p7 c7 b1 p14 c14 aP p15 c15 H h7 h1 h2 h20 h21 hg ho hx=>yQ hg ho<|yA<|yH [31] rfl<|zK<|yG N ?_ ?_
 · intro aY N;refine zS<|zZ<|yF<|yB<|yE 4 [2] [34,37] rfl<|tX (zY [1,0,2,3] (af:=[hB ar (cRd x6 p15 c15),hO zL (vS p14 Body2 c14) aP,hB b1 [vS p7 y1 c7,vS p14 Body2 c14],hB b (cPart x p1 c1 p2 c2)])) ?_;obtain ⟨⟨y7,y8⟩,aG,N⟩:=zB N;refine rW (zI8 x6 (y1.length:Int) _ aG h21) rfl ?_;rintro bx aw v2 k2 aK - ⟨v04,kk2,rfl,rfl,⟨bo,rfl,h24⟩,h25⟩ -;have ⟨h20,h7,h1,h2,H⟩:=m5 aK h20 h7 h1 h2 H;obtain ⟨p18,c18,p19,c19,p20,c20,p21,c21,rfl,h26,h27,h28,h29⟩:=wV h24;obtain ⟨p22,c22,rfl,h30⟩:=yC h25;refine xU [vT ([]),z0,vI 0,vI 0,z0,vI 0,vT ([]),z0,z0] ?_;intro b3 hb3;refine yY 0 (cStmt y7 p18 c18 p19 c19 p20 c20 p21 c21) rfl<|zX rfl<|zK<|yA ?_;obtain ⟨y9,bc,N⟩:=zB N;obtain ⟨⟨y11,y12⟩,bu,N⟩:=zB N;refine wO [.x (eS y9),.p (vP b1 0) [],.p (vS p7 y1 c7) [3],.p (vA (cStmt y7 p18 c18 p19 c19 p20 c20 p21 c21)) [0],.x (fun I' v hx=>∃ b4,v=vS (some ⟨b4,0,none⟩) ([y7]:List zL) 1/\hx=[]/\(SL I' (vS (some ⟨b4,0,none⟩) ([y7]:List zL) 1) ([y7]:List zL))),.x (fun I' v hx=>∃ b41,v=vA [vS p7 y1 c7,vS (some ⟨b41,0,none⟩) ([y7]:List zL) 1]/\hx=[]/\(SL I' (vS (some ⟨b41,0,none⟩) ([y7]:List zL) 1) ([y7]:List zL))),.q (.tuple ⟨[vI y11,.bool y12]⟩),.p (.tuple ⟨[vI y11,.bool y12]⟩) [],.p (vI y11) [],.p (.bool y12) [],.p (vI y11) []] [[],[],[(1,false)],[],[(3,false)],[(2,false),(4,false)],[(0,false),(5,false)],[(6,false)],[(7,false)],[(7,false)],[(8,false)]] [hB b3 (cStmt y7 p18 c18 p19 c19 p20 c20 p21 c21),hB ar (cRd y8 p22 c22),hO zL (vS p14 Body2 c14) aP,hB b1 [vS p7 y1 c7,vS p14 Body2 c14],hB b (cPart x p1 c1 p2 c2)] [] [(9,false)] (zY [0,1,2,3,4]) ?_ ?_
   · refine Ox ?_<|O3<|Ox ?_<|Ox ?_<|Oq ?_<|O4<|On
     · intro I1 hf aa;refine I_h [] ?_;have H:=iS I1;refine xE (zAh  _ bc ) ?_;rintro bD aw v2 k2 aX - ⟨v010,rfl,rfl,h31⟩ -;have H:=H.trans aX;obtain ⟨p23,c23,rfl⟩:=h31.form;exact yL [] H ⟨_,_,rfl,rfl,h31⟩
     · intro I1 hf aa;refine yX [43] rfl ?_;have H:=iS I1;have ⟨h26,h27,h28,h29⟩:=m4 aa h26 h27 h28 h29;refine mG (rc y7 (wC ⟨_,_,_,_,rfl,h26,h27,h28,h29⟩) rN) ?_;intro b4 bI bf h33;have H:=H.trans bf;exact yL [] H ⟨_,rfl,rfl,h33⟩
     · rintro I1 hf aa _ _ ⟨rfl,rfl⟩ _ _ ⟨b4,rfl,rfl,h33⟩;refine yX [42,44] rfl ?_;exact pE 6 [(45,vA [vS p7 y1 c7,vS (some ⟨b4,0,none⟩) ([y7]:List zL) 1])]<|yL [] iR ⟨_,rfl,rfl,h33⟩
     rintro I1 hf aa _ _ ⟨p23,c23,rfl,rfl,h31⟩ _ _ ⟨b41,rfl,rfl,h331⟩;refine yX [40,45] rfl ?_;have H:=iS I1;have h7:=h7.mono aa;refine xE (zBc y9 (zI.mk y1 ([y7]:List zL)) _ bu h31 h7 h331) ?_;rintro I06 aw v2 k2 bt - ⟨v011,v012,rfl,rfl,rfl,rfl⟩ -;have H:=H.trans bt;exact xD H
   intro I07 le7;refine yX [0,2,3,4,5,6,7,48] rfl ?_;have ⟨h26,h27,h28,h29,h30,h20⟩:=m6 le7 h26 h27 h28 h29 h30 h20;have ⟨h7,h1,h2,H⟩:=m4 le7 h7 h1 h2 H;refine yK [] [9] rfl<|vW [49] rfl<|zK<|yG N ?_ ?_
   · intro bC N;refine yB<|tL 3 [3,0] [(51,vS p14 Body2 c14),(52,vA (cStmt y7 p18 c18 p19 c19 p20 c20 p21 c21))]<|uV (cStmt y7 p18 c18 p19 c19 p20 c20 p21 c21) zL ?_;intro b5 hb5;have h36:RL I07 (cStmt y7 p18 c18 p19 c19 p20 c20 p21 c21) ([y7]:List zL):=⟨(cStmt y7 p18 c18 p19 c19 p20 c20 p21 c21),_,rfl,rfl,(wC ⟨_,_,_,_,rfl,h26,h27,h28,h29⟩),rfl⟩;obtain ⟨l,bz,N⟩:=zB N;refine rF 74 9 3 rfl rfl rfl h20 (.inr ⟨0,rfl⟩) h36 bz ?_;intro p24 c24 bv h37;exact tX (zY [1,2,3,4,5] (af:=[hB b3 (cStmt y7 p18 c18 p19 c19 p20 c20 p21 c21),hB ar (cRd y8 p22 c22),hO zL (vS p24 l c24) bv,hB b1 [vS p7 y1 c7,vS p14 Body2 c14],hB b (cPart x p1 c1 p2 c2)]))<|yE 6 [] [55] rfl<|yY 3 [vS p7 y1 c7,vS p24 l c24] rfl<|zX rfl<|zK<|zEu<|zJK rfl<|gQ<|gQ<|wF (zW [2,1,3,4] rfl (by decide))<|yU<|hx _ _ _ _ _ _ _ _ (zD N).symm H h37 h30
   intro bC N;exact zS<|zO<|zK<|zM<|yK [] [6] rfl<|yP<|pU (zW [2,1,3,4] rfl (by decide))<|oT<|ih (W (n0+1)) y8 _ N H h7 h1 h2 h20 h30 hg ho hx
 intro aY N;exact wP<|yU<|hx _ _ _ _ _ _ _ _ (zD N).symm H h20 h21
def kD (y1:(List zF)) (k0:Int) (Body:List zL) (x4:zQ):Option ((List zL×zQ)):=do
 if (decide (k0>0)) then
  let (Body3,x7)<-kC y1 Body 0 x4;kD y1 (W (k0 - 1)) Body3 x7
 else pure (Body,x4)
 partial_fixpoint
theorem zGS (y1:(List zF)):∀ (k0:Int) (Body:List zL) (x4:zQ) (o:(List zL×zQ)),kD y1 k0 Body x4=some o->∀ {B}{I0 I:Imm}{Q}{i:Int}{x:zI}{ar b}{p1 c1 p2 c2 p7 c7}{b1}{aQ aM cs aJ aW},I0.le I->(S4 I p7 y1 c7)->(S4 I p1 x.Nest c1)->(S4 I p2 x.Body c2)->(RL I cs Body)->(S4 I aJ x4.b aW)->NG Q->NO Q->(∀ I' aZ x5 br bd av bh bj,o=(aZ,x5)->I0.le I'->(RL I' av aZ)->(S4 I' bh x5.b bj)->T 81 B Q (.exit 2) I' [hO zL (vS br aZ bd) av,hB ar (cRd x5 bh bj),hB b1 [vS p7 y1 c7,vS br aZ bd],hB b (cPart x p1 c1 p2 c2)] [(0,vP ar 0),(2,vP b 0),(3,vI i),(4,vP b1 0)])->J Tryz.prog 81 B (nav (bodyOf f155) [1,0,1,0,0,1,0,0,1,0,1,0]) Q I [hO zL (vS aQ Body aM) cs,hB ar (cRd x4 aJ aW),hB b1 [vS p7 y1 c7,vS aQ Body aM],hB b (cPart x p1 c1 p2 c2)] [(0,vP ar 0),(2,vP b 0),(3,vI i),(4,vP b1 0),(5,vI k0)]:=by
 refine kD.partial_correctness y1 _ fun aE ih k0 Body x4 o N B I0 I Q i x ar b p1 c1 p2 c2 p7 c7 b1 aQ aM cs aJ aW H h7 h1 h2 h16 h17 hg ho hx=>yQ hg ho<|yA<|yH [27] rfl<|zK<|yG N ?_ ?_
 · intro aH N;refine zS<|zZ<|yF<|yH [6] rfl<|wI<|qR [(0,vP ar 0),(2,vP b 0),(3,vI i),(4,vP b1 0),(5,vI k0),(6,vI 0)] ?_;obtain ⟨o0,az,aF⟩:=zB N;refine zGR y1 Body 0 x4 o0 az iR h7 h1 h2 h16 h17 (fun _ _ _ h=>hg _ _ _ h) (fun _ _ h=>ho _ _ h) ?_;intro I08 Body3 x7 p16 c16 aI p17 c17 heq le8 h22 h23;subst o0;have ⟨h7,h1,h2,H⟩:=m4 le8 h7 h1 h2 H;exact zR<|zO<|zK<|zM<|yK [] [5] rfl<|yP<|oT<|ih (W (k0 - 1)) Body3 x7 _ aF H h7 h1 h2 h22 h23 hg ho hx
 intro aH N;exact wP<|yU<|hx _ _ _ _ _ _ _ _ (zD N).symm H h16 h17
def kE (x:zI) (i:Int) (x1:zQ):Option (Out (zI×zQ) (zI×zQ)):=do
 if (decide (i<4)) then
  let (y1,y2)<-zAY x1;let (y4,y5)<-xI y2 ([1,2,1,3]:List Int);let (aZ,x5)<-kD y1 y4 ([]:List zL) y5;let y13<-fF;let (y15,y16)<-kQ y13 (zI.mk y1 aZ);let t66<-(do
    if y16 then pure (decide (y15<=40))
    else
     pure false
      : Option Bool)
  if t66 then pure (.ret ((zI.mk y1 aZ),x5))
  else kE x (W (i+1)) x5
 else pure (.done (x,x1))
 partial_fixpoint
theorem zGT (x:zI):∀ (i:Int) (x1:zQ) (o:Out (zI×zQ) (zI×zQ)),kE x i x1=some o->∀ {B}{I0 I:Imm}{Q}  {ar b}{p1 c1 p2 c2 p3 c3},I0.le I->(S4 I p1 x.Nest c1)->(S4 I p2 x.Body c2)->(S4 I p3 x1.b c3)->NG Q->NO Q->(∀ I' x2 x3 p4 c4 p5 c5 p6 c6,o=(.done (x2,x3))->I0.le I'->(S4 I' p4 x2.Nest c4)->(S4 I' p5 x2.Body c5)->(S4 I' p6 x3.b c6)->T 81 B Q (.exit 0) I' [hB b (cPart x2 p4 c4 p5 c5),hB ar (cRd x3 p6 c6)] [(2,vP b 0)])->(∀ r I' af m',o=(.ret r)->I0.le I'->RS Tryz.prog f155 B (zCh ar r) I' af m'->T 81 B Q .ret I' af m')->J Tryz.prog 81 B (nav (bodyOf f155) [1,0,1,0]) Q I [hB b (cPart x p1 c1 p2 c2),hB ar (cRd x1 p3 c3)] [(0,vP ar 0),(2,vP b 0),(3,vI i)]:=by
 refine kE.partial_correctness x _ fun aE ih i x1 o N B I0 I Q ar b p1 c1 p2 c2 p3 c3 H h1 h2 h3 hg ho hx hr=>yQ hg ho<|yA<|yH [17] rfl<|zK<|yG N ?_ ?_
 · intro hc N;refine zS<|zZ<|yF<|yB<|yE 1 [] [20] rfl<|tX (zY [1,0] (af:=[hB ar (cRd x1 p3 c3),hB b (cPart x p1 c1 p2 c2)])) ?_;obtain ⟨⟨y1,y2⟩,hy,N⟩:=zB N;refine rW (zI6 x1 _ hy h3) rfl ?_;rintro I0 aw v2 k2 le - ⟨v0,kk,rfl,rfl,h7,h8⟩ -;have ⟨h1,h2,H⟩:=m3 le h1 h2 H;obtain ⟨p7,c7,rfl⟩:=h7.form;obtain ⟨p8,c8,rfl,h9⟩:=yC h8;refine yE 3 [] [22] rfl<|xU zTwo ?_;intro b1 hb1;refine yY 0 [vS p7 y1 c7,z0] rfl<|zX rfl<|zZ<|yB<|yE 1 [] [23] rfl<|mG (rI [1,2,1,3]) ?_;intro b2 aO aa h11;have ⟨h7,h9,h1,h2,H⟩:=m5 aa h7 h9 h1 h2 H;refine tX (zY [1,0,2] (af:=[hB ar (cRd y2 p8 c8),hB b1 [vS p7 y1 c7,z0],hB b (cPart x p1 c1 p2 c2)])) ?_;obtain ⟨⟨y4,y5⟩,ay,N⟩:=zB N;refine rW (xS y2 ([1,2,1,3]:List Int) _ ay h9 h11) rfl ?_;rintro aV aw v2 k2 aA - ⟨v02,kk1,rfl,rfl,rfl,h13⟩ -;have ⟨h7,h1,h2,H⟩:=m4 aA h7 h1 h2 H;obtain ⟨p9,c9,rfl,h14⟩:=yC h13;refine yK [] [5] rfl<|wI<|qR [(0,vP ar 0),(2,vP b 0),(3,vI i),(4,vP b1 0),(5,vI y4)]<|zA6 zL fun h15=>?_;obtain ⟨aN,aC,hMl1⟩:=zB N;refine zGS y1 y4 ([]:List zL) y5 aN aC iR h7 h1 h2 h15 h14 (fun _ _ _ h=>hg _ _ _ h) (fun _ _ h=>ho _ _ h) ?_;intro I09 aZ x5 br bd av bh bj heq1 le9 h18 h19;subst aN;have ⟨h7,h1,h2,H⟩:=m4 le9 h7 h1 h2 H;refine zR<|zZ<|pD 0 rfl ?_;intro bL le10 hl02;have h38:=SL.of_frozen hl02 le10 h18;have ⟨h19,h7,h1,h2,H⟩:=m5 le10 h19 h7 h1 h2 H;obtain ⟨y13,hy6,N⟩:=zB hMl1;obtain ⟨⟨y15,y16⟩,hy7,N⟩:=zB N;refine wO [.x (eS y13),.p (vA [vS p7 y1 c7,vS br aZ bd]) [1],.q (.tuple ⟨[vI y15,.bool y16]⟩),.p (.tuple ⟨[vI y15,.bool y16]⟩) [],.p (vI y15) [],.p (.bool y16) [],.p (vI y15) []] [[],[],[(0,false),(1,false)],[(2,false)],[(3,false)],[(3,false)],[(4,false)]] [hB ar (cRd x5 bh bj),hB b1 [vS p7 y1 c7,vS br aZ bd],hB b (cPart x p1 c1 p2 c2)] [] [(5,false),(6,false)] (zY [0,1,2]) ?_ ?_
   · refine Ox ?_<|Op<|Oq ?_<|O4<|On
     · intro I1 hf aa;refine I_h [] ?_;have H:=iS I1;refine xE (zAh  _ hy6 ) ?_;rintro bR aw v2 k2 le11 - ⟨v013,rfl,rfl,h39⟩ -;have H:=H.trans le11;obtain ⟨p25,c25,rfl⟩:=h39.form;exact yL [] H ⟨_,_,rfl,rfl,h39⟩
     rintro I1 hf aa _ _ ⟨p25,c25,rfl,rfl,h39⟩;refine yX [57,58] rfl ?_;have H:=iS I1;have ⟨h7,h38⟩:=m2 aa h7 h38;refine xE (zBc y13 (zI.mk y1 aZ) _ hy7 h39 h7 h38) ?_;rintro bO aw v2 k2 le12 - ⟨v014,v015,rfl,rfl,rfl,rfl⟩ -;have H:=H.trans le12;exact xD H
   intro I013 le13;refine yX [0,2,3,4,10,61] rfl ?_;have ⟨h19,h7,h38,h1,h2,H⟩:=m6 le13 h19 h7 h38 h1 h2 H;refine yK [] [11] rfl<|zK<|yA ?_;refine wZ N [hB ar (cRd x5 bh bj),hB b1 [vS p7 y1 c7,vS br aZ bd],hB b (cPart x p1 c1 p2 c2)] (fun t66=>[(0,vP ar 0),(2,vP b 0),(3,vI i),(4,vP b1 0),(66,.bool t66)]) (fun o02 ho02=>?_) ?_
   · have H:=iS I013;refine zM<|yE 2 [] [63] rfl<|wL [63] ho02 ?_ ?_
     · intro bJ N;exact yK [] [66] rfl<|yU<|zU (ct N H)
     intro bJ N;exact wR [] [(66,vF)]<|yU<|zU (ct N H)
   intro t66 I014 le14 aT;have ⟨h19,h7,h38,h1,h2,H⟩:=m6 le14 h19 h7 h38 h1 h2 H;refine zK<|yG aT ?_ ?_
   · intro hc5 N;exact yB<|tL 1 [1] [(67,vA [vS p7 y1 c7,vS br aZ bd])]<|yY 2 [vS p7 y1 c7,vS br aZ bd] rfl<|zX rfl<|xF<|zV<|zJ<|zJ<|hr _ _ _ _ (zD N).symm H ⟨_,_,(resC 2 rfl rfl),(zW [0] rfl (by decide)),⟨_,_,rfl,rfl,⟨_,rfl,(uL ⟨_,_,rfl,h7,h38⟩)⟩,(yZ ⟨_,rfl,h19⟩)⟩⟩
   intro hc5 N;exact zS<|zO<|zK<|zM<|yK [] [3] rfl<|yP<|pU (zW [2,0] rfl (by decide))<|oT<|ih (W (i+1)) x5 _ N H h1 h2 h19 hg ho hx hr
 intro hc N;exact wP<|yU<|hx _ _ _ _ _ _ _ _ _ (zD N).symm H h1 h2 h3
def zA0 (r0:zQ):Option (zI×zQ):=do
 match<-kE (zI.mk ([]:List zF) ([]:List zL)) 0 r0 with
 | .ret r0=>pure r0
 | .done (x2,x3) =>
  let (y18,y19)<-jQ (⟨qL1⟩:Str);let (y21,y22)<-dY ([4]:List Int);pure ((zI.mk y21 ([y18]:List zL)),x3)
theorem zI9:∀ r0 r,zA0 r0=some r->∀ {I:Imm}{ar}{p c},(S4 I p r0.b c)->RT 155 [vP ar 0] I [hB ar (cRd r0 p c)] (zCh ar r):=by
 intro r0 r N I ar p c h;unfold zA0 at N;refine yI func155 fun B=>yB<|xU zTwo ?_;intro b hb;refine zX rfl<|zZ<|yH [3] rfl<|wI<|qR [(0,vP ar 0),(2,vP b 0),(3,vI 0)] ?_;obtain ⟨o03,ho03,hMl2⟩:=zB N;refine zGT (zI.mk ([]:List zF) ([]:List zL)) 0 r0 o03 ho03 iR (SL.nil _) (SL.nil _) h nG nO ?_ ?_
 · intro I015 x2 x3 p4 c4 p5 c5 p6 c6 heq3 le15 h4 h5 h6;subst o03;refine zR<|zZ<|zM ?_;obtain ⟨⟨y18,y19⟩,hy8,N⟩:=zB hMl2;refine xE (zCF (⟨qL1⟩:Str) _ hy8 ) ?_;rintro I016 aw v2 k2 le16 - ⟨v016,v017,rfl,rfl,⟨cs6,rfl,h42⟩,rfl⟩ -;have h6:=h6.mono le16;obtain ⟨p26,c26,p27,c27,p28,c28,p29,c29,rfl,h44,h45,h46,h47⟩:=wV h42;refine yE 4 [] [70,71] rfl<|xU [vT ([]),z0,vI 0,vI 0,z0,vI 0,vT ([]),z0,z0] ?_;intro b6 hb6;refine yY 0 (cStmt y18 p26 c26 p27 c27 p28 c28 p29 c29) rfl<|wR [] []<|yW<|mG (rI [4]) ?_;intro b7 I017 le17 h49;have ⟨h44,h45,h46,h47,h6⟩:=m5 le17 h44 h45 h46 h47 h6;obtain ⟨⟨y21,y22⟩,hy9,N⟩:=zB N;refine xE (zHg ([4]:List Int) _ hy9 h49) ?_;rintro I018 aw v2 k2 le18 - ⟨v022,v023,rfl,rfl,h50,rfl⟩ -;have ⟨h44,h45,h46,h47,h6⟩:=m5 le18 h44 h45 h46 h47 h6;obtain ⟨p30,c30,rfl⟩:=h50.form;refine yK [] [14] rfl<|yW<|tL 2 [0] [(77,vS p30 y21 c30),(78,vA (cStmt y18 p26 c26 p27 c27 p28 c28 p29 c29))]<|uV (cStmt y18 p26 c26 p27 c27 p28 c28 p29 c29) zL ?_;intro b8 hb8;have h52:RL I018 (cStmt y18 p26 c26 p27 c27 p28 c28 p29 c29) ([y18]:List zL):=⟨(cStmt y18 p26 c26 p27 c27 p28 c28 p29 c29),_,rfl,rfl,(wC ⟨_,_,_,_,rfl,h44,h45,h46,h47⟩),rfl⟩;refine yE 4 [] [80] rfl<|yY 2 [vS p30 y21 c30,vS (some ⟨b8,0,none⟩) ([y18]:List zL) 1] rfl<|zX rfl<|xF<|xB 0 rfl ?_;intro I019 le19 hl04;have h53:=SL.of_frozen hl04 le19 h52;have ⟨h50,h6⟩:=m2 le19 h50 h6;exact xO N (resC 1 rfl rfl) (zW [2] rfl (by decide)) ⟨_,_,rfl,rfl,⟨_,rfl,(uL ⟨_,_,rfl,h50,h53⟩)⟩,(yZ ⟨_,rfl,h6⟩)⟩
 intro r0 I9 hs9 m9 aS le9 aU;subst aS;refine zV<|zJ ?_;obtain rfl:=zD hMl2;exact fO aU
def zHE (b0:Nat) (r:zC×zQ):KT:=fun kk I' af v=>
  ∃ v0 k0,af=[.blk b0 ⟨k0⟩]/\v=tupV [v0]/\(∃ cs,v0=.agg ⟨cs⟩/\Rp.rep I' cs r.1)/\Rp.rep I' k0 r.2
def kF (i:Int) (Parts:List zI) (x:zQ):Option ((List zI×zQ)):=do
 if (decide (i>0)) then
  let (y5,y6)<-zA0 x;let l<-app 48 Parts ([y5]:List zI);kF (W (i - 1)) l y6
 else pure (Parts,x)
 partial_fixpoint
theorem zGU :∀ (i:Int) (Parts:List zI) (x:zQ) (o:(List zI×zQ)),kF i Parts x=some o->∀ {B}{I0 I:Imm}{Q}{y:(List zE)}{ar b}{p1 c1}{b1}{p3 c3 cs p4 c4},I0.le I->(S4 I p1 y c1)->(RL I cs Parts)->(S4 I p4 x.b c4)->NG Q->NO Q->(∀ I' aR x1 p5 c5 av p6 c6,o=(aR,x1)->I0.le I'->(RL I' av aR)->(S4 I' p6 x1.b c6)->T 29 B Q (.exit 0) I' [hO zI (vS p5 aR c5) av,hB ar (cRd x1 p6 c6),hB b1 [vS p1 y c1,vS p5 aR c5],hB b zTwo] [(2,vP b 0),(3,vP b1 0)])->J Tryz.prog 29 B (nav (bodyOf f118) [1,1,0,1,0]) Q I [hO zI (vS p3 Parts c3) cs,hB ar (cRd x p4 c4),hB b1 [vS p1 y c1,vS p3 Parts c3],hB b zTwo] [(0,vP ar 0),(2,vP b 0),(3,vP b1 0),(4,vI i)]:=by
 refine kF.partial_correctness  _ fun aE ih i Parts x o N B I0 I Q y ar b p1 c1 b1 p3 c3 cs p4 c4 H h1 h8 h9 hg ho hx=>yQ hg ho<|yA<|yH [11] rfl<|zK<|yG N ?_ ?_
 · intro hc N;refine zS<|zZ<|yF ?_;obtain ⟨⟨y5,y6⟩,aG,N⟩:=zB N;obtain ⟨l,bc,N⟩:=zB N;refine wO [.p (vP b1 1) [],.p (vS p3 Parts c3) [0],.p (vP ar 0) [],.x (fun I' v hx=>∃ p7 c7 p8 c8 p9 c9,v=vA (cPart y5 p7 c7 p8 c8)/\hx=[hB ar (cRd y6 p9 c9)]/\(S4 I' p7 y5.Nest c7)/\(S4 I' p8 y5.Body c8)/\(S4 I' p9 y6.b c9)),.x (fun I' v hx=>∃ b3,v=vS (some ⟨b3,0,none⟩) ([y5]:List zI) 1/\hx=[]/\(SL I' (vS (some ⟨b3,0,none⟩) ([y5]:List zI) 1) ([y5]:List zI))),.x (fun I' v hx=>∃ aQ aM aI,v=vS aQ l aM/\hx=[hO zI (vS aQ l aM) aI]/\(RL I' aI l))] [[],[(0,false)],[],[(2,false),(8,true)],[(3,false)],[(1,false),(4,false),(9,true)]] [hB b1 [vS p1 y c1,vS p3 Parts c3],hB b zTwo] [[hB ar (cRd x p4 c4)],[hO zI (vS p3 Parts c3) cs]] [(3,true),(5,true)] (zY [2,3,1,0]) ?_ ?_
   · refine O3<|Ox ?_<|Ox ?_<|Ox ?_<|On
     · rintro I1 hf aa _ _ ⟨rfl,rfl⟩ _ _ rfl;refine yX [16] rfl ?_;have H:=iS I1;have h9:=h9.mono aa;refine rW (zI9 x _ aG h9) rfl ?_;rintro bx aw v2 k2 aK - ⟨v03,kk1,rfl,rfl,⟨aP,rfl,h12⟩,h13⟩ -;have H:=H.trans aK;obtain ⟨p7,c7,p8,c8,rfl,h14,h15⟩:=wJ h12;obtain ⟨p9,c9,rfl,h16⟩:=yC h13;exact yL [hB ar (cRd y6 p9 c9)] H ⟨_,_,_,_,_,_,rfl,rfl,h14,h15,h16⟩
     · rintro I1 hf aa _ _ ⟨p7,c7,p8,c8,p9,c9,rfl,rfl,h14,h15,h16⟩;refine yX [17] rfl ?_;have H:=iS I1;refine mG (rc y5 (uL ⟨_,_,rfl,h14,h15⟩) rN) ?_;intro b3 bD aX h18;have H:=H.trans aX;exact yL [] H ⟨_,rfl,rfl,h18⟩
     rintro I1 hf aa _ _ ⟨rfl,rfl⟩ _ _ ⟨b3,rfl,rfl,h18⟩ _ _ rfl;refine yX [15,18] rfl ?_;have h8:=iM aa h8;obtain ⟨aL,k0,k01⟩:=h18;have h18:SL I1 (vS (some ⟨b3,0,none⟩) ([y5]:List zI) 1) ([y5]:List zI):=⟨_,k0,k01⟩;exact rF 85 2 0 rfl rfl rfl h8 (.inl k0) k01 bc fun aQ aM aI h19=>wX (af:=(hO zI (vS aQ l aM) aI::hB b1 [vS p1 y c1,vS p3 Parts c3]::hB b zTwo::hf)) rfl<|yL [hO zI (vS aQ l aM) aI] iR ⟨_,_,_,rfl,rfl,h19⟩
   rintro bI bf _ _ ⟨p7,c7,p8,c8,p9,c9,rfl,rfl,h14,h15,h16⟩ _ _ ⟨aQ,aM,aI,rfl,rfl,h19⟩;refine yX [0,2,3,4,19] rfl ?_;have ⟨h1,H⟩:=m2 bf h1 H;exact yE 7 [] [20] rfl<|yY 2 [vS p1 y c1,vS aQ l aM] rfl<|zX rfl<|zO<|zK<|zM<|yK [] [4] rfl<|yP<|oT<|ih (W (i - 1)) l y6 _ N H h1 h19 h16 hg ho hx
 intro hc N;exact wP<|yU<|hx _ _ _ _ _ _ _ _ (zD N).symm H h8 h9
def zA1 (r0:zQ):Option (zC×zQ):=do
 let y<-fF;let (y2,y3)<-xI r0 ([1,2,1,3]:List Int);let (aR,x1)<-kF y2 ([]:List zI) y3;let y7<-sA (zC.mk y aR);if y7 then pure ((zC.mk y aR),x1)
 else
  let y8<-fF;let l1<-slc aR 0 1;pure ((zC.mk y8 l1),x1)
theorem zIa:∀ r0 r,zA1 r0=some r->∀ {I:Imm}{ar}{p c},(S4 I p r0.b c)->RT 118 [vP ar 0] I [hB ar (cRd r0 p c)] (zHE ar r):=by
 intro r0 r N I ar p c h;unfold zA1 at N;refine yI func118 fun B=>?_;have H:=iS I;refine yB<|xU zTwo ?_;intro b hb;refine zX rfl<|yW<|bE N fun y hy N=>xE (zAh  _ hy ) ?_;rintro I0 aw v2 k2 le - ⟨v0,rfl,rfl,h1⟩ -;have ⟨h,H⟩:=m2 le h H;obtain ⟨p1,c1,rfl⟩:=h1.form;refine yE 2 [] [6] rfl<|xU zTwo ?_;intro b1 hb1;refine yY 0 [vS p1 y c1,z0] rfl<|zX rfl<|zZ<|yB<|yE 1 [] [7] rfl<|mG (rI [1,2,1,3]) ?_;intro b2 aO aa h3;have ⟨h1,h,H⟩:=m3 aa h1 h H;refine tX (zY [2,0,1] (af:=[hB ar (cRd r0 p c),hB b1 [vS p1 y c1,z0],hB b zTwo])) ?_;obtain ⟨⟨y2,y3⟩,ay,N⟩:=zB N;refine rW (xS r0 ([1,2,1,3]:List Int) _ ay h h3) rfl ?_;rintro aV aw v2 k2 aA - ⟨v01,kk,rfl,rfl,rfl,h5⟩ -;have ⟨h1,H⟩:=m2 aA h1 H;obtain ⟨p2,c2,rfl,h6⟩:=yC h5;refine yK [] [4] rfl<|wI<|qR [(0,vP ar 0),(2,vP b 0),(3,vP b1 0),(4,vI y2)]<|zA6 zI fun h7=>?_;obtain ⟨o0,az,aF⟩:=zB N;refine zGU y2 ([]:List zI) y3 o0 az iR h1 h7 h6 nG nO ?_;intro I06 aR x1 p5 c5 av p6 c6 heq bt h10 h11;subst o0;have ⟨h1,H⟩:=m2 bt h1 H;refine zR<|zZ<|yB<|tL 1 [2] [(21,vA [vS p1 y c1,vS p5 aR c5])]<|xX 0 rfl ?_;intro I07 le7 hl02;have h20:=SL.of_frozen hl02 le7 h10;have ⟨h1,h11,H⟩:=m3 le7 h1 h11 H;obtain ⟨y7,bu,N⟩:=zB aF;refine tH (dX (zC.mk y aR) _ bu h1 h20) ?_;intro I08 le8;have ⟨h11,h1,h20,H⟩:=m4 le8 h11 h1 h20 H;refine zX rfl<|zK<|yG N ?_ ?_
 · intro aH N;refine yB<|tL 1 [1] [(23,vA [vS p1 y c1,vS p5 aR c5])]<|yY 2 [vS p1 y c1,vS p5 aR c5] rfl<|zX rfl<|xF<|zJ ?_;exact xO N (resC 2 rfl rfl) (zW [0] rfl (by decide)) ⟨_,_,rfl,rfl,⟨_,rfl,(xY ⟨_,_,rfl,h1,h20⟩)⟩,(yZ ⟨_,rfl,h11⟩)⟩
 intro aH N;refine zS<|zK<|yA ?_;obtain ⟨y8,bz,N⟩:=zB N;obtain ⟨l1,hy6,N⟩:=zB N;refine wO [.x (eS y8),.p (vP b1 1) [],.p (vS p5 aR c5) [1],.x (eS l1),.x (fun I' v hx=>∃ p111 c111 p121 c121,v=vA [vS p111 y8 c111,vS p121 l1 c121]/\hx=[]/\(S4 I' p111 y8 c111)/\(S4 I' p121 l1 c121))] [[],[],[(1,false)],[(2,false)],[(0,false),(3,false)]] [hB ar (cRd x1 p6 c6),hB b1 [vS p1 y c1,vS p5 aR c5],hB b zTwo] [] [(4,false)] (zY [0,1,2]) ?_ ?_
 · refine Ox ?_<|O2<|Ox ?_<|Ox ?_<|On
   · intro I1 hf aa;refine I_h [] ?_;have H:=iS I1;refine xE (zAh  _ bz ) ?_;rintro I09 aw v2 k2 le9 - ⟨v08,rfl,rfl,h22⟩ -;have H:=H.trans le9;obtain ⟨aJ,aW,rfl⟩:=h22.form;exact yL [] H ⟨_,_,rfl,rfl,h22⟩
   · intro I1 hf aa;refine yX [26] rfl ?_;have h20:=h20.mono aa;refine zQL rfl h20 hy6 ?_;intro v09 h23;obtain ⟨br,bd,rfl⟩:=h23.form;exact yL [] iR ⟨_,_,rfl,rfl,h23⟩
   rintro I1 hf aa _ _ ⟨aJ,aW,rfl,rfl,h22⟩ _ _ ⟨br,bd,rfl,rfl,h23⟩;exact yX [24,27] rfl<|pE 5 [(28,vA [vS aJ y8 aW,vS br l1 bd])]<|yL [] iR ⟨_,_,_,_,rfl,rfl,h22,h23⟩
 rintro bL le10 _ _ ⟨p111,c111,p121,c121,rfl,rfl,h221,h231⟩;refine yX [2,28] rfl ?_;have h11:=h11.mono le10;refine yY 2 [vS p111 y8 c111,vS p121 l1 c121] rfl<|zX rfl<|zK<|xA ?_;exact xO N (resC 2 rfl rfl) (zW [0] rfl (by decide)) ⟨_,_,rfl,rfl,⟨_,rfl,(xY ⟨_,_,rfl,h221,h231⟩)⟩,(yZ ⟨_,rfl,h11⟩)⟩
def zHF (b0:Nat) (r:zC×zQ):KT:=fun kk I' af v=>
  ∃ v0 k0,af=[.blk b0 ⟨k0⟩]/\v=tupV [v0]/\(∃ cs,v0=.agg ⟨cs⟩/\Rp.rep I' cs r.1)/\Rp.rep I' k0 r.2
def zA2 (r0:zQ):Option (zC×zQ):=do
 let (y1,y2)<-qN r0 ([(⟨qL2⟩:Str),(⟨qL3⟩:Str),(⟨qL4⟩:Str),(⟨qL5⟩:Str),(⟨qL6⟩:Str),(⟨qL7⟩:Str),(⟨qL8⟩:Str),(⟨qL9⟩:Str)]:List Str);let s<-cat (⟨qL10⟩:Str) y1;let (y4,y5)<-nV s;let (t20,x)<-(do
   if y5 then
    let (y7,y8)<-xG y2 3;pure ((decide (y7>0)),y8)
   else
    pure (false,y2)
     : Option (Bool×zQ))
 if t20 then pure (y4,x)
 else
  let (y10,y11)<-zA1 x;pure (y10,y11)
theorem zIb:∀ r0 r,zA2 r0=some r->∀ {I:Imm}{ar}{p c},(S4 I p r0.b c)->RT 85 [vP ar 0] I [hB ar (cRd r0 p c)] (zHF ar r):=by
 intro r0 r N I ar p c h;unfold zA2 at N;refine yI func85 fun B=>?_;have H:=iS I;refine yB<|xU zTwo ?_;intro b hb;refine zX rfl<|yW<|yE 1 [] [6] rfl<|mG (rT [(⟨qL2⟩:Str),(⟨qL3⟩:Str),(⟨qL4⟩:Str),(⟨qL5⟩:Str),(⟨qL6⟩:Str),(⟨qL7⟩:Str),(⟨qL8⟩:Str),(⟨qL9⟩:Str)]) ?_;intro b1 I0 le h2;have ⟨h,H⟩:=m2 le h H;refine tX (zY [1,0] (af:=[hB ar (cRd r0 p c),hB b zTwo])) ?_;obtain ⟨⟨y1,y2⟩,hy,N⟩:=zB N;refine rW (jP r0 ([(⟨qL2⟩:Str),(⟨qL3⟩:Str),(⟨qL4⟩:Str),(⟨qL5⟩:Str),(⟨qL6⟩:Str),(⟨qL7⟩:Str),(⟨qL8⟩:Str),(⟨qL9⟩:Str)]:List Str) _ hy h h2) rfl ?_;rintro aO aw v2 k2 aa - ⟨v0,kk,rfl,rfl,rfl,h4⟩ -;have H:=H.trans aa;obtain ⟨p1,c1,rfl,h5⟩:=yC h4;refine yK [] [3] rfl<|yW<|yE 1 [] [10] rfl<|bE N fun s ay N=>fP rfl ay ?_;obtain ⟨⟨y4,y5⟩,aG,N⟩:=zB N;refine xE (zBD s _ aG ) ?_;rintro aV aw v2 k2 aA - ⟨v02,v03,rfl,rfl,⟨cs,rfl,h6⟩,rfl⟩ -;have ⟨h5,H⟩:=m2 aA h5 H;obtain ⟨p2,c2,p3,c3,rfl,h8,h9⟩:=rG h6;refine yE 6 [] [13,14] rfl<|xU zTwo ?_;intro b2 hb2;refine yY 0 (cProg y4 p2 c2 p3 c3) rfl<|yK [] [5] rfl<|zZ<|yA ?_;obtain ⟨o0,az,aT⟩:=zB N;refine oW (fun I' af m'=>∃ (t20:Bool) (x:zQ) (p4:Option Addr) (c4:Nat),o0=(t20,x)/\aV.le I'/\(S4 I' p4 x.b c4)/\af=[hB b2 (cProg y4 p2 c2 p3 c3),hB ar (cRd x p4 c4),hB b zTwo]/\m'=[(0,vP ar 0),(2,vP b 0),(4,vP b2 0),(20,.bool t20)]) ?_ ?_
 · have H:=iS aV;refine zM<|yE 2 [] [16] rfl<|wL [16] az ?_ ?_
   · intro hc N;refine yE 3 [] [17] rfl<|tX (zY [1,0,2] (af:=[hB ar (cRd y2 p1 c1),hB b2 (cProg y4 p2 c2 p3 c3),hB b zTwo])) ?_;obtain ⟨⟨y7,y8⟩,bc,N⟩:=zB N;refine rW (wD y2 3 _ bc h5) rfl ?_;rintro bD aw v2 k2 aK - ⟨v06,kk1,rfl,rfl,rfl,h12⟩ -;have H:=H.trans aK;obtain ⟨p5,c5,rfl,h13⟩:=yC h12;exact yK [] [20] rfl<|wF (zW [1,0,2] rfl (by decide))<|yU<|zU ⟨_,_,_,_,(zD N).symm,H,h13,rfl,rfl⟩
   intro hc N;exact wR [] [(20,vF)]<|yU<|zU ⟨_,_,_,_,(zD N).symm,H,h5,rfl,rfl⟩
 rintro bx aw m2 ⟨t20,x,p4,c4,heq,aX,h10,rfl,rfl⟩;subst o0;have ⟨h8,h9⟩:=m2 aX h8 h9;refine zK<|yG aT ?_ ?_
 · intro aH N;refine yB<|tL 1 [0] [(21,vA (cProg y4 p2 c2 p3 c3))]<|yY 2 (cProg y4 p2 c2 p3 c3) rfl<|zX rfl<|xF<|zJ ?_;exact xO N (resC 2 rfl rfl) (zW [1] rfl (by decide)) ⟨_,_,rfl,rfl,⟨_,rfl,(xY ⟨_,_,rfl,h8,h9⟩)⟩,(yZ ⟨_,rfl,h10⟩)⟩
 intro aH N;refine zS<|yW<|yE 1 [] [22] rfl<|tX (zY [1,0,2] (af:=[hB ar (cRd x p4 c4),hB b2 (cProg y4 p2 c2 p3 c3),hB b zTwo])) ?_;obtain ⟨⟨y10,y11⟩,bu,N⟩:=zB N;refine rW (zIa x _ bu h10) rfl ?_;rintro bI aw v2 k2 bf - ⟨v08,kk2,rfl,rfl,⟨av,rfl,h14⟩,h15⟩ -;obtain ⟨p6,c6,p7,c7,rfl,h16,h17⟩:=rG h14;obtain ⟨p8,c8,rfl,h18⟩:=yC h15;refine yY 2 (cProg y10 p6 c6 p7 c7) rfl<|zX rfl<|zK<|xA ?_;exact xO N (resC 2 rfl rfl) (zW [0] rfl (by decide)) ⟨_,_,rfl,rfl,⟨_,rfl,(xY ⟨_,_,rfl,h16,h17⟩)⟩,(yZ ⟨_,rfl,h18⟩)⟩
def zGV (b0:Nat) (r:zC×zQ):KT:=fun kk I' af v=>
  ∃ v0 k0,af=[.blk b0 ⟨k0⟩]/\v=tupV [v0]/\(∃ cs,v0=.agg ⟨cs⟩/\Rp.rep I' cs r.1)/\Rp.rep I' k0 r.2
def dZ (r0:zQ):Option (zC×zQ):=do
 let (y1,y2)<-qN r0 ([(⟨qL11⟩:Str),(⟨qL12⟩:Str),(⟨qL13⟩:Str)]:List Str);let s<-cat (⟨qL10⟩:Str) y1;let (y4,y5)<-nV s;let (t20,x)<-(do
   if y5 then
    let (y7,y8)<-xG y2 2;pure ((y7==0),y8)
   else
    pure (false,y2)
     : Option (Bool×zQ))
 if t20 then pure (y4,x)
 else
  let (y10,y11)<-zA2 x;pure (y10,y11)
theorem zHh:∀ r0 r,dZ r0=some r->∀ {I:Imm}{ar}{p c},(S4 I p r0.b c)->RT 54 [vP ar 0] I [hB ar (cRd r0 p c)] (zGV ar r):=by
 intro r0 r N I ar p c h;unfold dZ at N;refine yI func54 fun B=>?_;have H:=iS I;refine yB<|xU zTwo ?_;intro b hb;refine zX rfl<|yW<|yE 1 [] [6] rfl<|mG (rT [(⟨qL11⟩:Str),(⟨qL12⟩:Str),(⟨qL13⟩:Str)]) ?_;intro b1 I0 le h2;have ⟨h,H⟩:=m2 le h H;refine tX (zY [1,0] (af:=[hB ar (cRd r0 p c),hB b zTwo])) ?_;obtain ⟨⟨y1,y2⟩,hy,N⟩:=zB N;refine rW (jP r0 ([(⟨qL11⟩:Str),(⟨qL12⟩:Str),(⟨qL13⟩:Str)]:List Str) _ hy h h2) rfl ?_;rintro aO aw v2 k2 aa - ⟨v0,kk,rfl,rfl,rfl,h4⟩ -;have H:=H.trans aa;obtain ⟨p1,c1,rfl,h5⟩:=yC h4;refine yK [] [3] rfl<|yW<|yE 1 [] [10] rfl<|bE N fun s ay N=>fP rfl ay ?_;obtain ⟨⟨y4,y5⟩,aG,N⟩:=zB N;refine xE (zBD s _ aG ) ?_;rintro aV aw v2 k2 aA - ⟨v02,v03,rfl,rfl,⟨cs,rfl,h6⟩,rfl⟩ -;have ⟨h5,H⟩:=m2 aA h5 H;obtain ⟨p2,c2,p3,c3,rfl,h8,h9⟩:=rG h6;refine yE 6 [] [13,14] rfl<|xU zTwo ?_;intro b2 hb2;refine yY 0 (cProg y4 p2 c2 p3 c3) rfl<|yK [] [5] rfl<|zZ<|yA ?_;obtain ⟨o0,az,aT⟩:=zB N;refine oW (fun I' af m'=>∃ (t20:Bool) (x:zQ) (p4:Option Addr) (c4:Nat),o0=(t20,x)/\aV.le I'/\(S4 I' p4 x.b c4)/\af=[hB b2 (cProg y4 p2 c2 p3 c3),hB ar (cRd x p4 c4),hB b zTwo]/\m'=[(0,vP ar 0),(2,vP b 0),(4,vP b2 0),(20,.bool t20)]) ?_ ?_
 · have H:=iS aV;refine zM<|yE 2 [] [16] rfl<|wL [16] az ?_ ?_
   · intro hc N;refine yE 3 [] [17] rfl<|tX (zY [1,0,2] (af:=[hB ar (cRd y2 p1 c1),hB b2 (cProg y4 p2 c2 p3 c3),hB b zTwo])) ?_;obtain ⟨⟨y7,y8⟩,bc,N⟩:=zB N;refine rW (wD y2 2 _ bc h5) rfl ?_;rintro bD aw v2 k2 aK - ⟨v06,kk1,rfl,rfl,rfl,h12⟩ -;have H:=H.trans aK;obtain ⟨p5,c5,rfl,h13⟩:=yC h12;exact yK [] [20] rfl<|wF (zW [1,0,2] rfl (by decide))<|yU<|zU ⟨_,_,_,_,(zD N).symm,H,h13,rfl,rfl⟩
   intro hc N;exact wR [] [(20,vF)]<|yU<|zU ⟨_,_,_,_,(zD N).symm,H,h5,rfl,rfl⟩
 rintro bx aw m2 ⟨t20,x,p4,c4,heq,aX,h10,rfl,rfl⟩;subst o0;have ⟨h8,h9⟩:=m2 aX h8 h9;refine zK<|yG aT ?_ ?_
 · intro aH N;refine yB<|tL 1 [0] [(21,vA (cProg y4 p2 c2 p3 c3))]<|yY 2 (cProg y4 p2 c2 p3 c3) rfl<|zX rfl<|xF<|zJ ?_;exact xO N (resC 2 rfl rfl) (zW [1] rfl (by decide)) ⟨_,_,rfl,rfl,⟨_,rfl,(xY ⟨_,_,rfl,h8,h9⟩)⟩,(yZ ⟨_,rfl,h10⟩)⟩
 intro aH N;refine zS<|yW<|yE 1 [] [22] rfl<|tX (zY [1,0,2] (af:=[hB ar (cRd x p4 c4),hB b2 (cProg y4 p2 c2 p3 c3),hB b zTwo])) ?_;obtain ⟨⟨y10,y11⟩,bu,N⟩:=zB N;refine rW (zIb x _ bu h10) rfl ?_;rintro bI aw v2 k2 bf - ⟨v08,kk2,rfl,rfl,⟨av,rfl,h14⟩,h15⟩ -;obtain ⟨p6,c6,p7,c7,rfl,h16,h17⟩:=rG h14;obtain ⟨p8,c8,rfl,h18⟩:=yC h15;refine yY 2 (cProg y10 p6 c6 p7 c7) rfl<|zX rfl<|zK<|xA ?_;exact xO N (resC 2 rfl rfl) (zW [0] rfl (by decide)) ⟨_,_,rfl,rfl,⟨_,rfl,(xY ⟨_,_,rfl,h16,h17⟩)⟩,(yZ ⟨_,rfl,h18⟩)⟩
def zGW (b0:Nat) (r:zC×Int×zQ):KT:=fun kk I' af v=>
  ∃ v0 v1 k0,af=[.blk b0 ⟨k0⟩]/\v=tupV [v0,v1]/\(∃ cs,v0=.agg ⟨cs⟩/\Rp.rep I' cs r.1)/\v1=.int .i64 r.2.1/\Rp.rep I' k0 r.2.2
def zAA (r0:zQ):Option (zC×Int×zQ):=do
 let (y1,y2)<-dZ r0;let (y4,y5)<-mB y2 y1;let (y7,y8)<-xI y5 ([0,0,1,1,2,(-1),9]:List Int);pure (y4,y7,y8)
theorem zHi:∀ r0 r,zAA r0=some r->∀ {I:Imm}{ar}{p c},(S4 I p r0.b c)->RT 23 [vP ar 0] I [hB ar (cRd r0 p c)] (zGW ar r):=by
 intro r0 r N I ar p c h;unfold zAA at N;refine yI func23 fun B=>?_;have H:=iS I;refine yB<|xU zTwo ?_;intro b hb;refine wR [] []<|yW<|yE 2 [] [5,6] rfl<|tX (zY [1,0] (af:=[hB ar (cRd r0 p c),hB b zTwo])) ?_;obtain ⟨⟨y1,y2⟩,hy,N⟩:=zB N;refine rW (zHh r0 _ hy h) rfl ?_;rintro I0 aw v2 k2 le - ⟨v0,kk,rfl,rfl,⟨cs,rfl,h1⟩,h2⟩ -;have H:=H.trans le;obtain ⟨p1,c1,p2,c2,rfl,h3,h4⟩:=rG h1;obtain ⟨p3,c3,rfl,h5⟩:=yC h2;obtain ⟨⟨y4,y5⟩,ay,N⟩:=zB N;refine rW (zGr y2 y1 _ ay h5 h3 h4) rfl ?_;rintro aO aw v2 k2 aa - ⟨v04,kk1,rfl,rfl,⟨av,rfl,h6⟩,h7⟩ -;have H:=H.trans aa;obtain ⟨p4,c4,p5,c5,rfl,h8,h9⟩:=rG h6;obtain ⟨p6,c6,rfl,h10⟩:=yC h7;refine xU zTwo ?_;intro b1 hb1;refine yY 0 (cProg y4 p4 c4 p5 c5) rfl<|zX rfl<|zK<|yA ?_;obtain ⟨⟨y7,y8⟩,aG,N⟩:=zB N;refine wO [.p (vA (cProg y4 p4 c4 p5 c5)) [0],.p (vP ar 0) [],.x (fun I' v hx=>∃ b2,v=vS (some ⟨b2,0,none⟩) ([0,0,1,1,2,(-1),9]:List Int) 7/\hx=[]/\(SL I' (vS (some ⟨b2,0,none⟩) ([0,0,1,1,2,(-1),9]:List Int) 7) ([0,0,1,1,2,(-1),9]:List Int))),.x (fun I' v hx=>∃ p7 c7,v=vI y7/\hx=[hB ar (cRd y8 p7 c7)]/\(S4 I' p7 y8.b c7)),.x (fun I' v hx=>hx=[hB b (cProg y4 p4 c4 p5 c5)])] [[],[],[],[(1,false),(2,false),(6,true)],[(0,false),(7,true)]] [hB b1 (cProg y4 p4 c4 p5 c5)] [[hB ar (cRd y5 p6 c6)],[hB b zTwo]] [(3,true),(4,true)] (zY [0,1,2]) ?_ ?_
 · refine O2<|Ox ?_<|Ox ?_<|Ox ?_<|On
   · intro I1 hf aa;refine I_h [] ?_;have H:=iS I1;refine mG (rI [0,0,1,1,2,(-1),9]) ?_;intro b2 aV aA h12;have H:=H.trans aA;exact yL [] H ⟨_,rfl,rfl,h12⟩
   · rintro I1 hf aa _ _ ⟨rfl,rfl⟩ _ _ ⟨b2,rfl,rfl,h12⟩ _ _ rfl;refine yX [10,11] rfl ?_;have H:=iS I1;have h10:=h10.mono aa;refine rW (xS y5 ([0,0,1,1,2,(-1),9]:List Int) _ aG h10 h12) rfl ?_;rintro bx aw v2 k2 aK - ⟨v08,kk2,rfl,rfl,rfl,h14⟩ -;have H:=H.trans aK;obtain ⟨p7,c7,rfl,h15⟩:=yC h14;exact yL [hB ar (cRd y8 p7 c7)] H ⟨_,_,rfl,rfl,h15⟩
   rintro I1 hf aa _ _ ⟨rfl,rfl⟩ _ _ rfl;refine yX [2,9] rfl ?_;have H:=iS I1;exact dE 0 (cProg y4 p4 c4 p5 c5) (hB b (cProg y4 p4 c4 p5 c5)::hB b1 (cProg y4 p4 c4 p5 c5)::hf) rfl rfl rfl rfl<|zFl (hx:=[hB b (cProg y4 p4 c4 p5 c5)]) rfl H rfl (zFm (v:=undef)) rfl
 rintro bD aX _ _ ⟨p7,c7,rfl,rfl,h15⟩ _ _ rfl;refine yX [2,12] rfl ?_;have ⟨h8,h9⟩:=m2 aX h8 h9;refine yK [] [3] rfl<|zK<|xA ?_;exact xO N (resE 0 rfl rfl rfl) (zW [1] rfl (by decide)) ⟨_,_,_,rfl,rfl,⟨_,rfl,(xY ⟨_,_,rfl,h8,h9⟩)⟩,rfl,(yZ ⟨_,rfl,h15⟩)⟩
def zBn (r:zC×Str):KT:=fun kk I' af v=>
  ∃ v0 v1,af=[]/\v=tupV [v0,v1]/\(∃ cs,v0=.agg ⟨cs⟩/\Rp.rep I' cs r.1)/\v1=.string ⟨⟨r.2.l⟩⟩
def nI (code:(List UInt8)):Option (zC×Str):=do
 let y<-dQ code;let (y2,y3,y4)<-zAA y;let (y6,y7)<-qN y4 ([(⟨[65]⟩:Str),(⟨[66]⟩:Str),(⟨[67]⟩:Str),(⟨[68]⟩:Str),(⟨[]⟩:Str)]:List Str);pure (y2,y6)
theorem zCi:∀ code r,nI code=some r->∀ {I:Imm}{p c},(S4 I p code c)->RT 7 [vS p code c] I [] (zBn  r):=by
 intro code r N I p c h;unfold nI at N;refine yI func7 fun B=>?_;have H:=iS I;refine yB<|xU zTwo ?_;intro b hb;refine wR [] []<|yW<|yE 1 [] [7] rfl<|bE N fun y hy N=>xE (zH3 code _ hy h) ?_;rintro I0 aw v2 k2 le - ⟨b1,p1,c1,rfl,rfl,h1⟩ -;have H:=H.trans le;refine yK [] [4] rfl<|yW<|yE 1 [] [10] rfl ?_;obtain ⟨⟨y2,y3,y4⟩,ay,N⟩:=zB N;refine rW (zHi y _ ay h1) rfl ?_;rintro aO aw v2 k2 aa - ⟨v0,v01,kk,rfl,rfl,⟨cs,rfl,h2⟩,rfl,h4⟩ -;have H:=H.trans aa;obtain ⟨p2,c2,p3,c3,rfl,h5,h6⟩:=rG h2;obtain ⟨p4,c4,rfl,h7⟩:=yC h4;refine yE 5 [] [12,13] rfl<|xU zTwo ?_;intro b2 hb1;refine yY 0 (cProg y2 p2 c2 p3 c3) rfl<|wR [] []<|zK<|yA ?_;obtain ⟨⟨y6,y7⟩,aG,N⟩:=zB N;refine wO [.p (vA (cProg y2 p2 c2 p3 c3)) [0],.p (vP b1 0) [],.x (fun I' v hx=>∃ b3,v=vS (some ⟨b3,0,none⟩) ([(⟨[65]⟩:Str),(⟨[66]⟩:Str),(⟨[67]⟩:Str),(⟨[68]⟩:Str),(⟨[]⟩:Str)]:List Str) 5/\hx=[]/\(SL I' (vS (some ⟨b3,0,none⟩) ([(⟨[65]⟩:Str),(⟨[66]⟩:Str),(⟨[67]⟩:Str),(⟨[68]⟩:Str),(⟨[]⟩:Str)]:List Str) 5) ([(⟨[65]⟩:Str),(⟨[66]⟩:Str),(⟨[67]⟩:Str),(⟨[68]⟩:Str),(⟨[]⟩:Str)]:List Str))),.x (fun I' v hx=>∃ p5 c5,v=vT y6.l/\hx=[hB b1 (cRd y7 p5 c5)]/\(S4 I' p5 y7.b c5)),.x (fun I' v hx=>hx=[hB b (cProg y2 p2 c2 p3 c3)])] [[],[],[],[(1,false),(2,false),(6,true)],[(0,false),(7,true)]] [hB b2 (cProg y2 p2 c2 p3 c3)] [[hB b1 (cRd y4 p4 c4)],[hB b zTwo]] [(3,true),(4,true)] (zY [0,1,2]) ?_ ?_
 · refine O2<|Ox ?_<|Ox ?_<|Ox ?_<|On
   · intro I1 hf aa;refine I_h [] ?_;have H:=iS I1;refine mG (rT [(⟨[65]⟩:Str),(⟨[66]⟩:Str),(⟨[67]⟩:Str),(⟨[68]⟩:Str),(⟨[]⟩:Str)]) ?_;intro b3 aV aA h9;have H:=H.trans aA;exact yL [] H ⟨_,rfl,rfl,h9⟩
   · rintro I1 hf aa _ _ ⟨rfl,rfl⟩ _ _ ⟨b3,rfl,rfl,h9⟩ _ _ rfl;refine yX [15,16] rfl ?_;have H:=iS I1;have h7:=h7.mono aa;refine rW (jP y4 ([(⟨[65]⟩:Str),(⟨[66]⟩:Str),(⟨[67]⟩:Str),(⟨[68]⟩:Str),(⟨[]⟩:Str)]:List Str) _ aG h7 h9) rfl ?_;rintro bx aw v2 k2 aK - ⟨v05,kk1,rfl,rfl,rfl,h11⟩ -;have H:=H.trans aK;obtain ⟨p5,c5,rfl,h12⟩:=yC h11;exact yL [hB b1 (cRd y7 p5 c5)] H ⟨_,_,rfl,rfl,h12⟩
   rintro I1 hf aa _ _ ⟨rfl,rfl⟩ _ _ rfl;refine yX [2,14] rfl ?_;have H:=iS I1;exact dE 0 (cProg y2 p2 c2 p3 c3) (hB b (cProg y2 p2 c2 p3 c3)::hB b2 (cProg y2 p2 c2 p3 c3)::hf) rfl rfl rfl rfl<|zFl (hx:=[hB b (cProg y2 p2 c2 p3 c3)]) rfl H rfl (zFm (v:=undef)) rfl
 rintro bD aX _ _ ⟨p5,c5,rfl,rfl,h12⟩ _ _ rfl;refine yX [2,17] rfl ?_;have ⟨h5,h6⟩:=m2 aX h5 h6;refine yK [] [3] rfl<|zK<|xA ?_;exact xO N (resE 0 rfl rfl rfl) zP ⟨_,_,rfl,rfl,⟨_,rfl,(xY ⟨_,_,rfl,h5,h6⟩)⟩,rfl⟩
def vG (n0:Int) (low:Int) (high:Int):Option (Bool):=do
 let t6<-(do
   if (decide (low<=n0)) then pure (decide (n0<=high))
   else
    pure false
     : Option Bool)
 pure (id t6)
theorem uA:∀ n0 low high r,vG n0 low high=some r->∀ {I:Imm} ,RT 46 [vI n0,vI low,vI high] I [] (zT  r):=by
 intro n0 low high r N I;unfold vG at N;refine yI func46 fun B=>?_;have H:=iS I;refine wT []<|zK<|yA ?_;refine wZ N [] (fun t6=>[(6,.bool t6)]) (fun o0 az=>?_) ?_
 · have H:=iS I;refine zM<|yE 4 [] [10] rfl<|wL [10] az ?_ ?_
   · intro hc N;exact yK [] [6] rfl<|yU<|zU (ct N H)
   intro hc N;exact wR [] [(6,vF)]<|yU<|zU (ct N H)
 intro t6 I0 le aT;refine zK<|xA ?_;obtain rfl:=zD aT;exact vV
def eM (s:Str) (substr:Str):Option Bool:=match substr.l with | [c]=>some (decide (0<=Lib.indexByte s.l c)) | _=>none
theorem zEc:∀ (s substr:Str) r,eM s substr=some r->∀ {I:Imm},RT 136 [vT s.l,vT substr.l] I [] (zT r):=by
 intro s substr r N I;unfold eM at N;split at N
 · rename_i c hc;cases N
   rw [hc];exact zMz (fun w g=>(Tryz.strings_Contains_one ⟨⟨s.l⟩⟩ c w).mono fun e w' ⟨h1,h2⟩=>⟨h1,h2 ▸ RowKit.Below.refl _ _,Nat.le_of_eq (by rw [h2])⟩) fun k=>⟨_,rfl,rfl,rfl⟩
 cases N
def fW (s:Str):Option (Bool):=do
 let t2<-(do
   if ((s.l.length:Int)==1) then
    let y<-eM (⟨[65,66,67,68]⟩:Str) s;pure (id y)
   else
    pure false
     : Option Bool)
 pure (id t2)
theorem jB:∀ s r,fW s=some r->∀ {I:Imm} ,RT 94 [vT s.l] I [] (zT  r):=by
 intro s r N I;unfold fW at N;refine yI func94 fun B=>?_;have H:=iS I;refine wT []<|zK<|yA ?_;refine wZ N [] (fun t2=>[(2,.bool t2)]) (fun o0 az=>?_) ?_
 · have H:=iS I;refine zM<|yE 4 [] [6] rfl<|wL [6] az ?_ ?_
   · intro hc N;refine yE 5 [] [7] rfl<|bE N fun y hy N=>tH (zEc (⟨[65,66,67,68]⟩:Str) s _ hy ) ?_;intro aO le;have H:=H.trans le;exact yK [] [2] rfl<|yU<|zU (ct N H)
   intro hc N;exact wR [] [(2,vF)]<|yU<|zU (ct N H)
 intro t2 I0 aa aT;refine zK<|xA ?_;obtain rfl:=zD aT;exact vV
def eG (aB:List HA) (r:Int):KT:=fun kk I' af v=>
  ∃ v0,aB=af/\v=tupV [v0]/\v0=.int .i64 r
def vK (s:(List Int)) (f0:(Int->Option Bool)) (t8:Int):Option (Out Unit (Int)):=do
 if (decide (t8<(s.length:Int))) then
  let x<-idx s t8;let y<-f0 x;if y then pure (.ret t8)
  else vK s f0 (W (t8+1))
 else pure (.done ())
 partial_fixpoint
theorem zAu (s:(List Int)) (f0:(Int->Option Bool)):∀ (t8:Int) (o:Out Unit (Int)),vK s f0 t8=some o->∀ {B}{I0 I:Imm}{Q p c}{fv:Value}{aB:List HA},I0.le I->(S4 I p s c)->(FV1 Tryz.prog I aB fv f0)->NG Q->NO Q->(∀ I',o=(.done ())->I0.le I'->T 19 B Q (.exit 0) I' aB [])->(∀ r I' af m',o=(.ret r)->I0.le I'->RS Tryz.prog f137 B (eG aB r) I' af m'->T 19 B Q .ret I' af m')->J Tryz.prog 19 B (nav (bodyOf f137) [1,0,1,0]) Q I aB [(0,vS p s c),(1,fv),(7,vI (s.length:Int)),(8,vI t8)]:=by
 refine vK.partial_correctness s f0 _ fun aE ih t8 o N B I0 I Q p c fv aB H h h1 hg ho hx hr=>yQ hg ho<|yH [9] rfl<|zZ<|yG N ?_ ?_
 · intro hc N;refine zS<|zZ<|yF<|yH [5] rfl<|yW<|yE 3 [] [11,12,13] rfl<|bE N fun x hy N=>xR rfl rfl h hy ?_;intro ad aL al aj;obtain rfl:=aj;refine xH 0 al [vI x] (vI x) rfl<|bE N fun y ay N=>zJq rfl rfl h1 ay rfl (cu _).symm ?_;rintro I0 v0 le rfl;refine wX (af:=aB) (cu _) ?_;have ⟨h,h1,H⟩:=m3 le h h1 H;refine zX rfl<|zK<|yG N ?_ ?_
   · intro aH N;exact yH [4] rfl<|xF<|zV<|zJ<|zJ<|hr _ _ _ _ (zD N).symm H ⟨_,_,(resT rfl),(fun _ h=>h),⟨_,rfl,rfl,rfl⟩⟩
   intro aH N;exact zS<|zO<|zK<|zM<|yK [] [8] rfl<|yP<|oT<|ih (W (t8+1)) _ N H h h1 hg ho hx hr
 intro hc N;exact wP<|yU<|hx _  (zD N).symm H
def nJ (s:(List Int)) (f0:(Int->Option Bool)):Option (Int):=do
 match<-vK s f0 0 with
 | .ret r0=>pure r0
 | .done _ =>
  pure (-1)
theorem zBV:∀ s f0 r,nJ s f0=some r->∀ {I:Imm}{p c}{fv:Value}{aB:List HA},(S4 I p s c)->(FV1 Tryz.prog I aB fv f0)->RT 137 [vS p s c,fv] I aB (eG aB r):=by
 intro s f0 r N I p c fv aB h h1;unfold nJ at N;refine yI func137 fun B=>wT []<|zZ<|yH [7,8] rfl<|wI<|qR [(0,vS p s c),(1,fv),(7,vI (s.length:Int)),(8,vI 0)] ?_;obtain ⟨o0,az,aF⟩:=zB N;refine zAu s f0 0 o0 az iR h h1 nG nO ?_ ?_
 · intro aO  heq aa;subst o0;refine zR<|vW [4] rfl<|zK<|xA ?_;exact xO aF (resT rfl) (fun _ h=>h) ⟨_,rfl,rfl,rfl⟩
 intro r0 I9 hs9 m9 aS le9 aU;subst aS;refine zV<|zJ ?_;obtain rfl:=zD aF;exact fO aU
def zAi (aB:List HA) (r:Bool):KT:=fun kk I' af v=>
  ∃ v0,aB=af/\v=tupV [v0]/\v0=.bool r
def wA (s:(List Int)) (f0:(Int->Option Bool)):Option (Bool):=do
 let y<-nJ s f0;pure (decide (y>=0))
theorem qZ:∀ s f0 r,wA s f0=some r->∀ {I:Imm}{p c}{fv:Value}{aB:List HA},(S4 I p s c)->(FV1 Tryz.prog I aB fv f0)->RT 95 [vS p s c,fv] I aB (zAi aB r):=by
 intro s f0 r N I p c fv aB h h1;unfold wA at N;refine yI func95 fun B=>wT []<|yW<|yE 2 [] [5,6] rfl<|bE N fun y hy N=>zGe (hs1:=aB) (rest:=[]) rfl rfl rfl rfl (by kernel_rfl) rfl (cu _).symm (zBV s f0 _ hy h h1) ?_;rintro I0 aw v2 k2 le - ⟨v0,rfl,rfl,rfl⟩ -;refine wX (af:=aB) (cu _) ?_;refine yK [] [4] rfl<|zK<|xA ?_;exact xO N (resT rfl) (fun _ h=>h) ⟨_,rfl,rfl,rfl⟩
def sV (n0:Int):Option (Bool):=do
 let y<-vG n0 1 6;pure (!y)
theorem zBd:∀ n0 r,sV n0=some r->∀ {I:Imm} ,RT 96 [vI n0] I [] (zT  r):=by
 intro n0 r N I;unfold sV at N;refine yI func96 fun B=>wT []<|yW<|yE 1 [] [3] rfl<|bE N fun y hy N=>tH (uA n0 1 6 _ hy ) fun I0 le=>wR [] [(2,.bool (!y))]<|zK<|xA ?_;obtain rfl:=zD N;exact vV
def oH (list:(List zE)) (t7:Int):Option (Out Unit (Bool)):=do
 if (decide (t7<(list.length:Int))) then
  let x<-idx list t7;let t42<-(do
    let y<-fW x.Name;if (!y) then pure true
    else
     if (decide (t7>0)) then
      let x1<-idx list (W (t7 - 1));if (!(Op.bytesLess x1.Name.l x.Name.l)) then pure true
      else
       let y1<-vG (x.Dims.length:Int) 1 2;if (!y1) then pure true
       else
        let y2<-wA x.Dims sV;pure (id y2)
     else
      let y3<-vG (x.Dims.length:Int) 1 2;if (!y3) then pure true
      else
       let y4<-wA x.Dims sV;pure (id y4)
      : Option Bool)
  if t42 then pure (.ret false)
  else oH list (W (t7+1))
 else pure (.done ())
 partial_fixpoint
theorem zEd (list:(List zE)):∀ (t7:Int) (o:Out Unit (Bool)),oH list t7=some o->∀ {B}{I0 I:Imm}{Q p c},I0.le I->(S4 I p list c)->NG Q->NO Q->(∀ I',o=(.done ())->I0.le I'->T 47 B Q (.exit 0) I' [] [(0,vS p list c)])->(∀ r I' af m',o=(.ret r)->I0.le I'->RS Tryz.prog f57 B (zT  r) I' af m'->T 47 B Q .ret I' af m')->J Tryz.prog 47 B (nav (bodyOf f57) [1,0,1,0]) Q I [] [(0,vS p list c),(5,vS p list c),(6,vI (list.length:Int)),(7,vI t7)]:=by
 refine oH.partial_correctness list _ fun aE ih t7 o N B I0 I Q p c H h hg ho hx hr=>yQ hg ho<|yH [8] rfl<|zZ<|yG N ?_ ?_
 · intro hc N;refine zS<|zZ<|yF<|yB<|yE 1 [] [9] rfl<|bE N fun x hy N=>xR rfl rfl h hy ?_;intro ad aL al aj;obtain ⟨p1,c1,rfl,h1⟩:=xP aj;refine xH 0 al (cArr x p1 c1) (vA (cArr x p1 c1)) rfl<|xU [vT ([]),z0] ?_;intro b hb;refine yE 5 [] [3] rfl<|yY 0 (cArr x p1 c1) rfl<|zX rfl<|zK<|yA ?_;refine wZ N [] (fun t42=>[(0,vS p list c),(5,vS p list c),(6,vI (list.length:Int)),(7,vI t7),(42,.bool t42)]) (fun o0 az=>?_) ?_
   · have H:=iS I;obtain ⟨y,ay,N⟩:=zB az;cases aH:(!y) with
     | true =>
      have hM0:=tY aH N;refine wO [.p (vP b 0) [],.p (vT x.Name.l) [0],.q (.bool y),.q vY,.q vY,.p undef [],.p undef [],.p undef [],.p undef [],.p undef [],.p undef [],.p undef [],.p undef [],.p undef [],.p undef [],.p undef [],.p undef [],.p undef [],.p vY [],.p vY [],.p undef [],.p undef [],.p undef [],.p undef [],.p undef [],.p vY [],.p vY [],.p undef [],.p undef [],.p undef [],.p vY []] [[],[(0,false)],[(1,false)],[(2,false)],[(3,false)],[(4,false)],[(4,false),(5,false)],[(4,false),(6,false)],[(7,false)],[(7,false)],[(7,false),(9,false)],[(7,false),(8,false),(10,false)],[(7,false),(11,false)],[(7,false),(12,false)],[(7,false)],[(7,false),(14,false)],[(7,false),(13,false),(15,false)],[(4,false),(7,false),(16,false)],[(4,false),(17,false)],[(18,false)],[(19,false)],[(19,false),(20,false)],[(19,false),(21,false)],[(19,false),(22,false)],[(19,false),(23,false)],[(19,false),(24,false)],[(25,false)],[(26,false)],[(26,false),(27,false)],[(26,false),(28,false)],[(26,false),(29,false)]] [hB b (cArr x p1 c1)] [] [(30,false)] (zY [0]) ?_ ?_
      · refine O2<|Oq ?_<|Oq ?_<|Oq ?_<|O4<|O4<|O4<|O4<|O4<|O4<|O2<|On
        · intro I1 hf aa;refine yX [13] rfl ?_;have H:=iS I1;refine tH (jB x.Name _ ay ) ?_;intro aO le;have H:=H.trans le;exact xD H
        · intro I1 hf aa;refine yX [14] rfl<|pE 4 [(15,.bool (!y))] ?_;rw [aH];exact xD iR
        intro I1 hf aa;exact I_h [(15,vY)]<|pE 5 [(16,vY)]<|xD iR
      intro aV aa;refine yX [0,5,6,7,42] rfl ?_;have H:=H.trans aa;exact zX rfl<|wF zP<|yU<|zU (ct hM0 H)
     | false =>
      have hM01:=uU aH N;cases aY:(decide (t7>0)) with
      | true =>
       have hM02:=tY aY hM01;obtain ⟨x1,aG,N⟩:=zB hM02;cases bC:(!(Op.bytesLess x1.Name.l x.Name.l)) with
       | true =>
        have hM03:=tY bC N;refine wO [.p (vP b 0) [],.p (vT x.Name.l) [0],.q (.bool y),.q vF,.q vF,.p (vI t7) [],.q vY,.q vY,.p (vS p list c) [],.p (vI t7) [],.p (vI (W (t7 - 1))) [],.x (ePArr x1),.x (ePArr x1),.q (vT x1.Name.l),.p (vP b 0) [],.p (vT x.Name.l) [0],.q vY,.q vY,.q vY,.q vY,.p undef [],.p undef [],.p undef [],.p undef [],.p undef [],.p vY [],.p vY [],.p undef [],.p undef [],.p undef [],.p vY []] [[],[(0,false)],[(1,false)],[(2,false)],[(3,false)],[(4,false)],[(4,false),(5,false)],[(4,false),(6,false)],[(7,false)],[(7,false)],[(7,false),(9,false)],[(7,false),(8,false),(10,false)],[(7,false),(11,false)],[(7,false),(12,false)],[(7,false)],[(7,false),(14,false)],[(7,false),(13,false),(15,false)],[(4,false),(7,false),(16,false)],[(4,false),(17,false)],[(18,false)],[(19,false)],[(19,false),(20,false)],[(19,false),(21,false)],[(19,false),(22,false)],[(19,false),(23,false)],[(19,false),(24,false)],[(25,false)],[(26,false)],[(26,false),(27,false)],[(26,false),(28,false)],[(26,false),(29,false)]] [hB b (cArr x p1 c1)] [] [(30,false)] (zY [0]) ?_ ?_
        · refine O2<|Oq ?_<|Oq ?_<|Oq ?_<|Op<|Oq ?_<|Oq ?_<|O3<|Ox ?_<|Ox ?_<|Oq ?_<|O2<|Oq ?_<|Oq ?_<|Oq ?_<|Oq ?_<|O4<|O4<|O3<|On
          · intro I1 hf aa;refine yX [13] rfl ?_;have H:=iS I1;refine tH (jB x.Name _ ay ) ?_;intro aO le;have H:=H.trans le;exact xD H
          · intro I1 hf aa;refine yX [14] rfl<|pE 4 [(15,.bool (!y))] ?_;rw [aH];exact xD iR
          · intro I1 hf aa;exact I_h [(15,vF)]<|pE 5 [(16,vF)]<|xD iR
          · intro I1 hf aa;refine yX [16,17] rfl<|pE 7 [(18,.bool (decide (t7>0)))] ?_;rw [aY];exact xD iR
          · intro I1 hf aa;exact yX [16,18] rfl<|pE 8 [(19,vY)]<|xD iR
          · intro I1 hf aa;refine yX [19,20,22] rfl ?_;have h:=h.mono aa;refine xR rfl rfl h aG ?_;intro ad1 bm au ax;obtain ⟨p2,c2,rfl,h3⟩:=xP ax;exact yL [] iR ⟨_,_,_,rfl,rfl,au,h3⟩
          · rintro I1 hf aa _ _ ⟨rfl,rfl⟩ _ _ ⟨ad1,p2,c2,rfl,rfl,au,h3⟩;exact yX [19,23] rfl<|pE 13 [(24,.pointer (some ad1))]<|yL [] iR ⟨_,_,_,rfl,rfl,au,h3⟩
          · rintro I1 hf aa _ _ ⟨rfl,rfl⟩ _ _ ⟨ad11,p21,c21,rfl,rfl,hat11,h31⟩;exact yX [19,24] rfl<|xH 0 hat11 [vT x1.Name.l] (vT x1.Name.l) rfl<|xD iR
          · intro I1 hf aa;refine yX [19,25,27] rfl<|pE 17 [(28,.bool (!(Op.bytesLess x1.Name.l x.Name.l)))] ?_;rw [bC];exact xD iR
          · intro I1 hf aa;exact yX [16,19,28] rfl<|pE 18 [(29,vY)]<|xD iR
          · intro I1 hf aa;exact yX [16,29] rfl<|pE 19 [(30,vY)]<|xD iR
          intro I1 hf aa;exact I_h [(30,vY)]<|pE 20 [(31,vY)]<|xD iR
        intro bx aA;refine yX [0,5,6,7,42] rfl ?_;have H:=H.trans aA;exact zX rfl<|wF zP<|yU<|zU (ct hM03 H)
       | false =>
        have hM04:=uU bC N;obtain ⟨y1,bc,N⟩:=zB hM04;cases bJ:(!y1) with
        | true =>
         have hM05:=tY bJ N;refine wO [.p (vP b 0) [],.p (vT x.Name.l) [0],.q (.bool y),.q vF,.q vF,.p (vI t7) [],.q vY,.q vY,.p (vS p list c) [],.p (vI t7) [],.p (vI (W (t7 - 1))) [],.x (ePArr x1),.x (ePArr x1),.q (vT x1.Name.l),.p (vP b 0) [],.p (vT x.Name.l) [0],.q vF,.q vF,.q vF,.q vF,.p (vP b 1) [],.p (vS p1 x.Dims c1) [0],.p (vI (x.Dims.length:Int)) [],.q (.bool y1),.q vY,.q vY,.q vY,.p undef [],.p undef [],.p undef [],.p vY []] [[],[(0,false)],[(1,false)],[(2,false)],[(3,false)],[(4,false)],[(4,false),(5,false)],[(4,false),(6,false)],[(7,false)],[(7,false)],[(7,false),(9,false)],[(7,false),(8,false),(10,false)],[(7,false),(11,false)],[(7,false),(12,false)],[(7,false)],[(7,false),(14,false)],[(7,false),(13,false),(15,false)],[(4,false),(7,false),(16,false)],[(4,false),(17,false)],[(18,false)],[(19,false)],[(19,false),(20,false)],[(19,false),(21,false)],[(19,false),(22,false)],[(19,false),(23,false)],[(19,false),(24,false)],[(25,false)],[(26,false)],[(26,false),(27,false)],[(26,false),(28,false)],[(26,false),(29,false)]] [hB b (cArr x p1 c1)] [] [(30,false)] (zY [0]) ?_ ?_
         · refine O2<|Oq ?_<|Oq ?_<|Oq ?_<|Op<|Oq ?_<|Oq ?_<|O3<|Ox ?_<|Ox ?_<|Oq ?_<|O2<|Oq ?_<|Oq ?_<|Oq ?_<|Oq ?_<|O3<|Oq ?_<|Oq ?_<|Oq ?_<|Oq ?_<|O4<|On
           · intro I1 hf aa;refine yX [13] rfl ?_;have H:=iS I1;refine tH (jB x.Name _ ay ) ?_;intro aO le;have H:=H.trans le;exact xD H
           · intro I1 hf aa;refine yX [14] rfl<|pE 4 [(15,.bool (!y))] ?_;rw [aH];exact xD iR
           · intro I1 hf aa;exact I_h [(15,vF)]<|pE 5 [(16,vF)]<|xD iR
           · intro I1 hf aa;refine yX [16,17] rfl<|pE 7 [(18,.bool (decide (t7>0)))] ?_;rw [aY];exact xD iR
           · intro I1 hf aa;exact yX [16,18] rfl<|pE 8 [(19,vY)]<|xD iR
           · intro I1 hf aa;refine yX [19,20,22] rfl ?_;have h:=h.mono aa;refine xR rfl rfl h aG ?_;intro ad1 bm au ax;obtain ⟨p2,c2,rfl,h3⟩:=xP ax;exact yL [] iR ⟨_,_,_,rfl,rfl,au,h3⟩
           · rintro I1 hf aa _ _ ⟨rfl,rfl⟩ _ _ ⟨ad1,p2,c2,rfl,rfl,au,h3⟩;exact yX [19,23] rfl<|pE 13 [(24,.pointer (some ad1))]<|yL [] iR ⟨_,_,_,rfl,rfl,au,h3⟩
           · rintro I1 hf aa _ _ ⟨rfl,rfl⟩ _ _ ⟨ad11,p21,c21,rfl,rfl,hat11,h31⟩;exact yX [19,24] rfl<|xH 0 hat11 [vT x1.Name.l] (vT x1.Name.l) rfl<|xD iR
           · intro I1 hf aa;refine yX [19,25,27] rfl<|pE 17 [(28,.bool (!(Op.bytesLess x1.Name.l x.Name.l)))] ?_;rw [bC];exact xD iR
           · intro I1 hf aa;exact yX [16,19,28] rfl<|pE 18 [(29,vF)]<|xD iR
           · intro I1 hf aa;exact yX [16,29] rfl<|pE 19 [(30,vF)]<|xD iR
           · intro I1 hf aa;exact I_h [(30,vF)]<|pE 20 [(31,vF)]<|xD iR
           · intro I1 hf aa;refine yX [31,34] rfl ?_;have H:=iS I1;refine tH (uA (x.Dims.length:Int) 1 2 _ bc ) ?_;intro bD aK;have H:=H.trans aK;exact xD H
           · intro I1 hf aa;refine yX [31,35] rfl<|pE 25 [(36,.bool (!y1))] ?_;rw [bJ];exact xD iR
           · intro I1 hf aa;exact yX [31,36] rfl<|pE 26 [(37,vY)]<|xD iR
           intro I1 hf aa;exact I_h [(37,vY)]<|pE 27 [(38,vY)]<|xD iR
         intro bI aX;refine yX [0,5,6,7,42] rfl ?_;have H:=H.trans aX;exact zX rfl<|wF zP<|yU<|zU (ct hM05 H)
        | false =>
         have hM06:=uU bJ N;obtain ⟨y2,bu,N⟩:=zB hM06;refine wO [.p (vP b 0) [],.p (vT x.Name.l) [0],.q (.bool y),.q vF,.q vF,.p (vI t7) [],.q vY,.q vY,.p (vS p list c) [],.p (vI t7) [],.p (vI (W (t7 - 1))) [],.x (ePArr x1),.x (ePArr x1),.q (vT x1.Name.l),.p (vP b 0) [],.p (vT x.Name.l) [0],.q vF,.q vF,.q vF,.q vF,.p (vP b 1) [],.p (vS p1 x.Dims c1) [0],.p (vI (x.Dims.length:Int)) [],.q (.bool y1),.q vF,.q vF,.q vF,.p (vP b 1) [],.p (vS p1 x.Dims c1) [0],.q (.bool y2),.p (.bool y2) []] [[],[(0,false)],[(1,false)],[(2,false)],[(3,false)],[(4,false)],[(4,false),(5,false)],[(4,false),(6,false)],[(7,false)],[(7,false)],[(7,false),(9,false)],[(7,false),(8,false),(10,false)],[(7,false),(11,false)],[(7,false),(12,false)],[(7,false)],[(7,false),(14,false)],[(7,false),(13,false),(15,false)],[(4,false),(7,false),(16,false)],[(4,false),(17,false)],[(18,false)],[(19,false)],[(19,false),(20,false)],[(19,false),(21,false)],[(19,false),(22,false)],[(19,false),(23,false)],[(19,false),(24,false)],[(25,false)],[(26,false)],[(26,false),(27,false)],[(26,false),(28,false)],[(26,false),(29,false)]] [hB b (cArr x p1 c1)] [] [(30,false)] (zY [0]) ?_ ?_
         · refine O2<|Oq ?_<|Oq ?_<|Oq ?_<|Op<|Oq ?_<|Oq ?_<|O3<|Ox ?_<|Ox ?_<|Oq ?_<|O2<|Oq ?_<|Oq ?_<|Oq ?_<|Oq ?_<|O3<|Oq ?_<|Oq ?_<|Oq ?_<|Oq ?_<|O2<|Oq ?_<|Op<|On
           · intro I1 hf aa;refine yX [13] rfl ?_;have H:=iS I1;refine tH (jB x.Name _ ay ) ?_;intro aO le;have H:=H.trans le;exact xD H
           · intro I1 hf aa;refine yX [14] rfl<|pE 4 [(15,.bool (!y))] ?_;rw [aH];exact xD iR
           · intro I1 hf aa;exact I_h [(15,vF)]<|pE 5 [(16,vF)]<|xD iR
           · intro I1 hf aa;refine yX [16,17] rfl<|pE 7 [(18,.bool (decide (t7>0)))] ?_;rw [aY];exact xD iR
           · intro I1 hf aa;exact yX [16,18] rfl<|pE 8 [(19,vY)]<|xD iR
           · intro I1 hf aa;refine yX [19,20,22] rfl ?_;have h:=h.mono aa;refine xR rfl rfl h aG ?_;intro ad1 bm au ax;obtain ⟨p2,c2,rfl,h3⟩:=xP ax;exact yL [] iR ⟨_,_,_,rfl,rfl,au,h3⟩
           · rintro I1 hf aa _ _ ⟨rfl,rfl⟩ _ _ ⟨ad1,p2,c2,rfl,rfl,au,h3⟩;exact yX [19,23] rfl<|pE 13 [(24,.pointer (some ad1))]<|yL [] iR ⟨_,_,_,rfl,rfl,au,h3⟩
           · rintro I1 hf aa _ _ ⟨rfl,rfl⟩ _ _ ⟨ad11,p21,c21,rfl,rfl,hat11,h31⟩;exact yX [19,24] rfl<|xH 0 hat11 [vT x1.Name.l] (vT x1.Name.l) rfl<|xD iR
           · intro I1 hf aa;refine yX [19,25,27] rfl<|pE 17 [(28,.bool (!(Op.bytesLess x1.Name.l x.Name.l)))] ?_;rw [bC];exact xD iR
           · intro I1 hf aa;exact yX [16,19,28] rfl<|pE 18 [(29,vF)]<|xD iR
           · intro I1 hf aa;exact yX [16,29] rfl<|pE 19 [(30,vF)]<|xD iR
           · intro I1 hf aa;exact I_h [(30,vF)]<|pE 20 [(31,vF)]<|xD iR
           · intro I1 hf aa;refine yX [31,34] rfl ?_;have H:=iS I1;refine tH (uA (x.Dims.length:Int) 1 2 _ bc ) ?_;intro bD aK;have H:=H.trans aK;exact xD H
           · intro I1 hf aa;refine yX [31,35] rfl<|pE 25 [(36,.bool (!y1))] ?_;rw [bJ];exact xD iR
           · intro I1 hf aa;exact yX [31,36] rfl<|pE 26 [(37,vF)]<|xD iR
           · intro I1 hf aa;exact I_h [(37,vF)]<|pE 27 [(38,vF)]<|xD iR
           intro I1 hf aa;refine yX [38,40] rfl ?_;have H:=iS I1;have ⟨h,h1⟩:=m2 aa h h1;have hf0:FV1 Tryz.prog I1 [] (.func (.func 96) ⟨[]⟩ ⟨[]⟩) sV:=by
             refine FV1.intro ?_;intro I1 aa x0 r u0 hF k0;obtain rfl:=k0;exact (zBd x0 r hF ).mono (by rintro k i hs u ⟨v0,rfl,rfl,h⟩; exact ⟨rfl,h⟩)
           refine xE (qZ x.Dims sV _ bu h1 hf0) ?_;rintro I06 aw v2 k2 bf - ⟨v04,rfl,rfl,rfl⟩ -;have H:=H.trans bf;exact xD H
         intro I07 bt;refine yX [0,5,6,7,42] rfl ?_;have H:=H.trans bt;exact zX rfl<|wF zP<|yU<|zU (ct N H)
      | false =>
       have hM07:=uU aY hM01;obtain ⟨y3,bz,N⟩:=zB hM07;cases hc5:(!y3) with
       | true =>
        have hM08:=tY hc5 N;refine wO [.p (vP b 0) [],.p (vT x.Name.l) [0],.q (.bool y),.q vF,.q vF,.p (vI t7) [],.q vF,.q vF,.p undef [],.p undef [],.p undef [],.p undef [],.p undef [],.p undef [],.p undef [],.p undef [],.p undef [],.p vF [],.p vF [],.p vF [],.p (vP b 1) [],.p (vS p1 x.Dims c1) [0],.p (vI (x.Dims.length:Int)) [],.q (.bool y3),.q vY,.q vY,.q vY,.p undef [],.p undef [],.p undef [],.p vY []] [[],[(0,false)],[(1,false)],[(2,false)],[(3,false)],[(4,false)],[(4,false),(5,false)],[(4,false),(6,false)],[(7,false)],[(7,false)],[(7,false),(9,false)],[(7,false),(8,false),(10,false)],[(7,false),(11,false)],[(7,false),(12,false)],[(7,false)],[(7,false),(14,false)],[(7,false),(13,false),(15,false)],[(4,false),(7,false),(16,false)],[(4,false),(17,false)],[(18,false)],[(19,false)],[(19,false),(20,false)],[(19,false),(21,false)],[(19,false),(22,false)],[(19,false),(23,false)],[(19,false),(24,false)],[(25,false)],[(26,false)],[(26,false),(27,false)],[(26,false),(28,false)],[(26,false),(29,false)]] [hB b (cArr x p1 c1)] [] [(30,false)] (zY [0]) ?_ ?_
        · refine O2<|Oq ?_<|Oq ?_<|Oq ?_<|Op<|Oq ?_<|Oq ?_<|O4<|O4<|O4<|O3<|Oq ?_<|Oq ?_<|Oq ?_<|Oq ?_<|O4<|On
          · intro I1 hf aa;refine yX [13] rfl ?_;have H:=iS I1;refine tH (jB x.Name _ ay ) ?_;intro aO le;have H:=H.trans le;exact xD H
          · intro I1 hf aa;refine yX [14] rfl<|pE 4 [(15,.bool (!y))] ?_;rw [aH];exact xD iR
          · intro I1 hf aa;exact I_h [(15,vF)]<|pE 5 [(16,vF)]<|xD iR
          · intro I1 hf aa;refine yX [16,17] rfl<|pE 7 [(18,.bool (decide (t7>0)))] ?_;rw [aY];exact xD iR
          · intro I1 hf aa;exact yX [16,18] rfl<|pE 8 [(19,vF)]<|xD iR
          · intro I1 hf aa;refine yX [31,34] rfl ?_;have H:=iS I1;refine tH (uA (x.Dims.length:Int) 1 2 _ bz ) ?_;intro I08 le7;have H:=H.trans le7;exact xD H
          · intro I1 hf aa;refine yX [31,35] rfl<|pE 25 [(36,.bool (!y3))] ?_;rw [hc5];exact xD iR
          · intro I1 hf aa;exact yX [31,36] rfl<|pE 26 [(37,vY)]<|xD iR
          intro I1 hf aa;exact I_h [(37,vY)]<|pE 27 [(38,vY)]<|xD iR
        intro I09 le8;refine yX [0,5,6,7,42] rfl ?_;have H:=H.trans le8;exact zX rfl<|wF zP<|yU<|zU (ct hM08 H)
       | false =>
        have hM09:=uU hc5 N;obtain ⟨y4,hy6,N⟩:=zB hM09;refine wO [.p (vP b 0) [],.p (vT x.Name.l) [0],.q (.bool y),.q vF,.q vF,.p (vI t7) [],.q vF,.q vF,.p undef [],.p undef [],.p undef [],.p undef [],.p undef [],.p undef [],.p undef [],.p undef [],.p undef [],.p vF [],.p vF [],.p vF [],.p (vP b 1) [],.p (vS p1 x.Dims c1) [0],.p (vI (x.Dims.length:Int)) [],.q (.bool y3),.q vF,.q vF,.q vF,.p (vP b 1) [],.p (vS p1 x.Dims c1) [0],.q (.bool y4),.p (.bool y4) []] [[],[(0,false)],[(1,false)],[(2,false)],[(3,false)],[(4,false)],[(4,false),(5,false)],[(4,false),(6,false)],[(7,false)],[(7,false)],[(7,false),(9,false)],[(7,false),(8,false),(10,false)],[(7,false),(11,false)],[(7,false),(12,false)],[(7,false)],[(7,false),(14,false)],[(7,false),(13,false),(15,false)],[(4,false),(7,false),(16,false)],[(4,false),(17,false)],[(18,false)],[(19,false)],[(19,false),(20,false)],[(19,false),(21,false)],[(19,false),(22,false)],[(19,false),(23,false)],[(19,false),(24,false)],[(25,false)],[(26,false)],[(26,false),(27,false)],[(26,false),(28,false)],[(26,false),(29,false)]] [hB b (cArr x p1 c1)] [] [(30,false)] (zY [0]) ?_ ?_
        · refine O2<|Oq ?_<|Oq ?_<|Oq ?_<|Op<|Oq ?_<|Oq ?_<|O4<|O4<|O4<|O3<|Oq ?_<|Oq ?_<|Oq ?_<|Oq ?_<|O2<|Oq ?_<|Op<|On
          · intro I1 hf aa;refine yX [13] rfl ?_;have H:=iS I1;refine tH (jB x.Name _ ay ) ?_;intro aO le;have H:=H.trans le;exact xD H
          · intro I1 hf aa;refine yX [14] rfl<|pE 4 [(15,.bool (!y))] ?_;rw [aH];exact xD iR
          · intro I1 hf aa;exact I_h [(15,vF)]<|pE 5 [(16,vF)]<|xD iR
          · intro I1 hf aa;refine yX [16,17] rfl<|pE 7 [(18,.bool (decide (t7>0)))] ?_;rw [aY];exact xD iR
          · intro I1 hf aa;exact yX [16,18] rfl<|pE 8 [(19,vF)]<|xD iR
          · intro I1 hf aa;refine yX [31,34] rfl ?_;have H:=iS I1;refine tH (uA (x.Dims.length:Int) 1 2 _ bz ) ?_;intro I08 le7;have H:=H.trans le7;exact xD H
          · intro I1 hf aa;refine yX [31,35] rfl<|pE 25 [(36,.bool (!y3))] ?_;rw [hc5];exact xD iR
          · intro I1 hf aa;exact yX [31,36] rfl<|pE 26 [(37,vF)]<|xD iR
          · intro I1 hf aa;exact I_h [(37,vF)]<|pE 27 [(38,vF)]<|xD iR
          intro I1 hf aa;refine yX [38,40] rfl ?_;have H:=iS I1;have ⟨h,h1⟩:=m2 aa h h1;have hf01:FV1 Tryz.prog I1 [] (.func (.func 96) ⟨[]⟩ ⟨[]⟩) sV:=by
            refine FV1.intro ?_;intro I1 aa x0 r u0 hF k0;obtain rfl:=k0;exact (zBd x0 r hF ).mono (by rintro k i hs u ⟨v0,rfl,rfl,h⟩; exact ⟨rfl,h⟩)
          refine xE (qZ x.Dims sV _ hy6 h1 hf01) ?_;rintro bL aw v2 k2 le9 - ⟨v06,rfl,rfl,rfl⟩ -;have H:=H.trans le9;exact xD H
        intro bR le10;refine yX [0,5,6,7,42] rfl ?_;have H:=H.trans le10;exact zX rfl<|wF zP<|yU<|zU (ct N H)
   intro t42 I0 le11 aT;have ⟨h,H⟩:=m2 le11 h H;refine zK<|yG aT ?_ ?_
   · intro hc6 N;exact wT [(2,vF)]<|xF<|zV<|zJ<|zJ<|hr _ _ _ _ (zD N).symm H ⟨_,_,(resT rfl),zP,⟨_,rfl,rfl,rfl⟩⟩
   intro hc6 N;exact zS<|zO<|zK<|zM<|yK [] [7] rfl<|yP<|oT<|ih (W (t7+1)) _ N H h hg ho hx hr
 intro hc N;exact wP<|yU<|hx _  (zD N).symm H
def eW (list:(List zE)):Option (Bool):=do
 match<-oH list 0 with
 | .ret r0=>pure r0
 | .done _ =>
  pure (decide ((list.length:Int)<=4))
theorem zHG:∀ list r,eW list=some r->∀ {I:Imm}{p c},(S4 I p list c)->RT 57 [vS p list c] I [] (zT  r):=by
 intro list r N I p c h;unfold eW at N;refine yI func57 fun B=>wT []<|zZ<|yH [5,6,7] rfl<|wI<|qR [(0,vS p list c),(5,vS p list c),(6,vI (list.length:Int)),(7,vI 0)] ?_;obtain ⟨aN,aC,aF⟩:=zB N;refine zEd list 0 aN aC iR h nG nO ?_ ?_
 · intro bO  heq1 le12;subst aN;refine zR<|vW [2] rfl<|zK<|xA ?_;obtain rfl:=zD aF;exact vV
 intro r0 I9 hs9 m9 aS le9 aU;subst aS;refine zV<|zJ ?_;obtain rfl:=zD aF;exact fO aU
def oA (aB:List HA) (r:Int):KT:=fun kk I' af v=>
  ∃ v0,aB=af/\v=tupV [v0]/\v0=.int .i64 r
def xJ (s:(List zA)) (f0:(zA->Option Bool)) (t8:Int):Option (Out Unit (Int)):=do
 if (decide (t8<(s.length:Int))) then
  let x<-idx s t8;let y<-f0 x;if y then pure (.ret t8)
  else xJ s f0 (W (t8+1))
 else pure (.done ())
 partial_fixpoint
theorem fH (s:(List zA)) (f0:(zA->Option Bool)):∀ (t8:Int) (o:Out Unit (Int)),xJ s f0 t8=some o->∀ {B}{I0 I:Imm}{Q p c}{fv:Value}{aB:List HA},I0.le I->(S4 I p s c)->(FV1 Tryz.prog I aB fv f0)->NG Q->NO Q->(∀ I',o=(.done ())->I0.le I'->T 19 B Q (.exit 0) I' aB [])->(∀ r I' af m',o=(.ret r)->I0.le I'->RS Tryz.prog f175 B (oA aB r) I' af m'->T 19 B Q .ret I' af m')->J Tryz.prog 19 B (nav (bodyOf f175) [1,0,1,0]) Q I aB [(0,vS p s c),(1,fv),(7,vI (s.length:Int)),(8,vI t8)]:=by
 refine xJ.partial_correctness s f0 _ fun aE ih t8 o N B I0 I Q p c fv aB H h h1 hg ho hx hr=>yQ hg ho<|yH [9] rfl<|zZ<|yG N ?_ ?_
 · intro hc N;refine zS<|zZ<|yF<|yH [5] rfl<|yW<|yE 3 [] [11,12,13] rfl<|bE N fun x hy N=>xR rfl rfl h hy ?_;intro ad aL al aj;obtain ⟨p1,c1,rfl,h2⟩:=yD aj;refine xH 0 al (cAff x p1 c1) (vA (cAff x p1 c1)) rfl<|bE N fun y ay N=>zJq rfl rfl h1 ay ⟨_,rfl,(yJ ⟨_,rfl,h2⟩)⟩ (cu _).symm ?_;rintro I0 v01 le rfl;refine wX (af:=aB) (cu _) ?_;have ⟨h,h1,H⟩:=m3 le h h1 H;refine zX rfl<|zK<|yG N ?_ ?_
   · intro aH N;exact yH [4] rfl<|xF<|zV<|zJ<|zJ<|hr _ _ _ _ (zD N).symm H ⟨_,_,(resT rfl),(fun _ h=>h),⟨_,rfl,rfl,rfl⟩⟩
   intro aH N;exact zS<|zO<|zK<|zM<|yK [] [8] rfl<|yP<|oT<|ih (W (t8+1)) _ N H h h1 hg ho hx hr
 intro hc N;exact wP<|yU<|hx _  (zD N).symm H
def uC (s:(List zA)) (f0:(zA->Option Bool)):Option (Int):=do
 match<-xJ s f0 0 with
 | .ret r0=>pure r0
 | .done _ =>
  pure (-1)
theorem eE:∀ s f0 r,uC s f0=some r->∀ {I:Imm}{p c}{fv:Value}{aB:List HA},(S4 I p s c)->(FV1 Tryz.prog I aB fv f0)->RT 175 [vS p s c,fv] I aB (oA aB r):=by
 intro s f0 r N I p c fv aB h h1;unfold uC at N;refine yI func175 fun B=>wT []<|zZ<|yH [7,8] rfl<|wI<|qR [(0,vS p s c),(1,fv),(7,vI (s.length:Int)),(8,vI 0)] ?_;obtain ⟨o0,az,aF⟩:=zB N;refine fH s f0 0 o0 az iR h h1 nG nO ?_ ?_
 · intro aO  heq aa;subst o0;refine zR<|vW [4] rfl<|zK<|xA ?_;exact xO aF (resT rfl) (fun _ h=>h) ⟨_,rfl,rfl,rfl⟩
 intro r0 I9 hs9 m9 aS le9 aU;subst aS;refine zV<|zJ ?_;obtain rfl:=zD aF;exact fO aU
def gE (aB:List HA) (r:Bool):KT:=fun kk I' af v=>
  ∃ v0,aB=af/\v=tupV [v0]/\v0=.bool r
def xW (s:(List zA)) (f0:(zA->Option Bool)):Option (Bool):=do
 let y<-uC s f0;pure (decide (y>=0))
theorem pY:∀ s f0 r,xW s f0=some r->∀ {I:Imm}{p c}{fv:Value}{aB:List HA},(S4 I p s c)->(FV1 Tryz.prog I aB fv f0)->RT 140 [vS p s c,fv] I aB (gE aB r):=by
 intro s f0 r N I p c fv aB h h1;unfold xW at N;refine yI func140 fun B=>wT []<|yW<|yE 2 [] [5,6] rfl<|bE N fun y hy N=>zGe (hs1:=aB) (rest:=[]) rfl rfl rfl rfl (by kernel_rfl) rfl (cu _).symm (eE s f0 _ hy h h1) ?_;rintro I0 aw v2 k2 le - ⟨v0,rfl,rfl,rfl⟩ -;refine wX (af:=aB) (cu _) ?_;refine yK [] [4] rfl<|zK<|xA ?_;exact xO N (resT rfl) (fun _ h=>h) ⟨_,rfl,rfl,rfl⟩
def rC (a0:zA) (n0:Int):Option (Int):=do
 let t17<-(do
   if (decide (n0>0)) then
    let x<-idx a0.Coefs (W (n0 - 1));pure (x==0)
   else
    pure false
     : Option Bool)
 if t17 then rC a0 (W (n0 - 1))
 else pure (id n0)
 partial_fixpoint
theorem zCj (a0:zA):∀ (n0:Int) (o:Int),rC a0 n0=some o->∀ {B}{I0 I:Imm}{Q p c}{b},I0.le I->(S4 I p a0.Coefs c)->NG Q->NO Q->(∀ I' n01,o=n01->I0.le I'->T 21 B Q (.exit 0) I' [] [(3,vI n01)])->J Tryz.prog 21 B (nav (bodyOf f123) [1,1,0,0]) Q I [hB b (cAff a0 p c)] [(1,vP b 0),(3,vI n0)]:=by
 refine rC.partial_correctness a0 _ fun aE ih n0 o N B I0 I Q p c b H h hg ho hx=>yQ hg ho<|yA<|yA ?_;refine wZ N [hB b (cAff a0 p c)] (fun t17=>[(1,vP b 0),(3,vI n0),(17,.bool t17)]) (fun o0 az=>?_) ?_
 · have H:=iS I;refine zM<|yE 3 [] [9] rfl<|wL [9] az ?_ ?_
   · intro hc N;refine yE 7 [0] [11,13] rfl<|bE N fun x hy N=>xR rfl rfl h hy ?_;intro ad aL al aj;obtain rfl:=aj;exact xH 0 al [vI x] (vI x) rfl<|yK [] [17] rfl<|yU<|zU (ct N H)
   intro hc N;exact wR [] [(17,vF)]<|yU<|zU (ct N H)
 intro t17 I0 le aT;have ⟨h,H⟩:=m2 le h H;refine zK<|yG aT ?_ ?_
 · intro aH N;exact zS<|wI<|zM<|yK [] [3] rfl<|zO<|yP<|oT<|ih (W (n0 - 1)) _ N H h hg ho hx
 intro aH N;exact wP<|wF zP<|yU<|hx _ _ (zD N).symm H
def pH (a0:zA):Option (Int):=do
 let n01<-rC a0 (a0.Coefs.length:Int);pure (id n01)
theorem zAB:∀ a0 r,pH a0=some r->∀ {I:Imm}{p c},(S4 I p a0.Coefs c)->RT 123 [vA (cAff a0 p c)] I [] (xL  r):=by
 intro a0 r N I p c h;unfold pH at N;refine yI func123 fun B=>yB<|vJ (cAff a0 p c) ?_;intro b hb;refine wR [] []<|yW<|yK [0] [3] rfl<|zZ<|yF<|qR [(1,vP b 0),(3,vI (a0.Coefs.length:Int))] ?_;obtain ⟨aN,aC,aF⟩:=zB N;refine zCj a0 (a0.Coefs.length:Int) aN aC iR h nG nO ?_;intro aO n01 heq1 aa;subst aN;refine zR<|vW [2] rfl<|zK<|xA ?_;obtain rfl:=zD aF;exact vV
def zAj (n0:Int):Option (Bool):=do
 let y<-vG n0 (-99) 99;pure (id y)
theorem zHj:∀ n0 r,zAj n0=some r->∀ {I:Imm} ,RT 176 [vI n0] I [] (zT  r):=by
 intro n0 r N I;unfold zAj at N;refine yI func176 fun B=>wT []<|yW<|yE 1 [] [3] rfl<|bE N fun y hy N=>tH (uA n0 (-99) 99 _ hy ) fun I0 le=>wR [] [(2,.bool y)]<|zK<|xA ?_;obtain rfl:=zD N;exact vV
def qJ (c:Int):Option (Bool):=do
 let y<-vG c (-9) 9;pure (!y)
theorem zDb:∀ c r,qJ c=some r->∀ {I:Imm} ,RT 177 [vI c] I [] (zT  r):=by
 intro c r N I;unfold qJ at N;refine yI func177 fun B=>wT []<|yW<|yE 1 [] [3] rfl<|bE N fun y hy N=>tH (uA c (-9) 9 _ hy ) fun I0 le=>wR [] [(2,.bool (!y))]<|zK<|xA ?_;obtain rfl:=zD N;exact vV
def oI (a0:zA):Option (Bool):=do
 let t2<-(do
   if ((a0.Coefs.length:Int)==4) then
    let y<-zAj a0.Const;if y then
     let y1<-wA a0.Coefs qJ;pure (!y1)
    else pure false
   else
    pure false
     : Option Bool)
 pure (id t2)
theorem jG:∀ a0 r,oI a0=some r->∀ {I:Imm}{p c},(S4 I p a0.Coefs c)->RT 142 [vA (cAff a0 p c)] I [] (zT  r):=by
 intro a0 r N I p c h;unfold oI at N;refine yI func142 fun B=>?_;have H:=iS I;refine yB<|vJ (cAff a0 p c) ?_;intro b hb;refine wR [] []<|zK<|yA ?_;refine wZ N [] (fun t2=>[(2,.bool t2)]) (fun o0 az=>?_) ?_
 · have H:=iS I;refine zM<|yE 5 [0] [7] rfl<|wL [7] az ?_ ?_
   · intro hc N;refine yE 7 [0] [9] rfl<|bE N fun y hy N=>tH (zHj a0.Const _ hy ) ?_;intro aO le;have ⟨h,H⟩:=m2 le h H;refine yE 10 [] [12] rfl<|wL [12] N ?_ ?_
     · intro aH N;refine yE 12 [0] [14] rfl ?_;have hf0:FV1 Tryz.prog aO [] (.func (.func 177) ⟨[]⟩ ⟨[]⟩) qJ:=by
         refine FV1.intro ?_;intro I1 aa x0 r u0 hF k0;obtain rfl:=k0;exact (zDb x0 r hF ).mono (by rintro k i hs u ⟨v0,rfl,rfl,h⟩; exact ⟨rfl,h⟩)
       obtain ⟨y1,ay,N⟩:=zB N;refine xE (qZ a0.Coefs qJ _ ay h hf0) ?_;rintro aV aw v2 k2 aa - ⟨v01,rfl,rfl,rfl⟩ -;have H:=H.trans aa;exact yK [] [2] rfl<|wF zP<|yU<|zU (ct N H)
     intro aH N;exact wR [] [(2,vF)]<|wF zP<|yU<|zU (ct N H)
   intro hc N;exact wR [] [(2,vF)]<|wF zP<|yU<|zU (ct N H)
 intro t2 I0 aA aT;refine zK<|xA ?_;obtain rfl:=zD aT;exact vV
def pQ (a0:zA) (x:Int):Option (Bool):=do
 let t3<-(do
   let y<-oI a0;if (!y) then pure true
   else
    let y1<-pH a0;pure (decide (y1>x))
     : Option Bool)
 pure (id t3)
theorem zFR:∀ a0 x r,pQ a0 x=some r->∀ {I:Imm}{p c}{ad:Addr},(S4 I p a0.Coefs c)->(At I ad [vI x])->RT 174 [vA (cAff a0 p c),.pointer (some ad)] I [] (zT  r):=by
 intro a0 x r N I p c ad h al;unfold pQ at N;refine yI func174 fun B=>?_;have H:=iS I;refine yB<|vJ (cAff a0 p c) ?_;intro b hb;refine wR [] []<|zK<|yA ?_;refine wZ N [] (fun t3=>[(3,.bool t3)]) (fun o0 az=>?_) ?_
 · have H:=iS I;obtain ⟨y,hy,N⟩:=zB az;cases hc:(!y) with
   | true =>
    have hM0:=tY hc N;refine wO [.p (vA (cAff a0 p c)) [0],.q (.bool y),.q vY,.q vY,.p undef [],.p undef [],.p undef [],.p undef [],.p vY []] [[],[(0,false)],[(1,false)],[(2,false)],[(3,false)],[(3,false),(4,false)],[(3,false)],[(3,false),(5,false),(6,false)],[(3,false),(7,false)]] [hB b (cAff a0 p c)] [] [(8,false)] (zY [0]) ?_ ?_
    · refine Op<|Oq ?_<|Oq ?_<|Oq ?_<|O4<|Op<|On
      · intro I1 hf aa;refine yX [4] rfl ?_;have H:=iS I1;have h:=h.mono aa;refine tH (jG a0 _ hy h) ?_;intro aO le;have H:=H.trans le;exact xD H
      · intro I1 hf aa;refine yX [5] rfl<|pE 3 [(6,.bool (!y))] ?_;rw [hc];exact xD iR
      intro I1 hf aa;exact I_h [(6,vY)]<|pE 4 [(7,vY)]<|xD iR
    intro aV aa;refine I_h [(12,vY)] ?_;have H:=H.trans aa;exact wR [] [(3,vY)]<|wF zP<|yU<|zU (ct hM0 H)
   | false =>
    have hM01:=uU hc N;obtain ⟨y1,ay,N⟩:=zB hM01;refine wO [.p (vA (cAff a0 p c)) [0],.q (.bool y),.q vF,.q vF,.p (vA (cAff a0 p c)) [0],.q (vI y1),.q (vI x),.p (.bool (decide (y1>x))) [],.p (.bool (decide (y1>x))) []] [[],[(0,false)],[(1,false)],[(2,false)],[(3,false)],[(3,false),(4,false)],[(3,false)],[(3,false),(5,false),(6,false)],[(3,false),(7,false)]] [hB b (cAff a0 p c)] [] [(8,false)] (zY [0]) ?_ ?_
    · refine Op<|Oq ?_<|Oq ?_<|Oq ?_<|Op<|Oq ?_<|Oq ?_<|O2<|On
      · intro I1 hf aa;refine yX [4] rfl ?_;have H:=iS I1;have h:=h.mono aa;refine tH (jG a0 _ hy h) ?_;intro aO le;have H:=H.trans le;exact xD H
      · intro I1 hf aa;refine yX [5] rfl<|pE 3 [(6,.bool (!y))] ?_;rw [hc];exact xD iR
      · intro I1 hf aa;exact I_h [(6,vF)]<|pE 4 [(7,vF)]<|xD iR
      · intro I1 hf aa;refine yX [7,8] rfl ?_;have H:=iS I1;have h:=h.mono aa;refine dP (zAB a0 _ ay h) ?_;intro bx aA;have H:=H.trans aA;exact xD H
      intro I1 hf aa;refine yX [1,7] rfl ?_;have al:=al.mono aa;exact xH 0 al [vI x] (vI x) rfl<|xD iR
    intro bD aK;refine yX [12] rfl ?_;have H:=H.trans aK;exact yK [] [3] rfl<|wF zP<|yU<|zU (ct N H)
 intro t3 I0 aX aT;refine zK<|xA ?_;obtain rfl:=zD aT;exact vV
def gJ (list:(List zA)) (depth:Int):Option (Bool):=do
 let t4<-(do
   let y<-vG (list.length:Int) 1 2;if y then
    let y1<-xW list (fun x0=>pQ x0 depth);pure (!y1)
   else
    pure false
     : Option Bool)
 pure (id t4)
theorem zCk:∀ list depth r,gJ list depth=some r->∀ {I:Imm}{p c},(S4 I p list c)->RT 138 [vS p list c,vI depth] I [] (zT  r):=by
 intro list depth r N I p c h;unfold gJ at N;refine yI func138 fun B=>?_;have H:=iS I;refine yB<|vJ [vI depth] ?_;intro b hb;refine xX 0 rfl ?_;intro I0 le hl0;have al:At I0 ⟨b,0,none⟩ [vI depth]:=At.of_blk hl0;have ⟨h,H⟩:=m2 le h H;refine wR [] []<|zK<|yA ?_;refine wZ N [] (fun t4=>[(4,.bool t4)]) (fun o0 az=>?_) ?_
 · have H:=iS I0;refine zM<|yE 2 [] [6] rfl ?_;obtain ⟨y,hy,N⟩:=zB az;refine tH (uA (list.length:Int) 1 2 _ hy ) ?_;intro aV aa;have ⟨h,al,H⟩:=m3 aa h al H;refine yE 4 [] [8] rfl<|wL [8] N ?_ ?_
   · intro hc N;refine yE 6 [] [9,10] rfl ?_;have hf0:FV1 Tryz.prog aV [] (.func (.func 174) ⟨[]⟩ ⟨[vP b 0]⟩) (fun x0=>pQ x0 depth):=by
       refine FV1.intro ?_;intro I1 aa x0 r u0 hF k0;obtain ⟨_,rfl,k0⟩:=k0;obtain ⟨p1,c1,rfl,h2⟩:=yD k0;exact (zFR x0 depth r hF h2 (al.mono aa)).mono (by rintro k i hs u ⟨v0,rfl,rfl,h⟩; exact ⟨rfl,h⟩)
     obtain ⟨y1,ay,N⟩:=zB N;refine xE (pY list (fun x0=>pQ x0 depth) _ ay h hf0) ?_;rintro bx aw v2 k2 aA - ⟨v02,rfl,rfl,rfl⟩ -;have H:=H.trans aA;exact yK [] [4] rfl<|yU<|zU (ct N H)
   intro hc N;exact wR [] [(4,vF)]<|yU<|zU (ct N H)
 intro t4 aO aK aT;refine zK<|xA ?_;obtain rfl:=zD aT;exact vV
def pI (nest:(List zF)) (t7:Int):Option (Out Unit (Bool)):=do
 if (decide (t7<(nest.length:Int))) then
  let x<-idx nest t7;let t23<-(do
    let y<-gJ x.Lo t7;if (!y) then pure true
    else
     let y1<-gJ x.Hi t7;pure (!y1)
      : Option Bool)
  if t23 then pure (.ret false)
  else pI nest (W (t7+1))
 else pure (.done ())
 partial_fixpoint
theorem zEF (nest:(List zF)):∀ (t7:Int) (o:Out Unit (Bool)),pI nest t7=some o->∀ {B}{I0 I:Imm}{Q p c},I0.le I->(S4 I p nest c)->NG Q->NO Q->(∀ I',o=(.done ())->I0.le I'->T 28 B Q (.exit 0) I' [] [(0,vS p nest c)])->(∀ r I' af m',o=(.ret r)->I0.le I'->RS Tryz.prog f97 B (zT  r) I' af m'->T 28 B Q .ret I' af m')->J Tryz.prog 28 B (nav (bodyOf f97) [1,0,1,0]) Q I [] [(0,vS p nest c),(5,vS p nest c),(6,vI (nest.length:Int)),(7,vI t7)]:=by
 refine pI.partial_correctness nest _ fun aE ih t7 o N B I0 I Q p c H h hg ho hx hr=>yQ hg ho<|yH [8] rfl<|zZ<|yG N ?_ ?_
 · intro hc N;refine zS<|zZ<|yF<|yB<|yE 1 [] [9] rfl<|bE N fun x hy N=>xR rfl rfl h hy ?_;intro ad aL al aj;obtain ⟨p1,c1,p2,c2,rfl,h1,h2⟩:=wY aj;refine xH 0 al (cLoop x p1 c1 p2 c2) (vA (cLoop x p1 c1 p2 c2)) rfl<|xU zTwo ?_;intro b hb;refine yE 5 [] [3] rfl<|yY 0 (cLoop x p1 c1 p2 c2) rfl<|zX rfl<|zK<|yA ?_;refine wZ N [] (fun t23=>[(0,vS p nest c),(5,vS p nest c),(6,vI (nest.length:Int)),(7,vI t7),(23,.bool t23)]) (fun o0 az=>?_) ?_
   · have H:=iS I;refine zM<|yE 3 [0] [13,14] rfl ?_;obtain ⟨y,ay,N⟩:=zB az;refine tH (zCk x.Lo t7 _ ay h1) ?_;intro aO le;have ⟨h2,H⟩:=m2 le h2 H;refine yE 6 [] [17] rfl<|wL [17] N ?_ ?_
     · intro aH N;exact wR [] [(23,vY)]<|wF zP<|yU<|zU (ct N H)
     intro aH N;refine yE 9 [0] [19,20] rfl<|bE N fun y1 aG N=>tH (zCk x.Hi t7 _ aG h2) ?_;intro aV aa;have H:=H.trans aa;exact yK [] [23] rfl<|wF zP<|yU<|zU (ct N H)
   intro t23 I0 aA aT;have ⟨h,H⟩:=m2 aA h H;refine zK<|yG aT ?_ ?_
   · intro aY N;exact wT [(2,vF)]<|xF<|zV<|zJ<|zJ<|hr _ _ _ _ (zD N).symm H ⟨_,_,(resT rfl),zP,⟨_,rfl,rfl,rfl⟩⟩
   intro aY N;exact zS<|zO<|zK<|zM<|yK [] [7] rfl<|yP<|oT<|ih (W (t7+1)) _ N H h hg ho hx hr
 intro hc N;exact wP<|yU<|hx _  (zD N).symm H
def fX (nest:(List zF)):Option (Bool):=do
 match<-pI nest 0 with
 | .ret r0=>pure r0
 | .done _ =>
  pure (decide ((nest.length:Int)<=4))
theorem zGX:∀ nest r,fX nest=some r->∀ {I:Imm}{p c},(S4 I p nest c)->RT 97 [vS p nest c] I [] (zT  r):=by
 intro nest r N I p c h;unfold fX at N;refine yI func97 fun B=>wT []<|zZ<|yH [5,6,7] rfl<|wI<|qR [(0,vS p nest c),(5,vS p nest c),(6,vI (nest.length:Int)),(7,vI 0)] ?_;obtain ⟨aN,aC,aF⟩:=zB N;refine zEF nest 0 aN aC iR h nG nO ?_ ?_
 · intro bx  heq1 aK;subst aN;refine zR<|vW [2] rfl<|zK<|xA ?_;obtain rfl:=zD aF;exact vV
 intro r0 I9 hs9 m9 aS le9 aU;subst aS;refine zV<|zJ ?_;obtain rfl:=zD aF;exact fO aU
def zBo (r:List Int):KT:=fun kk I' af v=>
  ∃ a0 c0 s0,af=[.osl (.slice a0 r.length c0) (Rp.sz Int) s0]/\v=tupV [(.slice a0 r.length c0)]/\RepL (Rp.rep I') (Rp.sz Int) s0 r
def uD (s:List Int):Option (List Int):=app 8 ([]:List Int) s
theorem oN:∀ s r,uD s=some r->∀ {I:Imm}{p c},SL I (vS p s c) s->RT 64 [vS p s c] I [] (zBo r):=by
 intro s r N I p c h;unfold uD at N;obtain ⟨aL,k0,k01⟩:=h;refine yI func64 fun B=>?_;cases p with
 | none =>
  have hs:s=[]:=by
    rcases k0 with ⟨hv,rfl⟩ | ⟨b0,off,len,cap,cc,hv,k2⟩
    · cases s with
      | nil=>rfl
      | cons _ _=>simp at hv
    simp at hv
  subst hs;obtain ⟨_,rfl⟩:=zAy N;refine yH [0,2] rfl<|zZ<|yB<|yE 1 [] [3] rfl<|zQN true rfl rfl ?_ rfl;exact wR [] [(4,vY)]<|zK<|zDm rfl<|wT [(2,z0)]<|xF<|zJ<|wF (fN (Rp.sz Int))<|zJO (resT rfl) (zW [0] rfl (by decide)) ⟨none,0,[],rfl,rfl,rfl⟩
 | some ad =>
  refine yH [0,2] rfl<|zZ<|yB<|yE 1 [] [3] rfl<|zQN false rfl rfl ?_ rfl;refine yK [] [0,4] rfl<|zK<|zBU rfl<|zS<|yW<|uV [] Int ?_;intro b2 hb2;have h1:RL I [] ([]:List Int):=rfl;exact yE 2 [] [6] rfl<|rF 3 1 0 rfl rfl rfl h1 (.inl k0) k01 N fun p1 c1 cs h2=>yK [] [2] rfl<|xF<|zJO (resT rfl) (zW [0] rfl (by decide)) ⟨_,_,_,rfl,rfl,h2⟩
def rY (a0:zA) (ag:(List Int)) (sum:Int) (t12:Int):Option (Int):=do
 if (decide (t12<(ag.length:Int))) then
  let x<-idx ag t12;let x1<-idx a0.Coefs t12;rY a0 ag (W (sum+(W (x1*x)))) (W (t12+1))
 else pure (id sum)
 partial_fixpoint
theorem zDF (a0:zA) (ag:(List Int)):∀ (sum:Int) (t12:Int) (o:Int),rY a0 ag sum t12=some o->∀ {B}{I0 I:Imm}{Q p c p1 c1}{b},I0.le I->(S4 I p1 ag c1)->(S4 I p a0.Coefs c)->NG Q->NO Q->(∀ I' sum1,o=sum1->I0.le I'->T 28 B Q (.exit 0) I' [] [(5,vI sum1)])->J Tryz.prog 28 B (nav (bodyOf f31) [1,1,0,1,0]) Q I [hB b (cAff a0 p c)] [(2,vP b 0),(5,vI sum),(10,vS p1 ag c1),(11,vI (ag.length:Int)),(12,vI t12)]:=by
 refine rY.partial_correctness a0 ag _ fun aE ih sum t12 o N B I0 I Q p c p1 c1 b H h1 h hg ho hx=>yQ hg ho<|yH [13] rfl<|zZ<|yG N ?_ ?_
 · intro hc N;refine zS<|zZ<|yF<|yB<|yE 1 [] [14] rfl<|bE N fun x hy N=>xR rfl rfl h1 hy ?_;intro ad aL al aj;obtain rfl:=aj;refine xH 0 al [vI x] (vI x) rfl<|yK [] [6,7] rfl<|zK<|zM<|yE 4 [0] [17,19,20] rfl<|bE N fun x1 ay N=>xR rfl rfl h ay ?_;intro ad1 bm au ax;obtain rfl:=ax;exact xH 0 au [vI x1] (vI x1) rfl<|yK [] [5] rfl<|zO<|zK<|zM<|yK [] [12] rfl<|yP<|oT<|ih (W (sum+(W (x1*x)))) (W (t12+1)) _ N H h1 h hg ho hx
 intro hc N;exact wP<|wF zP<|yU<|hx _ _ (zD N).symm H
def tP (a0:zA) (ag:(List Int)):Option (Int):=do
 let sum1<-rY a0 ag a0.Const 0;pure (id sum1)
theorem nW:∀ a0 ag r,tP a0 ag=some r->∀ {I:Imm}{p c p1 c1},(S4 I p a0.Coefs c)->(S4 I p1 ag c1)->RT 31 [vA (cAff a0 p c),vS p1 ag c1] I [] (xL  r):=by
 intro a0 ag r N I p c p1 c1 h h1;unfold tP at N;refine yI func31 fun B=>yB<|vJ (cAff a0 p c) ?_;intro b hb;refine wR [] []<|yW<|yK [0] [5] rfl<|zZ<|yH [10,11,12] rfl<|wI<|qR [(2,vP b 0),(5,vI a0.Const),(10,vS p1 ag c1),(11,vI (ag.length:Int)),(12,vI 0)] ?_;obtain ⟨o0,az,aF⟩:=zB N;refine zDF a0 ag a0.Const 0 o0 az iR h1 h nG nO ?_;intro I0 sum1 heq le;subst o0;refine zR<|vW [4] rfl<|zK<|xA ?_;obtain rfl:=zD aF;exact vV
def pJ (l:zF) (ag:(List Int)) (lo:Int) (t27:Int):Option (Int):=do
 if (decide (t27<(l.Lo.length:Int))) then
  let x2<-idx l.Lo t27;let y2<-tP x2 ag;pJ l ag (if y2>lo then y2 else lo) (W (t27+1))
 else pure (id lo)
 partial_fixpoint
theorem zEG (l:zF) (ag:(List Int)):∀ (lo:Int) (t27:Int) (o:Int),pJ l ag lo t27=some o->∀ {B}{I0 I:Imm}{Q}{y1:Int}{p c p1 c1 p2 c2}{b},I0.le I->(S4 I p2 ag c2)->(S4 I p l.Lo c)->(S4 I p1 l.Hi c1)->NG Q->NO Q->(∀ I' lo1,o=lo1->I0.le I'->T 52 B Q (.exit 0) I' [hB b (cLoop l p c p1 c1)] [(1,vS p2 ag c2),(2,vP b 0),(6,vI lo1),(7,vI y1)])->J Tryz.prog 52 B (nav (bodyOf f139) [1,1,0,1,0]) Q I [hB b (cLoop l p c p1 c1)] [(1,vS p2 ag c2),(2,vP b 0),(6,vI lo),(7,vI y1),(25,vS p l.Lo c),(26,vI (l.Lo.length:Int)),(27,vI t27)]:=by
 refine pJ.partial_correctness l ag _ fun aE ih lo t27 o N B I0 I Q y1 p c p1 c1 p2 c2 b H h2 h h1 hg ho hx=>yQ hg ho<|yH [28] rfl<|zZ<|yG N ?_ ?_
 · intro hc N;refine zS<|zZ<|yF<|yB<|bE N fun x2 bu N=>xR rfl rfl h bu ?_;intro ad2 bK bk bq;obtain ⟨p5,c5,rfl,h7⟩:=yD bq;refine xH 0 bk (cAff x2 p5 c5) (vA (cAff x2 p5 c5)) rfl<|xU [z0,vI 0] ?_;intro b1 hb1;refine yY 0 (cAff x2 p5 c5) rfl<|zX rfl<|zK<|zM<|tL 3 [0] [(31,vI lo),(32,vA (cAff x2 p5 c5)),(33,vS p2 ag c2)]<|bE N fun y2 bz N=>dP (nW x2 ag _ bz h7 h2) ?_;intro bx aK;have ⟨h2,h,h1,H⟩:=m4 aK h2 h h1 H;exact yK [] [6] rfl<|zO<|zK<|zM<|yK [] [27] rfl<|yP<|pU (zW [1] rfl (by decide))<|oT<|ih (if y2>lo then y2 else lo) (W (t27+1)) _ N H h2 h h1 hg ho hx
 intro hc N;exact wP<|yU<|hx _ _ (zD N).symm H
def pK (l:zF) (ag:(List Int)) (hi:Int) (t40:Int):Option (Int):=do
 if (decide (t40<(l.Hi.length:Int))) then
  let x3<-idx l.Hi t40;let y3<-tP x3 ag;pK l ag (if y3<hi then y3 else hi) (W (t40+1))
 else pure (id hi)
 partial_fixpoint
theorem zEH (l:zF) (ag:(List Int)):∀ (hi:Int) (t40:Int) (o:Int),pK l ag hi t40=some o->∀ {B}{I0 I:Imm}{Q}{lo1:Int}{p1 c1 p2 c2},I0.le I->(S4 I p2 ag c2)->(S4 I p1 l.Hi c1)->NG Q->NO Q->(∀ I' hi1,o=hi1->I0.le I'->T 52 B Q (.exit 2) I' [] [(6,vI lo1),(7,vI hi1)])->J Tryz.prog 52 B (nav (bodyOf f139) [1,1,1,0,1,0]) Q I [] [(1,vS p2 ag c2),(6,vI lo1),(7,vI hi),(38,vS p1 l.Hi c1),(39,vI (l.Hi.length:Int)),(40,vI t40)]:=by
 refine pK.partial_correctness l ag _ fun aE ih hi t40 o N B I0 I Q lo1 p1 c1 p2 c2 H h2 h1 hg ho hx=>yQ hg ho<|yH [41] rfl<|zZ<|yG N ?_ ?_
 · intro aH N;refine zS<|zZ<|yF<|yB<|bE N fun x3 hy6 N=>xR rfl rfl h1 hy6 ?_;intro ad3 ccs3 hat3 bB;obtain ⟨p6,c6,rfl,h9⟩:=yD bB;refine xH 0 hat3 (cAff x3 p6 c6) (vA (cAff x3 p6 c6)) rfl<|xU [z0,vI 0] ?_;intro b2 hb2;refine yY 0 (cAff x3 p6 c6) rfl<|zX rfl<|zK<|zM<|tL 3 [0] [(44,vI hi),(45,vA (cAff x3 p6 c6)),(46,vS p2 ag c2)]<|bE N fun y3 hy7 N=>dP (nW x3 ag _ hy7 h9 h2) ?_;intro bI bf;have ⟨h2,h1,H⟩:=m3 bf h2 h1 H;exact yK [] [7] rfl<|zO<|zK<|zM<|yK [] [40] rfl<|yP<|pU zP<|oT<|ih (if y3<hi then y3 else hi) (W (t40+1)) _ N H h2 h1 hg ho hx
 intro aH N;exact wP<|yU<|hx _ _ (zD N).symm H
def fY (l:zF) (ag:(List Int)):Option (Int×Int):=do
 let x<-idx l.Lo 0;let y<-tP x ag;let x1<-idx l.Hi 0;let y1<-tP x1 ag;let lo1<-pJ l ag y 0;let hi1<-pK l ag y1 0;pure (lo1,hi1)
theorem zGY:∀ l ag r,fY l ag=some r->∀ {I:Imm}{p c p1 c1 p2 c2},(S4 I p l.Lo c)->(S4 I p1 l.Hi c1)->(S4 I p2 ag c2)->RT 139 [vA (cLoop l p c p1 c1),vS p2 ag c2] I [] (zA8  r):=by
 intro l ag r N I p c p1 c1 p2 c2 h h1 h2;unfold fY at N;refine yI func139 fun B=>?_;have H:=iS I;refine yB<|vJ (cLoop l p c p1 c1) ?_;intro b hb;refine wR [] []<|zK<|yA ?_;obtain ⟨x,hy,N⟩:=zB N;obtain ⟨y,ay,N⟩:=zB N;obtain ⟨x1,aG,N⟩:=zB N;obtain ⟨y1,bc,N⟩:=zB N;refine wO [.p (vP b 0) [],.p (vS p l.Lo c) [0],.x (ePAff x),.x (eVAff x),.p (vS p2 ag c2) [],.q (vI y),.p (vP b 1) [],.p (vS p1 l.Hi c1) [0],.x (ePAff x1),.x (eVAff x1),.p (vS p2 ag c2) [],.q (vI y1),.p (vI y) []] [[],[(0,false)],[(1,false)],[(2,false)],[],[(3,false),(4,false)],[],[(6,false)],[(7,false)],[(8,false)],[],[(9,false),(10,false)],[(5,false)]] [hB b (cLoop l p c p1 c1)] [] [(11,false),(12,false)] (zY [0]) ?_ ?_
 · refine O2<|Ox ?_<|Ox ?_<|Op<|Oq ?_<|O2<|Ox ?_<|Ox ?_<|Op<|Oq ?_<|Op<|On
   · intro I1 hf aa;refine yX [13] rfl ?_;have h:=h.mono aa;refine xR rfl rfl h hy ?_;intro ad aL al aj;obtain ⟨p3,c3,rfl,h3⟩:=yD aj;exact yL [] iR ⟨_,_,_,rfl,rfl,al,h3⟩
   · rintro I1 hf aa _ _ ⟨ad,p3,c3,rfl,rfl,al,h3⟩;exact yX [14] rfl<|xH 0 al (cAff x p3 c3) (vA (cAff x p3 c3)) rfl<|yL [] iR ⟨_,_,rfl,rfl,h3⟩
   · rintro I1 hf aa _ _ ⟨p31,c31,rfl,rfl,h31⟩;refine yX [15,16] rfl ?_;have H:=iS I1;have h2:=h2.mono aa;refine dP (nW x ag _ ay h31 h2) ?_;intro I0 le;have H:=H.trans le;exact xD H
   · intro I1 hf aa;refine yX [19] rfl ?_;have h1:=h1.mono aa;refine xR rfl rfl h1 aG ?_;intro ad1 bm au ax;obtain ⟨p4,c4,rfl,h5⟩:=yD ax;exact yL [] iR ⟨_,_,_,rfl,rfl,au,h5⟩
   · rintro I1 hf aa _ _ ⟨ad1,p4,c4,rfl,rfl,au,h5⟩;exact yX [20] rfl<|xH 0 au (cAff x1 p4 c4) (vA (cAff x1 p4 c4)) rfl<|yL [] iR ⟨_,_,rfl,rfl,h5⟩
   rintro I1 hf aa _ _ ⟨p41,c41,rfl,rfl,h51⟩;refine yX [21,22] rfl ?_;have H:=iS I1;have h2:=h2.mono aa;refine dP (nW x1 ag _ bc h51 h2) ?_;intro aO aa;have H:=H.trans aa;exact xD H
 intro aV aA;refine yX [1,2,6,23] rfl ?_;have ⟨h2,h,h1⟩:=m3 aA h2 h h1;refine yK [] [7] rfl<|zZ<|yB<|yK [0] [25,26,27] rfl<|wI<|qR [(1,vS p2 ag c2),(2,vP b 0),(6,vI y),(7,vI y1),(25,vS p l.Lo c),(26,vI (l.Lo.length:Int)),(27,vI 0)] ?_;obtain ⟨o0,az,aF⟩:=zB N;refine zEG l ag y 0 o0 az iR h2 h h1 nG nO ?_;intro bD lo1 heq aX;subst o0;have ⟨h2,h,h1⟩:=m3 aX h2 h h1;refine zR<|zZ<|yB<|yK [0] [38,39,40] rfl<|wI<|pU (zY [] (af:=[]))<|qR [(1,vS p2 ag c2),(6,vI lo1),(7,vI y1),(38,vS p1 l.Hi c1),(39,vI (l.Hi.length:Int)),(40,vI 0)] ?_;obtain ⟨aN,aC,hMl1⟩:=zB aF;refine zEH l ag y1 0 aN aC iR h2 h1 nG nO ?_;intro I06 hi1 heq1 bt;subst aN;refine zR<|vW [4,5] rfl<|zK<|xA ?_;exact xO hMl1 (resU rfl rfl) zP ⟨_,_,rfl,rfl,rfl,rfl⟩
def eN (b0:Nat) (r:Bool×qF):KT:=fun kk I' af v=>
  ∃ v0 x0_0 y0_0 x0_2 y0_2 z0_2,af=[.blk b0 ⟨[.slice x0_0 r.2.nest.length y0_0,.int .i64 r.2.steps,.slice x0_2 r.2.out.length y0_2]⟩,.osl (.slice x0_2 r.2.out.length y0_2) (Rp.sz (List Int)) z0_2]/\v=tupV [v0]/\v0=.bool r.1/\SL I' (.slice x0_0 r.2.nest.length y0_0) r.2.nest/\RepL (Rp.rep I') (Rp.sz (List Int)) z0_2 r.2.out
mutual
def rU (w0:qF) (ag:(List Int)):Option (Bool×qF):=do
 if ((ag.length:Int)==(w0.nest.length:Int)) then
  let y<-uD ag;let l<-app 24 w0.out ([y]:List (List Int));pure ((decide ((l.length:Int)<=120)),(qF.mk w0.nest w0.steps l))
 else
  let x<-idx w0.nest (ag.length:Int);let (y2,y3)<-fY x ag
  match<-pA (same ag) (same y3) (same y2) w0.nest w0.steps w0.out with
  | .ret r0=>pure r0
  | .done (nest1,steps1,ah) =>
   pure (true,(qF.mk nest1 steps1 ah))
 partial_fixpoint
def pA (ag:(List Int)) (y3:Int) (n0:Int) (nest:List zF) (steps:Int) (out:List (List Int)):Option (Out (List zF×Int×List (List Int)) (Bool×qF)):=do
 if (decide (n0<y3)) then
  let (t74,nest2,steps2,ap)<-(do
    if (decide ((W ((W (steps+1))+1))>1200)) then pure (true,nest,(W (steps+1)),out)
    else
     let y4<-uD ag;let l1<-app 8 y4 ([n0]:List Int);let (y6,y7)<-rU (qF.mk nest (W (steps+1)) out) (same l1);pure ((!y6),y7.nest,y7.steps,y7.out)
      : Option (Bool×List zF×Int×List (List Int)))
  if t74 then pure (.ret (false,(qF.mk nest2 steps2 ap)))
  else pA (same ag) (same y3) (W (n0+1)) (same nest2) (same steps2) (same ap)
 else pure (.done (nest,steps,out))
 partial_fixpoint
end
theorem zDc:(∀ (w0:qF) (ag:(List Int)) r,rU w0 ag=some r->∀ {I:Imm}{r0}{p c p1 c1 cs p2 c2},(S4 I p w0.nest c)->(RL I cs w0.out)->(S4 I p2 ag c2)->RT 98 [vP r0 0,vS p2 ag c2] I [hB r0 [vS p w0.nest c,vI w0.steps,vS p1 w0.out c1],hO (List Int) (vS p1 w0.out c1) cs] (eN r0 r))/\(∀ (ag:(List Int)) (y3:Int) (n0:Int) (nest:List zF) (steps:Int) (out:List (List Int)) o,pA ag y3 n0 nest steps out=some o->∀ {B}{I0 I:Imm}{Q}  {r0}{p2 c2 p7 c7 p8 c8 aI},I0.le I->(S4 I p2 ag c2)->(S4 I p7 nest c7)->(RL I aI out)->NG Q->NO Q->(∀ I' nest1 steps1 ah p9 c9 aQ aM bo,o=(.done (nest1,steps1,ah))->I0.le I'->(S4 I' p9 nest1 c9)->(RL I' bo ah)->T 75 B Q (.exit 0) I' [hB r0 [vS p9 nest1 c9,vI steps1,vS aQ ah aM],hO (List Int) (vS aQ ah aM) bo] [])->(∀ r I' af m',o=(.ret r)->I0.le I'->RS Tryz.prog f98 B (eN r0 r) I' af m'->T 75 B Q .ret I' af m')->J Tryz.prog 75 B (nav (bodyOf f98) [1,1,1,0,1,0]) Q I [hB r0 [vS p7 nest c7,vI steps,vS p8 out c8],hO (List Int) (vS p8 out c8) aI] [(0,vP r0 0),(1,vS p2 ag c2),(6,vI y3),(7,vI n0)]):=by
  refine rU.mutual_partial_correctness _ _ ?_ ?_
  · intro F_impl_walking_walk_l1 ih_impl_walking_walk_l1 w0 ag r N I r0 p c p1 c1 cs p2 c2 h h1 h2;refine yI func98 fun B=>?_;have H:=iS I;refine wT []<|zZ<|yB<|yK [0] [15] rfl<|zK<|yG N ?_ ?_
    · intro hc N;refine yA ?_;obtain ⟨y,hy,N⟩:=zB N;obtain ⟨l,ay,N⟩:=zB N;refine wO [.p (vP r0 0) [],.p (vP r0 0) [],.p (vP r0 0) [],.p (vP r0 2) [],.p (vS p1 w0.out c1) [0],.p (vS p2 ag c2) [],.x (fun I' v hx=>∃ p3 c3 av,v=vS p3 y c3/\hx=[hO Int (vS p3 y c3) av]/\(RL I' av y)),.x (fun I' v hx=>∃ b,v=vS (some ⟨b,0,none⟩) ([y]:List (List Int)) 1/\hx=[]/\(SL I' (vS (some ⟨b,0,none⟩) ([y]:List (List Int)) 1) ([y]:List (List Int)))),.x (fun I' v hx=>∃ p4 c4 aP,v=vS p4 l c4/\hx=[hO (List Int) (vS p4 l c4) aP]/\(RL I' aP l))] [[],[],[(1,false)],[(2,false)],[(3,false)],[],[(5,false)],[(6,true)],[(4,false),(7,false),(12,true)]] [hB r0 [vS p w0.nest c,vI w0.steps,vS p1 w0.out c1]] [[hO (List Int) (vS p1 w0.out c1) cs]] [(0,false),(8,true)] (zY [0,1]) ?_ ?_
      · refine O4<|O2<|Ox ?_<|Ox ?_<|Ox ?_<|On
        · intro I1 hf aa;refine yX [21] rfl ?_;have H:=iS I1;have h2:=h2.mono aa;refine xE (oN ag _ hy h2) ?_;rintro I0 aw v2 k2 le - ⟨p3,c3,av,rfl,rfl,h3⟩ -;have H:=H.trans le;exact yL [hO Int (vS p3 y c3) av] H ⟨_,_,_,rfl,rfl,h3⟩
        · rintro I1 hf aa _ _ ⟨p3,c3,av,rfl,rfl,h3⟩;refine yX [22] rfl ?_;have H:=iS I1;refine xX 0 rfl ?_;intro aO aa hl0;have h4:=SL.of_frozen hl0 aa h3;have H:=H.trans aa;refine mG (rc y ⟨_,rfl,h4⟩ rN) ?_;intro b aV aA h6;have H:=H.trans aA;exact yL [] H ⟨_,rfl,rfl,h6⟩
        rintro I1 hf aa _ _ ⟨rfl,rfl⟩ _ _ ⟨b,rfl,rfl,h6⟩ _ _ rfl;refine yX [20,23] rfl ?_;have h1:=iM aa h1;obtain ⟨aL,k0,k01⟩:=h6;have h6:SL I1 (vS (some ⟨b,0,none⟩) ([y]:List (List Int)) 1) ([y]:List (List Int)):=⟨_,k0,k01⟩;exact rF 39 1 0 rfl rfl rfl h1 (.inl k0) k01 ay fun p4 c4 aP h7=>wX (af:=(hO (List Int) (vS p4 l c4) aP::hB r0 [vS p w0.nest c,vI w0.steps,vS p1 w0.out c1]::hf)) rfl<|yL [hO (List Int) (vS p4 l c4) aP] iR ⟨_,_,_,rfl,rfl,h7⟩
      rintro bx aK _ _ ⟨rfl,rfl⟩ _ _ ⟨p4,c4,aP,rfl,rfl,h7⟩;refine yX [0,16,24] rfl ?_;have h:=h.mono aK;refine yE 11 [] [26] rfl<|yY 1 [vS p w0.nest c,vI w0.steps,vS p4 l c4] rfl<|zX rfl<|yW<|yK [1] [4] rfl<|xF<|zJ ?_;exact xO N (resT rfl) (zW [1,0] rfl (by decide)) ⟨_,_,_,_,_,_,rfl,rfl,rfl,h,h7⟩
    intro hc N;refine zS<|yW<|yE 6 [0] [37,39] rfl<|bE N fun x aG N=>xR rfl rfl h aG ?_;intro ad bm al aj;obtain ⟨p5,c5,p6,c6,rfl,h8,h9⟩:=wY aj;refine xH 0 al (cLoop x p5 c5 p6 c6) (vA (cLoop x p5 c5 p6 c6)) rfl<|yE 9 [] [42] rfl ?_;obtain ⟨⟨y2,y3⟩,bc,N⟩:=zB N;refine xE (zGY x ag _ bc h8 h9 h2) ?_;rintro bD aw v2 k2 aX - ⟨v02,v03,rfl,rfl,rfl,rfl⟩ -;have ⟨h2,h,h1⟩:=m3 aX h2 h h1;refine yK [] [5,6] rfl<|zZ<|yH [7] rfl<|wI<|qR [(0,vP r0 0),(1,vS p2 ag c2),(6,vI y3),(7,vI y2)] ?_;obtain ⟨aN,aC,aF⟩:=zB N;refine ih_impl_walking_walk_l1 ag y3 y2 w0.nest w0.steps w0.out aN aC iR h2 h h1 nG nO ?_ ?_
    · intro I09 nest1 steps1 ah p9 c9 aQ aM bo heq1 le9 h14 h15;subst aN;refine zR<|zD7 [(4,vY)]<|zK<|xA ?_;exact xO aF (resT rfl) (zW [0,1] rfl (by decide)) ⟨_,_,_,_,_,_,rfl,rfl,rfl,h14,h15⟩
    intro r0 I9 hs9 m9 aS le9 aU;subst aS;refine zV<|zJ ?_;obtain rfl:=zD aF;exact fO aU
  intro F_impl_walking_walk F_impl_walking_walk_l1 ih_impl_walking_walk ih_impl_walking_walk_l1 ag y3 n0 nest steps out o N B I0 I Q r0 p2 c2 p7 c7 p8 c8 aI H h2 h12 h13 hg ho hx hr;refine yQ hg ho<|yA<|yH [49] rfl<|zK<|yG N ?_ ?_
  · intro aH N;refine zS<|zZ<|yF<|yB<|yE 7 [0] [56,58] rfl<|yY 0 [vS p7 nest c7,vI (W (steps+1)),vS p8 out c8] rfl<|zX rfl<|zK<|yA ?_;obtain ⟨o0,az,aT⟩:=zB N;refine oW (fun I' af m'=>∃ (t74:Bool) (nest2:List zF) (steps2:Int) (ap:List (List Int)) (aJ:Option Addr) (aW:Nat) (br:Option Addr) (bd:Nat) (bv:List Value),o0=(t74,nest2,steps2,ap)/\I.le I'/\(S4 I' aJ nest2 aW)/\(RL I' bv ap)/\af=[hB r0 [vS aJ nest2 aW,vI steps2,vS br ap bd],hO (List Int) (vS br ap bd) bv]/\m'=[(0,vP r0 0),(1,vS p2 ag c2),(6,vI y3),(7,vI n0),(74,.bool t74)]) ?_ ?_
    · have H:=iS I;refine zM<|yE 7 [0] [65] rfl<|wL [65] az ?_ ?_
      · intro aY N;exact wR [] [(74,vY)]<|yU<|zU ⟨_,_,_,_,_,_,_,_,_,(zD N).symm,H,h12,h13,rfl,rfl⟩
      intro aY N;refine yE 9 [] [66,67] rfl<|bE N fun y4 bu N=>xE (oN ag _ bu h2) ?_;rintro I06 aw v2 k2 bf - ⟨bh,bj,cs6,rfl,rfl,h18⟩ -;have ⟨h12,h13,H⟩:=m3 bf h12 h13 H;refine yE 11 [] [69] rfl<|uV [vI n0] Int ?_;intro b1 hb1;have h19:RL I06 [vI n0] ([n0]:List Int):=rI [n0];obtain ⟨l1,bz,N⟩:=zB N;refine rF 3 1 1 rfl rfl rfl h18 (.inr ⟨0,rfl⟩) h19 bz fun p14 c14 cs7 h20=>tX (zY [1,2,3] (af:=[hO Int (vS p14 l1 c14) cs7,hB r0 [vS p7 nest c7,vI (W (steps+1)),vS p8 out c8],hO (List Int) (vS p8 out c8) aI]))<|xX 0 rfl ?_;intro I07 bt hl02;have h21:=SL.of_frozen hl02 bt h20;have ⟨h12,h13,H⟩:=m3 bt h12 h13 H;obtain ⟨⟨y6,y7⟩,hy6,N⟩:=zB N;refine rW (ih_impl_walking_walk (qF.mk nest (W (steps+1)) out) l1 _ hy6 h12 h13 h21) rfl ?_;rintro I08 aw v2 k2 le7 - ⟨v04,p15,c15,p16,c16,cs8,rfl,rfl,rfl,h23,h24⟩ -;have H:=H.trans le7;exact yK [] [74] rfl<|yU<|zU ⟨_,_,_,_,_,_,_,_,_,(zD N).symm,H,h23,h24,rfl,rfl⟩
    rintro bI aw m2 ⟨t74,nest2,steps2,ap,aJ,aW,br,bd,bv,heq,le8,h16,h17,rfl,rfl⟩;subst o0;have ⟨h2,H⟩:=m2 le8 h2 H;refine zK<|yG aT ?_ ?_
    · intro bC N;exact wT [(4,vF)]<|xF<|zV<|zJ<|zJ<|hr _ _ _ _ (zD N).symm H ⟨_,_,(resT rfl),(zW [0,1] rfl (by decide)),⟨_,_,_,_,_,_,rfl,rfl,rfl,h16,h17⟩⟩
    intro bC N;exact zS<|zO<|zK<|zM<|yK [] [7] rfl<|yP<|oT<|ih_impl_walking_walk_l1 ag y3 (W (n0+1)) nest2 steps2 ap _ N H h2 h16 h17 hg ho hx hr
  intro aH N;exact wP<|yU<|hx _ _ _ _ _ _ _ _ _ (zD N).symm H h12 h13
theorem zEI:∀ w0 ag r,rU w0 ag=some r->∀ {I:Imm}{r0}{p c p1 c1 cs p2 c2},(S4 I p w0.nest c)->(RL I cs w0.out)->(S4 I p2 ag c2)->RT 98 [vP r0 0,vS p2 ag c2] I [hB r0 [vS p w0.nest c,vI w0.steps,vS p1 w0.out c1],hO (List Int) (vS p1 w0.out c1) cs] (eN r0 r):=zDc.1
def gS (nest:(List zF)):Option ((List (List Int))×Bool):=do
 let y<-fX nest;if (!y) then pure (([]:List (List Int)),false)
 else
  let (y2,y3)<-rU (qF.mk nest 0 ([]:List (List Int))) ([]:List Int);if (!y2) then pure (([]:List (List Int)),false)
  else pure (y3.out,true)
theorem zFS:∀ nest r,gS nest=some r->∀ {I:Imm}{p c},(S4 I p nest c)->RT 58 [vS p nest c] I [] (zBC  r):=by
 intro nest r N I p c h;unfold gS at N;refine yI func58 fun B=>wT []<|zZ<|yB<|yE 1 [] [5] rfl<|bE N fun y hy N=>tH (zGX nest _ hy h) ?_;intro I0 le;have h:=h.mono le;refine yK [] [7] rfl<|zK<|yG N ?_ ?_
 · intro hc N;refine yH [2,3] rfl<|xF<|zJ ?_;exact xO N (resU rfl rfl) zP ⟨_,_,rfl,rfl,(SL.nil _),rfl⟩
 intro hc N;refine zS<|yW<|yE 2 [] [9] rfl<|vJ [vS p nest c,vI 0,z0] ?_;intro b hb;refine yK [] [4] rfl<|zZ<|yB<|yE 1 [] [11] rfl<|zQW (List Int) fun h2=>?_;refine tX (zY [1,0] (af:=[hB b [vS p nest c,vI 0,vS none ([]:List (List Int)) 0],hO (List Int) (vS none ([]:List (List Int)) 0) []])) ?_;obtain ⟨⟨y2,y3⟩,ay,N⟩:=zB N;refine rW (zEI (qF.mk nest 0 ([]:List (List Int))) ([]:List Int) _ ay h h2 (SL.nil _)) rfl ?_;rintro aO aw v2 k2 aa - ⟨v01,p1,c1,p2,c2,cs,rfl,rfl,rfl,h4,h5⟩ -;refine yK [] [13] rfl<|zK<|yG N ?_ ?_
 · intro aH N;refine yH [2,3] rfl<|xF<|zJ ?_;exact xO N (resU rfl rfl) zP ⟨_,_,rfl,rfl,(SL.nil _),rfl⟩
 intro aH N;refine zS<|yW<|yK [0] [2,3] rfl<|xF<|xB 1 rfl ?_;intro aV aA hl0;have h6:=SL.of_frozen hl0 aA h5;exact xO N (resU rfl rfl) zP ⟨_,_,rfl,rfl,h6,rfl⟩
def mD (aB:List HA) (r:Int):KT:=fun kk I' af v=>
  ∃ v0,aB=af/\v=tupV [v0]/\v0=.int .i64 r
def xV (s:(List zL)) (f0:(zL->Option Bool)) (t8:Int):Option (Out Unit (Int)):=do
 if (decide (t8<(s.length:Int))) then
  let x<-idx s t8;let y<-f0 x;if y then pure (.ret t8)
  else xV s f0 (W (t8+1))
 else pure (.done ())
 partial_fixpoint
theorem eO (s:(List zL)) (f0:(zL->Option Bool)):∀ (t8:Int) (o:Out Unit (Int)),xV s f0 t8=some o->∀ {B}{I0 I:Imm}{Q p c}{fv:Value}{aB:List HA},I0.le I->(S4 I p s c)->(FV1 Tryz.prog I aB fv f0)->NG Q->NO Q->(∀ I',o=(.done ())->I0.le I'->T 19 B Q (.exit 0) I' aB [])->(∀ r I' af m',o=(.ret r)->I0.le I'->RS Tryz.prog f99 B (mD aB r) I' af m'->T 19 B Q .ret I' af m')->J Tryz.prog 19 B (nav (bodyOf f99) [1,0,1,0]) Q I aB [(0,vS p s c),(1,fv),(7,vI (s.length:Int)),(8,vI t8)]:=by
 refine xV.partial_correctness s f0 _ fun aE ih t8 o N B I0 I Q p c fv aB H h h1 hg ho hx hr=>yQ hg ho<|yH [9] rfl<|zZ<|yG N ?_ ?_
 · intro hc N;refine zS<|zZ<|yF<|yH [5] rfl<|yW<|yE 3 [] [11,12,13] rfl<|bE N fun x hy N=>xR rfl rfl h hy ?_;intro ad aL al aj;obtain ⟨p1,c1,p2,c2,p3,c3,p4,c4,rfl,h2,h3,h4,h5⟩:=wV aj;refine xH 0 al (cStmt x p1 c1 p2 c2 p3 c3 p4 c4) (vA (cStmt x p1 c1 p2 c2 p3 c3 p4 c4)) rfl<|bE N fun y ay N=>zJq rfl rfl h1 ay ⟨_,rfl,(wC ⟨_,_,_,_,rfl,h2,h3,h4,h5⟩)⟩ (cu _).symm ?_;rintro I0 v04 le rfl;refine wX (af:=aB) (cu _) ?_;have ⟨h,h1,H⟩:=m3 le h h1 H;refine zX rfl<|zK<|yG N ?_ ?_
   · intro aH N;exact yH [4] rfl<|xF<|zV<|zJ<|zJ<|hr _ _ _ _ (zD N).symm H ⟨_,_,(resT rfl),(fun _ h=>h),⟨_,rfl,rfl,rfl⟩⟩
   intro aH N;exact zS<|zO<|zK<|zM<|yK [] [8] rfl<|yP<|oT<|ih (W (t8+1)) _ N H h h1 hg ho hx hr
 intro hc N;exact wP<|yU<|hx _  (zD N).symm H
def tF (s:(List zL)) (f0:(zL->Option Bool)):Option (Int):=do
 match<-xV s f0 0 with
 | .ret r0=>pure r0
 | .done _ =>
  pure (-1)
theorem dM:∀ s f0 r,tF s f0=some r->∀ {I:Imm}{p c}{fv:Value}{aB:List HA},(S4 I p s c)->(FV1 Tryz.prog I aB fv f0)->RT 99 [vS p s c,fv] I aB (mD aB r):=by
 intro s f0 r N I p c fv aB h h1;unfold tF at N;refine yI func99 fun B=>wT []<|zZ<|yH [7,8] rfl<|wI<|qR [(0,vS p s c),(1,fv),(7,vI (s.length:Int)),(8,vI 0)] ?_;obtain ⟨o0,az,aF⟩:=zB N;refine eO s f0 0 o0 az iR h h1 nG nO ?_ ?_
 · intro aO  heq aa;subst o0;refine zR<|vW [4] rfl<|zK<|xA ?_;exact xO aF (resT rfl) (fun _ h=>h) ⟨_,rfl,rfl,rfl⟩
 intro r0 I9 hs9 m9 aS le9 aU;subst aS;refine zV<|zJ ?_;obtain rfl:=zD aF;exact fO aU
def fZ (aB:List HA) (r:Bool):KT:=fun kk I' af v=>
  ∃ v0,aB=af/\v=tupV [v0]/\v0=.bool r
def wU (s:(List zL)) (f0:(zL->Option Bool)):Option (Bool):=do
 let y<-tF s f0;pure (decide (y>=0))
theorem eQ:∀ s f0 r,wU s f0=some r->∀ {I:Imm}{p c}{fv:Value}{aB:List HA},(S4 I p s c)->(FV1 Tryz.prog I aB fv f0)->RT 59 [vS p s c,fv] I aB (fZ aB r):=by
 intro s f0 r N I p c fv aB h h1;unfold wU at N;refine yI func59 fun B=>wT []<|yW<|yE 2 [] [5,6] rfl<|bE N fun y hy N=>zGe (hs1:=aB) (rest:=[]) rfl rfl rfl rfl (by kernel_rfl) rfl (cu _).symm (dM s f0 _ hy h h1) ?_;rintro I0 aw v2 k2 le - ⟨v0,rfl,rfl,rfl⟩ -;refine wX (af:=aB) (cu _) ?_;refine yK [] [4] rfl<|zK<|xA ?_;exact xO N (resT rfl) (fun _ h=>h) ⟨_,rfl,rfl,rfl⟩
def nK (s:zA) (x:Int):Option (Bool):=do
 let t3<-(do
   let y<-oI s;if (!y) then pure true
   else
    let y1<-pH s;pure (decide (y1>x))
     : Option Bool)
 pure (id t3)
theorem zFT:∀ s x r,nK s x=some r->∀ {I:Imm}{p c}{ad:Addr},(S4 I p s.Coefs c)->(At I ad [vI x])->RT 141 [vA (cAff s p c),.pointer (some ad)] I [] (zT  r):=by
 intro s x r N I p c ad h al;unfold nK at N;refine yI func141 fun B=>?_;have H:=iS I;refine yB<|vJ (cAff s p c) ?_;intro b hb;refine wR [] []<|zK<|yA ?_;refine wZ N [] (fun t3=>[(3,.bool t3)]) (fun o0 az=>?_) ?_
 · have H:=iS I;obtain ⟨y,hy,N⟩:=zB az;cases hc:(!y) with
   | true =>
    have hM0:=tY hc N;refine wO [.p (vA (cAff s p c)) [0],.q (.bool y),.q vY,.q vY,.p undef [],.p undef [],.p undef [],.p undef [],.p vY []] [[],[(0,false)],[(1,false)],[(2,false)],[(3,false)],[(3,false),(4,false)],[(3,false)],[(3,false),(5,false),(6,false)],[(3,false),(7,false)]] [hB b (cAff s p c)] [] [(8,false)] (zY [0]) ?_ ?_
    · refine Op<|Oq ?_<|Oq ?_<|Oq ?_<|O4<|Op<|On
      · intro I1 hf aa;refine yX [4] rfl ?_;have H:=iS I1;have h:=h.mono aa;refine tH (jG s _ hy h) ?_;intro aO le;have H:=H.trans le;exact xD H
      · intro I1 hf aa;refine yX [5] rfl<|pE 3 [(6,.bool (!y))] ?_;rw [hc];exact xD iR
      intro I1 hf aa;exact I_h [(6,vY)]<|pE 4 [(7,vY)]<|xD iR
    intro aV aa;refine I_h [(12,vY)] ?_;have H:=H.trans aa;exact wR [] [(3,vY)]<|wF zP<|yU<|zU (ct hM0 H)
   | false =>
    have hM01:=uU hc N;obtain ⟨y1,ay,N⟩:=zB hM01;refine wO [.p (vA (cAff s p c)) [0],.q (.bool y),.q vF,.q vF,.p (vA (cAff s p c)) [0],.q (vI y1),.q (vI x),.p (.bool (decide (y1>x))) [],.p (.bool (decide (y1>x))) []] [[],[(0,false)],[(1,false)],[(2,false)],[(3,false)],[(3,false),(4,false)],[(3,false)],[(3,false),(5,false),(6,false)],[(3,false),(7,false)]] [hB b (cAff s p c)] [] [(8,false)] (zY [0]) ?_ ?_
    · refine Op<|Oq ?_<|Oq ?_<|Oq ?_<|Op<|Oq ?_<|Oq ?_<|O2<|On
      · intro I1 hf aa;refine yX [4] rfl ?_;have H:=iS I1;have h:=h.mono aa;refine tH (jG s _ hy h) ?_;intro aO le;have H:=H.trans le;exact xD H
      · intro I1 hf aa;refine yX [5] rfl<|pE 3 [(6,.bool (!y))] ?_;rw [hc];exact xD iR
      · intro I1 hf aa;exact I_h [(6,vF)]<|pE 4 [(7,vF)]<|xD iR
      · intro I1 hf aa;refine yX [7,8] rfl ?_;have H:=iS I1;have h:=h.mono aa;refine dP (zAB s _ ay h) ?_;intro bx aA;have H:=H.trans aA;exact xD H
      intro I1 hf aa;refine yX [1,7] rfl ?_;have al:=al.mono aa;exact xH 0 al [vI x] (vI x) rfl<|xD iR
    intro bD aK;refine yX [12] rfl ?_;have H:=H.trans aK;exact yK [] [3] rfl<|wF zP<|yU<|zU (ct N H)
 intro t3 I0 aX aT;refine zK<|xA ?_;obtain rfl:=zD aT;exact vV
def gK (a0:zG) (depth:Int):Option (Bool):=do
 let t4<-(do
   let y<-fW a0.Array;if y then
    let y1<-vG (a0.Subs.length:Int) 1 2;if y1 then
     let y2<-xW a0.Subs (fun x0=>nK x0 depth);pure (!y2)
    else pure false
   else
    pure false
     : Option Bool)
 pure (id t4)
theorem zCl:∀ a0 depth r,gK a0 depth=some r->∀ {I:Imm}{p c},(S4 I p a0.Subs c)->RT 100 [vA (cAccess a0 p c),vI depth] I [] (zT  r):=by
 intro a0 depth r N I p c h;unfold gK at N;refine yI func100 fun B=>?_;have H:=iS I;refine yB<|vJ (cAccess a0 p c) ?_;intro b hb;refine vJ [vI depth] ?_;intro b1 hb1;refine xX 0 rfl ?_;intro I0 le hl0;have al:At I0 ⟨b1,0,none⟩ [vI depth]:=At.of_blk hl0;have ⟨h,H⟩:=m2 le h H;refine wR [] []<|zK<|yA ?_;refine wZ N [] (fun t4=>[(4,.bool t4)]) (fun o0 az=>?_) ?_
 · have H:=iS I0;refine zM<|yE 2 [0] [6] rfl ?_;obtain ⟨y,hy,N⟩:=zB az;refine tH (jB a0.Array _ hy ) ?_;intro aV aa;have ⟨al,h,H⟩:=m3 aa al h H;refine yE 4 [] [8] rfl<|wL [8] N ?_ ?_
   · intro hc N;refine yE 7 [0] [11] rfl<|bE N fun y1 ay N=>tH (uA (a0.Subs.length:Int) 1 2 _ ay ) ?_;intro bx aA;have ⟨al,h,H⟩:=m3 aA al h H;refine yE 10 [] [14] rfl<|wL [14] N ?_ ?_
     · intro aH N;refine yE 13 [0] [16,17] rfl ?_;have hf0:FV1 Tryz.prog bx [] (.func (.func 141) ⟨[]⟩ ⟨[vP b1 0]⟩) (fun x0=>nK x0 depth):=by
         refine FV1.intro ?_;intro I1 aa x0 r u0 hF k0;obtain ⟨_,rfl,k0⟩:=k0;obtain ⟨p1,c1,rfl,h3⟩:=yD k0;exact (zFT x0 depth r hF h3 (al.mono aa)).mono (by rintro k i hs u ⟨v0,rfl,rfl,h⟩; exact ⟨rfl,h⟩)
       obtain ⟨y2,aG,N⟩:=zB N;refine xE (pY a0.Subs (fun x0=>nK x0 depth) _ aG h hf0) ?_;rintro bD aw v2 k2 aK - ⟨v03,rfl,rfl,rfl⟩ -;have H:=H.trans aK;exact yK [] [4] rfl<|wF zP<|yU<|zU (ct N H)
     intro aH N;exact wR [] [(4,vF)]<|wF zP<|yU<|zU (ct N H)
   intro hc N;exact wR [] [(4,vF)]<|wF zP<|yU<|zU (ct N H)
 intro t4 aO aX aT;refine zK<|xA ?_;obtain rfl:=zD aT;exact vV
def zBE (kind:Int):Option (Bool):=do
 let y<-vG kind 4 6;pure (id y)
theorem zKN:∀ kind r,zBE kind=some r->∀ {I:Imm} ,RT 125 [vI kind] I [] (zT  r):=by
 intro kind r N I;unfold zBE at N;refine yI func125 fun B=>wT []<|yW<|yE 1 [] [3] rfl<|bE N fun y hy N=>tH (uA kind 4 6 _ hy ) fun I0 le=>wR [] [(2,.bool y)]<|zK<|xA ?_;obtain rfl:=zD N;exact vV
end Go.LN
