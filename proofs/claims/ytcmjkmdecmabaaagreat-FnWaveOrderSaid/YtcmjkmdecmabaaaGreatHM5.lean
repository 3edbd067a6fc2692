/- Helper of the proof (see the last text). -/
import Derived.Test.YtcmjkmdecmabaaaGreatHM4
set_option linter.unusedVariables false
set_option linter.unusedSimpArgs false
namespace Go.LN
open Go.Proofs Go.Proofs.Tryz
set_option maxRecDepth 20000
def zBv (b0:Nat) (r:zO×zN):KT:=fun kk I' ah v=>
  ∃ v0 k0,ah=[.blk b0 ⟨k0⟩]/\v=tupV [v0]/\(∃ cs,v0=.agg ⟨cs⟩/\Rp.rep I' cs r.1)/\Rp.rep I' k0 r.2
def nJ (y1:(List zE)) (Body2:List zP) (n0:Int) (x6:zN):Option ((List zP×zN)):=do
 if (decide (n0<5)) then
  let (y7,y8)<-eY x6 (y1.length:Int)
  let y9<-jK
  let (y11,y12)<-nV y9 (zO.mk y1 ([y7]:List zP))
  if y12 then
   let l<-app 152 Body2 ([y7]:List zP)
   pure (l,y8)
  else
   nJ y1 Body2 (W (n0+1)) y8
 else
  pure (Body2,x6)
 partial_fixpoint
theorem zFX (y1:(List zE)) (Body2:List zP):∀ (n0:Int) (x6:zN) (o:(List zP×zN)),nJ y1 Body2 n0 x6=some o->∀ {B}{I0 I:Imm}{Q}{i:Int}{x:zO}{k0:Int}{aw:Nat}{b:Nat}{p1 c1 p2 c2 p7 c7}{b1:Nat}{p14 c14 aS p15 c15},I0.le I->(S4 I p7 y1 c7)->(S4 I p1 x.Nest c1)->(S4 I p2 x.Body c2)->(RL I aS Body2)->(S4 I p15 x6.b c15)->NG Q->NO Q->(∀ (I':Imm) (Body3:List zP) (x7:zN) (p16:Option Addr) (c16:Nat) (aT:List Value) (p17:Option Addr) (c17:Nat),o=(Body3,x7)->I0.le I'->(RL I' aT Body3)->(S4 I' p17 x7.b c17)->T 81 B Q (.exit 4) I' [hO zP (vS p16 Body3 c16) aT,hB aw (cRd x7 p17 c17),hB b1 [vS p7 y1 c7,vS p16 Body3 c16],hB b (cPart x p1 c1 p2 c2)] [(0,vP aw 0),(2,vP b 0),(3,vI i),(4,vP b1 0),(5,vI k0)])->J Tryz.prog 81 B (nav (bodyOf f178) [1,0,1,0,0,1,0,0,1,0,1,0,0,1,0,0,1,0]) Q I [hO zP (vS p14 Body2 c14) aS,hB aw (cRd x6 p15 c15),hB b1 [vS p7 y1 c7,vS p14 Body2 c14],hB b (cPart x p1 c1 p2 c2)] [(0,vP aw 0),(2,vP b 0),(3,vI i),(4,vP b1 0),(5,vI k0),(6,vI n0)]:=by
 refine nJ.partial_correctness y1 Body2 _ fun aJ ih n0 x6 o N B I0 I Q i x k0 aw b p1 c1 p2 c2 p7 c7 b1 p14 c14 aS p15 c15 H h7 h1 h2 h20 h21 hg ho hx=>yM hg ho<|zZ<|yF [31] rfl<|zG<|yC N ?_ ?_
 · intro aX N;refine zS<|zX<|yG<|yE<|yB 4 [2] [34,37] rfl<|tZ (zY [1,0,2,3] (ah:=[hB aw (cRd x6 p15 c15),hO zP (vS p14 Body2 c14) aS,hB b1 [vS p7 y1 c7,vS p14 Body2 c14],hB b (cPart x p1 c1 p2 c2)])) ?_;obtain ⟨⟨y7,y8⟩,aN,N⟩:=zB N;refine sJ (zHr x6 (y1.length:Int) _ aN h21) rfl ?_;rintro bH ay v2 k2 aK - ⟨v04,kk2,rfl,rfl,⟨bt,rfl,h24⟩,h25⟩ -;have ⟨h20,h7,h1,h2,H⟩:=m5 aK h20 h7 h1 h2 H;obtain ⟨p18,c18,p19,c19,p20,c20,p21,c21,rfl,h26,h27,h28,h29⟩:=pR h24;obtain ⟨p22,c22,rfl,h30⟩:=yA h25;refine wS [vT ([]),z0,vI 0,vI 0,z0,vI 0,vT ([]),z0,z0] ?_;intro b3 hb3;refine xJ 0 (cStmt y7 p18 c18 p19 c19 p20 c20 p21 c21) rfl<|yD rfl<|zG<|zZ ?_;obtain ⟨y9,bm,N⟩:=zB N;obtain ⟨⟨y11,y12⟩,bw,N⟩:=zB N;refine wQ [.x (eS y9),.p (vP b1 0) [],.p (vS p7 y1 c7) [3],.p (vA (cStmt y7 p18 c18 p19 c19 p20 c20 p21 c21)) [0],.x (fun I' v hx=>∃ b4,v=vS (some ⟨b4,0,none⟩) ([y7]:List zP) 1/\hx=[]/\(SL I' (vS (some ⟨b4,0,none⟩) ([y7]:List zP) 1) ([y7]:List zP))),.x (fun I' v hx=>∃ b41,v=vA [vS p7 y1 c7,vS (some ⟨b41,0,none⟩) ([y7]:List zP) 1]/\hx=[]/\(SL I' (vS (some ⟨b41,0,none⟩) ([y7]:List zP) 1) ([y7]:List zP))),.q (.tuple ⟨[vI y11,.bool y12]⟩),.p (.tuple ⟨[vI y11,.bool y12]⟩) [],.p (vI y11) [],.p (.bool y12) [],.p (vI y11) []] [[],[],[(1,false)],[],[(3,false)],[(2,false),(4,false)],[(0,false),(5,false)],[(6,false)],[(7,false)],[(7,false)],[(8,false)]] [hB b3 (cStmt y7 p18 c18 p19 c19 p20 c20 p21 c21),hB aw (cRd y8 p22 c22),hO zP (vS p14 Body2 c14) aS,hB b1 [vS p7 y1 c7,vS p14 Body2 c14],hB b (cPart x p1 c1 p2 c2)] [] [(9,false)] (zY [0,1,2,3,4]) ?_ ?_
   · refine Ox ?_<|Op<|Op<|Op<|Ox ?_<|Ox ?_<|Oq ?_<|Op<|Op<|Op<|Op<|On
     · intro I1 hf af;refine I_h [] ?_;have H:=iS I1;refine xL (dY  _ bm ) ?_;rintro bL ay v2 k2 bk - ⟨v010,rfl,rfl,h31⟩ -;have H:=H.trans bk;obtain ⟨p23,c23,rfl⟩:=h31.form;exact yN [] H ⟨_,_,rfl,rfl,h31⟩
     · intro I1 hf af;refine yT [43] rfl ?_;have H:=iS I1;have ⟨h26,h27,h28,h29⟩:=m4 af h26 h27 h28 h29;refine mN (rc y7 (vC ⟨_,_,_,_,rfl,h26,h27,h28,h29⟩) rN) ?_;intro b4 bR bz h33;have H:=H.trans bz;exact yN [] H ⟨_,rfl,rfl,h33⟩
     · rintro I1 hf af _ _ ⟨rfl,rfl⟩ _ _ ⟨b4,rfl,rfl,h33⟩;refine yT [42,44] rfl ?_;exact mE 6 [(45,vA [vS p7 y1 c7,vS (some ⟨b4,0,none⟩) ([y7]:List zP) 1])]<|yN [] iR ⟨_,rfl,rfl,h33⟩
     rintro I1 hf af _ _ ⟨p23,c23,rfl,rfl,h31⟩ _ _ ⟨b41,rfl,rfl,h331⟩;refine yT [40,45] rfl ?_;have H:=iS I1;have h7:=h7.mono af;refine xL (zAv y9 (zO.mk y1 ([y7]:List zP)) _ bw h31 h7 h331) ?_;rintro I06 ay v2 k2 bC - ⟨v011,v012,rfl,rfl,rfl,rfl⟩ -;have H:=H.trans bC;exact xC H
   intro I07 le7;refine yT [0,2,3,4,5,6,7,48] rfl ?_;have ⟨h26,h27,h28,h29,h30,h20⟩:=m6 le7 h26 h27 h28 h29 h30 h20;have ⟨h7,h1,h2,H⟩:=m4 le7 h7 h1 h2 H;refine yH [] [9] rfl<|wM [49] rfl<|zG<|yC N ?_ ?_
   · intro bK N;refine yE<|rQ 3 [3,0] [(51,vS p14 Body2 c14),(52,vA (cStmt y7 p18 c18 p19 c19 p20 c20 p21 c21))]<|uK (cStmt y7 p18 c18 p19 c19 p20 c20 p21 c21) zP ?_;intro b5 hb5;have h36:RL I07 (cStmt y7 p18 c18 p19 c19 p20 c20 p21 c21) ([y7]:List zP):=⟨(cStmt y7 p18 c18 p19 c19 p20 c20 p21 c21),_,rfl,rfl,(vC ⟨_,_,_,_,rfl,h26,h27,h28,h29⟩),rfl⟩;obtain ⟨l,bI,N⟩:=zB N;refine sU 100 9 3 rfl rfl rfl h20 (.inr ⟨0,rfl⟩) h36 bI ?_;intro p24 c24 bJ h37;exact tZ (zY [1,2,3,4,5] (ah:=[hB b3 (cStmt y7 p18 c18 p19 c19 p20 c20 p21 c21),hB aw (cRd y8 p22 c22),hO zP (vS p24 l c24) bJ,hB b1 [vS p7 y1 c7,vS p14 Body2 c14],hB b (cPart x p1 c1 p2 c2)]))<|yB 6 [] [55] rfl<|xJ 3 [vS p7 y1 c7,vS p24 l c24] rfl<|yD rfl<|zG<|zEG<|zI6 rfl<|kX<|kX<|xQ (zW [2,1,3,4] rfl (by decide))<|yL<|hx _ _ _ _ _ _ _ _ (zC N).symm H h37 h30
   intro bK N;exact zS<|zM<|zG<|zJ<|yH [] [6] rfl<|yK<|kE (zW [2,1,3,4] rfl (by decide))<|oY<|ih (W (n0+1)) y8 _ N H h7 h1 h2 h20 h30 hg ho hx
 intro aX N;exact wJ<|yL<|hx _ _ _ _ _ _ _ _ (zC N).symm H h20 h21
def nK (y1:(List zE)) (k0:Int) (Body:List zP) (x4:zN):Option ((List zP×zN)):=do
 if (decide (k0>0)) then
  let (Body3,x7)<-nJ y1 Body 0 x4
  nK y1 (W (k0 - 1)) Body3 x7
 else
  pure (Body,x4)
 partial_fixpoint
theorem zFY (y1:(List zE)):∀ (k0:Int) (Body:List zP) (x4:zN) (o:(List zP×zN)),nK y1 k0 Body x4=some o->∀ {B}{I0 I:Imm}{Q}{i:Int}{x:zO}{aw:Nat}{b:Nat}{p1 c1 p2 c2 p7 c7}{b1:Nat}{bi bh cs aR bc},I0.le I->(S4 I p7 y1 c7)->(S4 I p1 x.Nest c1)->(S4 I p2 x.Body c2)->(RL I cs Body)->(S4 I aR x4.b bc)->NG Q->NO Q->(∀ (I':Imm) (bx:List zP) (x5:zN) (bD:Option Addr) (bo:Nat) (az:List Value) (bq:Option Addr) (bB:Nat),o=(bx,x5)->I0.le I'->(RL I' az bx)->(S4 I' bq x5.b bB)->T 81 B Q (.exit 2) I' [hO zP (vS bD bx bo) az,hB aw (cRd x5 bq bB),hB b1 [vS p7 y1 c7,vS bD bx bo],hB b (cPart x p1 c1 p2 c2)] [(0,vP aw 0),(2,vP b 0),(3,vI i),(4,vP b1 0)])->J Tryz.prog 81 B (nav (bodyOf f178) [1,0,1,0,0,1,0,0,1,0,1,0]) Q I [hO zP (vS bi Body bh) cs,hB aw (cRd x4 aR bc),hB b1 [vS p7 y1 c7,vS bi Body bh],hB b (cPart x p1 c1 p2 c2)] [(0,vP aw 0),(2,vP b 0),(3,vI i),(4,vP b1 0),(5,vI k0)]:=by
 refine nK.partial_correctness y1 _ fun aJ ih k0 Body x4 o N B I0 I Q i x aw b p1 c1 p2 c2 p7 c7 b1 bi bh cs aR bc H h7 h1 h2 h16 h17 hg ho hx=>yM hg ho<|zZ<|yF [27] rfl<|zG<|yC N ?_ ?_
 · intro aI N;refine zS<|zX<|yG<|yF [6] rfl<|xX<|rU [(0,vP aw 0),(2,vP b 0),(3,vI i),(4,vP b1 0),(5,vI k0),(6,vI 0)] ?_;obtain ⟨o0,aD,aM⟩:=zB N;refine zFX y1 Body 0 x4 o0 aD iR h7 h1 h2 h16 h17 (fun _ _ _ h=>hg _ _ _ h) (fun _ _ h=>ho _ _ h) ?_;intro I08 Body3 x7 p16 c16 aT p17 c17 heq le8 h22 h23;subst o0;have ⟨h7,h1,h2,H⟩:=m4 le8 h7 h1 h2 H;exact zR<|zM<|zG<|zJ<|yH [] [5] rfl<|yK<|oY<|ih (W (k0 - 1)) Body3 x7 _ aM H h7 h1 h2 h22 h23 hg ho hx
 intro aI N;exact wJ<|yL<|hx _ _ _ _ _ _ _ _ (zC N).symm H h16 h17
def nL (x:zO) (i:Int) (x1:zN):Option (Out (zO×zN) (zO×zN)):=do
 if (decide (i<4)) then
  let (y1,y2)<-eX x1
  let (y4,y5)<-yV y2 ([1,2,1,3]:List Int)
  let (bx,x5)<-nK y1 y4 ([]:List zP) y5
  let y13<-jK
  let (y15,y16)<-nV y13 (zO.mk y1 bx)
  let t66<-(do
    if y16 then
     pure (decide (y15<=40))
    else
     pure false
      : Option Bool)
  if t66 then
   pure (.ret ((zO.mk y1 bx),x5))
  else
   nL x (W (i+1)) x5
 else
  pure (.done (x,x1))
 partial_fixpoint
theorem zFZ (x:zO):∀ (i:Int) (x1:zN) (o:Out (zO×zN) (zO×zN)),nL x i x1=some o->∀ {B}{I0 I:Imm}{Q}  {aw:Nat}{b:Nat}{p1 c1 p2 c2 p3 c3},I0.le I->(S4 I p1 x.Nest c1)->(S4 I p2 x.Body c2)->(S4 I p3 x1.b c3)->NG Q->NO Q->(∀ (I':Imm) (x2:zO) (x3:zN) (p4:Option Addr) (c4:Nat) (p5:Option Addr) (c5:Nat) (p6:Option Addr) (c6:Nat),o=(.done (x2,x3))->I0.le I'->(S4 I' p4 x2.Nest c4)->(S4 I' p5 x2.Body c5)->(S4 I' p6 x3.b c6)->T 81 B Q (.exit 0) I' [hB b (cPart x2 p4 c4 p5 c5),hB aw (cRd x3 p6 c6)] [(2,vP b 0)])->(∀ r I' ah m',o=(.ret r)->I0.le I'->RS Tryz.prog f178 B (zBv aw r) I' ah m'->T 81 B Q .ret I' ah m')->J Tryz.prog 81 B (nav (bodyOf f178) [1,0,1,0]) Q I [hB b (cPart x p1 c1 p2 c2),hB aw (cRd x1 p3 c3)] [(0,vP aw 0),(2,vP b 0),(3,vI i)]:=by
 refine nL.partial_correctness x _ fun aJ ih i x1 o N B I0 I Q aw b p1 c1 p2 c2 p3 c3 H h1 h2 h3 hg ho hx hr=>yM hg ho<|zZ<|yF [17] rfl<|zG<|yC N ?_ ?_
 · intro hc N;refine zS<|zX<|yG<|yE<|yB 1 [] [20] rfl<|tZ (zY [1,0] (ah:=[hB aw (cRd x1 p3 c3),hB b (cPart x p1 c1 p2 c2)])) ?_;obtain ⟨⟨y1,y2⟩,hy,N⟩:=zB N;refine sJ (zHp x1 _ hy h3) rfl ?_;rintro I0 ay v2 k2 le - ⟨v0,kk,rfl,rfl,h7,h8⟩ -;have ⟨h1,h2,H⟩:=m3 le h1 h2 H;obtain ⟨p7,c7,rfl⟩:=h7.form;obtain ⟨p8,c8,rfl,h9⟩:=yA h8;refine yB 3 [] [22] rfl<|wS zTwo ?_;intro b1 hb1;refine xJ 0 [vS p7 y1 c7,z0] rfl<|yD rfl<|zX<|yE<|yB 1 [] [23] rfl<|mN (rI [1,2,1,3]) ?_;intro b2 aW af h11;have ⟨h7,h9,h1,h2,H⟩:=m5 af h7 h9 h1 h2 H;refine tZ (zY [1,0,2] (ah:=[hB aw (cRd y2 p8 c8),hB b1 [vS p7 y1 c7,z0],hB b (cPart x p1 c1 p2 c2)])) ?_;obtain ⟨⟨y4,y5⟩,aB,N⟩:=zB N;refine sJ (xE y2 ([1,2,1,3]:List Int) _ aB h9 h11) rfl ?_;rintro ba ay v2 k2 aF - ⟨v02,kk1,rfl,rfl,rfl,h13⟩ -;have ⟨h7,h1,h2,H⟩:=m4 aF h7 h1 h2 H;obtain ⟨p9,c9,rfl,h14⟩:=yA h13;refine yH [] [5] rfl<|xX<|rU [(0,vP aw 0),(2,vP b 0),(3,vI i),(4,vP b1 0),(5,vI y4)]<|zAI zP fun h15=>?_;obtain ⟨aP,aA,hMl1⟩:=zB N;refine zFY y1 y4 ([]:List zP) y5 aP aA iR h7 h1 h2 h15 h14 (fun _ _ _ h=>hg _ _ _ h) (fun _ _ h=>ho _ _ h) ?_;intro I09 bx x5 bD bo az bq bB heq1 le9 h18 h19;subst aP;have ⟨h7,h1,h2,H⟩:=m4 le9 h7 h1 h2 H;refine zR<|zX<|pH 0 rfl ?_;intro bS le10 hl02;have h38:=SL.of_frozen hl02 le10 h18;have ⟨h19,h7,h1,h2,H⟩:=m5 le10 h19 h7 h1 h2 H;obtain ⟨y13,hy6,N⟩:=zB hMl1;obtain ⟨⟨y15,y16⟩,hy7,N⟩:=zB N;refine wQ [.x (eS y13),.p (vA [vS p7 y1 c7,vS bD bx bo]) [1],.q (.tuple ⟨[vI y15,.bool y16]⟩),.p (.tuple ⟨[vI y15,.bool y16]⟩) [],.p (vI y15) [],.p (.bool y16) [],.p (vI y15) []] [[],[],[(0,false),(1,false)],[(2,false)],[(3,false)],[(3,false)],[(4,false)]] [hB aw (cRd x5 bq bB),hB b1 [vS p7 y1 c7,vS bD bx bo],hB b (cPart x p1 c1 p2 c2)] [] [(5,false),(6,false)] (zY [0,1,2]) ?_ ?_
   · refine Ox ?_<|Op<|Oq ?_<|Op<|Op<|Op<|Op<|On
     · intro I1 hf af;refine I_h [] ?_;have H:=iS I1;refine xL (dY  _ hy6 ) ?_;rintro bY ay v2 k2 le11 - ⟨v013,rfl,rfl,h39⟩ -;have H:=H.trans le11;obtain ⟨p25,c25,rfl⟩:=h39.form;exact yN [] H ⟨_,_,rfl,rfl,h39⟩
     rintro I1 hf af _ _ ⟨p25,c25,rfl,rfl,h39⟩;refine yT [57,58] rfl ?_;have H:=iS I1;have ⟨h7,h38⟩:=m2 af h7 h38;refine xL (zAv y13 (zO.mk y1 bx) _ hy7 h39 h7 h38) ?_;rintro bX ay v2 k2 le12 - ⟨v014,v015,rfl,rfl,rfl,rfl⟩ -;have H:=H.trans le12;exact xC H
   intro I013 le13;refine yT [0,2,3,4,10,61] rfl ?_;have ⟨h19,h7,h38,h1,h2,H⟩:=m6 le13 h19 h7 h38 h1 h2 H;refine yH [] [11] rfl<|zG<|zZ ?_;refine wO N [hB aw (cRd x5 bq bB),hB b1 [vS p7 y1 c7,vS bD bx bo],hB b (cPart x p1 c1 p2 c2)] (fun t66=>[(0,vP aw 0),(2,vP b 0),(3,vI i),(4,vP b1 0),(66,.bool t66)]) (fun o02 ho02=>?_) ?_
   · have H:=iS I013;refine zJ<|yB 2 [] [63] rfl<|xV [63] ho02 ?_ ?_
     · intro bO N;exact yH [] [66] rfl<|yL<|zU (ct N H)
     intro bO N;exact wG [] [(66,vF)]<|yL<|zU (ct N H)
   intro t66 I014 le14 aU;have ⟨h19,h7,h38,h1,h2,H⟩:=m6 le14 h19 h7 h38 h1 h2 H;refine zG<|yC aU ?_ ?_
   · intro hc5 N;exact yE<|rQ 1 [1] [(67,vA [vS p7 y1 c7,vS bD bx bo])]<|xJ 2 [vS p7 y1 c7,vS bD bx bo] rfl<|yD rfl<|xD<|zV<|zH<|zH<|hr _ _ _ _ (zC N).symm H ⟨_,_,(.cell 2 rfl rfl (by kernel_rfl) ResV.nil),(zW [0] rfl (by decide)),⟨_,_,rfl,rfl,⟨_,rfl,(qN ⟨_,_,rfl,h7,h38⟩)⟩,(yR ⟨_,rfl,h19⟩)⟩⟩
   intro hc5 N;exact zS<|zM<|zG<|zJ<|yH [] [3] rfl<|yK<|kE (zW [2,0] rfl (by decide))<|oY<|ih (W (i+1)) x5 _ N H h1 h2 h19 hg ho hx hr
 intro hc N;exact wJ<|yL<|hx _ _ _ _ _ _ _ _ _ (zC N).symm H h1 h2 h3
def eZ (r0:zN):Option (zO×zN):=do
 match<-nL (zO.mk ([]:List zE) ([]:List zP)) 0 r0 with
 | .ret r0=>pure r0
 | .done (x2,x3) =>
  let (y18,y19)<-mZ (⟨[65,91,105,93,61,40,65,91,105,93,43,123,105,125,41]⟩:Str)
  let (y21,y22)<-fX ([4]:List Int)
  pure ((zO.mk y21 ([y18]:List zP)),x3)
theorem zHs:∀ r0 r,eZ r0=some r->∀ {I:Imm}{aw:Nat}{p c},(S4 I p r0.b c)->RT 178 [vP aw 0] I [hB aw (cRd r0 p c)] (zBv aw r):=by
 intro r0 r N I aw p c h;unfold eZ at N;refine yJ func178 fun B=>yE<|wS zTwo ?_;intro b hb;refine yD rfl<|zX<|yF [3] rfl<|xX<|rU [(0,vP aw 0),(2,vP b 0),(3,vI 0)] ?_;obtain ⟨o03,ho03,hMl2⟩:=zB N;refine zFZ (zO.mk ([]:List zE) ([]:List zP)) 0 r0 o03 ho03 iR (SL.nil _) (SL.nil _) h (fun _ _ _ h=>h) (fun _ _ h=>h) ?_ ?_
 · intro I015 x2 x3 p4 c4 p5 c5 p6 c6 heq3 le15 h4 h5 h6;subst o03;refine zR<|zX<|zJ ?_;obtain ⟨⟨y18,y19⟩,hy8,N⟩:=zB hMl2;refine xL (zBT (⟨[65,91,105,93,61,40,65,91,105,93,43,123,105,125,41]⟩:Str) _ hy8 ) ?_;rintro I016 ay v2 k2 le16 - ⟨v016,v017,rfl,rfl,⟨cs6,rfl,h42⟩,rfl⟩ -;have h6:=h6.mono le16;obtain ⟨p26,c26,p27,c27,p28,c28,p29,c29,rfl,h44,h45,h46,h47⟩:=pR h42;refine yB 4 [] [70,71] rfl<|wS [vT ([]),z0,vI 0,vI 0,z0,vI 0,vT ([]),z0,z0] ?_;intro b6 hb6;refine xJ 0 (cStmt y18 p26 c26 p27 c27 p28 c28 p29 c29) rfl<|wG [] []<|yX<|mN (rI [4]) ?_;intro b7 I017 le17 h49;have ⟨h44,h45,h46,h47,h6⟩:=m5 le17 h44 h45 h46 h47 h6;obtain ⟨⟨y21,y22⟩,hy9,N⟩:=zB N;refine xL (zHC ([4]:List Int) _ hy9 h49) ?_;rintro I018 ay v2 k2 le18 - ⟨v022,v023,rfl,rfl,h50,rfl⟩ -;have ⟨h44,h45,h46,h47,h6⟩:=m5 le18 h44 h45 h46 h47 h6;obtain ⟨p30,c30,rfl⟩:=h50.form;refine yH [] [14] rfl<|yX<|rQ 2 [0] [(77,vS p30 y21 c30),(78,vA (cStmt y18 p26 c26 p27 c27 p28 c28 p29 c29))]<|uK (cStmt y18 p26 c26 p27 c27 p28 c28 p29 c29) zP ?_;intro b8 hb8;have h52:RL I018 (cStmt y18 p26 c26 p27 c27 p28 c28 p29 c29) ([y18]:List zP):=⟨(cStmt y18 p26 c26 p27 c27 p28 c28 p29 c29),_,rfl,rfl,(vC ⟨_,_,_,_,rfl,h44,h45,h46,h47⟩),rfl⟩;refine yB 4 [] [80] rfl<|xJ 2 [vS p30 y21 c30,vS (some ⟨b8,0,none⟩) ([y18]:List zP) 1] rfl<|yD rfl<|xD<|yU 0 rfl ?_;intro I019 le19 hl04;have h53:=SL.of_frozen hl04 le19 h52;have ⟨h50,h6⟩:=m2 le19 h50 h6;obtain rfl:=zC N;exact yZ ⟨_,_,(.cell 1 rfl rfl (by kernel_rfl) ResV.nil),(zW [2] rfl (by decide)),⟨_,_,rfl,rfl,⟨_,rfl,(qN ⟨_,_,rfl,h50,h53⟩)⟩,(yR ⟨_,rfl,h6⟩)⟩⟩
 intro r0 I9 hs9 m9 aZ le9 bb;subst aZ;refine zV<|zH ?_;obtain rfl:=zC hMl2;exact yZ bb
def zGX (b0:Nat) (r:zD×zN):KT:=fun kk I' ah v=>
  ∃ v0 k0,ah=[.blk b0 ⟨k0⟩]/\v=tupV [v0]/\(∃ cs,v0=.agg ⟨cs⟩/\Rp.rep I' cs r.1)/\Rp.rep I' k0 r.2
def nM (i:Int) (Parts:List zO) (x:zN):Option ((List zO×zN)):=do
 if (decide (i>0)) then
  let (y5,y6)<-eZ x
  let l<-app 48 Parts ([y5]:List zO)
  nM (W (i - 1)) l y6
 else
  pure (Parts,x)
 partial_fixpoint
theorem zF0 :∀ (i:Int) (Parts:List zO) (x:zN) (o:(List zO×zN)),nM i Parts x=some o->∀ {B}{I0 I:Imm}{Q}{y:(List zF)}{aw:Nat}{b:Nat}{p1 c1}{b1:Nat}{p3 c3 cs p4 c4},I0.le I->(S4 I p1 y c1)->(RL I cs Parts)->(S4 I p4 x.b c4)->NG Q->NO Q->(∀ (I':Imm) (br:List zO) (x1:zN) (p5:Option Addr) (c5:Nat) (az:List Value) (p6:Option Addr) (c6:Nat),o=(br,x1)->I0.le I'->(RL I' az br)->(S4 I' p6 x1.b c6)->T 29 B Q (.exit 0) I' [hO zO (vS p5 br c5) az,hB aw (cRd x1 p6 c6),hB b1 [vS p1 y c1,vS p5 br c5],hB b zTwo] [(2,vP b 0),(3,vP b1 0)])->J Tryz.prog 29 B (nav (bodyOf f138) [1,1,0,1,0]) Q I [hO zO (vS p3 Parts c3) cs,hB aw (cRd x p4 c4),hB b1 [vS p1 y c1,vS p3 Parts c3],hB b zTwo] [(0,vP aw 0),(2,vP b 0),(3,vP b1 0),(4,vI i)]:=by
 refine nM.partial_correctness  _ fun aJ ih i Parts x o N B I0 I Q y aw b p1 c1 b1 p3 c3 cs p4 c4 H h1 h8 h9 hg ho hx=>yM hg ho<|zZ<|yF [11] rfl<|zG<|yC N ?_ ?_
 · intro hc N;refine zS<|zX<|yG ?_;obtain ⟨⟨y5,y6⟩,aN,N⟩:=zB N;obtain ⟨l,bm,N⟩:=zB N;refine wQ [.p (vP b1 1) [],.p (vS p3 Parts c3) [0],.p (vP aw 0) [],.x (fun I' v hx=>∃ p7 c7 p8 c8 p9 c9,v=vA (cPart y5 p7 c7 p8 c8)/\hx=[hB aw (cRd y6 p9 c9)]/\(S4 I' p7 y5.Nest c7)/\(S4 I' p8 y5.Body c8)/\(S4 I' p9 y6.b c9)),.x (fun I' v hx=>∃ b3,v=vS (some ⟨b3,0,none⟩) ([y5]:List zO) 1/\hx=[]/\(SL I' (vS (some ⟨b3,0,none⟩) ([y5]:List zO) 1) ([y5]:List zO))),.x (fun I' v hx=>∃ bi bh aT,v=vS bi l bh/\hx=[hO zO (vS bi l bh) aT]/\(RL I' aT l))] [[],[(0,false)],[],[(2,false),(8,true)],[(3,false)],[(1,false),(4,false),(9,true)]] [hB b1 [vS p1 y c1,vS p3 Parts c3],hB b zTwo] [[hB aw (cRd x p4 c4)],[hO zO (vS p3 Parts c3) cs]] [(3,true),(5,true)] (zY [2,3,1,0]) ?_ ?_
   · refine Op<|Op<|Op<|Ox ?_<|Ox ?_<|Ox ?_<|On
     · rintro I1 hf af _ _ ⟨rfl,rfl⟩ _ _ rfl;refine yT [16] rfl ?_;have H:=iS I1;have h9:=h9.mono af;refine sJ (zHs x _ aN h9) rfl ?_;rintro bH ay v2 k2 aK - ⟨v03,kk1,rfl,rfl,⟨aS,rfl,h12⟩,h13⟩ -;have H:=H.trans aK;obtain ⟨p7,c7,p8,c8,rfl,h14,h15⟩:=wR h12;obtain ⟨p9,c9,rfl,h16⟩:=yA h13;exact yN [hB aw (cRd y6 p9 c9)] H ⟨_,_,_,_,_,_,rfl,rfl,h14,h15,h16⟩
     · rintro I1 hf af _ _ ⟨p7,c7,p8,c8,p9,c9,rfl,rfl,h14,h15,h16⟩;refine yT [17] rfl ?_;have H:=iS I1;refine mN (rc y5 (qN ⟨_,_,rfl,h14,h15⟩) rN) ?_;intro b3 bL bk h18;have H:=H.trans bk;exact yN [] H ⟨_,rfl,rfl,h18⟩
     rintro I1 hf af _ _ ⟨rfl,rfl⟩ _ _ ⟨b3,rfl,rfl,h18⟩ _ _ rfl;refine yT [15,18] rfl ?_;have h8:=iM af h8;obtain ⟨aQ,k0,k01⟩:=h18;have h18:SL I1 (vS (some ⟨b3,0,none⟩) ([y5]:List zO) 1) ([y5]:List zO):=⟨_,k0,k01⟩;exact sU 47 2 0 rfl rfl rfl h8 (.inl k0) k01 bm fun bi bh aT h19=>wN (ah:=(hO zO (vS bi l bh) aT::hB b1 [vS p1 y c1,vS p3 Parts c3]::hB b zTwo::hf)) rfl<|yN [hO zO (vS bi l bh) aT] iR ⟨_,_,_,rfl,rfl,h19⟩
   rintro bR bz _ _ ⟨p7,c7,p8,c8,p9,c9,rfl,rfl,h14,h15,h16⟩ _ _ ⟨bi,bh,aT,rfl,rfl,h19⟩;refine yT [0,2,3,4,19] rfl ?_;have ⟨h1,H⟩:=m2 bz h1 H;exact yB 7 [] [20] rfl<|xJ 2 [vS p1 y c1,vS bi l bh] rfl<|yD rfl<|zM<|zG<|zJ<|yH [] [4] rfl<|yK<|oY<|ih (W (i - 1)) l y6 _ N H h1 h19 h16 hg ho hx
 intro hc N;exact wJ<|yL<|hx _ _ _ _ _ _ _ _ (zC N).symm H h8 h9
def dA (r0:zN):Option (zD×zN):=do
 let y<-jK
 let (y2,y3)<-yV r0 ([1,2,1,3]:List Int)
 let (br,x1)<-nM y2 ([]:List zO) y3
 let y7<-uR (zD.mk y br)
 if y7 then
  pure ((zD.mk y br),x1)
 else
  let y8<-jK
  let l1<-slc br 0 1
  pure ((zD.mk y8 l1),x1)
theorem zHt:∀ r0 r,dA r0=some r->∀ {I:Imm}{aw:Nat}{p c},(S4 I p r0.b c)->RT 138 [vP aw 0] I [hB aw (cRd r0 p c)] (zGX aw r):=by
 intro r0 r N I aw p c h;unfold dA at N;refine yJ func138 fun B=>?_;have H:=iS I;refine yE<|wS zTwo ?_;intro b hb;refine yD rfl<|yX<|bE N fun y hy N=>xL (dY  _ hy ) ?_;rintro I0 ay v2 k2 le - ⟨v0,rfl,rfl,h1⟩ -;have ⟨h,H⟩:=m2 le h H;obtain ⟨p1,c1,rfl⟩:=h1.form;refine yB 2 [] [6] rfl<|wS zTwo ?_;intro b1 hb1;refine xJ 0 [vS p1 y c1,z0] rfl<|yD rfl<|zX<|yE<|yB 1 [] [7] rfl<|mN (rI [1,2,1,3]) ?_;intro b2 aW af h3;have ⟨h1,h,H⟩:=m3 af h1 h H;refine tZ (zY [2,0,1] (ah:=[hB aw (cRd r0 p c),hB b1 [vS p1 y c1,z0],hB b zTwo])) ?_;obtain ⟨⟨y2,y3⟩,aB,N⟩:=zB N;refine sJ (xE r0 ([1,2,1,3]:List Int) _ aB h h3) rfl ?_;rintro ba ay v2 k2 aF - ⟨v01,kk,rfl,rfl,rfl,h5⟩ -;have ⟨h1,H⟩:=m2 aF h1 H;obtain ⟨p2,c2,rfl,h6⟩:=yA h5;refine yH [] [4] rfl<|xX<|rU [(0,vP aw 0),(2,vP b 0),(3,vP b1 0),(4,vI y2)]<|zAI zO fun h7=>?_;obtain ⟨o0,aD,aM⟩:=zB N;refine zF0 y2 ([]:List zO) y3 o0 aD iR h1 h7 h6 (fun _ _ _ h=>h) (fun _ _ h=>h) ?_;intro I06 br x1 p5 c5 az p6 c6 heq bC h10 h11;subst o0;have ⟨h1,H⟩:=m2 bC h1 H;refine zR<|zX<|yE<|rQ 1 [2] [(21,vA [vS p1 y c1,vS p5 br c5])]<|xH 0 rfl ?_;intro I07 le7 hl02;have h20:=SL.of_frozen hl02 le7 h10;have ⟨h1,h11,H⟩:=m3 le7 h1 h11 H;obtain ⟨y7,bw,N⟩:=zB aM;refine vQ (fW (zD.mk y br) _ bw h1 h20) ?_;intro I08 le8;have ⟨h11,h1,h20,H⟩:=m4 le8 h11 h1 h20 H;refine yD rfl<|zG<|yC N ?_ ?_
 · intro aI N;refine yE<|rQ 1 [1] [(23,vA [vS p1 y c1,vS p5 br c5])]<|xJ 2 [vS p1 y c1,vS p5 br c5] rfl<|yD rfl<|xD<|zH ?_;obtain rfl:=zC N;exact yZ ⟨_,_,(.cell 2 rfl rfl (by kernel_rfl) ResV.nil),(zW [0] rfl (by decide)),⟨_,_,rfl,rfl,⟨_,rfl,(vR ⟨_,_,rfl,h1,h20⟩)⟩,(yR ⟨_,rfl,h11⟩)⟩⟩
 intro aI N;refine zS<|zG<|zZ ?_;obtain ⟨y8,bI,N⟩:=zB N;obtain ⟨l1,hy6,N⟩:=zB N;refine wQ [.x (eS y8),.p (vP b1 1) [],.p (vS p5 br c5) [1],.x (eS l1),.x (fun I' v hx=>∃ p111 c111 p121 c121,v=vA [vS p111 y8 c111,vS p121 l1 c121]/\hx=[]/\(S4 I' p111 y8 c111)/\(S4 I' p121 l1 c121))] [[],[],[(1,false)],[(2,false)],[(0,false),(3,false)]] [hB aw (cRd x1 p6 c6),hB b1 [vS p1 y c1,vS p5 br c5],hB b zTwo] [] [(4,false)] (zY [0,1,2]) ?_ ?_
 · refine Ox ?_<|Op<|Op<|Ox ?_<|Ox ?_<|On
   · intro I1 hf af;refine I_h [] ?_;have H:=iS I1;refine xL (dY  _ bI ) ?_;rintro I09 ay v2 k2 le9 - ⟨v08,rfl,rfl,h22⟩ -;have H:=H.trans le9;obtain ⟨aR,bc,rfl⟩:=h22.form;exact yN [] H ⟨_,_,rfl,rfl,h22⟩
   · intro I1 hf af;refine yT [26] rfl ?_;have h20:=h20.mono af;refine zMa rfl h20 hy6 ?_;intro v09 h23;obtain ⟨bD,bo,rfl⟩:=h23.form;exact yN [] iR ⟨_,_,rfl,rfl,h23⟩
   rintro I1 hf af _ _ ⟨aR,bc,rfl,rfl,h22⟩ _ _ ⟨bD,bo,rfl,rfl,h23⟩;exact yT [24,27] rfl<|mE 5 [(28,vA [vS aR y8 bc,vS bD l1 bo])]<|yN [] iR ⟨_,_,_,_,rfl,rfl,h22,h23⟩
 rintro bS le10 _ _ ⟨p111,c111,p121,c121,rfl,rfl,h221,h231⟩;refine yT [2,28] rfl ?_;have h11:=h11.mono le10;refine xJ 2 [vS p111 y8 c111,vS p121 l1 c121] rfl<|yD rfl<|zG<|yW ?_;obtain rfl:=zC N;exact yZ ⟨_,_,(.cell 2 rfl rfl (by kernel_rfl) ResV.nil),(zW [0] rfl (by decide)),⟨_,_,rfl,rfl,⟨_,rfl,(vR ⟨_,_,rfl,h221,h231⟩)⟩,(yR ⟨_,rfl,h11⟩)⟩⟩
def zGY (b0:Nat) (r:zD×zN):KT:=fun kk I' ah v=>
  ∃ v0 k0,ah=[.blk b0 ⟨k0⟩]/\v=tupV [v0]/\(∃ cs,v0=.agg ⟨cs⟩/\Rp.rep I' cs r.1)/\Rp.rep I' k0 r.2
def dB (r0:zN):Option (zD×zN):=do
 let (y1,y2)<-oI r0 ([(⟨[112,97,114,116,10,102,111,114,32,48,32,51,10,102,111,114,32,48,32,52,10,66,91,105,44,106,93,61,40,66,91,105,44,106,93,43,123,50,42,105,43,106,125,41,10]⟩:Str),(⟨[112,97,114,116,10,102,111,114,32,48,32,51,10,102,111,114,32,48,32,52,10,66,91,105,44,106,43,49,93,61,40,66,91,105,44,106,93,43,49,41,10]⟩:Str),(⟨[112,97,114,116,10,102,111,114,32,48,32,51,10,102,111,114,32,49,32,52,10,66,91,105,43,49,44,106,45,49,93,61,40,66,91,105,44,106,93,42,50,41,10]⟩:Str),(⟨[112,97,114,116,10,102,111,114,32,48,32,51,10,102,111,114,32,49,32,53,10,66,91,105,43,49,44,106,93,61,40,66,91,105,44,106,45,49,93,43,66,91,105,44,106,93,41,10,65,91,105,93,61,123,106,125,10]⟩:Str),(⟨[112,97,114,116,10,102,111,114,32,48,32,52,10,65,91,105,93,61,40,123,105,125,42,50,41,10,112,97,114,116,10,102,111,114,32,48,32,52,10,65,91,105,43,49,93,61,40,65,91,105,93,43,67,91,48,93,41,10]⟩:Str),(⟨[112,97,114,116,10,102,111,114,32,48,32,53,10,65,91,105,93,61,40,65,91,105,93,43,51,41,10,66,91,48,44,105,93,61,65,91,105,93,10]⟩:Str),(⟨[112,97,114,116,10,102,111,114,32,48,32,51,10,102,111,114,32,48,32,51,10,67,91,105,93,61,40,67,91,105,93,43,66,91,105,44,106,93,41,10,112,97,114,116,10,102,111,114,32,48,32,51,10,102,111,114,32,48,32,51,10,65,91,106,93,61,40,65,91,106,93,45,66,91,106,44,105,93,41,10]⟩:Str),(⟨[112,97,114,116,10,102,111,114,32,48,32,52,10,102,111,114,32,48,32,105,43,49,10,66,91,105,44,106,93,61,40,65,91,106,93,42,67,91,48,93,41,10]⟩:Str)]:List Str)
 let s<-cat (⟨[112,114,111,103,114,97,109,10,97,114,114,97,121,32,65,32,54,10,97,114,114,97,121,32,66,32,52,32,53,10,97,114,114,97,121,32,67,32,51,10]⟩:Str) y1
 let (y4,y5)<-mP s
 let (t20,x)<-(do
   if y5 then
    let (y7,y8)<-xA y2 3
    pure ((decide (y7>0)),y8)
   else
    pure (false,y2)
     : Option (Bool×zN))
 if t20 then
  pure (y4,x)
 else
  let (y10,y11)<-dA x
  pure (y10,y11)
theorem zHu:∀ r0 r,dB r0=some r->∀ {I:Imm}{aw:Nat}{p c},(S4 I p r0.b c)->RT 91 [vP aw 0] I [hB aw (cRd r0 p c)] (zGY aw r):=by
 intro r0 r N I aw p c h;unfold dB at N;refine yJ func91 fun B=>?_;have H:=iS I;refine yE<|wS zTwo ?_;intro b hb;refine yD rfl<|yX<|yB 1 [] [6] rfl<|mN (rT [(⟨[112,97,114,116,10,102,111,114,32,48,32,51,10,102,111,114,32,48,32,52,10,66,91,105,44,106,93,61,40,66,91,105,44,106,93,43,123,50,42,105,43,106,125,41,10]⟩:Str),(⟨[112,97,114,116,10,102,111,114,32,48,32,51,10,102,111,114,32,48,32,52,10,66,91,105,44,106,43,49,93,61,40,66,91,105,44,106,93,43,49,41,10]⟩:Str),(⟨[112,97,114,116,10,102,111,114,32,48,32,51,10,102,111,114,32,49,32,52,10,66,91,105,43,49,44,106,45,49,93,61,40,66,91,105,44,106,93,42,50,41,10]⟩:Str),(⟨[112,97,114,116,10,102,111,114,32,48,32,51,10,102,111,114,32,49,32,53,10,66,91,105,43,49,44,106,93,61,40,66,91,105,44,106,45,49,93,43,66,91,105,44,106,93,41,10,65,91,105,93,61,123,106,125,10]⟩:Str),(⟨[112,97,114,116,10,102,111,114,32,48,32,52,10,65,91,105,93,61,40,123,105,125,42,50,41,10,112,97,114,116,10,102,111,114,32,48,32,52,10,65,91,105,43,49,93,61,40,65,91,105,93,43,67,91,48,93,41,10]⟩:Str),(⟨[112,97,114,116,10,102,111,114,32,48,32,53,10,65,91,105,93,61,40,65,91,105,93,43,51,41,10,66,91,48,44,105,93,61,65,91,105,93,10]⟩:Str),(⟨[112,97,114,116,10,102,111,114,32,48,32,51,10,102,111,114,32,48,32,51,10,67,91,105,93,61,40,67,91,105,93,43,66,91,105,44,106,93,41,10,112,97,114,116,10,102,111,114,32,48,32,51,10,102,111,114,32,48,32,51,10,65,91,106,93,61,40,65,91,106,93,45,66,91,106,44,105,93,41,10]⟩:Str),(⟨[112,97,114,116,10,102,111,114,32,48,32,52,10,102,111,114,32,48,32,105,43,49,10,66,91,105,44,106,93,61,40,65,91,106,93,42,67,91,48,93,41,10]⟩:Str)]) ?_;intro b1 I0 le h2;have ⟨h,H⟩:=m2 le h H;refine tZ (zY [1,0] (ah:=[hB aw (cRd r0 p c),hB b zTwo])) ?_;obtain ⟨⟨y1,y2⟩,hy,N⟩:=zB N;refine sJ (eF r0 ([(⟨[112,97,114,116,10,102,111,114,32,48,32,51,10,102,111,114,32,48,32,52,10,66,91,105,44,106,93,61,40,66,91,105,44,106,93,43,123,50,42,105,43,106,125,41,10]⟩:Str),(⟨[112,97,114,116,10,102,111,114,32,48,32,51,10,102,111,114,32,48,32,52,10,66,91,105,44,106,43,49,93,61,40,66,91,105,44,106,93,43,49,41,10]⟩:Str),(⟨[112,97,114,116,10,102,111,114,32,48,32,51,10,102,111,114,32,49,32,52,10,66,91,105,43,49,44,106,45,49,93,61,40,66,91,105,44,106,93,42,50,41,10]⟩:Str),(⟨[112,97,114,116,10,102,111,114,32,48,32,51,10,102,111,114,32,49,32,53,10,66,91,105,43,49,44,106,93,61,40,66,91,105,44,106,45,49,93,43,66,91,105,44,106,93,41,10,65,91,105,93,61,123,106,125,10]⟩:Str),(⟨[112,97,114,116,10,102,111,114,32,48,32,52,10,65,91,105,93,61,40,123,105,125,42,50,41,10,112,97,114,116,10,102,111,114,32,48,32,52,10,65,91,105,43,49,93,61,40,65,91,105,93,43,67,91,48,93,41,10]⟩:Str),(⟨[112,97,114,116,10,102,111,114,32,48,32,53,10,65,91,105,93,61,40,65,91,105,93,43,51,41,10,66,91,48,44,105,93,61,65,91,105,93,10]⟩:Str),(⟨[112,97,114,116,10,102,111,114,32,48,32,51,10,102,111,114,32,48,32,51,10,67,91,105,93,61,40,67,91,105,93,43,66,91,105,44,106,93,41,10,112,97,114,116,10,102,111,114,32,48,32,51,10,102,111,114,32,48,32,51,10,65,91,106,93,61,40,65,91,106,93,45,66,91,106,44,105,93,41,10]⟩:Str),(⟨[112,97,114,116,10,102,111,114,32,48,32,52,10,102,111,114,32,48,32,105,43,49,10,66,91,105,44,106,93,61,40,65,91,106,93,42,67,91,48,93,41,10]⟩:Str)]:List Str) _ hy h h2) rfl ?_;rintro aW ay v2 k2 af - ⟨v0,kk,rfl,rfl,rfl,h4⟩ -;have H:=H.trans af;obtain ⟨p1,c1,rfl,h5⟩:=yA h4;refine yH [] [3] rfl<|yX<|yB 1 [] [10] rfl<|bE N fun s aB N=>gH rfl aB ?_;obtain ⟨⟨y4,y5⟩,aN,N⟩:=zB N;refine xL (zDI s _ aN ) ?_;rintro ba ay v2 k2 aF - ⟨v02,v03,rfl,rfl,⟨cs,rfl,h6⟩,rfl⟩ -;have ⟨h5,H⟩:=m2 aF h5 H;obtain ⟨p2,c2,p3,c3,rfl,h8,h9⟩:=mH h6;refine yB 6 [] [13,14] rfl<|wS zTwo ?_;intro b2 hb2;refine xJ 0 (cProg y4 p2 c2 p3 c3) rfl<|yH [] [5] rfl<|zX<|zZ ?_;obtain ⟨o0,aD,aU⟩:=zB N;refine qF (fun I' ah m'=>∃ (t20:Bool) (x:zN) (p4:Option Addr) (c4:Nat),o0=(t20,x)/\ba.le I'/\(S4 I' p4 x.b c4)/\ah=[hB b2 (cProg y4 p2 c2 p3 c3),hB aw (cRd x p4 c4),hB b zTwo]/\m'=[(0,vP aw 0),(2,vP b 0),(4,vP b2 0),(20,.bool t20)]) ?_ ?_
 · have H:=iS ba;refine zJ<|yB 2 [] [16] rfl<|xV [16] aD ?_ ?_
   · intro hc N;refine yB 3 [] [17] rfl<|tZ (zY [1,0,2] (ah:=[hB aw (cRd y2 p1 c1),hB b2 (cProg y4 p2 c2 p3 c3),hB b zTwo])) ?_;obtain ⟨⟨y7,y8⟩,bm,N⟩:=zB N;refine sJ (xR y2 3 _ bm h5) rfl ?_;rintro bL ay v2 k2 aK - ⟨v06,kk1,rfl,rfl,rfl,h12⟩ -;have H:=H.trans aK;obtain ⟨p5,c5,rfl,h13⟩:=yA h12;exact yH [] [20] rfl<|xQ (zW [1,0,2] rfl (by decide))<|yL<|zU ⟨_,_,_,_,(zC N).symm,H,h13,rfl,rfl⟩
   intro hc N;exact wG [] [(20,vF)]<|yL<|zU ⟨_,_,_,_,(zC N).symm,H,h5,rfl,rfl⟩
 rintro bH ay m2 ⟨t20,x,p4,c4,heq,bk,h10,rfl,rfl⟩;subst o0;have ⟨h8,h9⟩:=m2 bk h8 h9;refine zG<|yC aU ?_ ?_
 · intro aI N;refine yE<|rQ 1 [0] [(21,vA (cProg y4 p2 c2 p3 c3))]<|xJ 2 (cProg y4 p2 c2 p3 c3) rfl<|yD rfl<|xD<|zH ?_;obtain rfl:=zC N;exact yZ ⟨_,_,(.cell 2 rfl rfl (by kernel_rfl) ResV.nil),(zW [1] rfl (by decide)),⟨_,_,rfl,rfl,⟨_,rfl,(vR ⟨_,_,rfl,h8,h9⟩)⟩,(yR ⟨_,rfl,h10⟩)⟩⟩
 intro aI N;refine zS<|yX<|yB 1 [] [22] rfl<|tZ (zY [1,0,2] (ah:=[hB aw (cRd x p4 c4),hB b2 (cProg y4 p2 c2 p3 c3),hB b zTwo])) ?_;obtain ⟨⟨y10,y11⟩,bw,N⟩:=zB N;refine sJ (zHt x _ bw h10) rfl ?_;rintro bR ay v2 k2 bz - ⟨v08,kk2,rfl,rfl,⟨az,rfl,h14⟩,h15⟩ -;obtain ⟨p6,c6,p7,c7,rfl,h16,h17⟩:=mH h14;obtain ⟨p8,c8,rfl,h18⟩:=yA h15;refine xJ 2 (cProg y10 p6 c6 p7 c7) rfl<|yD rfl<|zG<|yW ?_;obtain rfl:=zC N;exact yZ ⟨_,_,(.cell 2 rfl rfl (by kernel_rfl) ResV.nil),(zW [0] rfl (by decide)),⟨_,_,rfl,rfl,⟨_,rfl,(vR ⟨_,_,rfl,h16,h17⟩)⟩,(yR ⟨_,rfl,h18⟩)⟩⟩
def zGZ (b0:Nat) (r:zD×Int×Int×Int×zN):KT:=fun kk I' ah v=>
  ∃ v0 v1 v2 v3 k0,ah=[.blk b0 ⟨k0⟩]/\v=tupV [v0,v1,v2,v3]/\(∃ cs,v0=.agg ⟨cs⟩/\Rp.rep I' cs r.1)/\v1=.int .i64 r.2.1/\v2=.int .i64 r.2.2.1/\v3=.int .i64 r.2.2.2.1/\Rp.rep I' k0 r.2.2.2.2
def zAS (r0:zN):Option (zD×Int×Int×Int×zN):=do
 let (y1,y2)<-dB r0
 let (y4,y5)<-oJ y2 y1
 let (y7,y8)<-yV y5 ([0,0,0,1,(-1),9]:List Int)
 let (y10,y11)<-yV y8 ([0,0,1,0,2,(-1),9]:List Int)
 let (y13,y14)<-yV y11 ([1,2,3,(-1),(-2),0,6,7,(-9223372036854775808)]:List Int)
 pure (y4,y7,y10,y13,y14)
theorem zHv:∀ r0 r,zAS r0=some r->∀ {I:Imm}{aw:Nat}{p c},(S4 I p r0.b c)->RT 48 [vP aw 0] I [hB aw (cRd r0 p c)] (zGZ aw r):=by
 intro r0 r N I aw p c h;unfold zAS at N;refine yJ func48 fun B=>?_;have H:=iS I;refine yE<|wS zTwo ?_;intro b hb;refine wG [] []<|yX<|yB 2 [] [8,9] rfl<|tZ (zY [1,0] (ah:=[hB aw (cRd r0 p c),hB b zTwo])) ?_;obtain ⟨⟨y1,y2⟩,hy,N⟩:=zB N;refine sJ (zHu r0 _ hy h) rfl ?_;rintro I0 ay v2 k2 le - ⟨v0,kk,rfl,rfl,⟨cs,rfl,h1⟩,h2⟩ -;have H:=H.trans le;obtain ⟨p1,c1,p2,c2,rfl,h3,h4⟩:=mH h1;obtain ⟨p3,c3,rfl,h5⟩:=yA h2;obtain ⟨⟨y4,y5⟩,aB,N⟩:=zB N;refine sJ (zGI y2 y1 _ aB h5 h3 h4) rfl ?_;rintro aW ay v2 k2 af - ⟨v04,kk1,rfl,rfl,⟨az,rfl,h6⟩,h7⟩ -;have H:=H.trans af;obtain ⟨p4,c4,p5,c5,rfl,h8,h9⟩:=mH h6;obtain ⟨p6,c6,rfl,h10⟩:=yA h7;refine wS zTwo ?_;intro b1 hb1;refine xJ 0 (cProg y4 p4 c4 p5 c5) rfl<|yD rfl<|yX<|yB 1 [] [12] rfl<|mN (rI [0,0,0,1,(-1),9]) ?_;intro b2 ba aF h12;have ⟨h8,h9,h10,H⟩:=m4 aF h8 h9 h10 H;refine tZ (zY [1,0,2] (ah:=[hB aw (cRd y5 p6 c6),hB b1 (cProg y4 p4 c4 p5 c5),hB b zTwo])) ?_;obtain ⟨⟨y7,y8⟩,aN,N⟩:=zB N;refine sJ (xE y5 ([0,0,0,1,(-1),9]:List Int) _ aN h10 h12) rfl ?_;rintro bH ay v2 k2 aK - ⟨v08,kk2,rfl,rfl,rfl,h14⟩ -;have ⟨h8,h9,H⟩:=m3 aK h8 h9 H;obtain ⟨p7,c7,rfl,h15⟩:=yA h14;refine yH [] [7] rfl<|zG<|zZ ?_;obtain ⟨⟨y10,y11⟩,bm,N⟩:=zB N;obtain ⟨⟨y13,y14⟩,bw,N⟩:=zB N;refine wQ [.p (vA (cProg y4 p4 c4 p5 c5)) [0],.p (vI y7) [],.p (vP aw 0) [],.x (fun I' v hx=>∃ b3,v=vS (some ⟨b3,0,none⟩) ([0,0,1,0,2,(-1),9]:List Int) 7/\hx=[]/\(SL I' (vS (some ⟨b3,0,none⟩) ([0,0,1,0,2,(-1),9]:List Int) 7) ([0,0,1,0,2,(-1),9]:List Int))),.x (fun I' v hx=>∃ p8 c8,v=vI y10/\hx=[hB aw (cRd y11 p8 c8)]/\(S4 I' p8 y11.b c8)),.p (vP aw 0) [],.x (fun I' v hx=>∃ b4,v=vS (some ⟨b4,0,none⟩) ([1,2,3,(-1),(-2),0,6,7,(-9223372036854775808)]:List Int) 9/\hx=[]/\(SL I' (vS (some ⟨b4,0,none⟩) ([1,2,3,(-1),(-2),0,6,7,(-9223372036854775808)]:List Int) 9) ([1,2,3,(-1),(-2),0,6,7,(-9223372036854775808)]:List Int))),.x (fun I' v hx=>∃ p9 c9,v=vI y13/\hx=[hB aw (cRd y14 p9 c9)]/\(S4 I' p9 y14.b c9)),.x (fun I' v hx=>hx=[hB b (cProg y4 p4 c4 p5 c5)]),.p (vI y7) [],.q (vI y10)] [[],[],[],[],[(2,false),(3,false),(12,true)],[],[],[(5,false),(6,false),(4,true)],[(0,false),(13,true)],[(1,false)],[(4,false)]] [hB b1 (cProg y4 p4 c4 p5 c5)] [[hB aw (cRd y8 p7 c7)],[hB b zTwo]] [(7,true),(8,true),(9,false),(10,false)] (zY [1,0,2]) ?_ ?_
 · refine Op<|Op<|Op<|Ox ?_<|Ox ?_<|Op<|Ox ?_<|Ox ?_<|Ox ?_<|Op<|Oq ?_<|On
   · intro I1 hf af;refine I_h [] ?_;have H:=iS I1;refine mN (rI [0,0,1,0,2,(-1),9]) ?_;intro b3 bL bk h17;have H:=H.trans bk;exact yN [] H ⟨_,rfl,rfl,h17⟩
   · rintro I1 hf af _ _ ⟨rfl,rfl⟩ _ _ ⟨b3,rfl,rfl,h17⟩ _ _ rfl;refine yT [17,18] rfl ?_;have H:=iS I1;have h15:=h15.mono af;refine sJ (xE y8 ([0,0,1,0,2,(-1),9]:List Int) _ bm h15 h17) rfl ?_;rintro bR ay v2 k2 bz - ⟨v010,kk3,rfl,rfl,rfl,h19⟩ -;have H:=H.trans bz;obtain ⟨p8,c8,rfl,h20⟩:=yA h19;exact yN [hB aw (cRd y11 p8 c8)] H ⟨_,_,rfl,rfl,h20⟩
   · intro I1 hf af;refine I_h [] ?_;have H:=iS I1;refine mN (rI [1,2,3,(-1),(-2),0,6,7,(-9223372036854775808)]) ?_;intro b4 I06 bC h22;have H:=H.trans bC;exact yN [] H ⟨_,rfl,rfl,h22⟩
   · rintro I1 hf af _ _ ⟨rfl,rfl⟩ _ _ ⟨b4,rfl,rfl,h22⟩ _ _ ⟨p8,c8,rfl,rfl,h20⟩;refine yT [20,21] rfl ?_;have H:=iS I1;refine sJ (xE y11 ([1,2,3,(-1),(-2),0,6,7,(-9223372036854775808)]:List Int) _ bw h20 h22) rfl ?_;rintro I07 ay v2 k2 le7 - ⟨v012,kk4,rfl,rfl,rfl,h24⟩ -;have H:=H.trans le7;obtain ⟨p9,c9,rfl,h25⟩:=yA h24;exact yN [hB aw (cRd y14 p9 c9)] H ⟨_,_,rfl,rfl,h25⟩
   · rintro I1 hf af _ _ ⟨rfl,rfl⟩ _ _ rfl;refine yT [2,15] rfl ?_;have H:=iS I1;exact zB5 0 (cProg y4 p4 c4 p5 c5) (hB b (cProg y4 p4 c4 p5 c5)::hB b1 (cProg y4 p4 c4 p5 c5)::hf) rfl rfl rfl rfl<|zGi (hx:=[hB b (cProg y4 p4 c4 p5 c5)]) rfl H rfl (zH8 (v:=undef)) rfl
   rintro I1 hf af _ _ ⟨p8,c8,rfl,rfl,h20⟩;exact yT [19] rfl<|mE 11 [(4,vI y10)]<|xC iR
 rintro I08 le8 _ _ ⟨p9,c9,rfl,rfl,h25⟩ _ _ rfl;refine yT [2,3,4,22] rfl ?_;have ⟨h8,h9⟩:=m2 le8 h8 h9;refine yH [] [5] rfl<|zG<|yW ?_;obtain rfl:=zC N;exact yZ ⟨_,_,(.cell 0 rfl rfl (by kernel_rfl) (.tmp rfl (.tmp rfl (.tmp rfl ResV.nil)))),(zW [1] rfl (by decide)),⟨_,_,_,_,_,rfl,rfl,⟨_,rfl,(vR ⟨_,_,rfl,h8,h9⟩)⟩,rfl,rfl,rfl,(yR ⟨_,rfl,h25⟩)⟩⟩
def zG0 (b0:Nat) (r:zD×Int×Int×zN):KT:=fun kk I' ah v=>
  ∃ v0 v1 v2 k0,ah=[.blk b0 ⟨k0⟩]/\v=tupV [v0,v1,v2]/\(∃ cs,v0=.agg ⟨cs⟩/\Rp.rep I' cs r.1)/\v1=.int .i64 r.2.1/\v2=.int .i64 r.2.2.1/\Rp.rep I' k0 r.2.2.2
def dC (r0:zN):Option (zD×Int×Int×zN):=do
 let (y1,y2,y3,y4,y5)<-zAS r0
 pure (y1,y2,y3,y5)
theorem zHw:∀ r0 r,dC r0=some r->∀ {I:Imm}{aw:Nat}{p c},(S4 I p r0.b c)->RT 28 [vP aw 0] I [hB aw (cRd r0 p c)] (zG0 aw r):=by
 intro r0 r N I aw p c h;unfold dC at N;refine yJ func28 fun B=>yE<|wS zTwo ?_;intro b hb;refine wG [] []<|yX<|yB 1 [] [10] rfl<|tZ (zY [1,0] (ah:=[hB aw (cRd r0 p c),hB b zTwo])) ?_;obtain ⟨⟨y1,y2,y3,y4,y5⟩,hy,N⟩:=zB N;refine sJ (zHv r0 _ hy h) rfl ?_;rintro I0 ay v2 k2 le - ⟨v0,v01,v02,v03,kk,rfl,rfl,⟨cs,rfl,h1⟩,rfl,rfl,rfl,h5⟩ -;obtain ⟨p1,c1,p2,c2,rfl,h6,h7⟩:=mH h1;obtain ⟨p3,c3,rfl,h8⟩:=yA h5;refine yB 7 [] [12,13,14,15] rfl<|wS zTwo ?_;intro b1 hb1;refine xJ 0 (cProg y1 p1 c1 p2 c2) rfl<|yH [] [6,7] rfl<|yX<|rQ 3 [0] [(16,vA (cProg y1 p1 c1 p2 c2)),(17,vI y2),(18,vI y3)]<|xJ 2 (cProg y1 p1 c1 p2 c2) rfl<|yH [] [3,4] rfl<|zG<|yW ?_;obtain rfl:=zC N;exact yZ ⟨_,_,(.cell 2 rfl rfl (by kernel_rfl) (.tmp rfl (.tmp rfl ResV.nil))),(zW [1] rfl (by decide)),⟨_,_,_,_,rfl,rfl,⟨_,rfl,(vR ⟨_,_,rfl,h6,h7⟩)⟩,rfl,rfl,(yR ⟨_,rfl,h8⟩)⟩⟩
def wB (n0:Int) (low:Int) (high:Int):Option (Bool):=do
 let t6<-(do
   if (decide (low<=n0)) then
    pure (decide (n0<=high))
   else
    pure false
     : Option Bool)
 pure (id t6)
theorem wH:∀ n0 low high r,wB n0 low high=some r->∀ {I:Imm} ,RT 50 [vI n0,vI low,vI high] I [] (zT  r):=by
 intro n0 low high r N I;unfold wB at N;refine yJ func50 fun B=>?_;have H:=iS I;refine wP []<|zG<|zZ ?_;refine wO N [] (fun t6=>[(6,.bool t6)]) (fun o0 aD=>?_) ?_
 · have H:=iS I;refine zJ<|yB 4 [] [10] rfl<|xV [10] aD ?_ ?_
   · intro hc N;exact yH [] [6] rfl<|yL<|zU (ct N H)
   intro hc N;exact wG [] [(6,vF)]<|yL<|zU (ct N H)
 intro t6 I0 le aU;refine zG<|yW ?_;obtain rfl:=zC aU;exact wI
def gQ (s:Str) (substr:Str):Option Bool:=match substr.l with | [c]=>some (decide (0<=Lib.indexByte s.l c)) | _=>none
theorem zDq:∀ (s substr:Str) r,gQ s substr=some r->∀ {I:Imm},RT 156 [vT s.l,vT substr.l] I [] (zT r):=by
 intro s substr r N I;unfold gQ at N;split at N
 · rename_i c hc;cases N
   rw [hc];exact zMb (fun w g=>(Tryz.strings_Contains_one ⟨⟨s.l⟩⟩ c w).mono fun e w' ⟨h1,h2⟩=>⟨h1,h2 ▸ RowKit.Below.refl _ _,Nat.le_of_eq (by rw [h2])⟩) fun k=>⟨_,rfl,rfl,rfl⟩
 cases N
def jV (s:Str):Option (Bool):=do
 let t2<-(do
   if ((s.l.length:Int)==1) then
    let y<-gQ (⟨[65,66,67,68]⟩:Str) s
    pure (id y)
   else
    pure false
     : Option Bool)
 pure (id t2)
theorem mK:∀ s r,jV s=some r->∀ {I:Imm} ,RT 114 [vT s.l] I [] (zT  r):=by
 intro s r N I;unfold jV at N;refine yJ func114 fun B=>?_;have H:=iS I;refine wP []<|zG<|zZ ?_;refine wO N [] (fun t2=>[(2,.bool t2)]) (fun o0 aD=>?_) ?_
 · have H:=iS I;refine zJ<|yB 4 [] [6] rfl<|xV [6] aD ?_ ?_
   · intro hc N;refine yB 5 [] [7] rfl<|bE N fun y hy N=>vQ (zDq (⟨[65,66,67,68]⟩:Str) s _ hy ) ?_;intro aW le;have H:=H.trans le;exact yH [] [2] rfl<|yL<|zU (ct N H)
   intro hc N;exact wG [] [(2,vF)]<|yL<|zU (ct N H)
 intro t2 I0 af aU;refine zG<|yW ?_;obtain rfl:=zC aU;exact wI
def gK (bj:List HA) (r:Int):KT:=fun kk I' ah v=>
  ∃ v0,bj=ah/\v=tupV [v0]/\v0=.int .i64 r
def xN (s:(List Int)) (f0:(Int->Option Bool)) (t8:Int):Option (Out Unit (Int)):=do
 if (decide (t8<(s.length:Int))) then
  let x<-idx s t8
  let y<-f0 x
  if y then
   pure (.ret t8)
  else
   xN s f0 (W (t8+1))
 else
  pure (.done ())
 partial_fixpoint
theorem zAM (s:(List Int)) (f0:(Int->Option Bool)):∀ (t8:Int) (o:Out Unit (Int)),xN s f0 t8=some o->∀ {B}{I0 I:Imm}{Q p c}{fv:Value}{bj:List HA},I0.le I->(S4 I p s c)->(FV1 Tryz.prog I bj fv f0)->NG Q->NO Q->(∀ (I':Imm) ,o=(.done ())->I0.le I'->T 19 B Q (.exit 0) I' bj [])->(∀ r I' ah m',o=(.ret r)->I0.le I'->RS Tryz.prog f130 B (gK bj r) I' ah m'->T 19 B Q .ret I' ah m')->J Tryz.prog 19 B (nav (bodyOf f130) [1,0,1,0]) Q I bj [(0,vS p s c),(1,fv),(7,vI (s.length:Int)),(8,vI t8)]:=by
 refine xN.partial_correctness s f0 _ fun aJ ih t8 o N B I0 I Q p c fv bj H h h1 hg ho hx hr=>yM hg ho<|yF [9] rfl<|zX<|yC N ?_ ?_
 · intro hc N;refine zS<|zX<|yG<|yF [5] rfl<|yX<|yB 3 [] [11,12,13] rfl<|bE N fun x hy N=>xK rfl rfl h hy ?_;intro ad aQ ar ap;obtain rfl:=ap;refine xB 0 ar [vI x] (vI x) rfl<|bE N fun y aB N=>zKW rfl rfl h1 aB rfl (cy _).symm ?_;rintro I0 v0 le rfl;refine wN (ah:=bj) (cy _) ?_;have ⟨h,h1,H⟩:=m3 le h h1 H;refine yD rfl<|zG<|yC N ?_ ?_
   · intro aI N;exact yF [4] rfl<|xD<|zV<|zH<|zH<|hr _ _ _ _ (zC N).symm H ⟨_,_,(.tmp rfl ResV.nil),(fun _ h=>h),⟨_,rfl,rfl,rfl⟩⟩
   intro aI N;exact zS<|zM<|zG<|zJ<|yH [] [8] rfl<|yK<|oY<|ih (W (t8+1)) _ N H h h1 hg ho hx hr
 intro hc N;exact wJ<|yL<|hx _  (zC N).symm H
def tF (s:(List Int)) (f0:(Int->Option Bool)):Option (Int):=do
 match<-xN s f0 0 with
 | .ret r0=>pure r0
 | .done _ =>
  pure (-1)
theorem fI:∀ s f0 r,tF s f0=some r->∀ {I:Imm}{p c}{fv:Value}{bj:List HA},(S4 I p s c)->(FV1 Tryz.prog I bj fv f0)->RT 130 [vS p s c,fv] I bj (gK bj r):=by
 intro s f0 r N I p c fv bj h h1;unfold tF at N;refine yJ func130 fun B=>wP []<|zX<|yF [7,8] rfl<|xX<|rU [(0,vS p s c),(1,fv),(7,vI (s.length:Int)),(8,vI 0)] ?_;obtain ⟨o0,aD,aM⟩:=zB N;refine zAM s f0 0 o0 aD iR h h1 (fun _ _ _ h=>h) (fun _ _ h=>h) ?_ ?_
 · intro aW  heq af;subst o0;refine zR<|wM [4] rfl<|zG<|yW ?_;obtain rfl:=zC aM;exact yZ ⟨_,_,(.tmp rfl ResV.nil),(fun _ h=>h),⟨_,rfl,rfl,rfl⟩⟩
 intro r0 I9 hs9 m9 aZ le9 bb;subst aZ;refine zV<|zH ?_;obtain rfl:=zC aM;exact yZ bb
def dZ (bj:List HA) (r:Bool):KT:=fun kk I' ah v=>
  ∃ v0,bj=ah/\v=tupV [v0]/\v0=.bool r
def xO (s:(List Int)) (f0:(Int->Option Bool)):Option (Bool):=do
 let y<-tF s f0
 pure (decide (y>=0))
theorem rM:∀ s f0 r,xO s f0=some r->∀ {I:Imm}{p c}{fv:Value}{bj:List HA},(S4 I p s c)->(FV1 Tryz.prog I bj fv f0)->RT 115 [vS p s c,fv] I bj (dZ bj r):=by
 intro s f0 r N I p c fv bj h h1;unfold xO at N;refine yJ func115 fun B=>wP []<|yX<|yB 2 [] [5,6] rfl<|bE N fun y hy N=>zFv (hs1:=bj) (rest:=[]) rfl rfl rfl rfl (by kernel_rfl) rfl (cy _).symm (fI s f0 _ hy h h1) ?_;rintro I0 ay v2 k2 le - ⟨v0,rfl,rfl,rfl⟩ -;refine wN (ah:=bj) (cy _) ?_;refine yH [] [4] rfl<|zG<|yW ?_;obtain rfl:=zC N;exact yZ ⟨_,_,(.tmp rfl ResV.nil),(fun _ h=>h),⟨_,rfl,rfl,rfl⟩⟩
def tN (n0:Int):Option (Bool):=do
 let y<-wB n0 1 6
 pure (!y)
theorem zAw:∀ n0 r,tN n0=some r->∀ {I:Imm} ,RT 116 [vI n0] I [] (zT  r):=by
 intro n0 r N I;unfold tN at N;refine yJ func116 fun B=>wP []<|yX<|yB 1 [] [3] rfl<|bE N fun y hy N=>vQ (wH n0 1 6 _ hy ) fun I0 le=>wG [] [(2,.bool (!y))]<|zG<|yW ?_;obtain rfl:=zC N;exact wI
def pD (list:(List zF)) (t7:Int):Option (Out Unit (Bool)):=do
 if (decide (t7<(list.length:Int))) then
  let x<-idx list t7
  let t42<-(do
    let y<-jV x.Name
    if (!y) then
     pure true
    else
     if (decide (t7>0)) then
      let x1<-idx list (W (t7 - 1))
      if (!(Op.bytesLess x1.Name.l x.Name.l)) then
       pure true
      else
       let y1<-wB (x.Dims.length:Int) 1 2
       if (!y1) then
        pure true
       else
        let y2<-xO x.Dims tN
        pure (id y2)
     else
      let y3<-wB (x.Dims.length:Int) 1 2
      if (!y3) then
       pure true
      else
       let y4<-xO x.Dims tN
       pure (id y4)
      : Option Bool)
  if t42 then
   pure (.ret false)
  else
   pD list (W (t7+1))
 else
  pure (.done ())
 partial_fixpoint
theorem zDr (list:(List zF)):∀ (t7:Int) (o:Out Unit (Bool)),pD list t7=some o->∀ {B}{I0 I:Imm}{Q p c},I0.le I->(S4 I p list c)->NG Q->NO Q->(∀ (I':Imm) ,o=(.done ())->I0.le I'->T 47 B Q (.exit 0) I' [] [(0,vS p list c)])->(∀ r I' ah m',o=(.ret r)->I0.le I'->RS Tryz.prog f77 B (zT  r) I' ah m'->T 47 B Q .ret I' ah m')->J Tryz.prog 47 B (nav (bodyOf f77) [1,0,1,0]) Q I [] [(0,vS p list c),(5,vS p list c),(6,vI (list.length:Int)),(7,vI t7)]:=by
 refine pD.partial_correctness list _ fun aJ ih t7 o N B I0 I Q p c H h hg ho hx hr=>yM hg ho<|yF [8] rfl<|zX<|yC N ?_ ?_
 · intro hc N;refine zS<|zX<|yG<|yE<|yB 1 [] [9] rfl<|bE N fun x hy N=>xK rfl rfl h hy ?_;intro ad aQ ar ap;obtain ⟨p1,c1,rfl,h1⟩:=wU ap;refine xB 0 ar (cArr x p1 c1) (vA (cArr x p1 c1)) rfl<|wS [vT ([]),z0] ?_;intro b hb;refine yB 5 [] [3] rfl<|xJ 0 (cArr x p1 c1) rfl<|yD rfl<|zG<|zZ ?_;refine wO N [] (fun t42=>[(0,vS p list c),(5,vS p list c),(6,vI (list.length:Int)),(7,vI t7),(42,.bool t42)]) (fun o0 aD=>?_) ?_
   · have H:=iS I;obtain ⟨y,aB,N⟩:=zB aD;cases aI:(!y) with
     | true =>
      have hM0:=sQ aI N;refine wQ [.p (vP b 0) [],.p (vT x.Name.l) [0],.q (.bool y),.q vY,.q vY,.p undef [],.p undef [],.p undef [],.p undef [],.p undef [],.p undef [],.p undef [],.p undef [],.p undef [],.p undef [],.p undef [],.p undef [],.p undef [],.p vY [],.p vY [],.p undef [],.p undef [],.p undef [],.p undef [],.p undef [],.p vY [],.p vY [],.p undef [],.p undef [],.p undef [],.p vY []] [[],[(0,false)],[(1,false)],[(2,false)],[(3,false)],[(4,false)],[(4,false),(5,false)],[(4,false),(6,false)],[(7,false)],[(7,false)],[(7,false),(9,false)],[(7,false),(8,false),(10,false)],[(7,false),(11,false)],[(7,false),(12,false)],[(7,false)],[(7,false),(14,false)],[(7,false),(13,false),(15,false)],[(4,false),(7,false),(16,false)],[(4,false),(17,false)],[(18,false)],[(19,false)],[(19,false),(20,false)],[(19,false),(21,false)],[(19,false),(22,false)],[(19,false),(23,false)],[(19,false),(24,false)],[(25,false)],[(26,false)],[(26,false),(27,false)],[(26,false),(28,false)],[(26,false),(29,false)]] [hB b (cArr x p1 c1)] [] [(30,false)] (zY [0]) ?_ ?_
      · refine Op<|Op<|Oq ?_<|Oq ?_<|Oq ?_<|Op<|Op<|Op<|Op<|Op<|Op<|Op<|Op<|Op<|Op<|Op<|Op<|Op<|Op<|Op<|Op<|Op<|Op<|Op<|Op<|Op<|Op<|Op<|Op<|Op<|Op<|On
        · intro I1 hf af;refine yT [13] rfl ?_;have H:=iS I1;refine vQ (mK x.Name _ aB ) ?_;intro aW le;have H:=H.trans le;exact xC H
        · intro I1 hf af;refine yT [14] rfl<|mE 4 [(15,.bool (!y))] ?_;rw [aI];exact xC iR
        intro I1 hf af;exact I_h [(15,vY)]<|mE 5 [(16,vY)]<|xC iR
      intro ba af;refine yT [0,5,6,7,42] rfl ?_;have H:=H.trans af;exact yD rfl<|xQ zQ<|yL<|zU (ct hM0 H)
     | false =>
      have hM01:=tH aI N;cases aX:(decide (t7>0)) with
      | true =>
       have hM02:=sQ aX hM01;obtain ⟨x1,aN,N⟩:=zB hM02;cases bK:(!(Op.bytesLess x1.Name.l x.Name.l)) with
       | true =>
        have hM03:=sQ bK N;refine wQ [.p (vP b 0) [],.p (vT x.Name.l) [0],.q (.bool y),.q vF,.q vF,.p (vI t7) [],.q vY,.q vY,.p (vS p list c) [],.p (vI t7) [],.p (vI (W (t7 - 1))) [],.x (ePArr x1),.x (ePArr x1),.q (vT x1.Name.l),.p (vP b 0) [],.p (vT x.Name.l) [0],.q vY,.q vY,.q vY,.q vY,.p undef [],.p undef [],.p undef [],.p undef [],.p undef [],.p vY [],.p vY [],.p undef [],.p undef [],.p undef [],.p vY []] [[],[(0,false)],[(1,false)],[(2,false)],[(3,false)],[(4,false)],[(4,false),(5,false)],[(4,false),(6,false)],[(7,false)],[(7,false)],[(7,false),(9,false)],[(7,false),(8,false),(10,false)],[(7,false),(11,false)],[(7,false),(12,false)],[(7,false)],[(7,false),(14,false)],[(7,false),(13,false),(15,false)],[(4,false),(7,false),(16,false)],[(4,false),(17,false)],[(18,false)],[(19,false)],[(19,false),(20,false)],[(19,false),(21,false)],[(19,false),(22,false)],[(19,false),(23,false)],[(19,false),(24,false)],[(25,false)],[(26,false)],[(26,false),(27,false)],[(26,false),(28,false)],[(26,false),(29,false)]] [hB b (cArr x p1 c1)] [] [(30,false)] (zY [0]) ?_ ?_
        · refine Op<|Op<|Oq ?_<|Oq ?_<|Oq ?_<|Op<|Oq ?_<|Oq ?_<|Op<|Op<|Op<|Ox ?_<|Ox ?_<|Oq ?_<|Op<|Op<|Oq ?_<|Oq ?_<|Oq ?_<|Oq ?_<|Op<|Op<|Op<|Op<|Op<|Op<|Op<|Op<|Op<|Op<|Op<|On
          · intro I1 hf af;refine yT [13] rfl ?_;have H:=iS I1;refine vQ (mK x.Name _ aB ) ?_;intro aW le;have H:=H.trans le;exact xC H
          · intro I1 hf af;refine yT [14] rfl<|mE 4 [(15,.bool (!y))] ?_;rw [aI];exact xC iR
          · intro I1 hf af;exact I_h [(15,vF)]<|mE 5 [(16,vF)]<|xC iR
          · intro I1 hf af;refine yT [16,17] rfl<|mE 7 [(18,.bool (decide (t7>0)))] ?_;rw [aX];exact xC iR
          · intro I1 hf af;exact yT [16,18] rfl<|mE 8 [(19,vY)]<|xC iR
          · intro I1 hf af;refine yT [19,20,22] rfl ?_;have h:=h.mono af;refine xK rfl rfl h aN ?_;intro ad1 bv av ax;obtain ⟨p2,c2,rfl,h3⟩:=wU ax;exact yN [] iR ⟨_,_,_,rfl,rfl,av,h3⟩
          · rintro I1 hf af _ _ ⟨rfl,rfl⟩ _ _ ⟨ad1,p2,c2,rfl,rfl,av,h3⟩;exact yT [19,23] rfl<|mE 13 [(24,.pointer (some ad1))]<|yN [] iR ⟨_,_,_,rfl,rfl,av,h3⟩
          · rintro I1 hf af _ _ ⟨rfl,rfl⟩ _ _ ⟨ad11,p21,c21,rfl,rfl,hat11,h31⟩;exact yT [19,24] rfl<|xB 0 hat11 [vT x1.Name.l] (vT x1.Name.l) rfl<|xC iR
          · intro I1 hf af;refine yT [19,25,27] rfl<|mE 17 [(28,.bool (!(Op.bytesLess x1.Name.l x.Name.l)))] ?_;rw [bK];exact xC iR
          · intro I1 hf af;exact yT [16,19,28] rfl<|mE 18 [(29,vY)]<|xC iR
          · intro I1 hf af;exact yT [16,29] rfl<|mE 19 [(30,vY)]<|xC iR
          intro I1 hf af;exact I_h [(30,vY)]<|mE 20 [(31,vY)]<|xC iR
        intro bH aF;refine yT [0,5,6,7,42] rfl ?_;have H:=H.trans aF;exact yD rfl<|xQ zQ<|yL<|zU (ct hM03 H)
       | false =>
        have hM04:=tH bK N;obtain ⟨y1,bm,N⟩:=zB hM04;cases bO:(!y1) with
        | true =>
         have hM05:=sQ bO N;refine wQ [.p (vP b 0) [],.p (vT x.Name.l) [0],.q (.bool y),.q vF,.q vF,.p (vI t7) [],.q vY,.q vY,.p (vS p list c) [],.p (vI t7) [],.p (vI (W (t7 - 1))) [],.x (ePArr x1),.x (ePArr x1),.q (vT x1.Name.l),.p (vP b 0) [],.p (vT x.Name.l) [0],.q vF,.q vF,.q vF,.q vF,.p (vP b 1) [],.p (vS p1 x.Dims c1) [0],.p (vI (x.Dims.length:Int)) [],.q (.bool y1),.q vY,.q vY,.q vY,.p undef [],.p undef [],.p undef [],.p vY []] [[],[(0,false)],[(1,false)],[(2,false)],[(3,false)],[(4,false)],[(4,false),(5,false)],[(4,false),(6,false)],[(7,false)],[(7,false)],[(7,false),(9,false)],[(7,false),(8,false),(10,false)],[(7,false),(11,false)],[(7,false),(12,false)],[(7,false)],[(7,false),(14,false)],[(7,false),(13,false),(15,false)],[(4,false),(7,false),(16,false)],[(4,false),(17,false)],[(18,false)],[(19,false)],[(19,false),(20,false)],[(19,false),(21,false)],[(19,false),(22,false)],[(19,false),(23,false)],[(19,false),(24,false)],[(25,false)],[(26,false)],[(26,false),(27,false)],[(26,false),(28,false)],[(26,false),(29,false)]] [hB b (cArr x p1 c1)] [] [(30,false)] (zY [0]) ?_ ?_
         · refine Op<|Op<|Oq ?_<|Oq ?_<|Oq ?_<|Op<|Oq ?_<|Oq ?_<|Op<|Op<|Op<|Ox ?_<|Ox ?_<|Oq ?_<|Op<|Op<|Oq ?_<|Oq ?_<|Oq ?_<|Oq ?_<|Op<|Op<|Op<|Oq ?_<|Oq ?_<|Oq ?_<|Oq ?_<|Op<|Op<|Op<|Op<|On
           · intro I1 hf af;refine yT [13] rfl ?_;have H:=iS I1;refine vQ (mK x.Name _ aB ) ?_;intro aW le;have H:=H.trans le;exact xC H
           · intro I1 hf af;refine yT [14] rfl<|mE 4 [(15,.bool (!y))] ?_;rw [aI];exact xC iR
           · intro I1 hf af;exact I_h [(15,vF)]<|mE 5 [(16,vF)]<|xC iR
           · intro I1 hf af;refine yT [16,17] rfl<|mE 7 [(18,.bool (decide (t7>0)))] ?_;rw [aX];exact xC iR
           · intro I1 hf af;exact yT [16,18] rfl<|mE 8 [(19,vY)]<|xC iR
           · intro I1 hf af;refine yT [19,20,22] rfl ?_;have h:=h.mono af;refine xK rfl rfl h aN ?_;intro ad1 bv av ax;obtain ⟨p2,c2,rfl,h3⟩:=wU ax;exact yN [] iR ⟨_,_,_,rfl,rfl,av,h3⟩
           · rintro I1 hf af _ _ ⟨rfl,rfl⟩ _ _ ⟨ad1,p2,c2,rfl,rfl,av,h3⟩;exact yT [19,23] rfl<|mE 13 [(24,.pointer (some ad1))]<|yN [] iR ⟨_,_,_,rfl,rfl,av,h3⟩
           · rintro I1 hf af _ _ ⟨rfl,rfl⟩ _ _ ⟨ad11,p21,c21,rfl,rfl,hat11,h31⟩;exact yT [19,24] rfl<|xB 0 hat11 [vT x1.Name.l] (vT x1.Name.l) rfl<|xC iR
           · intro I1 hf af;refine yT [19,25,27] rfl<|mE 17 [(28,.bool (!(Op.bytesLess x1.Name.l x.Name.l)))] ?_;rw [bK];exact xC iR
           · intro I1 hf af;exact yT [16,19,28] rfl<|mE 18 [(29,vF)]<|xC iR
           · intro I1 hf af;exact yT [16,29] rfl<|mE 19 [(30,vF)]<|xC iR
           · intro I1 hf af;exact I_h [(30,vF)]<|mE 20 [(31,vF)]<|xC iR
           · intro I1 hf af;refine yT [31,34] rfl ?_;have H:=iS I1;refine vQ (wH (x.Dims.length:Int) 1 2 _ bm ) ?_;intro bL aK;have H:=H.trans aK;exact xC H
           · intro I1 hf af;refine yT [31,35] rfl<|mE 25 [(36,.bool (!y1))] ?_;rw [bO];exact xC iR
           · intro I1 hf af;exact yT [31,36] rfl<|mE 26 [(37,vY)]<|xC iR
           intro I1 hf af;exact I_h [(37,vY)]<|mE 27 [(38,vY)]<|xC iR
         intro bR bk;refine yT [0,5,6,7,42] rfl ?_;have H:=H.trans bk;exact yD rfl<|xQ zQ<|yL<|zU (ct hM05 H)
        | false =>
         have hM06:=tH bO N;obtain ⟨y2,bw,N⟩:=zB hM06;refine wQ [.p (vP b 0) [],.p (vT x.Name.l) [0],.q (.bool y),.q vF,.q vF,.p (vI t7) [],.q vY,.q vY,.p (vS p list c) [],.p (vI t7) [],.p (vI (W (t7 - 1))) [],.x (ePArr x1),.x (ePArr x1),.q (vT x1.Name.l),.p (vP b 0) [],.p (vT x.Name.l) [0],.q vF,.q vF,.q vF,.q vF,.p (vP b 1) [],.p (vS p1 x.Dims c1) [0],.p (vI (x.Dims.length:Int)) [],.q (.bool y1),.q vF,.q vF,.q vF,.p (vP b 1) [],.p (vS p1 x.Dims c1) [0],.q (.bool y2),.p (.bool y2) []] [[],[(0,false)],[(1,false)],[(2,false)],[(3,false)],[(4,false)],[(4,false),(5,false)],[(4,false),(6,false)],[(7,false)],[(7,false)],[(7,false),(9,false)],[(7,false),(8,false),(10,false)],[(7,false),(11,false)],[(7,false),(12,false)],[(7,false)],[(7,false),(14,false)],[(7,false),(13,false),(15,false)],[(4,false),(7,false),(16,false)],[(4,false),(17,false)],[(18,false)],[(19,false)],[(19,false),(20,false)],[(19,false),(21,false)],[(19,false),(22,false)],[(19,false),(23,false)],[(19,false),(24,false)],[(25,false)],[(26,false)],[(26,false),(27,false)],[(26,false),(28,false)],[(26,false),(29,false)]] [hB b (cArr x p1 c1)] [] [(30,false)] (zY [0]) ?_ ?_
         · refine Op<|Op<|Oq ?_<|Oq ?_<|Oq ?_<|Op<|Oq ?_<|Oq ?_<|Op<|Op<|Op<|Ox ?_<|Ox ?_<|Oq ?_<|Op<|Op<|Oq ?_<|Oq ?_<|Oq ?_<|Oq ?_<|Op<|Op<|Op<|Oq ?_<|Oq ?_<|Oq ?_<|Oq ?_<|Op<|Op<|Oq ?_<|Op<|On
           · intro I1 hf af;refine yT [13] rfl ?_;have H:=iS I1;refine vQ (mK x.Name _ aB ) ?_;intro aW le;have H:=H.trans le;exact xC H
           · intro I1 hf af;refine yT [14] rfl<|mE 4 [(15,.bool (!y))] ?_;rw [aI];exact xC iR
           · intro I1 hf af;exact I_h [(15,vF)]<|mE 5 [(16,vF)]<|xC iR
           · intro I1 hf af;refine yT [16,17] rfl<|mE 7 [(18,.bool (decide (t7>0)))] ?_;rw [aX];exact xC iR
           · intro I1 hf af;exact yT [16,18] rfl<|mE 8 [(19,vY)]<|xC iR
           · intro I1 hf af;refine yT [19,20,22] rfl ?_;have h:=h.mono af;refine xK rfl rfl h aN ?_;intro ad1 bv av ax;obtain ⟨p2,c2,rfl,h3⟩:=wU ax;exact yN [] iR ⟨_,_,_,rfl,rfl,av,h3⟩
           · rintro I1 hf af _ _ ⟨rfl,rfl⟩ _ _ ⟨ad1,p2,c2,rfl,rfl,av,h3⟩;exact yT [19,23] rfl<|mE 13 [(24,.pointer (some ad1))]<|yN [] iR ⟨_,_,_,rfl,rfl,av,h3⟩
           · rintro I1 hf af _ _ ⟨rfl,rfl⟩ _ _ ⟨ad11,p21,c21,rfl,rfl,hat11,h31⟩;exact yT [19,24] rfl<|xB 0 hat11 [vT x1.Name.l] (vT x1.Name.l) rfl<|xC iR
           · intro I1 hf af;refine yT [19,25,27] rfl<|mE 17 [(28,.bool (!(Op.bytesLess x1.Name.l x.Name.l)))] ?_;rw [bK];exact xC iR
           · intro I1 hf af;exact yT [16,19,28] rfl<|mE 18 [(29,vF)]<|xC iR
           · intro I1 hf af;exact yT [16,29] rfl<|mE 19 [(30,vF)]<|xC iR
           · intro I1 hf af;exact I_h [(30,vF)]<|mE 20 [(31,vF)]<|xC iR
           · intro I1 hf af;refine yT [31,34] rfl ?_;have H:=iS I1;refine vQ (wH (x.Dims.length:Int) 1 2 _ bm ) ?_;intro bL aK;have H:=H.trans aK;exact xC H
           · intro I1 hf af;refine yT [31,35] rfl<|mE 25 [(36,.bool (!y1))] ?_;rw [bO];exact xC iR
           · intro I1 hf af;exact yT [31,36] rfl<|mE 26 [(37,vF)]<|xC iR
           · intro I1 hf af;exact I_h [(37,vF)]<|mE 27 [(38,vF)]<|xC iR
           intro I1 hf af;refine yT [38,40] rfl ?_;have H:=iS I1;have ⟨h,h1⟩:=m2 af h h1;have hf0:FV1 Tryz.prog I1 [] (.func (.func 116) ⟨[]⟩ ⟨[]⟩) tN:=by
             refine FV1.intro ?_;intro I1 af x0 r u0 hF k0;obtain rfl:=k0;exact (zAw x0 r hF ).mono (by rintro k i hs u ⟨v0,rfl,rfl,h⟩; exact ⟨rfl,h⟩)
           refine xL (rM x.Dims tN _ bw h1 hf0) ?_;rintro I06 ay v2 k2 bz - ⟨v04,rfl,rfl,rfl⟩ -;have H:=H.trans bz;exact xC H
         intro I07 bC;refine yT [0,5,6,7,42] rfl ?_;have H:=H.trans bC;exact yD rfl<|xQ zQ<|yL<|zU (ct N H)
      | false =>
       have hM07:=tH aX hM01;obtain ⟨y3,bI,N⟩:=zB hM07;cases hc5:(!y3) with
       | true =>
        have hM08:=sQ hc5 N;refine wQ [.p (vP b 0) [],.p (vT x.Name.l) [0],.q (.bool y),.q vF,.q vF,.p (vI t7) [],.q vF,.q vF,.p undef [],.p undef [],.p undef [],.p undef [],.p undef [],.p undef [],.p undef [],.p undef [],.p undef [],.p vF [],.p vF [],.p vF [],.p (vP b 1) [],.p (vS p1 x.Dims c1) [0],.p (vI (x.Dims.length:Int)) [],.q (.bool y3),.q vY,.q vY,.q vY,.p undef [],.p undef [],.p undef [],.p vY []] [[],[(0,false)],[(1,false)],[(2,false)],[(3,false)],[(4,false)],[(4,false),(5,false)],[(4,false),(6,false)],[(7,false)],[(7,false)],[(7,false),(9,false)],[(7,false),(8,false),(10,false)],[(7,false),(11,false)],[(7,false),(12,false)],[(7,false)],[(7,false),(14,false)],[(7,false),(13,false),(15,false)],[(4,false),(7,false),(16,false)],[(4,false),(17,false)],[(18,false)],[(19,false)],[(19,false),(20,false)],[(19,false),(21,false)],[(19,false),(22,false)],[(19,false),(23,false)],[(19,false),(24,false)],[(25,false)],[(26,false)],[(26,false),(27,false)],[(26,false),(28,false)],[(26,false),(29,false)]] [hB b (cArr x p1 c1)] [] [(30,false)] (zY [0]) ?_ ?_
        · refine Op<|Op<|Oq ?_<|Oq ?_<|Oq ?_<|Op<|Oq ?_<|Oq ?_<|Op<|Op<|Op<|Op<|Op<|Op<|Op<|Op<|Op<|Op<|Op<|Op<|Op<|Op<|Op<|Oq ?_<|Oq ?_<|Oq ?_<|Oq ?_<|Op<|Op<|Op<|Op<|On
          · intro I1 hf af;refine yT [13] rfl ?_;have H:=iS I1;refine vQ (mK x.Name _ aB ) ?_;intro aW le;have H:=H.trans le;exact xC H
          · intro I1 hf af;refine yT [14] rfl<|mE 4 [(15,.bool (!y))] ?_;rw [aI];exact xC iR
          · intro I1 hf af;exact I_h [(15,vF)]<|mE 5 [(16,vF)]<|xC iR
          · intro I1 hf af;refine yT [16,17] rfl<|mE 7 [(18,.bool (decide (t7>0)))] ?_;rw [aX];exact xC iR
          · intro I1 hf af;exact yT [16,18] rfl<|mE 8 [(19,vF)]<|xC iR
          · intro I1 hf af;refine yT [31,34] rfl ?_;have H:=iS I1;refine vQ (wH (x.Dims.length:Int) 1 2 _ bI ) ?_;intro I08 le7;have H:=H.trans le7;exact xC H
          · intro I1 hf af;refine yT [31,35] rfl<|mE 25 [(36,.bool (!y3))] ?_;rw [hc5];exact xC iR
          · intro I1 hf af;exact yT [31,36] rfl<|mE 26 [(37,vY)]<|xC iR
          intro I1 hf af;exact I_h [(37,vY)]<|mE 27 [(38,vY)]<|xC iR
        intro I09 le8;refine yT [0,5,6,7,42] rfl ?_;have H:=H.trans le8;exact yD rfl<|xQ zQ<|yL<|zU (ct hM08 H)
       | false =>
        have hM09:=tH hc5 N;obtain ⟨y4,hy6,N⟩:=zB hM09;refine wQ [.p (vP b 0) [],.p (vT x.Name.l) [0],.q (.bool y),.q vF,.q vF,.p (vI t7) [],.q vF,.q vF,.p undef [],.p undef [],.p undef [],.p undef [],.p undef [],.p undef [],.p undef [],.p undef [],.p undef [],.p vF [],.p vF [],.p vF [],.p (vP b 1) [],.p (vS p1 x.Dims c1) [0],.p (vI (x.Dims.length:Int)) [],.q (.bool y3),.q vF,.q vF,.q vF,.p (vP b 1) [],.p (vS p1 x.Dims c1) [0],.q (.bool y4),.p (.bool y4) []] [[],[(0,false)],[(1,false)],[(2,false)],[(3,false)],[(4,false)],[(4,false),(5,false)],[(4,false),(6,false)],[(7,false)],[(7,false)],[(7,false),(9,false)],[(7,false),(8,false),(10,false)],[(7,false),(11,false)],[(7,false),(12,false)],[(7,false)],[(7,false),(14,false)],[(7,false),(13,false),(15,false)],[(4,false),(7,false),(16,false)],[(4,false),(17,false)],[(18,false)],[(19,false)],[(19,false),(20,false)],[(19,false),(21,false)],[(19,false),(22,false)],[(19,false),(23,false)],[(19,false),(24,false)],[(25,false)],[(26,false)],[(26,false),(27,false)],[(26,false),(28,false)],[(26,false),(29,false)]] [hB b (cArr x p1 c1)] [] [(30,false)] (zY [0]) ?_ ?_
        · refine Op<|Op<|Oq ?_<|Oq ?_<|Oq ?_<|Op<|Oq ?_<|Oq ?_<|Op<|Op<|Op<|Op<|Op<|Op<|Op<|Op<|Op<|Op<|Op<|Op<|Op<|Op<|Op<|Oq ?_<|Oq ?_<|Oq ?_<|Oq ?_<|Op<|Op<|Oq ?_<|Op<|On
          · intro I1 hf af;refine yT [13] rfl ?_;have H:=iS I1;refine vQ (mK x.Name _ aB ) ?_;intro aW le;have H:=H.trans le;exact xC H
          · intro I1 hf af;refine yT [14] rfl<|mE 4 [(15,.bool (!y))] ?_;rw [aI];exact xC iR
          · intro I1 hf af;exact I_h [(15,vF)]<|mE 5 [(16,vF)]<|xC iR
          · intro I1 hf af;refine yT [16,17] rfl<|mE 7 [(18,.bool (decide (t7>0)))] ?_;rw [aX];exact xC iR
          · intro I1 hf af;exact yT [16,18] rfl<|mE 8 [(19,vF)]<|xC iR
          · intro I1 hf af;refine yT [31,34] rfl ?_;have H:=iS I1;refine vQ (wH (x.Dims.length:Int) 1 2 _ bI ) ?_;intro I08 le7;have H:=H.trans le7;exact xC H
          · intro I1 hf af;refine yT [31,35] rfl<|mE 25 [(36,.bool (!y3))] ?_;rw [hc5];exact xC iR
          · intro I1 hf af;exact yT [31,36] rfl<|mE 26 [(37,vF)]<|xC iR
          · intro I1 hf af;exact I_h [(37,vF)]<|mE 27 [(38,vF)]<|xC iR
          intro I1 hf af;refine yT [38,40] rfl ?_;have H:=iS I1;have ⟨h,h1⟩:=m2 af h h1;have hf01:FV1 Tryz.prog I1 [] (.func (.func 116) ⟨[]⟩ ⟨[]⟩) tN:=by
            refine FV1.intro ?_;intro I1 af x0 r u0 hF k0;obtain rfl:=k0;exact (zAw x0 r hF ).mono (by rintro k i hs u ⟨v0,rfl,rfl,h⟩; exact ⟨rfl,h⟩)
          refine xL (rM x.Dims tN _ hy6 h1 hf01) ?_;rintro bS ay v2 k2 le9 - ⟨v06,rfl,rfl,rfl⟩ -;have H:=H.trans le9;exact xC H
        intro bY le10;refine yT [0,5,6,7,42] rfl ?_;have H:=H.trans le10;exact yD rfl<|xQ zQ<|yL<|zU (ct N H)
   intro t42 I0 le11 aU;have ⟨h,H⟩:=m2 le11 h H;refine zG<|yC aU ?_ ?_
   · intro hc6 N;exact wP [(2,vF)]<|xD<|zV<|zH<|zH<|hr _ _ _ _ (zC N).symm H ⟨_,_,(.tmp rfl ResV.nil),zQ,⟨_,rfl,rfl,rfl⟩⟩
   intro hc6 N;exact zS<|zM<|zG<|zJ<|yH [] [7] rfl<|yK<|oY<|ih (W (t7+1)) _ N H h hg ho hx hr
 intro hc N;exact wJ<|yL<|hx _  (zC N).symm H
def gY (list:(List zF)):Option (Bool):=do
 match<-pD list 0 with
 | .ret r0=>pure r0
 | .done _ =>
  pure (decide ((list.length:Int)<=4))
theorem zG1:∀ list r,gY list=some r->∀ {I:Imm}{p c},(S4 I p list c)->RT 77 [vS p list c] I [] (zT  r):=by
 intro list r N I p c h;unfold gY at N;refine yJ func77 fun B=>wP []<|zX<|yF [5,6,7] rfl<|xX<|rU [(0,vS p list c),(5,vS p list c),(6,vI (list.length:Int)),(7,vI 0)] ?_;obtain ⟨aP,aA,aM⟩:=zB N;refine zDr list 0 aP aA iR h (fun _ _ _ h=>h) (fun _ _ h=>h) ?_ ?_
 · intro bX  heq1 le12;subst aP;refine zR<|wM [2] rfl<|zG<|yW ?_;obtain rfl:=zC aM;exact wI
 intro r0 I9 hs9 m9 aZ le9 bb;subst aZ;refine zV<|zH ?_;obtain rfl:=zC aM;exact yZ bb
def qV (bj:List HA) (r:Int):KT:=fun kk I' ah v=>
  ∃ v0,bj=ah/\v=tupV [v0]/\v0=.int .i64 r
def xF (s:(List zA)) (f0:(zA->Option Bool)) (t8:Int):Option (Out Unit (Int)):=do
 if (decide (t8<(s.length:Int))) then
  let x<-idx s t8
  let y<-f0 x
  if y then
   pure (.ret t8)
  else
   xF s f0 (W (t8+1))
 else
  pure (.done ())
 partial_fixpoint
theorem jM (s:(List zA)) (f0:(zA->Option Bool)):∀ (t8:Int) (o:Out Unit (Int)),xF s f0 t8=some o->∀ {B}{I0 I:Imm}{Q p c}{fv:Value}{bj:List HA},I0.le I->(S4 I p s c)->(FV1 Tryz.prog I bj fv f0)->NG Q->NO Q->(∀ (I':Imm) ,o=(.done ())->I0.le I'->T 19 B Q (.exit 0) I' bj [])->(∀ r I' ah m',o=(.ret r)->I0.le I'->RS Tryz.prog f197 B (qV bj r) I' ah m'->T 19 B Q .ret I' ah m')->J Tryz.prog 19 B (nav (bodyOf f197) [1,0,1,0]) Q I bj [(0,vS p s c),(1,fv),(7,vI (s.length:Int)),(8,vI t8)]:=by
 refine xF.partial_correctness s f0 _ fun aJ ih t8 o N B I0 I Q p c fv bj H h h1 hg ho hx hr=>yM hg ho<|yF [9] rfl<|zX<|yC N ?_ ?_
 · intro hc N;refine zS<|zX<|yG<|yF [5] rfl<|yX<|yB 3 [] [11,12,13] rfl<|bE N fun x hy N=>xK rfl rfl h hy ?_;intro ad aQ ar ap;obtain ⟨p1,c1,rfl,h2⟩:=yQ ap;refine xB 0 ar (cAff x p1 c1) (vA (cAff x p1 c1)) rfl<|bE N fun y aB N=>zKW rfl rfl h1 aB ⟨_,rfl,(yO ⟨_,rfl,h2⟩)⟩ (cy _).symm ?_;rintro I0 v01 le rfl;refine wN (ah:=bj) (cy _) ?_;have ⟨h,h1,H⟩:=m3 le h h1 H;refine yD rfl<|zG<|yC N ?_ ?_
   · intro aI N;exact yF [4] rfl<|xD<|zV<|zH<|zH<|hr _ _ _ _ (zC N).symm H ⟨_,_,(.tmp rfl ResV.nil),(fun _ h=>h),⟨_,rfl,rfl,rfl⟩⟩
   intro aI N;exact zS<|zM<|zG<|zJ<|yH [] [8] rfl<|yK<|oY<|ih (W (t8+1)) _ N H h h1 hg ho hx hr
 intro hc N;exact wJ<|yL<|hx _  (zC N).symm H
def vG (s:(List zA)) (f0:(zA->Option Bool)):Option (Int):=do
 match<-xF s f0 0 with
 | .ret r0=>pure r0
 | .done _ =>
  pure (-1)
theorem gI:∀ s f0 r,vG s f0=some r->∀ {I:Imm}{p c}{fv:Value}{bj:List HA},(S4 I p s c)->(FV1 Tryz.prog I bj fv f0)->RT 197 [vS p s c,fv] I bj (qV bj r):=by
 intro s f0 r N I p c fv bj h h1;unfold vG at N;refine yJ func197 fun B=>wP []<|zX<|yF [7,8] rfl<|xX<|rU [(0,vS p s c),(1,fv),(7,vI (s.length:Int)),(8,vI 0)] ?_;obtain ⟨o0,aD,aM⟩:=zB N;refine jM s f0 0 o0 aD iR h h1 (fun _ _ _ h=>h) (fun _ _ h=>h) ?_ ?_
 · intro aW  heq af;subst o0;refine zR<|wM [4] rfl<|zG<|yW ?_;obtain rfl:=zC aM;exact yZ ⟨_,_,(.tmp rfl ResV.nil),(fun _ h=>h),⟨_,rfl,rfl,rfl⟩⟩
 intro r0 I9 hs9 m9 aZ le9 bb;subst aZ;refine zV<|zH ?_;obtain rfl:=zC aM;exact yZ bb
def kK (bj:List HA) (r:Bool):KT:=fun kk I' ah v=>
  ∃ v0,bj=ah/\v=tupV [v0]/\v0=.bool r
def xM (s:(List zA)) (f0:(zA->Option Bool)):Option (Bool):=do
 let y<-vG s f0
 pure (decide (y>=0))
theorem qS:∀ s f0 r,xM s f0=some r->∀ {I:Imm}{p c}{fv:Value}{bj:List HA},(S4 I p s c)->(FV1 Tryz.prog I bj fv f0)->RT 159 [vS p s c,fv] I bj (kK bj r):=by
 intro s f0 r N I p c fv bj h h1;unfold xM at N;refine yJ func159 fun B=>wP []<|yX<|yB 2 [] [5,6] rfl<|bE N fun y hy N=>zFv (hs1:=bj) (rest:=[]) rfl rfl rfl rfl (by kernel_rfl) rfl (cy _).symm (gI s f0 _ hy h h1) ?_;rintro I0 ay v2 k2 le - ⟨v0,rfl,rfl,rfl⟩ -;refine wN (ah:=bj) (cy _) ?_;refine yH [] [4] rfl<|zG<|yW ?_;obtain rfl:=zC N;exact yZ ⟨_,_,(.tmp rfl ResV.nil),(fun _ h=>h),⟨_,rfl,rfl,rfl⟩⟩
def zAA (n0:Int):Option (Bool):=do
 let y<-wB n0 (-99) 99
 pure (id y)
theorem zHD:∀ n0 r,zAA n0=some r->∀ {I:Imm} ,RT 198 [vI n0] I [] (zT  r):=by
 intro n0 r N I;unfold zAA at N;refine yJ func198 fun B=>wP []<|yX<|yB 1 [] [3] rfl<|bE N fun y hy N=>vQ (wH n0 (-99) 99 _ hy ) fun I0 le=>wG [] [(2,.bool y)]<|zG<|yW ?_;obtain rfl:=zC N;exact wI
def sY (c:Int):Option (Bool):=do
 let y<-wB c (-9) 9
 pure (!y)
theorem zCn:∀ c r,sY c=some r->∀ {I:Imm} ,RT 199 [vI c] I [] (zT  r):=by
 intro c r N I;unfold sY at N;refine yJ func199 fun B=>wP []<|yX<|yB 1 [] [3] rfl<|bE N fun y hy N=>vQ (wH c (-9) 9 _ hy ) fun I0 le=>wG [] [(2,.bool (!y))]<|zG<|yW ?_;obtain rfl:=zC N;exact wI
def pE (a0:zA):Option (Bool):=do
 let t2<-(do
   if ((a0.Coefs.length:Int)==4) then
    let y<-zAA a0.Const
    if y then
     let y1<-xO a0.Coefs sY
     pure (!y1)
    else
     pure false
   else
    pure false
     : Option Bool)
 pure (id t2)
theorem mQ:∀ a0 r,pE a0=some r->∀ {I:Imm}{p c},(S4 I p a0.Coefs c)->RT 161 [vA (cAff a0 p c)] I [] (zT  r):=by
 intro a0 r N I p c h;unfold pE at N;refine yJ func161 fun B=>?_;have H:=iS I;refine yE<|tO (cAff a0 p c) ?_;intro b hb;refine wG [] []<|zG<|zZ ?_;refine wO N [] (fun t2=>[(2,.bool t2)]) (fun o0 aD=>?_) ?_
 · have H:=iS I;refine zJ<|yB 5 [0] [7] rfl<|xV [7] aD ?_ ?_
   · intro hc N;refine yB 7 [0] [9] rfl<|bE N fun y hy N=>vQ (zHD a0.Const _ hy ) ?_;intro aW le;have ⟨h,H⟩:=m2 le h H;refine yB 10 [] [12] rfl<|xV [12] N ?_ ?_
     · intro aI N;refine yB 12 [0] [14] rfl ?_;have hf0:FV1 Tryz.prog aW [] (.func (.func 199) ⟨[]⟩ ⟨[]⟩) sY:=by
         refine FV1.intro ?_;intro I1 af x0 r u0 hF k0;obtain rfl:=k0;exact (zCn x0 r hF ).mono (by rintro k i hs u ⟨v0,rfl,rfl,h⟩; exact ⟨rfl,h⟩)
       obtain ⟨y1,aB,N⟩:=zB N;refine xL (rM a0.Coefs sY _ aB h hf0) ?_;rintro ba ay v2 k2 af - ⟨v01,rfl,rfl,rfl⟩ -;have H:=H.trans af;exact yH [] [2] rfl<|xQ zQ<|yL<|zU (ct N H)
     intro aI N;exact wG [] [(2,vF)]<|xQ zQ<|yL<|zU (ct N H)
   intro hc N;exact wG [] [(2,vF)]<|xQ zQ<|yL<|zU (ct N H)
 intro t2 I0 aF aU;refine zG<|yW ?_;obtain rfl:=zC aU;exact wI
def tU (a0:zA) (n0:Int):Option (Int):=do
 let t17<-(do
   if (decide (n0>0)) then
    let x<-idx a0.Coefs (W (n0 - 1))
    pure (x==0)
   else
    pure false
     : Option Bool)
 if t17 then
  tU a0 (W (n0 - 1))
 else
  pure (id n0)
 partial_fixpoint
theorem zBw (a0:zA):∀ (n0:Int) (o:Int),tU a0 n0=some o->∀ {B}{I0 I:Imm}{Q p c}{b:Nat},I0.le I->(S4 I p a0.Coefs c)->NG Q->NO Q->(∀ (I':Imm) (n01:Int),o=n01->I0.le I'->T 21 B Q (.exit 0) I' [] [(3,vI n01)])->J Tryz.prog 21 B (nav (bodyOf f162) [1,1,0,0]) Q I [hB b (cAff a0 p c)] [(1,vP b 0),(3,vI n0)]:=by
 refine tU.partial_correctness a0 _ fun aJ ih n0 o N B I0 I Q p c b H h hg ho hx=>yM hg ho<|zZ<|zZ ?_;refine wO N [hB b (cAff a0 p c)] (fun t17=>[(1,vP b 0),(3,vI n0),(17,.bool t17)]) (fun o0 aD=>?_) ?_
 · have H:=iS I;refine zJ<|yB 3 [] [9] rfl<|xV [9] aD ?_ ?_
   · intro hc N;refine yB 7 [0] [11,13] rfl<|bE N fun x hy N=>xK rfl rfl h hy ?_;intro ad aQ ar ap;obtain rfl:=ap;exact xB 0 ar [vI x] (vI x) rfl<|yH [] [17] rfl<|yL<|zU (ct N H)
   intro hc N;exact wG [] [(17,vF)]<|yL<|zU (ct N H)
 intro t17 I0 le aU;have ⟨h,H⟩:=m2 le h H;refine zG<|yC aU ?_ ?_
 · intro aI N;exact zS<|xX<|zJ<|yH [] [3] rfl<|zM<|yK<|oY<|ih (W (n0 - 1)) _ N H h hg ho hx
 intro aI N;exact wJ<|xQ zQ<|yL<|hx _ _ (zC N).symm H
def rX (a0:zA):Option (Int):=do
 let n01<-tU a0 (a0.Coefs.length:Int)
 pure (id n01)
theorem fY:∀ a0 r,rX a0=some r->∀ {I:Imm}{p c},(S4 I p a0.Coefs c)->RT 162 [vA (cAff a0 p c)] I [] (yS  r):=by
 intro a0 r N I p c h;unfold rX at N;refine yJ func162 fun B=>yE<|tO (cAff a0 p c) ?_;intro b hb;refine wG [] []<|yX<|yH [0] [3] rfl<|zX<|yG<|rU [(1,vP b 0),(3,vI (a0.Coefs.length:Int))] ?_;obtain ⟨aP,aA,aM⟩:=zB N;refine zBw a0 (a0.Coefs.length:Int) aP aA iR h (fun _ _ _ h=>h) (fun _ _ h=>h) ?_;intro aW n01 heq1 af;subst aP;refine zR<|wM [2] rfl<|zG<|yW ?_;obtain rfl:=zC aM;exact wI
def qH (a0:zA) (x:Int):Option (Bool):=do
 let t3<-(do
   let y<-pE a0
   if (!y) then
    pure true
   else
    let y1<-rX a0
    pure (decide (y1>x))
     : Option Bool)
 pure (id t3)
theorem zE3:∀ a0 x r,qH a0 x=some r->∀ {I:Imm}{p c}{ad:Addr},(S4 I p a0.Coefs c)->(At I ad [vI x])->RT 196 [vA (cAff a0 p c),.pointer (some ad)] I [] (zT  r):=by
 intro a0 x r N I p c ad h ar;unfold qH at N;refine yJ func196 fun B=>?_;have H:=iS I;refine yE<|tO (cAff a0 p c) ?_;intro b hb;refine wG [] []<|zG<|zZ ?_;refine wO N [] (fun t3=>[(3,.bool t3)]) (fun o0 aD=>?_) ?_
 · have H:=iS I;obtain ⟨y,hy,N⟩:=zB aD;cases hc:(!y) with
   | true =>
    have hM0:=sQ hc N;refine wQ [.p (vA (cAff a0 p c)) [0],.q (.bool y),.q vY,.q vY,.p undef [],.p undef [],.p undef [],.p undef [],.p vY []] [[],[(0,false)],[(1,false)],[(2,false)],[(3,false)],[(3,false),(4,false)],[(3,false)],[(3,false),(5,false),(6,false)],[(3,false),(7,false)]] [hB b (cAff a0 p c)] [] [(8,false)] (zY [0]) ?_ ?_
    · refine Op<|Oq ?_<|Oq ?_<|Oq ?_<|Op<|Op<|Op<|Op<|Op<|On
      · intro I1 hf af;refine yT [4] rfl ?_;have H:=iS I1;have h:=h.mono af;refine vQ (mQ a0 _ hy h) ?_;intro aW le;have H:=H.trans le;exact xC H
      · intro I1 hf af;refine yT [5] rfl<|mE 3 [(6,.bool (!y))] ?_;rw [hc];exact xC iR
      intro I1 hf af;exact I_h [(6,vY)]<|mE 4 [(7,vY)]<|xC iR
    intro ba af;refine I_h [(12,vY)] ?_;have H:=H.trans af;exact wG [] [(3,vY)]<|xQ zQ<|yL<|zU (ct hM0 H)
   | false =>
    have hM01:=tH hc N;obtain ⟨y1,aB,N⟩:=zB hM01;refine wQ [.p (vA (cAff a0 p c)) [0],.q (.bool y),.q vF,.q vF,.p (vA (cAff a0 p c)) [0],.q (vI y1),.q (vI x),.p (.bool (decide (y1>x))) [],.p (.bool (decide (y1>x))) []] [[],[(0,false)],[(1,false)],[(2,false)],[(3,false)],[(3,false),(4,false)],[(3,false)],[(3,false),(5,false),(6,false)],[(3,false),(7,false)]] [hB b (cAff a0 p c)] [] [(8,false)] (zY [0]) ?_ ?_
    · refine Op<|Oq ?_<|Oq ?_<|Oq ?_<|Op<|Oq ?_<|Oq ?_<|Op<|Op<|On
      · intro I1 hf af;refine yT [4] rfl ?_;have H:=iS I1;have h:=h.mono af;refine vQ (mQ a0 _ hy h) ?_;intro aW le;have H:=H.trans le;exact xC H
      · intro I1 hf af;refine yT [5] rfl<|mE 3 [(6,.bool (!y))] ?_;rw [hc];exact xC iR
      · intro I1 hf af;exact I_h [(6,vF)]<|mE 4 [(7,vF)]<|xC iR
      · intro I1 hf af;refine yT [7,8] rfl ?_;have H:=iS I1;have h:=h.mono af;refine fK (fY a0 _ aB h) ?_;intro bH aF;have H:=H.trans aF;exact xC H
      intro I1 hf af;refine yT [1,7] rfl ?_;have ar:=ar.mono af;exact xB 0 ar [vI x] (vI x) rfl<|xC iR
    intro bL aK;refine yT [12] rfl ?_;have H:=H.trans aK;exact yH [] [3] rfl<|xQ zQ<|yL<|zU (ct N H)
 intro t3 I0 bk aU;refine zG<|yW ?_;obtain rfl:=zC aU;exact wI
def kT (list:(List zA)) (aa:Int):Option (Bool):=do
 let t4<-(do
   let y<-wB (list.length:Int) 1 2
   if y then
    let y1<-xM list (fun x0=>qH x0 aa)
    pure (!y1)
   else
    pure false
     : Option Bool)
 pure (id t4)
theorem zBx:∀ list aa r,kT list aa=some r->∀ {I:Imm}{p c},(S4 I p list c)->RT 157 [vS p list c,vI aa] I [] (zT  r):=by
 intro list aa r N I p c h;unfold kT at N;refine yJ func157 fun B=>?_;have H:=iS I;refine yE<|tO [vI aa] ?_;intro b hb;refine xH 0 rfl ?_;intro I0 le hl0;have ar:At I0 ⟨b,0,none⟩ [vI aa]:=At.of_blk hl0;have ⟨h,H⟩:=m2 le h H;refine wG [] []<|zG<|zZ ?_;refine wO N [] (fun t4=>[(4,.bool t4)]) (fun o0 aD=>?_) ?_
 · have H:=iS I0;refine zJ<|yB 2 [] [6] rfl ?_;obtain ⟨y,hy,N⟩:=zB aD;refine vQ (wH (list.length:Int) 1 2 _ hy ) ?_;intro ba af;have ⟨h,ar,H⟩:=m3 af h ar H;refine yB 4 [] [8] rfl<|xV [8] N ?_ ?_
   · intro hc N;refine yB 6 [] [9,10] rfl ?_;have hf0:FV1 Tryz.prog ba [] (.func (.func 196) ⟨[]⟩ ⟨[vP b 0]⟩) (fun x0=>qH x0 aa):=by
       refine FV1.intro ?_;intro I1 af x0 r u0 hF k0;obtain ⟨_,rfl,k0⟩:=k0;obtain ⟨p1,c1,rfl,h2⟩:=yQ k0;exact (zE3 x0 aa r hF h2 (ar.mono af)).mono (by rintro k i hs u ⟨v0,rfl,rfl,h⟩; exact ⟨rfl,h⟩)
     obtain ⟨y1,aB,N⟩:=zB N;refine xL (qS list (fun x0=>qH x0 aa) _ aB h hf0) ?_;rintro bH ay v2 k2 aF - ⟨v02,rfl,rfl,rfl⟩ -;have H:=H.trans aF;exact yH [] [4] rfl<|yL<|zU (ct N H)
   intro hc N;exact wG [] [(4,vF)]<|yL<|zU (ct N H)
 intro t4 aW aK aU;refine zG<|yW ?_;obtain rfl:=zC aU;exact wI
def rY (nest:(List zE)) (t7:Int):Option (Out Unit (Bool)):=do
 if (decide (t7<(nest.length:Int))) then
  let x<-idx nest t7
  let t23<-(do
    let y<-kT x.Lo t7
    if (!y) then
     pure true
    else
     let y1<-kT x.Hi t7
     pure (!y1)
      : Option Bool)
  if t23 then
   pure (.ret false)
  else
   rY nest (W (t7+1))
 else
  pure (.done ())
 partial_fixpoint
theorem zDL (nest:(List zE)):∀ (t7:Int) (o:Out Unit (Bool)),rY nest t7=some o->∀ {B}{I0 I:Imm}{Q p c},I0.le I->(S4 I p nest c)->NG Q->NO Q->(∀ (I':Imm) ,o=(.done ())->I0.le I'->T 28 B Q (.exit 0) I' [] [(0,vS p nest c)])->(∀ r I' ah m',o=(.ret r)->I0.le I'->RS Tryz.prog f117 B (zT  r) I' ah m'->T 28 B Q .ret I' ah m')->J Tryz.prog 28 B (nav (bodyOf f117) [1,0,1,0]) Q I [] [(0,vS p nest c),(5,vS p nest c),(6,vI (nest.length:Int)),(7,vI t7)]:=by
 refine rY.partial_correctness nest _ fun aJ ih t7 o N B I0 I Q p c H h hg ho hx hr=>yM hg ho<|yF [8] rfl<|zX<|yC N ?_ ?_
 · intro hc N;refine zS<|zX<|yG<|yE<|yB 1 [] [9] rfl<|bE N fun x hy N=>xK rfl rfl h hy ?_;intro ad aQ ar ap;obtain ⟨p1,c1,p2,c2,rfl,h1,h2⟩:=sR ap;refine xB 0 ar (cLoop x p1 c1 p2 c2) (vA (cLoop x p1 c1 p2 c2)) rfl<|wS zTwo ?_;intro b hb;refine yB 5 [] [3] rfl<|xJ 0 (cLoop x p1 c1 p2 c2) rfl<|yD rfl<|zG<|zZ ?_;refine wO N [] (fun t23=>[(0,vS p nest c),(5,vS p nest c),(6,vI (nest.length:Int)),(7,vI t7),(23,.bool t23)]) (fun o0 aD=>?_) ?_
   · have H:=iS I;refine zJ<|yB 3 [0] [13,14] rfl ?_;obtain ⟨y,aB,N⟩:=zB aD;refine vQ (zBx x.Lo t7 _ aB h1) ?_;intro aW le;have ⟨h2,H⟩:=m2 le h2 H;refine yB 6 [] [17] rfl<|xV [17] N ?_ ?_
     · intro aI N;exact wG [] [(23,vY)]<|xQ zQ<|yL<|zU (ct N H)
     intro aI N;refine yB 9 [0] [19,20] rfl<|bE N fun y1 aN N=>vQ (zBx x.Hi t7 _ aN h2) ?_;intro ba af;have H:=H.trans af;exact yH [] [23] rfl<|xQ zQ<|yL<|zU (ct N H)
   intro t23 I0 aF aU;have ⟨h,H⟩:=m2 aF h H;refine zG<|yC aU ?_ ?_
   · intro aX N;exact wP [(2,vF)]<|xD<|zV<|zH<|zH<|hr _ _ _ _ (zC N).symm H ⟨_,_,(.tmp rfl ResV.nil),zQ,⟨_,rfl,rfl,rfl⟩⟩
   intro aX N;exact zS<|zM<|zG<|zJ<|yH [] [7] rfl<|yK<|oY<|ih (W (t7+1)) _ N H h hg ho hx hr
 intro hc N;exact wJ<|yL<|hx _  (zC N).symm H
def jW (nest:(List zE)):Option (Bool):=do
 match<-rY nest 0 with
 | .ret r0=>pure r0
 | .done _ =>
  pure (decide ((nest.length:Int)<=4))
theorem zF1:∀ nest r,jW nest=some r->∀ {I:Imm}{p c},(S4 I p nest c)->RT 117 [vS p nest c] I [] (zT  r):=by
 intro nest r N I p c h;unfold jW at N;refine yJ func117 fun B=>wP []<|zX<|yF [5,6,7] rfl<|xX<|rU [(0,vS p nest c),(5,vS p nest c),(6,vI (nest.length:Int)),(7,vI 0)] ?_;obtain ⟨aP,aA,aM⟩:=zB N;refine zDL nest 0 aP aA iR h (fun _ _ _ h=>h) (fun _ _ h=>h) ?_ ?_
 · intro bH  heq1 aK;subst aP;refine zR<|wM [2] rfl<|zG<|yW ?_;obtain rfl:=zC aM;exact wI
 intro r0 I9 hs9 m9 aZ le9 bb;subst aZ;refine zV<|zH ?_;obtain rfl:=zC aM;exact yZ bb
def zBG (r:List Int):KT:=fun kk I' ah v=>
  ∃ a0 c0 s0,ah=[.osl (.slice a0 r.length c0) (Rp.sz Int) s0]/\v=tupV [(.slice a0 r.length c0)]/\RepL (Rp.rep I') (Rp.sz Int) s0 r
def rO (s:List Int):Option (List Int):=app 8 ([]:List Int) s
theorem jX:∀ s r,rO s=some r->∀ {I:Imm}{p c},SL I (vS p s c) s->RT 84 [vS p s c] I [] (zBG r):=by
 intro s r N I p c h;unfold rO at N;obtain ⟨aQ,k0,k01⟩:=h;refine yJ func84 fun B=>?_;cases p with
 | none =>
  have hs:s=[]:=by
    rcases k0 with ⟨hv,rfl⟩ | ⟨b0,off,len,cap,cc,hv,k2⟩
    · cases s with
      | nil=>rfl
      | cons _ _=>simp at hv
    simp at hv
  subst hs;obtain ⟨_,rfl⟩:=dU N;refine yF [0,2] rfl<|zX<|yE<|yB 1 [] [3] rfl<|zQN true rfl rfl ?_ rfl;exact wG [] [(4,vY)]<|zG<|zAT rfl<|wP [(2,z0)]<|xD<|zH<|xQ (nX (Rp.sz Int))<|yZ ⟨_,_,(.tmp rfl ResV.nil),(zW [0] rfl (by decide)),⟨none,0,[],rfl,rfl,rfl⟩⟩
 | some ad =>
  refine yF [0,2] rfl<|zX<|yE<|yB 1 [] [3] rfl<|zQN false rfl rfl ?_ rfl;refine yH [] [0,4] rfl<|zG<|eE rfl<|zS<|yX<|uK [] Int ?_;intro b2 hb2;have h1:RL I [] ([]:List Int):=rfl;exact yB 2 [] [6] rfl<|sU 3 1 0 rfl rfl rfl h1 (.inl k0) k01 N fun p1 c1 cs h2=>yH [] [2] rfl<|xD<|yZ ⟨_,_,(.tmp rfl ResV.nil),(zW [0] rfl (by decide)),⟨_,_,_,rfl,rfl,h2⟩⟩
def sL (a0:zA) (ag:(List Int)) (sum:Int) (t12:Int):Option (Int):=do
 if (decide (t12<(ag.length:Int))) then
  let x<-idx ag t12
  let x1<-idx a0.Coefs t12
  sL a0 ag (W (sum+(W (x1*x)))) (W (t12+1))
 else
  pure (id sum)
 partial_fixpoint
theorem zCT (a0:zA) (ag:(List Int)):∀ (sum:Int) (t12:Int) (o:Int),sL a0 ag sum t12=some o->∀ {B}{I0 I:Imm}{Q p c p1 c1}{b:Nat},I0.le I->(S4 I p1 ag c1)->(S4 I p a0.Coefs c)->NG Q->NO Q->(∀ (I':Imm) (sum1:Int),o=sum1->I0.le I'->T 28 B Q (.exit 0) I' [] [(5,vI sum1)])->J Tryz.prog 28 B (nav (bodyOf f167) [1,1,0,1,0]) Q I [hB b (cAff a0 p c)] [(2,vP b 0),(5,vI sum),(10,vS p1 ag c1),(11,vI (ag.length:Int)),(12,vI t12)]:=by
 refine sL.partial_correctness a0 ag _ fun aJ ih sum t12 o N B I0 I Q p c p1 c1 b H h1 h hg ho hx=>yM hg ho<|yF [13] rfl<|zX<|yC N ?_ ?_
 · intro hc N;refine zS<|zX<|yG<|yE<|yB 1 [] [14] rfl<|bE N fun x hy N=>xK rfl rfl h1 hy ?_;intro ad aQ ar ap;obtain rfl:=ap;refine xB 0 ar [vI x] (vI x) rfl<|yH [] [6,7] rfl<|zG<|zJ<|yB 4 [0] [17,19,20] rfl<|bE N fun x1 aB N=>xK rfl rfl h aB ?_;intro ad1 bv av ax;obtain rfl:=ax;exact xB 0 av [vI x1] (vI x1) rfl<|yH [] [5] rfl<|zM<|zG<|zJ<|yH [] [12] rfl<|yK<|oY<|ih (W (sum+(W (x1*x)))) (W (t12+1)) _ N H h1 h hg ho hx
 intro hc N;exact wJ<|xQ zQ<|yL<|hx _ _ (zC N).symm H
def tV (a0:zA) (ag:(List Int)):Option (Int):=do
 let sum1<-sL a0 ag a0.Const 0
 pure (id sum1)
theorem mR:∀ a0 ag r,tV a0 ag=some r->∀ {I:Imm}{p c p1 c1},(S4 I p a0.Coefs c)->(S4 I p1 ag c1)->RT 167 [vA (cAff a0 p c),vS p1 ag c1] I [] (yS  r):=by
 intro a0 ag r N I p c p1 c1 h h1;unfold tV at N;refine yJ func167 fun B=>yE<|tO (cAff a0 p c) ?_;intro b hb;refine wG [] []<|yX<|yH [0] [5] rfl<|zX<|yF [10,11,12] rfl<|xX<|rU [(2,vP b 0),(5,vI a0.Const),(10,vS p1 ag c1),(11,vI (ag.length:Int)),(12,vI 0)] ?_;obtain ⟨o0,aD,aM⟩:=zB N;refine zCT a0 ag a0.Const 0 o0 aD iR h1 h (fun _ _ _ h=>h) (fun _ _ h=>h) ?_;intro I0 sum1 heq le;subst o0;refine zR<|wM [4] rfl<|zG<|yW ?_;obtain rfl:=zC aM;exact wI
def rZ (l:zE) (ag:(List Int)) (lo:Int) (t27:Int):Option (Int):=do
 if (decide (t27<(l.Lo.length:Int))) then
  let x2<-idx l.Lo t27
  let y2<-tV x2 ag
  rZ l ag (if y2>lo then y2 else lo) (W (t27+1))
 else
  pure (id lo)
 partial_fixpoint
theorem zDM (l:zE) (ag:(List Int)):∀ (lo:Int) (t27:Int) (o:Int),rZ l ag lo t27=some o->∀ {B}{I0 I:Imm}{Q}{y1:Int}{p c p1 c1 p2 c2}{b:Nat},I0.le I->(S4 I p2 ag c2)->(S4 I p l.Lo c)->(S4 I p1 l.Hi c1)->NG Q->NO Q->(∀ (I':Imm) (lo1:Int),o=lo1->I0.le I'->T 52 B Q (.exit 0) I' [hB b (cLoop l p c p1 c1)] [(1,vS p2 ag c2),(2,vP b 0),(6,vI lo1),(7,vI y1)])->J Tryz.prog 52 B (nav (bodyOf f158) [1,1,0,1,0]) Q I [hB b (cLoop l p c p1 c1)] [(1,vS p2 ag c2),(2,vP b 0),(6,vI lo),(7,vI y1),(25,vS p l.Lo c),(26,vI (l.Lo.length:Int)),(27,vI t27)]:=by
 refine rZ.partial_correctness l ag _ fun aJ ih lo t27 o N B I0 I Q y1 p c p1 c1 p2 c2 b H h2 h h1 hg ho hx=>yM hg ho<|yF [28] rfl<|zX<|yC N ?_ ?_
 · intro hc N;refine zS<|zX<|yG<|yE<|bE N fun x2 bw N=>xK rfl rfl h bw ?_;intro ad2 bP aY bd;obtain ⟨p5,c5,rfl,h7⟩:=yQ bd;refine xB 0 aY (cAff x2 p5 c5) (vA (cAff x2 p5 c5)) rfl<|wS [z0,vI 0] ?_;intro b1 hb1;refine xJ 0 (cAff x2 p5 c5) rfl<|yD rfl<|zG<|zJ<|rQ 3 [0] [(31,vI lo),(32,vA (cAff x2 p5 c5)),(33,vS p2 ag c2)]<|bE N fun y2 bI N=>fK (mR x2 ag _ bI h7 h2) ?_;intro bH aK;have ⟨h2,h,h1,H⟩:=m4 aK h2 h h1 H;exact yH [] [6] rfl<|zM<|zG<|zJ<|yH [] [27] rfl<|yK<|kE (zW [1] rfl (by decide))<|oY<|ih (if y2>lo then y2 else lo) (W (t27+1)) _ N H h2 h h1 hg ho hx
 intro hc N;exact wJ<|yL<|hx _ _ (zC N).symm H
def qA (l:zE) (ag:(List Int)) (hi:Int) (t40:Int):Option (Int):=do
 if (decide (t40<(l.Hi.length:Int))) then
  let x3<-idx l.Hi t40
  let y3<-tV x3 ag
  qA l ag (if y3<hi then y3 else hi) (W (t40+1))
 else
  pure (id hi)
 partial_fixpoint
theorem zDN (l:zE) (ag:(List Int)):∀ (hi:Int) (t40:Int) (o:Int),qA l ag hi t40=some o->∀ {B}{I0 I:Imm}{Q}{lo1:Int}{p1 c1 p2 c2},I0.le I->(S4 I p2 ag c2)->(S4 I p1 l.Hi c1)->NG Q->NO Q->(∀ (I':Imm) (hi1:Int),o=hi1->I0.le I'->T 52 B Q (.exit 2) I' [] [(6,vI lo1),(7,vI hi1)])->J Tryz.prog 52 B (nav (bodyOf f158) [1,1,1,0,1,0]) Q I [] [(1,vS p2 ag c2),(6,vI lo1),(7,vI hi),(38,vS p1 l.Hi c1),(39,vI (l.Hi.length:Int)),(40,vI t40)]:=by
 refine qA.partial_correctness l ag _ fun aJ ih hi t40 o N B I0 I Q lo1 p1 c1 p2 c2 H h2 h1 hg ho hx=>yM hg ho<|yF [41] rfl<|zX<|yC N ?_ ?_
 · intro aI N;refine zS<|zX<|yG<|yE<|bE N fun x3 hy6 N=>xK rfl rfl h1 hy6 ?_;intro ad3 ccs3 hat3 bG;obtain ⟨p6,c6,rfl,h9⟩:=yQ bG;refine xB 0 hat3 (cAff x3 p6 c6) (vA (cAff x3 p6 c6)) rfl<|wS [z0,vI 0] ?_;intro b2 hb2;refine xJ 0 (cAff x3 p6 c6) rfl<|yD rfl<|zG<|zJ<|rQ 3 [0] [(44,vI hi),(45,vA (cAff x3 p6 c6)),(46,vS p2 ag c2)]<|bE N fun y3 hy7 N=>fK (mR x3 ag _ hy7 h9 h2) ?_;intro bR bz;have ⟨h2,h1,H⟩:=m3 bz h2 h1 H;exact yH [] [7] rfl<|zM<|zG<|zJ<|yH [] [40] rfl<|yK<|kE zQ<|oY<|ih (if y3<hi then y3 else hi) (W (t40+1)) _ N H h2 h1 hg ho hx
 intro aI N;exact wJ<|yL<|hx _ _ (zC N).symm H
def jY (l:zE) (ag:(List Int)):Option (Int×Int):=do
 let x<-idx l.Lo 0
 let y<-tV x ag
 let x1<-idx l.Hi 0
 let y1<-tV x1 ag
 let lo1<-rZ l ag y 0
 let hi1<-qA l ag y1 0
 pure (lo1,hi1)
theorem zF2:∀ l ag r,jY l ag=some r->∀ {I:Imm}{p c p1 c1 p2 c2},(S4 I p l.Lo c)->(S4 I p1 l.Hi c1)->(S4 I p2 ag c2)->RT 158 [vA (cLoop l p c p1 c1),vS p2 ag c2] I [] (dL  r):=by
 intro l ag r N I p c p1 c1 p2 c2 h h1 h2;unfold jY at N;refine yJ func158 fun B=>?_;have H:=iS I;refine yE<|tO (cLoop l p c p1 c1) ?_;intro b hb;refine wG [] []<|zG<|zZ ?_;obtain ⟨x,hy,N⟩:=zB N;obtain ⟨y,aB,N⟩:=zB N;obtain ⟨x1,aN,N⟩:=zB N;obtain ⟨y1,bm,N⟩:=zB N;refine wQ [.p (vP b 0) [],.p (vS p l.Lo c) [0],.x (ePAff x),.x (eVAff x),.p (vS p2 ag c2) [],.q (vI y),.p (vP b 1) [],.p (vS p1 l.Hi c1) [0],.x (ePAff x1),.x (eVAff x1),.p (vS p2 ag c2) [],.q (vI y1),.p (vI y) []] [[],[(0,false)],[(1,false)],[(2,false)],[],[(3,false),(4,false)],[],[(6,false)],[(7,false)],[(8,false)],[],[(9,false),(10,false)],[(5,false)]] [hB b (cLoop l p c p1 c1)] [] [(11,false),(12,false)] (zY [0]) ?_ ?_
 · refine Op<|Op<|Ox ?_<|Ox ?_<|Op<|Oq ?_<|Op<|Op<|Ox ?_<|Ox ?_<|Op<|Oq ?_<|Op<|On
   · intro I1 hf af;refine yT [13] rfl ?_;have h:=h.mono af;refine xK rfl rfl h hy ?_;intro ad aQ ar ap;obtain ⟨p3,c3,rfl,h3⟩:=yQ ap;exact yN [] iR ⟨_,_,_,rfl,rfl,ar,h3⟩
   · rintro I1 hf af _ _ ⟨ad,p3,c3,rfl,rfl,ar,h3⟩;exact yT [14] rfl<|xB 0 ar (cAff x p3 c3) (vA (cAff x p3 c3)) rfl<|yN [] iR ⟨_,_,rfl,rfl,h3⟩
   · rintro I1 hf af _ _ ⟨p31,c31,rfl,rfl,h31⟩;refine yT [15,16] rfl ?_;have H:=iS I1;have h2:=h2.mono af;refine fK (mR x ag _ aB h31 h2) ?_;intro I0 le;have H:=H.trans le;exact xC H
   · intro I1 hf af;refine yT [19] rfl ?_;have h1:=h1.mono af;refine xK rfl rfl h1 aN ?_;intro ad1 bv av ax;obtain ⟨p4,c4,rfl,h5⟩:=yQ ax;exact yN [] iR ⟨_,_,_,rfl,rfl,av,h5⟩
   · rintro I1 hf af _ _ ⟨ad1,p4,c4,rfl,rfl,av,h5⟩;exact yT [20] rfl<|xB 0 av (cAff x1 p4 c4) (vA (cAff x1 p4 c4)) rfl<|yN [] iR ⟨_,_,rfl,rfl,h5⟩
   rintro I1 hf af _ _ ⟨p41,c41,rfl,rfl,h51⟩;refine yT [21,22] rfl ?_;have H:=iS I1;have h2:=h2.mono af;refine fK (mR x1 ag _ bm h51 h2) ?_;intro aW af;have H:=H.trans af;exact xC H
 intro ba aF;refine yT [1,2,6,23] rfl ?_;have ⟨h2,h,h1⟩:=m3 aF h2 h h1;refine yH [] [7] rfl<|zX<|yE<|yH [0] [25,26,27] rfl<|xX<|rU [(1,vS p2 ag c2),(2,vP b 0),(6,vI y),(7,vI y1),(25,vS p l.Lo c),(26,vI (l.Lo.length:Int)),(27,vI 0)] ?_;obtain ⟨o0,aD,aM⟩:=zB N;refine zDM l ag y 0 o0 aD iR h2 h h1 (fun _ _ _ h=>h) (fun _ _ h=>h) ?_;intro bL lo1 heq bk;subst o0;have ⟨h2,h,h1⟩:=m3 bk h2 h h1;refine zR<|zX<|yE<|yH [0] [38,39,40] rfl<|xX<|kE (zY [] (ah:=[]))<|rU [(1,vS p2 ag c2),(6,vI lo1),(7,vI y1),(38,vS p1 l.Hi c1),(39,vI (l.Hi.length:Int)),(40,vI 0)] ?_;obtain ⟨aP,aA,hMl1⟩:=zB aM;refine zDN l ag y1 0 aP aA iR h2 h1 (fun _ _ _ h=>h) (fun _ _ h=>h) ?_;intro I06 hi1 heq1 bC;subst aP;refine zR<|wM [4,5] rfl<|zG<|yW ?_;obtain rfl:=zC hMl1;exact yZ ⟨_,_,(.tmp rfl (.tmp rfl ResV.nil)),zQ,⟨_,_,rfl,rfl,rfl,rfl⟩⟩
def gR (b0:Nat) (r:Bool×sS):KT:=fun kk I' ah v=>
  ∃ v0 x0_0 y0_0 x0_2 y0_2 z0_2,ah=[.blk b0 ⟨[.slice x0_0 r.2.nest.length y0_0,.int .i64 r.2.steps,.slice x0_2 r.2.out.length y0_2]⟩,.osl (.slice x0_2 r.2.out.length y0_2) (Rp.sz (List Int)) z0_2]/\v=tupV [v0]/\v0=.bool r.1/\SL I' (.slice x0_0 r.2.nest.length y0_0) r.2.nest/\RepL (Rp.rep I') (Rp.sz (List Int)) z0_2 r.2.out
mutual
def sG (w0:sS) (ag:(List Int)):Option (Bool×sS):=do
 if ((ag.length:Int)==(w0.nest.length:Int)) then
  let y<-rO ag
  let l<-app 24 w0.out ([y]:List (List Int))
  pure ((decide ((l.length:Int)<=120)),(sS.mk w0.nest w0.steps l))
 else
  let x<-idx w0.nest (ag.length:Int)
  let (y2,y3)<-jY x ag
  match<-rP (same ag) (same y3) (same y2) w0.nest w0.steps w0.out with
  | .ret r0=>pure r0
  | .done (nest1,steps1,al) =>
   pure (true,(sS.mk nest1 steps1 al))
 partial_fixpoint
def rP (ag:(List Int)) (y3:Int) (n0:Int) (nest:List zE) (steps:Int) (out:List (List Int)):Option (Out (List zE×Int×List (List Int)) (Bool×sS)):=do
 if (decide (n0<y3)) then
  let (t74,nest2,steps2,au)<-(do
    if (decide ((W ((W (steps+1))+1))>1200)) then
     pure (true,nest,(W (steps+1)),out)
    else
     let y4<-rO ag
     let l1<-app 8 y4 ([n0]:List Int)
     let (y6,y7)<-sG (sS.mk nest (W (steps+1)) out) (same l1)
     pure ((!y6),y7.nest,y7.steps,y7.out)
      : Option (Bool×List zE×Int×List (List Int)))
  if t74 then
   pure (.ret (false,(sS.mk nest2 steps2 au)))
  else
   rP (same ag) (same y3) (W (n0+1)) (same nest2) (same steps2) (same au)
 else
  pure (.done (nest,steps,out))
 partial_fixpoint
end
theorem zCo:(∀ (w0:sS) (ag:(List Int)) r,sG w0 ag=some r->∀ {I:Imm}{r0:Nat}{p c p1 c1 cs p2 c2},(S4 I p w0.nest c)->(RL I cs w0.out)->(S4 I p2 ag c2)->RT 118 [vP r0 0,vS p2 ag c2] I [hB r0 [vS p w0.nest c,vI w0.steps,vS p1 w0.out c1],hO (List Int) (vS p1 w0.out c1) cs] (gR r0 r))/\(∀ (ag:(List Int)) (y3:Int) (n0:Int) (nest:List zE) (steps:Int) (out:List (List Int)) o,rP ag y3 n0 nest steps out=some o->∀ {B}{I0 I:Imm}{Q}  {r0:Nat}{p2 c2 p7 c7 p8 c8 aT},I0.le I->(S4 I p2 ag c2)->(S4 I p7 nest c7)->(RL I aT out)->NG Q->NO Q->(∀ (I':Imm) (nest1:List zE) (steps1:Int) (al:List (List Int)) (p9:Option Addr) (c9:Nat) (bi:Option Addr) (bh:Nat) (bt:List Value),o=(.done (nest1,steps1,al))->I0.le I'->(S4 I' p9 nest1 c9)->(RL I' bt al)->T 75 B Q (.exit 0) I' [hB r0 [vS p9 nest1 c9,vI steps1,vS bi al bh],hO (List Int) (vS bi al bh) bt] [])->(∀ r I' ah m',o=(.ret r)->I0.le I'->RS Tryz.prog f118 B (gR r0 r) I' ah m'->T 75 B Q .ret I' ah m')->J Tryz.prog 75 B (nav (bodyOf f118) [1,1,1,0,1,0]) Q I [hB r0 [vS p7 nest c7,vI steps,vS p8 out c8],hO (List Int) (vS p8 out c8) aT] [(0,vP r0 0),(1,vS p2 ag c2),(6,vI y3),(7,vI n0)]):=by
  refine sG.mutual_partial_correctness _ _ ?_ ?_
  · intro F_impl_walking_walk_l1 ih_impl_walking_walk_l1 w0 ag r N I r0 p c p1 c1 cs p2 c2 h h1 h2;refine yJ func118 fun B=>?_;have H:=iS I;refine wP []<|zX<|yE<|yH [0] [15] rfl<|zG<|yC N ?_ ?_
    · intro hc N;refine zZ ?_;obtain ⟨y,hy,N⟩:=zB N;obtain ⟨l,aB,N⟩:=zB N;refine wQ [.p (vP r0 0) [],.p (vP r0 0) [],.p (vP r0 0) [],.p (vP r0 2) [],.p (vS p1 w0.out c1) [0],.p (vS p2 ag c2) [],.x (fun I' v hx=>∃ p3 c3 az,v=vS p3 y c3/\hx=[hO Int (vS p3 y c3) az]/\(RL I' az y)),.x (fun I' v hx=>∃ b,v=vS (some ⟨b,0,none⟩) ([y]:List (List Int)) 1/\hx=[]/\(SL I' (vS (some ⟨b,0,none⟩) ([y]:List (List Int)) 1) ([y]:List (List Int)))),.x (fun I' v hx=>∃ p4 c4 aS,v=vS p4 l c4/\hx=[hO (List Int) (vS p4 l c4) aS]/\(RL I' aS l))] [[],[],[(1,false)],[(2,false)],[(3,false)],[],[(5,false)],[(6,true)],[(4,false),(7,false),(12,true)]] [hB r0 [vS p w0.nest c,vI w0.steps,vS p1 w0.out c1]] [[hO (List Int) (vS p1 w0.out c1) cs]] [(0,false),(8,true)] (zY [0,1]) ?_ ?_
      · refine Op<|Op<|Op<|Op<|Op<|Op<|Ox ?_<|Ox ?_<|Ox ?_<|On
        · intro I1 hf af;refine yT [21] rfl ?_;have H:=iS I1;have h2:=h2.mono af;refine xL (jX ag _ hy h2) ?_;rintro I0 ay v2 k2 le - ⟨p3,c3,az,rfl,rfl,h3⟩ -;have H:=H.trans le;exact yN [hO Int (vS p3 y c3) az] H ⟨_,_,_,rfl,rfl,h3⟩
        · rintro I1 hf af _ _ ⟨p3,c3,az,rfl,rfl,h3⟩;refine yT [22] rfl ?_;have H:=iS I1;refine xH 0 rfl ?_;intro aW af hl0;have h4:=SL.of_frozen hl0 af h3;have H:=H.trans af;refine mN (rc y ⟨_,rfl,h4⟩ rN) ?_;intro b ba aF h6;have H:=H.trans aF;exact yN [] H ⟨_,rfl,rfl,h6⟩
        rintro I1 hf af _ _ ⟨rfl,rfl⟩ _ _ ⟨b,rfl,rfl,h6⟩ _ _ rfl;refine yT [20,23] rfl ?_;have h1:=iM af h1;obtain ⟨aQ,k0,k01⟩:=h6;have h6:SL I1 (vS (some ⟨b,0,none⟩) ([y]:List (List Int)) 1) ([y]:List (List Int)):=⟨_,k0,k01⟩;exact sU 27 1 0 rfl rfl rfl h1 (.inl k0) k01 aB fun p4 c4 aS h7=>wN (ah:=(hO (List Int) (vS p4 l c4) aS::hB r0 [vS p w0.nest c,vI w0.steps,vS p1 w0.out c1]::hf)) rfl<|yN [hO (List Int) (vS p4 l c4) aS] iR ⟨_,_,_,rfl,rfl,h7⟩
      rintro bH aK _ _ ⟨rfl,rfl⟩ _ _ ⟨p4,c4,aS,rfl,rfl,h7⟩;refine yT [0,16,24] rfl ?_;have h:=h.mono aK;refine yB 11 [] [26] rfl<|xJ 1 [vS p w0.nest c,vI w0.steps,vS p4 l c4] rfl<|yD rfl<|yX<|yH [1] [4] rfl<|xD<|zH ?_;obtain rfl:=zC N;exact yZ ⟨_,_,(.tmp rfl ResV.nil),(zW [1,0] rfl (by decide)),⟨_,_,_,_,_,_,rfl,rfl,rfl,h,h7⟩⟩
    intro hc N;refine zS<|yX<|yB 6 [0] [37,39] rfl<|bE N fun x aN N=>xK rfl rfl h aN ?_;intro ad bv ar ap;obtain ⟨p5,c5,p6,c6,rfl,h8,h9⟩:=sR ap;refine xB 0 ar (cLoop x p5 c5 p6 c6) (vA (cLoop x p5 c5 p6 c6)) rfl<|yB 9 [] [42] rfl ?_;obtain ⟨⟨y2,y3⟩,bm,N⟩:=zB N;refine xL (zF2 x ag _ bm h8 h9 h2) ?_;rintro bL ay v2 k2 bk - ⟨v02,v03,rfl,rfl,rfl,rfl⟩ -;have ⟨h2,h,h1⟩:=m3 bk h2 h h1;refine yH [] [5,6] rfl<|zX<|yF [7] rfl<|xX<|rU [(0,vP r0 0),(1,vS p2 ag c2),(6,vI y3),(7,vI y2)] ?_;obtain ⟨aP,aA,aM⟩:=zB N;refine ih_impl_walking_walk_l1 ag y3 y2 w0.nest w0.steps w0.out aP aA iR h2 h h1 (fun _ _ _ h=>h) (fun _ _ h=>h) ?_ ?_
    · intro I09 nest1 steps1 al p9 c9 bi bh bt heq1 le9 h14 h15;subst aP;refine zR<|zEv [(4,vY)]<|zG<|yW ?_;obtain rfl:=zC aM;exact yZ ⟨_,_,(.tmp rfl ResV.nil),(zW [0,1] rfl (by decide)),⟨_,_,_,_,_,_,rfl,rfl,rfl,h14,h15⟩⟩
    intro r0 I9 hs9 m9 aZ le9 bb;subst aZ;refine zV<|zH ?_;obtain rfl:=zC aM;exact yZ bb
  intro F_impl_walking_walk F_impl_walking_walk_l1 ih_impl_walking_walk ih_impl_walking_walk_l1 ag y3 n0 nest steps out o N B I0 I Q r0 p2 c2 p7 c7 p8 c8 aT H h2 h12 h13 hg ho hx hr;refine yM hg ho<|zZ<|yF [49] rfl<|zG<|yC N ?_ ?_
  · intro aI N;refine zS<|zX<|yG<|yE<|yB 7 [0] [56,58] rfl<|xJ 0 [vS p7 nest c7,vI (W (steps+1)),vS p8 out c8] rfl<|yD rfl<|zG<|zZ ?_;obtain ⟨o0,aD,aU⟩:=zB N;refine qF (fun I' ah m'=>∃ (t74:Bool) (nest2:List zE) (steps2:Int) (au:List (List Int)) (aR:Option Addr) (bc:Nat) (bD:Option Addr) (bo:Nat) (bJ:List Value),o0=(t74,nest2,steps2,au)/\I.le I'/\(S4 I' aR nest2 bc)/\(RL I' bJ au)/\ah=[hB r0 [vS aR nest2 bc,vI steps2,vS bD au bo],hO (List Int) (vS bD au bo) bJ]/\m'=[(0,vP r0 0),(1,vS p2 ag c2),(6,vI y3),(7,vI n0),(74,.bool t74)]) ?_ ?_
    · have H:=iS I;refine zJ<|yB 7 [0] [65] rfl<|xV [65] aD ?_ ?_
      · intro aX N;exact wG [] [(74,vY)]<|yL<|zU ⟨_,_,_,_,_,_,_,_,_,(zC N).symm,H,h12,h13,rfl,rfl⟩
      intro aX N;refine yB 9 [] [66,67] rfl<|bE N fun y4 bw N=>xL (jX ag _ bw h2) ?_;rintro I06 ay v2 k2 bz - ⟨bq,bB,cs6,rfl,rfl,h18⟩ -;have ⟨h12,h13,H⟩:=m3 bz h12 h13 H;refine yB 11 [] [69] rfl<|uK [vI n0] Int ?_;intro b1 hb1;have h19:RL I06 [vI n0] ([n0]:List Int):=rI [n0];obtain ⟨l1,bI,N⟩:=zB N;refine sU 3 1 1 rfl rfl rfl h18 (.inr ⟨0,rfl⟩) h19 bI fun p14 c14 cs7 h20=>tZ (zY [1,2,3] (ah:=[hO Int (vS p14 l1 c14) cs7,hB r0 [vS p7 nest c7,vI (W (steps+1)),vS p8 out c8],hO (List Int) (vS p8 out c8) aT]))<|xH 0 rfl ?_;intro I07 bC hl02;have h21:=SL.of_frozen hl02 bC h20;have ⟨h12,h13,H⟩:=m3 bC h12 h13 H;obtain ⟨⟨y6,y7⟩,hy6,N⟩:=zB N;refine sJ (ih_impl_walking_walk (sS.mk nest (W (steps+1)) out) l1 _ hy6 h12 h13 h21) rfl ?_;rintro I08 ay v2 k2 le7 - ⟨v04,p15,c15,p16,c16,cs8,rfl,rfl,rfl,h23,h24⟩ -;have H:=H.trans le7;exact yH [] [74] rfl<|yL<|zU ⟨_,_,_,_,_,_,_,_,_,(zC N).symm,H,h23,h24,rfl,rfl⟩
    rintro bR ay m2 ⟨t74,nest2,steps2,au,aR,bc,bD,bo,bJ,heq,le8,h16,h17,rfl,rfl⟩;subst o0;have ⟨h2,H⟩:=m2 le8 h2 H;refine zG<|yC aU ?_ ?_
    · intro bK N;exact wP [(4,vF)]<|xD<|zV<|zH<|zH<|hr _ _ _ _ (zC N).symm H ⟨_,_,(.tmp rfl ResV.nil),(zW [0,1] rfl (by decide)),⟨_,_,_,_,_,_,rfl,rfl,rfl,h16,h17⟩⟩
    intro bK N;exact zS<|zM<|zG<|zJ<|yH [] [7] rfl<|yK<|oY<|ih_impl_walking_walk_l1 ag y3 (W (n0+1)) nest2 steps2 au _ N H h2 h16 h17 hg ho hx hr
  intro aI N;exact wJ<|yL<|hx _ _ _ _ _ _ _ _ _ (zC N).symm H h12 h13
theorem zDO:∀ w0 ag r,sG w0 ag=some r->∀ {I:Imm}{r0:Nat}{p c p1 c1 cs p2 c2},(S4 I p w0.nest c)->(RL I cs w0.out)->(S4 I p2 ag c2)->RT 118 [vP r0 0,vS p2 ag c2] I [hB r0 [vS p w0.nest c,vI w0.steps,vS p1 w0.out c1],hO (List Int) (vS p1 w0.out c1) cs] (gR r0 r):=zCo.1
def kZ (nest:(List zE)):Option ((List (List Int))×Bool):=do
 let y<-jW nest
 if (!y) then
  pure (([]:List (List Int)),false)
 else
  let (y2,y3)<-sG (sS.mk nest 0 ([]:List (List Int))) ([]:List Int)
  if (!y2) then
   pure (([]:List (List Int)),false)
  else
   pure (y3.out,true)
theorem zE4:∀ nest r,kZ nest=some r->∀ {I:Imm}{p c},(S4 I p nest c)->RT 78 [vS p nest c] I [] (zAW  r):=by
 intro nest r N I p c h;unfold kZ at N;refine yJ func78 fun B=>wP []<|zX<|yE<|yB 1 [] [5] rfl<|bE N fun y hy N=>vQ (zF1 nest _ hy h) ?_;intro I0 le;have h:=h.mono le;refine yH [] [7] rfl<|zG<|yC N ?_ ?_
 · intro hc N;refine yF [2,3] rfl<|xD<|zH ?_;obtain rfl:=zC N;exact yZ ⟨_,_,(.tmp rfl (.tmp rfl ResV.nil)),zQ,⟨_,_,rfl,rfl,(SL.nil _),rfl⟩⟩
 intro hc N;refine zS<|yX<|yB 2 [] [9] rfl<|tO [vS p nest c,vI 0,z0] ?_;intro b hb;refine yH [] [4] rfl<|zX<|yE<|yB 1 [] [11] rfl<|zQ3 (List Int) fun h2=>?_;refine tZ (zY [1,0] (ah:=[hB b [vS p nest c,vI 0,vS none ([]:List (List Int)) 0],hO (List Int) (vS none ([]:List (List Int)) 0) []])) ?_;obtain ⟨⟨y2,y3⟩,aB,N⟩:=zB N;refine sJ (zDO (sS.mk nest 0 ([]:List (List Int))) ([]:List Int) _ aB h h2 (SL.nil _)) rfl ?_;rintro aW ay v2 k2 af - ⟨v01,p1,c1,p2,c2,cs,rfl,rfl,rfl,h4,h5⟩ -;refine yH [] [13] rfl<|zG<|yC N ?_ ?_
 · intro aI N;refine yF [2,3] rfl<|xD<|zH ?_;obtain rfl:=zC N;exact yZ ⟨_,_,(.tmp rfl (.tmp rfl ResV.nil)),zQ,⟨_,_,rfl,rfl,(SL.nil _),rfl⟩⟩
 intro aI N;refine zS<|yX<|yH [0] [2,3] rfl<|xD<|yU 1 rfl ?_;intro ba aF hl0;have h6:=SL.of_frozen hl0 aF h5;obtain rfl:=zC N;exact yZ ⟨_,_,(.tmp rfl (.tmp rfl ResV.nil)),zQ,⟨_,_,rfl,rfl,h6,rfl⟩⟩
def oL (bj:List HA) (r:Int):KT:=fun kk I' ah v=>
  ∃ v0,bj=ah/\v=tupV [v0]/\v0=.int .i64 r
def xI (s:(List zP)) (f0:(zP->Option Bool)) (t8:Int):Option (Out Unit (Int)):=do
 if (decide (t8<(s.length:Int))) then
  let x<-idx s t8
  let y<-f0 x
  if y then
   pure (.ret t8)
  else
   xI s f0 (W (t8+1))
 else
  pure (.done ())
 partial_fixpoint
theorem gS (s:(List zP)) (f0:(zP->Option Bool)):∀ (t8:Int) (o:Out Unit (Int)),xI s f0 t8=some o->∀ {B}{I0 I:Imm}{Q p c}{fv:Value}{bj:List HA},I0.le I->(S4 I p s c)->(FV1 Tryz.prog I bj fv f0)->NG Q->NO Q->(∀ (I':Imm) ,o=(.done ())->I0.le I'->T 19 B Q (.exit 0) I' bj [])->(∀ r I' ah m',o=(.ret r)->I0.le I'->RS Tryz.prog f119 B (oL bj r) I' ah m'->T 19 B Q .ret I' ah m')->J Tryz.prog 19 B (nav (bodyOf f119) [1,0,1,0]) Q I bj [(0,vS p s c),(1,fv),(7,vI (s.length:Int)),(8,vI t8)]:=by
 refine xI.partial_correctness s f0 _ fun aJ ih t8 o N B I0 I Q p c fv bj H h h1 hg ho hx hr=>yM hg ho<|yF [9] rfl<|zX<|yC N ?_ ?_
 · intro hc N;refine zS<|zX<|yG<|yF [5] rfl<|yX<|yB 3 [] [11,12,13] rfl<|bE N fun x hy N=>xK rfl rfl h hy ?_;intro ad aQ ar ap;obtain ⟨p1,c1,p2,c2,p3,c3,p4,c4,rfl,h2,h3,h4,h5⟩:=pR ap;refine xB 0 ar (cStmt x p1 c1 p2 c2 p3 c3 p4 c4) (vA (cStmt x p1 c1 p2 c2 p3 c3 p4 c4)) rfl<|bE N fun y aB N=>zKW rfl rfl h1 aB ⟨_,rfl,(vC ⟨_,_,_,_,rfl,h2,h3,h4,h5⟩)⟩ (cy _).symm ?_;rintro I0 v04 le rfl;refine wN (ah:=bj) (cy _) ?_;have ⟨h,h1,H⟩:=m3 le h h1 H;refine yD rfl<|zG<|yC N ?_ ?_
   · intro aI N;exact yF [4] rfl<|xD<|zV<|zH<|zH<|hr _ _ _ _ (zC N).symm H ⟨_,_,(.tmp rfl ResV.nil),(fun _ h=>h),⟨_,rfl,rfl,rfl⟩⟩
   intro aI N;exact zS<|zM<|zG<|zJ<|yH [] [8] rfl<|yK<|oY<|ih (W (t8+1)) _ N H h h1 hg ho hx hr
 intro hc N;exact wJ<|yL<|hx _  (zC N).symm H
def uI (s:(List zP)) (f0:(zP->Option Bool)):Option (Int):=do
 match<-xI s f0 0 with
 | .ret r0=>pure r0
 | .done _ =>
  pure (-1)
theorem fM:∀ s f0 r,uI s f0=some r->∀ {I:Imm}{p c}{fv:Value}{bj:List HA},(S4 I p s c)->(FV1 Tryz.prog I bj fv f0)->RT 119 [vS p s c,fv] I bj (oL bj r):=by
 intro s f0 r N I p c fv bj h h1;unfold uI at N;refine yJ func119 fun B=>wP []<|zX<|yF [7,8] rfl<|xX<|rU [(0,vS p s c),(1,fv),(7,vI (s.length:Int)),(8,vI 0)] ?_;obtain ⟨o0,aD,aM⟩:=zB N;refine gS s f0 0 o0 aD iR h h1 (fun _ _ _ h=>h) (fun _ _ h=>h) ?_ ?_
 · intro aW  heq af;subst o0;refine zR<|wM [4] rfl<|zG<|yW ?_;obtain rfl:=zC aM;exact yZ ⟨_,_,(.tmp rfl ResV.nil),(fun _ h=>h),⟨_,rfl,rfl,rfl⟩⟩
 intro r0 I9 hs9 m9 aZ le9 bb;subst aZ;refine zV<|zH ?_;obtain rfl:=zC aM;exact yZ bb
def jZ (bj:List HA) (r:Bool):KT:=fun kk I' ah v=>
  ∃ v0,bj=ah/\v=tupV [v0]/\v0=.bool r
def wF (s:(List zP)) (f0:(zP->Option Bool)):Option (Bool):=do
 let y<-uI s f0
 pure (decide (y>=0))
theorem gT:∀ s f0 r,wF s f0=some r->∀ {I:Imm}{p c}{fv:Value}{bj:List HA},(S4 I p s c)->(FV1 Tryz.prog I bj fv f0)->RT 79 [vS p s c,fv] I bj (jZ bj r):=by
 intro s f0 r N I p c fv bj h h1;unfold wF at N;refine yJ func79 fun B=>wP []<|yX<|yB 2 [] [5,6] rfl<|bE N fun y hy N=>zFv (hs1:=bj) (rest:=[]) rfl rfl rfl rfl (by kernel_rfl) rfl (cy _).symm (fM s f0 _ hy h h1) ?_;rintro I0 ay v2 k2 le - ⟨v0,rfl,rfl,rfl⟩ -;refine wN (ah:=bj) (cy _) ?_;refine yH [] [4] rfl<|zG<|yW ?_;obtain rfl:=zC N;exact yZ ⟨_,_,(.tmp rfl ResV.nil),(fun _ h=>h),⟨_,rfl,rfl,rfl⟩⟩
def oC (s:zA) (x:Int):Option (Bool):=do
 let t3<-(do
   let y<-pE s
   if (!y) then
    pure true
   else
    let y1<-rX s
    pure (decide (y1>x))
     : Option Bool)
 pure (id t3)
theorem zE5:∀ s x r,oC s x=some r->∀ {I:Imm}{p c}{ad:Addr},(S4 I p s.Coefs c)->(At I ad [vI x])->RT 160 [vA (cAff s p c),.pointer (some ad)] I [] (zT  r):=by
 intro s x r N I p c ad h ar;unfold oC at N;refine yJ func160 fun B=>?_;have H:=iS I;refine yE<|tO (cAff s p c) ?_;intro b hb;refine wG [] []<|zG<|zZ ?_;refine wO N [] (fun t3=>[(3,.bool t3)]) (fun o0 aD=>?_) ?_
 · have H:=iS I;obtain ⟨y,hy,N⟩:=zB aD;cases hc:(!y) with
   | true =>
    have hM0:=sQ hc N;refine wQ [.p (vA (cAff s p c)) [0],.q (.bool y),.q vY,.q vY,.p undef [],.p undef [],.p undef [],.p undef [],.p vY []] [[],[(0,false)],[(1,false)],[(2,false)],[(3,false)],[(3,false),(4,false)],[(3,false)],[(3,false),(5,false),(6,false)],[(3,false),(7,false)]] [hB b (cAff s p c)] [] [(8,false)] (zY [0]) ?_ ?_
    · refine Op<|Oq ?_<|Oq ?_<|Oq ?_<|Op<|Op<|Op<|Op<|Op<|On
      · intro I1 hf af;refine yT [4] rfl ?_;have H:=iS I1;have h:=h.mono af;refine vQ (mQ s _ hy h) ?_;intro aW le;have H:=H.trans le;exact xC H
      · intro I1 hf af;refine yT [5] rfl<|mE 3 [(6,.bool (!y))] ?_;rw [hc];exact xC iR
      intro I1 hf af;exact I_h [(6,vY)]<|mE 4 [(7,vY)]<|xC iR
    intro ba af;refine I_h [(12,vY)] ?_;have H:=H.trans af;exact wG [] [(3,vY)]<|xQ zQ<|yL<|zU (ct hM0 H)
   | false =>
    have hM01:=tH hc N;obtain ⟨y1,aB,N⟩:=zB hM01;refine wQ [.p (vA (cAff s p c)) [0],.q (.bool y),.q vF,.q vF,.p (vA (cAff s p c)) [0],.q (vI y1),.q (vI x),.p (.bool (decide (y1>x))) [],.p (.bool (decide (y1>x))) []] [[],[(0,false)],[(1,false)],[(2,false)],[(3,false)],[(3,false),(4,false)],[(3,false)],[(3,false),(5,false),(6,false)],[(3,false),(7,false)]] [hB b (cAff s p c)] [] [(8,false)] (zY [0]) ?_ ?_
    · refine Op<|Oq ?_<|Oq ?_<|Oq ?_<|Op<|Oq ?_<|Oq ?_<|Op<|Op<|On
      · intro I1 hf af;refine yT [4] rfl ?_;have H:=iS I1;have h:=h.mono af;refine vQ (mQ s _ hy h) ?_;intro aW le;have H:=H.trans le;exact xC H
      · intro I1 hf af;refine yT [5] rfl<|mE 3 [(6,.bool (!y))] ?_;rw [hc];exact xC iR
      · intro I1 hf af;exact I_h [(6,vF)]<|mE 4 [(7,vF)]<|xC iR
      · intro I1 hf af;refine yT [7,8] rfl ?_;have H:=iS I1;have h:=h.mono af;refine fK (fY s _ aB h) ?_;intro bH aF;have H:=H.trans aF;exact xC H
      intro I1 hf af;refine yT [1,7] rfl ?_;have ar:=ar.mono af;exact xB 0 ar [vI x] (vI x) rfl<|xC iR
    intro bL aK;refine yT [12] rfl ?_;have H:=H.trans aK;exact yH [] [3] rfl<|xQ zQ<|yL<|zU (ct N H)
 intro t3 I0 bk aU;refine zG<|yW ?_;obtain rfl:=zC aU;exact wI
def kU (a0:zL) (aa:Int):Option (Bool):=do
 let t4<-(do
   let y<-jV a0.Array
   if y then
    let y1<-wB (a0.Subs.length:Int) 1 2
    if y1 then
     let y2<-xM a0.Subs (fun x0=>oC x0 aa)
     pure (!y2)
    else
     pure false
   else
    pure false
     : Option Bool)
 pure (id t4)
theorem zBy:∀ a0 aa r,kU a0 aa=some r->∀ {I:Imm}{p c},(S4 I p a0.Subs c)->RT 120 [vA (cAccess a0 p c),vI aa] I [] (zT  r):=by
 intro a0 aa r N I p c h;unfold kU at N;refine yJ func120 fun B=>?_;have H:=iS I;refine yE<|tO (cAccess a0 p c) ?_;intro b hb;refine tO [vI aa] ?_;intro b1 hb1;refine xH 0 rfl ?_;intro I0 le hl0;have ar:At I0 ⟨b1,0,none⟩ [vI aa]:=At.of_blk hl0;have ⟨h,H⟩:=m2 le h H;refine wG [] []<|zG<|zZ ?_;refine wO N [] (fun t4=>[(4,.bool t4)]) (fun o0 aD=>?_) ?_
 · have H:=iS I0;refine zJ<|yB 2 [0] [6] rfl ?_;obtain ⟨y,hy,N⟩:=zB aD;refine vQ (mK a0.Array _ hy ) ?_;intro ba af;have ⟨ar,h,H⟩:=m3 af ar h H;refine yB 4 [] [8] rfl<|xV [8] N ?_ ?_
   · intro hc N;refine yB 7 [0] [11] rfl<|bE N fun y1 aB N=>vQ (wH (a0.Subs.length:Int) 1 2 _ aB ) ?_;intro bH aF;have ⟨ar,h,H⟩:=m3 aF ar h H;refine yB 10 [] [14] rfl<|xV [14] N ?_ ?_
     · intro aI N;refine yB 13 [0] [16,17] rfl ?_;have hf0:FV1 Tryz.prog bH [] (.func (.func 160) ⟨[]⟩ ⟨[vP b1 0]⟩) (fun x0=>oC x0 aa):=by
         refine FV1.intro ?_;intro I1 af x0 r u0 hF k0;obtain ⟨_,rfl,k0⟩:=k0;obtain ⟨p1,c1,rfl,h3⟩:=yQ k0;exact (zE5 x0 aa r hF h3 (ar.mono af)).mono (by rintro k i hs u ⟨v0,rfl,rfl,h⟩; exact ⟨rfl,h⟩)
       obtain ⟨y2,aN,N⟩:=zB N;refine xL (qS a0.Subs (fun x0=>oC x0 aa) _ aN h hf0) ?_;rintro bL ay v2 k2 aK - ⟨v03,rfl,rfl,rfl⟩ -;have H:=H.trans aK;exact yH [] [4] rfl<|xQ zQ<|yL<|zU (ct N H)
     intro aI N;exact wG [] [(4,vF)]<|xQ zQ<|yL<|zU (ct N H)
   intro hc N;exact wG [] [(4,vF)]<|xQ zQ<|yL<|zU (ct N H)
 intro t4 aW bk aU;refine zG<|yW ?_;obtain rfl:=zC aU;exact wI
def kV (a0:zA):Option (Bool):=do
 let t2<-(do
   if ((a0.Coefs.length:Int)==0) then
    pure (a0.Const==0)
   else
    pure false
     : Option Bool)
 pure (id t2)
theorem zBz:∀ a0 r,kV a0=some r->∀ {I:Imm}{p c},(S4 I p a0.Coefs c)->RT 163 [vA (cAff a0 p c)] I [] (zT  r):=by
 intro a0 r N I p c h;unfold kV at N;refine yJ func163 fun B=>?_;have H:=iS I;refine yE<|tO (cAff a0 p c) ?_;intro b hb;refine wG [] []<|zG<|zZ ?_;refine wO N [] (fun t2=>[(2,.bool t2)]) (fun o0 aD=>?_) ?_
 · have H:=iS I;refine zJ<|yB 5 [0] [7] rfl<|xV [7] aD ?_ ?_
   · intro hc N;exact yH [0] [2] rfl<|xQ zQ<|yL<|zU (ct N H)
   intro hc N;exact wG [] [(2,vF)]<|xQ zQ<|yL<|zU (ct N H)
 intro t2 I0 le aU;refine zG<|yW ?_;obtain rfl:=zC aU;exact wI
end Go.LN
