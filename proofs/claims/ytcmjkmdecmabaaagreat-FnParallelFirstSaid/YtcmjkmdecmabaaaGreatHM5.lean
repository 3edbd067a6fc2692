/- Helper of the proof (see the last text). -/
import Derived.Test.YtcmjkmdecmabaaaGreatHM4
set_option linter.unusedVariables false
set_option linter.unusedSimpArgs false
namespace Go.LN
open Go.Proofs Go.Proofs.Tryz
set_option maxRecDepth 20000
def zBB (b0:Nat) (r:zN×zK):KT:=fun kk I' ah v=>
  ∃ v0 k0,ah=[.blk b0 ⟨k0⟩]/\v=tupV [v0]/\(∃ cs,v0=.agg ⟨cs⟩/\Rp.rep I' cs r.1)/\Rp.rep I' k0 r.2
def oF (y1:(List zE)) (Body2:List zO) (n0:Int) (x6:zK):Option ((List zO×zK)):=do
 if (decide (n0<5)) then
  let (y7,y8)<-fB x6 (y1.length:Int)
  let y9<-mX
  let (y11,y12)<-oR y9 (zN.mk y1 ([y7]:List zO))
  if y12 then
   let l<-app 152 Body2 ([y7]:List zO)
   pure (l,y8)
  else
   oF y1 Body2 (W (n0+1)) y8
 else
  pure (Body2,x6)
 partial_fixpoint
theorem zEJ (y1:(List zE)) (Body2:List zO):∀ (n0:Int) (x6:zK) (o:(List zO×zK)),oF y1 Body2 n0 x6=some o->∀ {B}{I0 I:Imm}{Q}{i:Int}{x:zN}{k0:Int}{ar:Nat}{b:Nat}{p1 c1 p2 c2 p7 c7}{b1:Nat}{p14 c14 aQ p15 c15},I0.le I->(S4 I p7 y1 c7)->(S4 I p1 x.Nest c1)->(S4 I p2 x.Body c2)->(RL I aQ Body2)->(S4 I p15 x6.b c15)->NG Q->NO Q->(∀ (I':Imm) (Body3:List zO) (x7:zK) (p16:Option Addr) (c16:Nat) (aR:List Value) (p17:Option Addr) (c17:Nat),o=(Body3,x7)->I0.le I'->(RL I' aR Body3)->(S4 I' p17 x7.b c17)->T 81 B Q (.exit 4) I' [hO zO (vS p16 Body3 c16) aR,hB ar (cRd x7 p17 c17),hB b1 [vS p7 y1 c7,vS p16 Body3 c16],hB b (cPart x p1 c1 p2 c2)] [(0,vP ar 0),(2,vP b 0),(3,vI i),(4,vP b1 0),(5,vI k0)])->J Tryz.prog 81 B (nav (bodyOf f178) [1,0,1,0,0,1,0,0,1,0,1,0,0,1,0,0,1,0]) Q I [hO zO (vS p14 Body2 c14) aQ,hB ar (cRd x6 p15 c15),hB b1 [vS p7 y1 c7,vS p14 Body2 c14],hB b (cPart x p1 c1 p2 c2)] [(0,vP ar 0),(2,vP b 0),(3,vI i),(4,vP b1 0),(5,vI k0),(6,vI n0)]:=by
 refine oF.partial_correctness y1 Body2 _ fun aH ih n0 x6 o N B I0 I Q i x k0 ar b p1 c1 p2 c2 p7 c7 b1 p14 c14 aQ p15 c15 H h7 h1 h2 h20 h21 hg ho hx=>yR hg ho<|yB<|yG [31] rfl<|zI<|yF N ?_ ?_
 · intro aY N;refine zT<|yA<|yH<|yE<|yC 4 [2] [34,37] rfl<|tO (zY [1,0,2,3] (ah:=[hB ar (cRd x6 p15 c15),hO zO (vS p14 Body2 c14) aQ,hB b1 [vS p7 y1 c7,vS p14 Body2 c14],hB b (cPart x p1 c1 p2 c2)])) ?_;obtain ⟨⟨y7,y8⟩,aJ,N⟩:=zB N;refine tM (zG4 x6 (y1.length:Int) _ aJ h21) rfl ?_;rintro bC aw v2 k2 aD - ⟨v04,kk2,rfl,rfl,⟨bz,rfl,h24⟩,h25⟩ -;have ⟨h20,h7,h1,h2,H⟩:=m5 aD h20 h7 h1 h2 H;obtain ⟨p18,c18,p19,c19,p20,c20,p21,c21,rfl,h26,h27,h28,h29⟩:=qS h24;obtain ⟨p22,c22,rfl,h30⟩:=zZ h25;refine wL [vT ([]),z0,vI 0,vI 0,z0,vI 0,vT ([]),z0,z0] ?_;intro b3 hb3;refine xH 0 (cStmt y7 p18 c18 p19 c19 p20 c20 p21 c21) rfl<|yD rfl<|zI<|yB ?_;obtain ⟨y9,bf,N⟩:=zB N;obtain ⟨⟨y11,y12⟩,bw,N⟩:=zB N;refine vC [.x (eS y9),.p (vP b1 0) [],.p (vS p7 y1 c7) [3],.p (vA (cStmt y7 p18 c18 p19 c19 p20 c20 p21 c21)) [0],.x (fun I' v hx=>∃ b4,v=vS (some ⟨b4,0,none⟩) ([y7]:List zO) 1/\hx=[]/\(SL I' (vS (some ⟨b4,0,none⟩) ([y7]:List zO) 1) ([y7]:List zO))),.x (fun I' v hx=>∃ b41,v=vA [vS p7 y1 c7,vS (some ⟨b41,0,none⟩) ([y7]:List zO) 1]/\hx=[]/\(SL I' (vS (some ⟨b41,0,none⟩) ([y7]:List zO) 1) ([y7]:List zO))),.q (.tuple ⟨[vI y11,.bool y12]⟩),.p (.tuple ⟨[vI y11,.bool y12]⟩) [],.p (vI y11) [],.p (.bool y12) [],.p (vI y11) []] [[],[],[(1,false)],[],[(3,false)],[(2,false),(4,false)],[(0,false),(5,false)],[(6,false)],[(7,false)],[(7,false)],[(8,false)]] [hB b3 (cStmt y7 p18 c18 p19 c19 p20 c20 p21 c21),hB ar (cRd y8 p22 c22),hO zO (vS p14 Body2 c14) aQ,hB b1 [vS p7 y1 c7,vS p14 Body2 c14],hB b (cPart x p1 c1 p2 c2)] [] [(9,false)] (zY [0,1,2,3,4]) ?_ ?_
   · refine Ox ?_<|Op<|Op<|Op<|Ox ?_<|Ox ?_<|Oq ?_<|Op<|Op<|Op<|Op<|On
     · intro I1 hf af;refine dC [] ?_;have H:=iS I1;refine xM (fX  _ bf ) ?_;rintro bJ aw v2 k2 aW - ⟨v010,rfl,rfl,h31⟩ -;have H:=H.trans aW;obtain ⟨p23,c23,rfl⟩:=h31.form;exact yQ [] H ⟨_,_,rfl,rfl,h31⟩
     · intro I1 hf af;refine yW [43] rfl ?_;have H:=iS I1;have ⟨h26,h27,h28,h29⟩:=m4 af h26 h27 h28 h29;refine nC (rc y7 (wM ⟨_,_,_,_,rfl,h26,h27,h28,h29⟩) rN) ?_;intro b4 bN bt h33;have H:=H.trans bt;exact yQ [] H ⟨_,rfl,rfl,h33⟩
     · rintro I1 hf af _ _ ⟨rfl,rfl⟩ _ _ ⟨b4,rfl,rfl,h33⟩;refine yW [42,44] rfl ?_;exact oY 6 [(45,vA [vS p7 y1 c7,vS (some ⟨b4,0,none⟩) ([y7]:List zO) 1])]<|yQ [] iR ⟨_,rfl,rfl,h33⟩
     rintro I1 hf af _ _ ⟨p23,c23,rfl,rfl,h31⟩ _ _ ⟨b41,rfl,rfl,h331⟩;refine yW [40,45] rfl ?_;have H:=iS I1;have h7:=h7.mono af;refine xM (zAH y9 (zN.mk y1 ([y7]:List zO)) _ bw h31 h7 h331) ?_;rintro I06 aw v2 k2 bv - ⟨v011,v012,rfl,rfl,rfl,rfl⟩ -;have H:=H.trans bv;exact xE H
   intro I07 le7;refine yW [0,2,3,4,5,6,7,48] rfl ?_;have ⟨h26,h27,h28,h29,h30,h20⟩:=m6 le7 h26 h27 h28 h29 h30 h20;have ⟨h7,h1,h2,H⟩:=m4 le7 h7 h1 h2 H;refine yI [] [9] rfl<|vK [49] rfl<|zI<|yF N ?_ ?_
   · intro bG N;refine yE<|rY 3 [3,0] [(51,vS p14 Body2 c14),(52,vA (cStmt y7 p18 c18 p19 c19 p20 c20 p21 c21))]<|uD (cStmt y7 p18 c18 p19 c19 p20 c20 p21 c21) zO ?_;intro b5 hb5;have h36:RL I07 (cStmt y7 p18 c18 p19 c19 p20 c20 p21 c21) ([y7]:List zO):=⟨(cStmt y7 p18 c18 p19 c19 p20 c20 p21 c21),_,rfl,rfl,(wM ⟨_,_,_,_,rfl,h26,h27,h28,h29⟩),rfl⟩;obtain ⟨l,bH,N⟩:=zB N;refine sC 100 9 3 rfl rfl rfl h20 (.inr ⟨0,rfl⟩) h36 bH ?_;intro p24 c24 bD h37;exact tO (zY [1,2,3,4,5] (ah:=[hB b3 (cStmt y7 p18 c18 p19 c19 p20 c20 p21 c21),hB ar (cRd y8 p22 c22),hO zO (vS p24 l c24) bD,hB b1 [vS p7 y1 c7,vS p14 Body2 c14],hB b (cPart x p1 c1 p2 c2)]))<|yC 6 [] [55] rfl<|xH 3 [vS p7 y1 c7,vS p24 l c24] rfl<|yD rfl<|zI<|zEb<|zHI rfl<|jB<|jB<|xQ (zX [2,1,3,4] rfl (by decide))<|yL<|hx _ _ _ _ _ _ _ _ (zC N).symm H h37 h30
   intro bG N;exact zT<|zP<|zI<|zM<|yI [] [6] rfl<|yP<|nX (zX [2,1,3,4] rfl (by decide))<|nN<|ih (W (n0+1)) y8 _ N H h7 h1 h2 h20 h30 hg ho hx
 intro aY N;exact wR<|yL<|hx _ _ _ _ _ _ _ _ (zC N).symm H h20 h21
def oG (y1:(List zE)) (k0:Int) (Body:List zO) (x4:zK):Option ((List zO×zK)):=do
 if (decide (k0>0)) then
  let (Body3,x7)<-oF y1 Body 0 x4
  oG y1 (W (k0 - 1)) Body3 x7
 else
  pure (Body,x4)
 partial_fixpoint
theorem zEK (y1:(List zE)):∀ (k0:Int) (Body:List zO) (x4:zK) (o:(List zO×zK)),oG y1 k0 Body x4=some o->∀ {B}{I0 I:Imm}{Q}{i:Int}{x:zN}{ar:Nat}{b:Nat}{p1 c1 p2 c2 p7 c7}{b1:Nat}{aV bc cs aN aZ},I0.le I->(S4 I p7 y1 c7)->(S4 I p1 x.Nest c1)->(S4 I p2 x.Body c2)->(RL I cs Body)->(S4 I aN x4.b aZ)->NG Q->NO Q->(∀ (I':Imm) (bm:List zO) (x5:zK) (bB:Option Addr) (bk:Nat) (ay:List Value) (bj:Option Addr) (bo:Nat),o=(bm,x5)->I0.le I'->(RL I' ay bm)->(S4 I' bj x5.b bo)->T 81 B Q (.exit 2) I' [hO zO (vS bB bm bk) ay,hB ar (cRd x5 bj bo),hB b1 [vS p7 y1 c7,vS bB bm bk],hB b (cPart x p1 c1 p2 c2)] [(0,vP ar 0),(2,vP b 0),(3,vI i),(4,vP b1 0)])->J Tryz.prog 81 B (nav (bodyOf f178) [1,0,1,0,0,1,0,0,1,0,1,0]) Q I [hO zO (vS aV Body bc) cs,hB ar (cRd x4 aN aZ),hB b1 [vS p7 y1 c7,vS aV Body bc],hB b (cPart x p1 c1 p2 c2)] [(0,vP ar 0),(2,vP b 0),(3,vI i),(4,vP b1 0),(5,vI k0)]:=by
 refine oG.partial_correctness y1 _ fun aH ih k0 Body x4 o N B I0 I Q i x ar b p1 c1 p2 c2 p7 c7 b1 aV bc cs aN aZ H h7 h1 h2 h16 h17 hg ho hx=>yR hg ho<|yB<|yG [27] rfl<|zI<|yF N ?_ ?_
 · intro aE N;refine zT<|yA<|yH<|yG [6] rfl<|xX<|qP [(0,vP ar 0),(2,vP b 0),(3,vI i),(4,vP b1 0),(5,vI k0),(6,vI 0)] ?_;obtain ⟨o0,aB,aI⟩:=zB N;refine zEJ y1 Body 0 x4 o0 aB iR h7 h1 h2 h16 h17 (fun _ _ _ h=>hg _ _ _ h) (fun _ _ h=>ho _ _ h) ?_;intro I08 Body3 x7 p16 c16 aR p17 c17 heq le8 h22 h23;subst o0;have ⟨h7,h1,h2,H⟩:=m4 le8 h7 h1 h2 H;exact zS<|zP<|zI<|zM<|yI [] [5] rfl<|yP<|nN<|ih (W (k0 - 1)) Body3 x7 _ aI H h7 h1 h2 h22 h23 hg ho hx
 intro aE N;exact wR<|yL<|hx _ _ _ _ _ _ _ _ (zC N).symm H h16 h17
def oH (x:zN) (i:Int) (x1:zK):Option (Out (zN×zK) (zN×zK)):=do
 if (decide (i<4)) then
  let (y1,y2)<-fA x1
  let (y4,y5)<-yN y2 ([1,2,1,3]:List Int)
  let (bm,x5)<-oG y1 y4 ([]:List zO) y5
  let y13<-mX
  let (y15,y16)<-oR y13 (zN.mk y1 bm)
  let t66<-(do
    if y16 then
     pure (decide (y15<=40))
    else
     pure false
      : Option Bool)
  if t66 then
   pure (.ret ((zN.mk y1 bm),x5))
  else
   oH x (W (i+1)) x5
 else
  pure (.done (x,x1))
 partial_fixpoint
theorem zEL (x:zN):∀ (i:Int) (x1:zK) (o:Out (zN×zK) (zN×zK)),oH x i x1=some o->∀ {B}{I0 I:Imm}{Q}  {ar:Nat}{b:Nat}{p1 c1 p2 c2 p3 c3},I0.le I->(S4 I p1 x.Nest c1)->(S4 I p2 x.Body c2)->(S4 I p3 x1.b c3)->NG Q->NO Q->(∀ (I':Imm) (x2:zN) (x3:zK) (p4:Option Addr) (c4:Nat) (p5:Option Addr) (c5:Nat) (p6:Option Addr) (c6:Nat),o=(.done (x2,x3))->I0.le I'->(S4 I' p4 x2.Nest c4)->(S4 I' p5 x2.Body c5)->(S4 I' p6 x3.b c6)->T 81 B Q (.exit 0) I' [hB b (cPart x2 p4 c4 p5 c5),hB ar (cRd x3 p6 c6)] [(2,vP b 0)])->(∀ r I' ah m',o=(.ret r)->I0.le I'->RS Tryz.prog f178 B (zBB ar r) I' ah m'->T 81 B Q .ret I' ah m')->J Tryz.prog 81 B (nav (bodyOf f178) [1,0,1,0]) Q I [hB b (cPart x p1 c1 p2 c2),hB ar (cRd x1 p3 c3)] [(0,vP ar 0),(2,vP b 0),(3,vI i)]:=by
 refine oH.partial_correctness x _ fun aH ih i x1 o N B I0 I Q ar b p1 c1 p2 c2 p3 c3 H h1 h2 h3 hg ho hx hr=>yR hg ho<|yB<|yG [17] rfl<|zI<|yF N ?_ ?_
 · intro hc N;refine zT<|yA<|yH<|yE<|yC 1 [] [20] rfl<|tO (zY [1,0] (ah:=[hB ar (cRd x1 p3 c3),hB b (cPart x p1 c1 p2 c2)])) ?_;obtain ⟨⟨y1,y2⟩,hy,N⟩:=zB N;refine tM (zG2 x1 _ hy h3) rfl ?_;rintro I0 aw v2 k2 le - ⟨v0,kk,rfl,rfl,h7,h8⟩ -;have ⟨h1,h2,H⟩:=m3 le h1 h2 H;obtain ⟨p7,c7,rfl⟩:=h7.form;obtain ⟨p8,c8,rfl,h9⟩:=zZ h8;refine yC 3 [] [22] rfl<|wL zTwo ?_;intro b1 hb1;refine xH 0 [vS p7 y1 c7,z0] rfl<|yD rfl<|yA<|yE<|yC 1 [] [23] rfl<|nC (rI [1,2,1,3]) ?_;intro b2 aT af h11;have ⟨h7,h9,h1,h2,H⟩:=m5 af h7 h9 h1 h2 H;refine tO (zY [1,0,2] (ah:=[hB ar (cRd y2 p8 c8),hB b1 [vS p7 y1 c7,z0],hB b (cPart x p1 c1 p2 c2)])) ?_;obtain ⟨⟨y4,y5⟩,aA,N⟩:=zB N;refine tM (yT y2 ([1,2,1,3]:List Int) _ aA h9 h11) rfl ?_;rintro aU aw v2 k2 aC - ⟨v02,kk1,rfl,rfl,rfl,h13⟩ -;have ⟨h7,h1,h2,H⟩:=m4 aC h7 h1 h2 H;obtain ⟨p9,c9,rfl,h14⟩:=zZ h13;refine yI [] [5] rfl<|xX<|qP [(0,vP ar 0),(2,vP b 0),(3,vI i),(4,vP b1 0),(5,vI y4)]<|dR zO fun h15=>?_;obtain ⟨aM,az,hMl1⟩:=zB N;refine zEK y1 y4 ([]:List zO) y5 aM az iR h7 h1 h2 h15 h14 (fun _ _ _ h=>hg _ _ _ h) (fun _ _ h=>ho _ _ h) ?_;intro I09 bm x5 bB bk ay bj bo heq1 le9 h18 h19;subst aM;have ⟨h7,h1,h2,H⟩:=m4 le9 h7 h1 h2 H;refine zS<|yA<|rL 0 rfl ?_;intro bP le10 hl02;have h38:=SL.of_frozen hl02 le10 h18;have ⟨h19,h7,h1,h2,H⟩:=m5 le10 h19 h7 h1 h2 H;obtain ⟨y13,hy6,N⟩:=zB hMl1;obtain ⟨⟨y15,y16⟩,hy7,N⟩:=zB N;refine vC [.x (eS y13),.p (vA [vS p7 y1 c7,vS bB bm bk]) [1],.q (.tuple ⟨[vI y15,.bool y16]⟩),.p (.tuple ⟨[vI y15,.bool y16]⟩) [],.p (vI y15) [],.p (.bool y16) [],.p (vI y15) []] [[],[],[(0,false),(1,false)],[(2,false)],[(3,false)],[(3,false)],[(4,false)]] [hB ar (cRd x5 bj bo),hB b1 [vS p7 y1 c7,vS bB bm bk],hB b (cPart x p1 c1 p2 c2)] [] [(5,false),(6,false)] (zY [0,1,2]) ?_ ?_
   · refine Ox ?_<|Op<|Oq ?_<|Op<|Op<|Op<|Op<|On
     · intro I1 hf af;refine dC [] ?_;have H:=iS I1;refine xM (fX  _ hy6 ) ?_;rintro bV aw v2 k2 le11 - ⟨v013,rfl,rfl,h39⟩ -;have H:=H.trans le11;obtain ⟨p25,c25,rfl⟩:=h39.form;exact yQ [] H ⟨_,_,rfl,rfl,h39⟩
     rintro I1 hf af _ _ ⟨p25,c25,rfl,rfl,h39⟩;refine yW [57,58] rfl ?_;have H:=iS I1;have ⟨h7,h38⟩:=m2 af h7 h38;refine xM (zAH y13 (zN.mk y1 bm) _ hy7 h39 h7 h38) ?_;rintro bW aw v2 k2 le12 - ⟨v014,v015,rfl,rfl,rfl,rfl⟩ -;have H:=H.trans le12;exact xE H
   intro I013 le13;refine yW [0,2,3,4,10,61] rfl ?_;have ⟨h19,h7,h38,h1,h2,H⟩:=m6 le13 h19 h7 h38 h1 h2 H;refine yI [] [11] rfl<|zI<|yB ?_;refine wS N [hB ar (cRd x5 bj bo),hB b1 [vS p7 y1 c7,vS bB bm bk],hB b (cPart x p1 c1 p2 c2)] (fun t66=>[(0,vP ar 0),(2,vP b 0),(3,vI i),(4,vP b1 0),(66,.bool t66)]) (fun o02 ho02=>?_) ?_
   · have H:=iS I013;refine zM<|yC 2 [] [63] rfl<|xS [63] ho02 ?_ ?_
     · intro bM N;exact yI [] [66] rfl<|yL<|zU (ct N H)
     intro bM N;exact wB [] [(66,vF)]<|yL<|zU (ct N H)
   intro t66 I014 le14 aS;have ⟨h19,h7,h38,h1,h2,H⟩:=m6 le14 h19 h7 h38 h1 h2 H;refine zI<|yF aS ?_ ?_
   · intro hc5 N;exact yE<|rY 1 [1] [(67,vA [vS p7 y1 c7,vS bB bm bk])]<|xH 2 [vS p7 y1 c7,vS bB bm bk] rfl<|yD rfl<|xC<|zW<|zH<|zH<|hr _ _ _ _ (zC N).symm H ⟨_,_,(.cell 2 rfl rfl (by kernel_rfl) ResV.nil),(zX [0] rfl (by decide)),⟨_,_,rfl,rfl,⟨_,rfl,(rO ⟨_,_,rfl,h7,h38⟩)⟩,(yO ⟨_,rfl,h19⟩)⟩⟩
   intro hc5 N;exact zT<|zP<|zI<|zM<|yI [] [3] rfl<|yP<|nX (zX [2,0] rfl (by decide))<|nN<|ih (W (i+1)) x5 _ N H h1 h2 h19 hg ho hx hr
 intro hc N;exact wR<|yL<|hx _ _ _ _ _ _ _ _ _ (zC N).symm H h1 h2 h3
def fC (r0:zK):Option (zN×zK):=do
 match<-oH (zN.mk ([]:List zE) ([]:List zO)) 0 r0 with
 | .ret r0=>pure r0
 | .done (x2,x3) =>
  let (y18,y19)<-nU (⟨[65,91,105,93,61,40,65,91,105,93,43,123,105,125,41]⟩:Str)
  let (y21,y22)<-gJ ([4]:List Int)
  pure ((zN.mk y21 ([y18]:List zO)),x3)
theorem zG5:∀ r0 r,fC r0=some r->∀ {I:Imm}{ar:Nat}{p c},(S4 I p r0.b c)->RT 178 [vP ar 0] I [hB ar (cRd r0 p c)] (zBB ar r):=by
 intro r0 r N I ar p c h;unfold fC at N;refine yJ func178 fun B=>yE<|wL zTwo ?_;intro b hb;refine yD rfl<|yA<|yG [3] rfl<|xX<|qP [(0,vP ar 0),(2,vP b 0),(3,vI 0)] ?_;obtain ⟨o03,ho03,hMl2⟩:=zB N;refine zEL (zN.mk ([]:List zE) ([]:List zO)) 0 r0 o03 ho03 iR (SL.nil _) (SL.nil _) h (fun _ _ _ h=>h) (fun _ _ h=>h) ?_ ?_
 · intro I015 x2 x3 p4 c4 p5 c5 p6 c6 heq3 le15 h4 h5 h6;subst o03;refine zS<|yA<|zM ?_;obtain ⟨⟨y18,y19⟩,hy8,N⟩:=zB hMl2;refine xM (zA3 (⟨[65,91,105,93,61,40,65,91,105,93,43,123,105,125,41]⟩:Str) _ hy8 ) ?_;rintro I016 aw v2 k2 le16 - ⟨v016,v017,rfl,rfl,⟨cs6,rfl,h42⟩,rfl⟩ -;have h6:=h6.mono le16;obtain ⟨p26,c26,p27,c27,p28,c28,p29,c29,rfl,h44,h45,h46,h47⟩:=qS h42;refine yC 4 [] [70,71] rfl<|wL [vT ([]),z0,vI 0,vI 0,z0,vI 0,vT ([]),z0,z0] ?_;intro b6 hb6;refine xH 0 (cStmt y18 p26 c26 p27 c27 p28 c28 p29 c29) rfl<|wB [] []<|yV<|nC (rI [4]) ?_;intro b7 I017 le17 h49;have ⟨h44,h45,h46,h47,h6⟩:=m5 le17 h44 h45 h46 h47 h6;obtain ⟨⟨y21,y22⟩,hy9,N⟩:=zB N;refine xM (zFh ([4]:List Int) _ hy9 h49) ?_;rintro I018 aw v2 k2 le18 - ⟨v022,v023,rfl,rfl,h50,rfl⟩ -;have ⟨h44,h45,h46,h47,h6⟩:=m5 le18 h44 h45 h46 h47 h6;obtain ⟨p30,c30,rfl⟩:=h50.form;refine yI [] [14] rfl<|yV<|rY 2 [0] [(77,vS p30 y21 c30),(78,vA (cStmt y18 p26 c26 p27 c27 p28 c28 p29 c29))]<|uD (cStmt y18 p26 c26 p27 c27 p28 c28 p29 c29) zO ?_;intro b8 hb8;have h52:RL I018 (cStmt y18 p26 c26 p27 c27 p28 c28 p29 c29) ([y18]:List zO):=⟨(cStmt y18 p26 c26 p27 c27 p28 c28 p29 c29),_,rfl,rfl,(wM ⟨_,_,_,_,rfl,h44,h45,h46,h47⟩),rfl⟩;refine yC 4 [] [80] rfl<|xH 2 [vS p30 y21 c30,vS (some ⟨b8,0,none⟩) ([y18]:List zO) 1] rfl<|yD rfl<|xC<|yU 0 rfl ?_;intro I019 le19 hl04;have h53:=SL.of_frozen hl04 le19 h52;have ⟨h50,h6⟩:=m2 le19 h50 h6;obtain rfl:=zC N;exact xA ⟨_,_,(.cell 1 rfl rfl (by kernel_rfl) ResV.nil),(zX [2] rfl (by decide)),⟨_,_,rfl,rfl,⟨_,rfl,(rO ⟨_,_,rfl,h50,h53⟩)⟩,(yO ⟨_,rfl,h6⟩)⟩⟩
 intro r0 I9 hs9 m9 aX le9 ba;subst aX;refine zW<|zH ?_;obtain rfl:=zC hMl2;exact xA ba
def zFG (b0:Nat) (r:zD×zK):KT:=fun kk I' ah v=>
  ∃ v0 k0,ah=[.blk b0 ⟨k0⟩]/\v=tupV [v0]/\(∃ cs,v0=.agg ⟨cs⟩/\Rp.rep I' cs r.1)/\Rp.rep I' k0 r.2
def oI (i:Int) (Parts:List zN) (x:zK):Option ((List zN×zK)):=do
 if (decide (i>0)) then
  let (y5,y6)<-fC x
  let l<-app 48 Parts ([y5]:List zN)
  oI (W (i - 1)) l y6
 else
  pure (Parts,x)
 partial_fixpoint
theorem zEM :∀ (i:Int) (Parts:List zN) (x:zK) (o:(List zN×zK)),oI i Parts x=some o->∀ {B}{I0 I:Imm}{Q}{y:(List zF)}{ar:Nat}{b:Nat}{p1 c1}{b1:Nat}{p3 c3 cs p4 c4},I0.le I->(S4 I p1 y c1)->(RL I cs Parts)->(S4 I p4 x.b c4)->NG Q->NO Q->(∀ (I':Imm) (bb:List zN) (x1:zK) (p5:Option Addr) (c5:Nat) (ay:List Value) (p6:Option Addr) (c6:Nat),o=(bb,x1)->I0.le I'->(RL I' ay bb)->(S4 I' p6 x1.b c6)->T 29 B Q (.exit 0) I' [hO zN (vS p5 bb c5) ay,hB ar (cRd x1 p6 c6),hB b1 [vS p1 y c1,vS p5 bb c5],hB b zTwo] [(2,vP b 0),(3,vP b1 0)])->J Tryz.prog 29 B (nav (bodyOf f138) [1,1,0,1,0]) Q I [hO zN (vS p3 Parts c3) cs,hB ar (cRd x p4 c4),hB b1 [vS p1 y c1,vS p3 Parts c3],hB b zTwo] [(0,vP ar 0),(2,vP b 0),(3,vP b1 0),(4,vI i)]:=by
 refine oI.partial_correctness  _ fun aH ih i Parts x o N B I0 I Q y ar b p1 c1 b1 p3 c3 cs p4 c4 H h1 h8 h9 hg ho hx=>yR hg ho<|yB<|yG [11] rfl<|zI<|yF N ?_ ?_
 · intro hc N;refine zT<|yA<|yH ?_;obtain ⟨⟨y5,y6⟩,aJ,N⟩:=zB N;obtain ⟨l,bf,N⟩:=zB N;refine vC [.p (vP b1 1) [],.p (vS p3 Parts c3) [0],.p (vP ar 0) [],.x (fun I' v hx=>∃ p7 c7 p8 c8 p9 c9,v=vA (cPart y5 p7 c7 p8 c8)/\hx=[hB ar (cRd y6 p9 c9)]/\(S4 I' p7 y5.Nest c7)/\(S4 I' p8 y5.Body c8)/\(S4 I' p9 y6.b c9)),.x (fun I' v hx=>∃ b3,v=vS (some ⟨b3,0,none⟩) ([y5]:List zN) 1/\hx=[]/\(SL I' (vS (some ⟨b3,0,none⟩) ([y5]:List zN) 1) ([y5]:List zN))),.x (fun I' v hx=>∃ aV bc aR,v=vS aV l bc/\hx=[hO zN (vS aV l bc) aR]/\(RL I' aR l))] [[],[(0,false)],[],[(2,false),(8,true)],[(3,false)],[(1,false),(4,false),(9,true)]] [hB b1 [vS p1 y c1,vS p3 Parts c3],hB b zTwo] [[hB ar (cRd x p4 c4)],[hO zN (vS p3 Parts c3) cs]] [(3,true),(5,true)] (zY [2,3,1,0]) ?_ ?_
   · refine Op<|Op<|Op<|Ox ?_<|Ox ?_<|Ox ?_<|On
     · rintro I1 hf af _ _ ⟨rfl,rfl⟩ _ _ rfl;refine yW [16] rfl ?_;have H:=iS I1;have h9:=h9.mono af;refine tM (zG5 x _ aJ h9) rfl ?_;rintro bC aw v2 k2 aD - ⟨v03,kk1,rfl,rfl,⟨aQ,rfl,h12⟩,h13⟩ -;have H:=H.trans aD;obtain ⟨p7,c7,p8,c8,rfl,h14,h15⟩:=wQ h12;obtain ⟨p9,c9,rfl,h16⟩:=zZ h13;exact yQ [hB ar (cRd y6 p9 c9)] H ⟨_,_,_,_,_,_,rfl,rfl,h14,h15,h16⟩
     · rintro I1 hf af _ _ ⟨p7,c7,p8,c8,p9,c9,rfl,rfl,h14,h15,h16⟩;refine yW [17] rfl ?_;have H:=iS I1;refine nC (rc y5 (rO ⟨_,_,rfl,h14,h15⟩) rN) ?_;intro b3 bJ aW h18;have H:=H.trans aW;exact yQ [] H ⟨_,rfl,rfl,h18⟩
     rintro I1 hf af _ _ ⟨rfl,rfl⟩ _ _ ⟨b3,rfl,rfl,h18⟩ _ _ rfl;refine yW [15,18] rfl ?_;have h8:=iM af h8;obtain ⟨aK,k0,k01⟩:=h18;have h18:SL I1 (vS (some ⟨b3,0,none⟩) ([y5]:List zN) 1) ([y5]:List zN):=⟨_,k0,k01⟩;exact sC 47 2 0 rfl rfl rfl h8 (.inl k0) k01 bf fun aV bc aR h19=>wE (ah:=(hO zN (vS aV l bc) aR::hB b1 [vS p1 y c1,vS p3 Parts c3]::hB b zTwo::hf)) rfl<|yQ [hO zN (vS aV l bc) aR] iR ⟨_,_,_,rfl,rfl,h19⟩
   rintro bN bt _ _ ⟨p7,c7,p8,c8,p9,c9,rfl,rfl,h14,h15,h16⟩ _ _ ⟨aV,bc,aR,rfl,rfl,h19⟩;refine yW [0,2,3,4,19] rfl ?_;have ⟨h1,H⟩:=m2 bt h1 H;exact yC 7 [] [20] rfl<|xH 2 [vS p1 y c1,vS aV l bc] rfl<|yD rfl<|zP<|zI<|zM<|yI [] [4] rfl<|yP<|nN<|ih (W (i - 1)) l y6 _ N H h1 h19 h16 hg ho hx
 intro hc N;exact wR<|yL<|hx _ _ _ _ _ _ _ _ (zC N).symm H h8 h9
def fD (r0:zK):Option (zD×zK):=do
 let y<-mX
 let (y2,y3)<-yN r0 ([1,2,1,3]:List Int)
 let (bb,x1)<-oI y2 ([]:List zN) y3
 let y7<-uI (zD.mk y bb)
 if y7 then
  pure ((zD.mk y bb),x1)
 else
  let y8<-mX
  let l1<-slc bb 0 1
  pure ((zD.mk y8 l1),x1)
theorem zG6:∀ r0 r,fD r0=some r->∀ {I:Imm}{ar:Nat}{p c},(S4 I p r0.b c)->RT 138 [vP ar 0] I [hB ar (cRd r0 p c)] (zFG ar r):=by
 intro r0 r N I ar p c h;unfold fD at N;refine yJ func138 fun B=>?_;have H:=iS I;refine yE<|wL zTwo ?_;intro b hb;refine yD rfl<|yV<|bE N fun y hy N=>xM (fX  _ hy ) ?_;rintro I0 aw v2 k2 le - ⟨v0,rfl,rfl,h1⟩ -;have ⟨h,H⟩:=m2 le h H;obtain ⟨p1,c1,rfl⟩:=h1.form;refine yC 2 [] [6] rfl<|wL zTwo ?_;intro b1 hb1;refine xH 0 [vS p1 y c1,z0] rfl<|yD rfl<|yA<|yE<|yC 1 [] [7] rfl<|nC (rI [1,2,1,3]) ?_;intro b2 aT af h3;have ⟨h1,h,H⟩:=m3 af h1 h H;refine tO (zY [2,0,1] (ah:=[hB ar (cRd r0 p c),hB b1 [vS p1 y c1,z0],hB b zTwo])) ?_;obtain ⟨⟨y2,y3⟩,aA,N⟩:=zB N;refine tM (yT r0 ([1,2,1,3]:List Int) _ aA h h3) rfl ?_;rintro aU aw v2 k2 aC - ⟨v01,kk,rfl,rfl,rfl,h5⟩ -;have ⟨h1,H⟩:=m2 aC h1 H;obtain ⟨p2,c2,rfl,h6⟩:=zZ h5;refine yI [] [4] rfl<|xX<|qP [(0,vP ar 0),(2,vP b 0),(3,vP b1 0),(4,vI y2)]<|dR zN fun h7=>?_;obtain ⟨o0,aB,aI⟩:=zB N;refine zEM y2 ([]:List zN) y3 o0 aB iR h1 h7 h6 (fun _ _ _ h=>h) (fun _ _ h=>h) ?_;intro I06 bb x1 p5 c5 ay p6 c6 heq bv h10 h11;subst o0;have ⟨h1,H⟩:=m2 bv h1 H;refine zS<|yA<|yE<|rY 1 [2] [(21,vA [vS p1 y c1,vS p5 bb c5])]<|xF 0 rfl ?_;intro I07 le7 hl02;have h20:=SL.of_frozen hl02 le7 h10;have ⟨h1,h11,H⟩:=m3 le7 h1 h11 H;obtain ⟨y7,bw,N⟩:=zB aI;refine uM (gI (zD.mk y bb) _ bw h1 h20) ?_;intro I08 le8;have ⟨h11,h1,h20,H⟩:=m4 le8 h11 h1 h20 H;refine yD rfl<|zI<|yF N ?_ ?_
 · intro aE N;refine yE<|rY 1 [1] [(23,vA [vS p1 y c1,vS p5 bb c5])]<|xH 2 [vS p1 y c1,vS p5 bb c5] rfl<|yD rfl<|xC<|zH ?_;obtain rfl:=zC N;exact xA ⟨_,_,(.cell 2 rfl rfl (by kernel_rfl) ResV.nil),(zX [0] rfl (by decide)),⟨_,_,rfl,rfl,⟨_,rfl,(vD ⟨_,_,rfl,h1,h20⟩)⟩,(yO ⟨_,rfl,h11⟩)⟩⟩
 intro aE N;refine zT<|zI<|yB ?_;obtain ⟨y8,bH,N⟩:=zB N;obtain ⟨l1,hy6,N⟩:=zB N;refine vC [.x (eS y8),.p (vP b1 1) [],.p (vS p5 bb c5) [1],.x (eS l1),.x (fun I' v hx=>∃ p111 c111 p121 c121,v=vA [vS p111 y8 c111,vS p121 l1 c121]/\hx=[]/\(S4 I' p111 y8 c111)/\(S4 I' p121 l1 c121))] [[],[],[(1,false)],[(2,false)],[(0,false),(3,false)]] [hB ar (cRd x1 p6 c6),hB b1 [vS p1 y c1,vS p5 bb c5],hB b zTwo] [] [(4,false)] (zY [0,1,2]) ?_ ?_
 · refine Ox ?_<|Op<|Op<|Ox ?_<|Ox ?_<|On
   · intro I1 hf af;refine dC [] ?_;have H:=iS I1;refine xM (fX  _ bH ) ?_;rintro I09 aw v2 k2 le9 - ⟨v08,rfl,rfl,h22⟩ -;have H:=H.trans le9;obtain ⟨aN,aZ,rfl⟩:=h22.form;exact yQ [] H ⟨_,_,rfl,rfl,h22⟩
   · intro I1 hf af;refine yW [26] rfl ?_;have h20:=h20.mono af;refine zIj rfl h20 hy6 ?_;intro v09 h23;obtain ⟨bB,bk,rfl⟩:=h23.form;exact yQ [] iR ⟨_,_,rfl,rfl,h23⟩
   rintro I1 hf af _ _ ⟨aN,aZ,rfl,rfl,h22⟩ _ _ ⟨bB,bk,rfl,rfl,h23⟩;exact yW [24,27] rfl<|oY 5 [(28,vA [vS aN y8 aZ,vS bB l1 bk])]<|yQ [] iR ⟨_,_,_,_,rfl,rfl,h22,h23⟩
 rintro bP le10 _ _ ⟨p111,c111,p121,c121,rfl,rfl,h221,h231⟩;refine yW [2,28] rfl ?_;have h11:=h11.mono le10;refine xH 2 [vS p111 y8 c111,vS p121 l1 c121] rfl<|yD rfl<|zI<|xB ?_;obtain rfl:=zC N;exact xA ⟨_,_,(.cell 2 rfl rfl (by kernel_rfl) ResV.nil),(zX [0] rfl (by decide)),⟨_,_,rfl,rfl,⟨_,rfl,(vD ⟨_,_,rfl,h221,h231⟩)⟩,(yO ⟨_,rfl,h11⟩)⟩⟩
def zFH (b0:Nat) (r:zD×zK):KT:=fun kk I' ah v=>
  ∃ v0 k0,ah=[.blk b0 ⟨k0⟩]/\v=tupV [v0]/\(∃ cs,v0=.agg ⟨cs⟩/\Rp.rep I' cs r.1)/\Rp.rep I' k0 r.2
def fE (r0:zK):Option (zD×zK):=do
 let (y1,y2)<-pH r0 ([(⟨[112,97,114,116,10,102,111,114,32,48,32,51,10,102,111,114,32,48,32,52,10,66,91,105,44,106,93,61,40,66,91,105,44,106,93,43,123,50,42,105,43,106,125,41,10]⟩:Str),(⟨[112,97,114,116,10,102,111,114,32,48,32,51,10,102,111,114,32,48,32,52,10,66,91,105,44,106,43,49,93,61,40,66,91,105,44,106,93,43,49,41,10]⟩:Str),(⟨[112,97,114,116,10,102,111,114,32,48,32,51,10,102,111,114,32,49,32,52,10,66,91,105,43,49,44,106,45,49,93,61,40,66,91,105,44,106,93,42,50,41,10]⟩:Str),(⟨[112,97,114,116,10,102,111,114,32,48,32,51,10,102,111,114,32,49,32,53,10,66,91,105,43,49,44,106,93,61,40,66,91,105,44,106,45,49,93,43,66,91,105,44,106,93,41,10,65,91,105,93,61,123,106,125,10]⟩:Str),(⟨[112,97,114,116,10,102,111,114,32,48,32,52,10,65,91,105,93,61,40,123,105,125,42,50,41,10,112,97,114,116,10,102,111,114,32,48,32,52,10,65,91,105,43,49,93,61,40,65,91,105,93,43,67,91,48,93,41,10]⟩:Str),(⟨[112,97,114,116,10,102,111,114,32,48,32,53,10,65,91,105,93,61,40,65,91,105,93,43,51,41,10,66,91,48,44,105,93,61,65,91,105,93,10]⟩:Str),(⟨[112,97,114,116,10,102,111,114,32,48,32,51,10,102,111,114,32,48,32,51,10,67,91,105,93,61,40,67,91,105,93,43,66,91,105,44,106,93,41,10,112,97,114,116,10,102,111,114,32,48,32,51,10,102,111,114,32,48,32,51,10,65,91,106,93,61,40,65,91,106,93,45,66,91,106,44,105,93,41,10]⟩:Str),(⟨[112,97,114,116,10,102,111,114,32,48,32,52,10,102,111,114,32,48,32,105,43,49,10,66,91,105,44,106,93,61,40,65,91,106,93,42,67,91,48,93,41,10]⟩:Str)]:List Str)
 let s<-cat (⟨[112,114,111,103,114,97,109,10,97,114,114,97,121,32,65,32,54,10,97,114,114,97,121,32,66,32,52,32,53,10,97,114,114,97,121,32,67,32,51,10]⟩:Str) y1
 let (y4,y5)<-nK s
 let (t20,x)<-(do
   if y5 then
    let (y7,y8)<-yX y2 3
    pure ((decide (y7>0)),y8)
   else
    pure (false,y2)
     : Option (Bool×zK))
 if t20 then
  pure (y4,x)
 else
  let (y10,y11)<-fD x
  pure (y10,y11)
theorem zG7:∀ r0 r,fE r0=some r->∀ {I:Imm}{ar:Nat}{p c},(S4 I p r0.b c)->RT 91 [vP ar 0] I [hB ar (cRd r0 p c)] (zFH ar r):=by
 intro r0 r N I ar p c h;unfold fE at N;refine yJ func91 fun B=>?_;have H:=iS I;refine yE<|wL zTwo ?_;intro b hb;refine yD rfl<|yV<|yC 1 [] [6] rfl<|nC (rT [(⟨[112,97,114,116,10,102,111,114,32,48,32,51,10,102,111,114,32,48,32,52,10,66,91,105,44,106,93,61,40,66,91,105,44,106,93,43,123,50,42,105,43,106,125,41,10]⟩:Str),(⟨[112,97,114,116,10,102,111,114,32,48,32,51,10,102,111,114,32,48,32,52,10,66,91,105,44,106,43,49,93,61,40,66,91,105,44,106,93,43,49,41,10]⟩:Str),(⟨[112,97,114,116,10,102,111,114,32,48,32,51,10,102,111,114,32,49,32,52,10,66,91,105,43,49,44,106,45,49,93,61,40,66,91,105,44,106,93,42,50,41,10]⟩:Str),(⟨[112,97,114,116,10,102,111,114,32,48,32,51,10,102,111,114,32,49,32,53,10,66,91,105,43,49,44,106,93,61,40,66,91,105,44,106,45,49,93,43,66,91,105,44,106,93,41,10,65,91,105,93,61,123,106,125,10]⟩:Str),(⟨[112,97,114,116,10,102,111,114,32,48,32,52,10,65,91,105,93,61,40,123,105,125,42,50,41,10,112,97,114,116,10,102,111,114,32,48,32,52,10,65,91,105,43,49,93,61,40,65,91,105,93,43,67,91,48,93,41,10]⟩:Str),(⟨[112,97,114,116,10,102,111,114,32,48,32,53,10,65,91,105,93,61,40,65,91,105,93,43,51,41,10,66,91,48,44,105,93,61,65,91,105,93,10]⟩:Str),(⟨[112,97,114,116,10,102,111,114,32,48,32,51,10,102,111,114,32,48,32,51,10,67,91,105,93,61,40,67,91,105,93,43,66,91,105,44,106,93,41,10,112,97,114,116,10,102,111,114,32,48,32,51,10,102,111,114,32,48,32,51,10,65,91,106,93,61,40,65,91,106,93,45,66,91,106,44,105,93,41,10]⟩:Str),(⟨[112,97,114,116,10,102,111,114,32,48,32,52,10,102,111,114,32,48,32,105,43,49,10,66,91,105,44,106,93,61,40,65,91,106,93,42,67,91,48,93,41,10]⟩:Str)]) ?_;intro b1 I0 le h2;have ⟨h,H⟩:=m2 le h H;refine tO (zY [1,0] (ah:=[hB ar (cRd r0 p c),hB b zTwo])) ?_;obtain ⟨⟨y1,y2⟩,hy,N⟩:=zB N;refine tM (gO r0 ([(⟨[112,97,114,116,10,102,111,114,32,48,32,51,10,102,111,114,32,48,32,52,10,66,91,105,44,106,93,61,40,66,91,105,44,106,93,43,123,50,42,105,43,106,125,41,10]⟩:Str),(⟨[112,97,114,116,10,102,111,114,32,48,32,51,10,102,111,114,32,48,32,52,10,66,91,105,44,106,43,49,93,61,40,66,91,105,44,106,93,43,49,41,10]⟩:Str),(⟨[112,97,114,116,10,102,111,114,32,48,32,51,10,102,111,114,32,49,32,52,10,66,91,105,43,49,44,106,45,49,93,61,40,66,91,105,44,106,93,42,50,41,10]⟩:Str),(⟨[112,97,114,116,10,102,111,114,32,48,32,51,10,102,111,114,32,49,32,53,10,66,91,105,43,49,44,106,93,61,40,66,91,105,44,106,45,49,93,43,66,91,105,44,106,93,41,10,65,91,105,93,61,123,106,125,10]⟩:Str),(⟨[112,97,114,116,10,102,111,114,32,48,32,52,10,65,91,105,93,61,40,123,105,125,42,50,41,10,112,97,114,116,10,102,111,114,32,48,32,52,10,65,91,105,43,49,93,61,40,65,91,105,93,43,67,91,48,93,41,10]⟩:Str),(⟨[112,97,114,116,10,102,111,114,32,48,32,53,10,65,91,105,93,61,40,65,91,105,93,43,51,41,10,66,91,48,44,105,93,61,65,91,105,93,10]⟩:Str),(⟨[112,97,114,116,10,102,111,114,32,48,32,51,10,102,111,114,32,48,32,51,10,67,91,105,93,61,40,67,91,105,93,43,66,91,105,44,106,93,41,10,112,97,114,116,10,102,111,114,32,48,32,51,10,102,111,114,32,48,32,51,10,65,91,106,93,61,40,65,91,106,93,45,66,91,106,44,105,93,41,10]⟩:Str),(⟨[112,97,114,116,10,102,111,114,32,48,32,52,10,102,111,114,32,48,32,105,43,49,10,66,91,105,44,106,93,61,40,65,91,106,93,42,67,91,48,93,41,10]⟩:Str)]:List Str) _ hy h h2) rfl ?_;rintro aT aw v2 k2 af - ⟨v0,kk,rfl,rfl,rfl,h4⟩ -;have H:=H.trans af;obtain ⟨p1,c1,rfl,h5⟩:=zZ h4;refine yI [] [3] rfl<|yV<|yC 1 [] [10] rfl<|bE N fun s aA N=>kY rfl aA ?_;obtain ⟨⟨y4,y5⟩,aJ,N⟩:=zB N;refine xM (zCG s _ aJ ) ?_;rintro aU aw v2 k2 aC - ⟨v02,v03,rfl,rfl,⟨cs,rfl,h6⟩,rfl⟩ -;have ⟨h5,H⟩:=m2 aC h5 H;obtain ⟨p2,c2,p3,c3,rfl,h8,h9⟩:=nB h6;refine yC 6 [] [13,14] rfl<|wL zTwo ?_;intro b2 hb2;refine xH 0 (cProg y4 p2 c2 p3 c3) rfl<|yI [] [5] rfl<|yA<|yB ?_;obtain ⟨o0,aB,aS⟩:=zB N;refine qR (fun I' ah m'=>∃ (t20:Bool) (x:zK) (p4:Option Addr) (c4:Nat),o0=(t20,x)/\aU.le I'/\(S4 I' p4 x.b c4)/\ah=[hB b2 (cProg y4 p2 c2 p3 c3),hB ar (cRd x p4 c4),hB b zTwo]/\m'=[(0,vP ar 0),(2,vP b 0),(4,vP b2 0),(20,.bool t20)]) ?_ ?_
 · have H:=iS aU;refine zM<|yC 2 [] [16] rfl<|xS [16] aB ?_ ?_
   · intro hc N;refine yC 3 [] [17] rfl<|tO (zY [1,0,2] (ah:=[hB ar (cRd y2 p1 c1),hB b2 (cProg y4 p2 c2 p3 c3),hB b zTwo])) ?_;obtain ⟨⟨y7,y8⟩,bf,N⟩:=zB N;refine tM (xN y2 3 _ bf h5) rfl ?_;rintro bJ aw v2 k2 aD - ⟨v06,kk1,rfl,rfl,rfl,h12⟩ -;have H:=H.trans aD;obtain ⟨p5,c5,rfl,h13⟩:=zZ h12;exact yI [] [20] rfl<|xQ (zX [1,0,2] rfl (by decide))<|yL<|zU ⟨_,_,_,_,(zC N).symm,H,h13,rfl,rfl⟩
   intro hc N;exact wB [] [(20,vF)]<|yL<|zU ⟨_,_,_,_,(zC N).symm,H,h5,rfl,rfl⟩
 rintro bC aw m2 ⟨t20,x,p4,c4,heq,aW,h10,rfl,rfl⟩;subst o0;have ⟨h8,h9⟩:=m2 aW h8 h9;refine zI<|yF aS ?_ ?_
 · intro aE N;refine yE<|rY 1 [0] [(21,vA (cProg y4 p2 c2 p3 c3))]<|xH 2 (cProg y4 p2 c2 p3 c3) rfl<|yD rfl<|xC<|zH ?_;obtain rfl:=zC N;exact xA ⟨_,_,(.cell 2 rfl rfl (by kernel_rfl) ResV.nil),(zX [1] rfl (by decide)),⟨_,_,rfl,rfl,⟨_,rfl,(vD ⟨_,_,rfl,h8,h9⟩)⟩,(yO ⟨_,rfl,h10⟩)⟩⟩
 intro aE N;refine zT<|yV<|yC 1 [] [22] rfl<|tO (zY [1,0,2] (ah:=[hB ar (cRd x p4 c4),hB b2 (cProg y4 p2 c2 p3 c3),hB b zTwo])) ?_;obtain ⟨⟨y10,y11⟩,bw,N⟩:=zB N;refine tM (zG6 x _ bw h10) rfl ?_;rintro bN aw v2 k2 bt - ⟨v08,kk2,rfl,rfl,⟨ay,rfl,h14⟩,h15⟩ -;obtain ⟨p6,c6,p7,c7,rfl,h16,h17⟩:=nB h14;obtain ⟨p8,c8,rfl,h18⟩:=zZ h15;refine xH 2 (cProg y10 p6 c6 p7 c7) rfl<|yD rfl<|zI<|xB ?_;obtain rfl:=zC N;exact xA ⟨_,_,(.cell 2 rfl rfl (by kernel_rfl) ResV.nil),(zX [0] rfl (by decide)),⟨_,_,rfl,rfl,⟨_,rfl,(vD ⟨_,_,rfl,h16,h17⟩)⟩,(yO ⟨_,rfl,h18⟩)⟩⟩
def zFI (b0:Nat) (r:zD×Int×Int×Int×zK):KT:=fun kk I' ah v=>
  ∃ v0 v1 v2 v3 k0,ah=[.blk b0 ⟨k0⟩]/\v=tupV [v0,v1,v2,v3]/\(∃ cs,v0=.agg ⟨cs⟩/\Rp.rep I' cs r.1)/\v1=.int .i64 r.2.1/\v2=.int .i64 r.2.2.1/\v3=.int .i64 r.2.2.2.1/\Rp.rep I' k0 r.2.2.2.2
def eV (r0:zK):Option (zD×Int×Int×Int×zK):=do
 let (y1,y2)<-fE r0
 let (y4,y5)<-pI y2 y1
 let (y7,y8)<-yN y5 ([0,0,0,1,(-1),9]:List Int)
 let (y10,y11)<-yN y8 ([0,0,1,0,2,(-1),9]:List Int)
 let (y13,y14)<-yN y11 ([1,2,3,(-1),(-2),0,6,7,(-9223372036854775808)]:List Int)
 pure (y4,y7,y10,y13,y14)
theorem zG8:∀ r0 r,eV r0=some r->∀ {I:Imm}{ar:Nat}{p c},(S4 I p r0.b c)->RT 48 [vP ar 0] I [hB ar (cRd r0 p c)] (zFI ar r):=by
 intro r0 r N I ar p c h;unfold eV at N;refine yJ func48 fun B=>?_;have H:=iS I;refine yE<|wL zTwo ?_;intro b hb;refine wB [] []<|yV<|yC 2 [] [8,9] rfl<|tO (zY [1,0] (ah:=[hB ar (cRd r0 p c),hB b zTwo])) ?_;obtain ⟨⟨y1,y2⟩,hy,N⟩:=zB N;refine tM (zG7 r0 _ hy h) rfl ?_;rintro I0 aw v2 k2 le - ⟨v0,kk,rfl,rfl,⟨cs,rfl,h1⟩,h2⟩ -;have H:=H.trans le;obtain ⟨p1,c1,p2,c2,rfl,h3,h4⟩:=nB h1;obtain ⟨p3,c3,rfl,h5⟩:=zZ h2;obtain ⟨⟨y4,y5⟩,aA,N⟩:=zB N;refine tM (zEr y2 y1 _ aA h5 h3 h4) rfl ?_;rintro aT aw v2 k2 af - ⟨v04,kk1,rfl,rfl,⟨ay,rfl,h6⟩,h7⟩ -;have H:=H.trans af;obtain ⟨p4,c4,p5,c5,rfl,h8,h9⟩:=nB h6;obtain ⟨p6,c6,rfl,h10⟩:=zZ h7;refine wL zTwo ?_;intro b1 hb1;refine xH 0 (cProg y4 p4 c4 p5 c5) rfl<|yD rfl<|yV<|yC 1 [] [12] rfl<|nC (rI [0,0,0,1,(-1),9]) ?_;intro b2 aU aC h12;have ⟨h8,h9,h10,H⟩:=m4 aC h8 h9 h10 H;refine tO (zY [1,0,2] (ah:=[hB ar (cRd y5 p6 c6),hB b1 (cProg y4 p4 c4 p5 c5),hB b zTwo])) ?_;obtain ⟨⟨y7,y8⟩,aJ,N⟩:=zB N;refine tM (yT y5 ([0,0,0,1,(-1),9]:List Int) _ aJ h10 h12) rfl ?_;rintro bC aw v2 k2 aD - ⟨v08,kk2,rfl,rfl,rfl,h14⟩ -;have ⟨h8,h9,H⟩:=m3 aD h8 h9 H;obtain ⟨p7,c7,rfl,h15⟩:=zZ h14;refine yI [] [7] rfl<|zI<|yB ?_;obtain ⟨⟨y10,y11⟩,bf,N⟩:=zB N;obtain ⟨⟨y13,y14⟩,bw,N⟩:=zB N;refine vC [.p (vA (cProg y4 p4 c4 p5 c5)) [0],.p (vI y7) [],.p (vP ar 0) [],.x (fun I' v hx=>∃ b3,v=vS (some ⟨b3,0,none⟩) ([0,0,1,0,2,(-1),9]:List Int) 7/\hx=[]/\(SL I' (vS (some ⟨b3,0,none⟩) ([0,0,1,0,2,(-1),9]:List Int) 7) ([0,0,1,0,2,(-1),9]:List Int))),.x (fun I' v hx=>∃ p8 c8,v=vI y10/\hx=[hB ar (cRd y11 p8 c8)]/\(S4 I' p8 y11.b c8)),.p (vP ar 0) [],.x (fun I' v hx=>∃ b4,v=vS (some ⟨b4,0,none⟩) ([1,2,3,(-1),(-2),0,6,7,(-9223372036854775808)]:List Int) 9/\hx=[]/\(SL I' (vS (some ⟨b4,0,none⟩) ([1,2,3,(-1),(-2),0,6,7,(-9223372036854775808)]:List Int) 9) ([1,2,3,(-1),(-2),0,6,7,(-9223372036854775808)]:List Int))),.x (fun I' v hx=>∃ p9 c9,v=vI y13/\hx=[hB ar (cRd y14 p9 c9)]/\(S4 I' p9 y14.b c9)),.x (fun I' v hx=>hx=[hB b (cProg y4 p4 c4 p5 c5)]),.p (vI y7) [],.q (vI y10)] [[],[],[],[],[(2,false),(3,false),(12,true)],[],[],[(5,false),(6,false),(4,true)],[(0,false),(13,true)],[(1,false)],[(4,false)]] [hB b1 (cProg y4 p4 c4 p5 c5)] [[hB ar (cRd y8 p7 c7)],[hB b zTwo]] [(7,true),(8,true),(9,false),(10,false)] (zY [1,0,2]) ?_ ?_
 · refine Op<|Op<|Op<|Ox ?_<|Ox ?_<|Op<|Ox ?_<|Ox ?_<|Ox ?_<|Op<|Oq ?_<|On
   · intro I1 hf af;refine dC [] ?_;have H:=iS I1;refine nC (rI [0,0,1,0,2,(-1),9]) ?_;intro b3 bJ aW h17;have H:=H.trans aW;exact yQ [] H ⟨_,rfl,rfl,h17⟩
   · rintro I1 hf af _ _ ⟨rfl,rfl⟩ _ _ ⟨b3,rfl,rfl,h17⟩ _ _ rfl;refine yW [17,18] rfl ?_;have H:=iS I1;have h15:=h15.mono af;refine tM (yT y8 ([0,0,1,0,2,(-1),9]:List Int) _ bf h15 h17) rfl ?_;rintro bN aw v2 k2 bt - ⟨v010,kk3,rfl,rfl,rfl,h19⟩ -;have H:=H.trans bt;obtain ⟨p8,c8,rfl,h20⟩:=zZ h19;exact yQ [hB ar (cRd y11 p8 c8)] H ⟨_,_,rfl,rfl,h20⟩
   · intro I1 hf af;refine dC [] ?_;have H:=iS I1;refine nC (rI [1,2,3,(-1),(-2),0,6,7,(-9223372036854775808)]) ?_;intro b4 I06 bv h22;have H:=H.trans bv;exact yQ [] H ⟨_,rfl,rfl,h22⟩
   · rintro I1 hf af _ _ ⟨rfl,rfl⟩ _ _ ⟨b4,rfl,rfl,h22⟩ _ _ ⟨p8,c8,rfl,rfl,h20⟩;refine yW [20,21] rfl ?_;have H:=iS I1;refine tM (yT y11 ([1,2,3,(-1),(-2),0,6,7,(-9223372036854775808)]:List Int) _ bw h20 h22) rfl ?_;rintro I07 aw v2 k2 le7 - ⟨v012,kk4,rfl,rfl,rfl,h24⟩ -;have H:=H.trans le7;obtain ⟨p9,c9,rfl,h25⟩:=zZ h24;exact yQ [hB ar (cRd y14 p9 c9)] H ⟨_,_,rfl,rfl,h25⟩
   · rintro I1 hf af _ _ ⟨rfl,rfl⟩ _ _ rfl;refine yW [2,15] rfl ?_;have H:=iS I1;exact zAo 0 (cProg y4 p4 c4 p5 c5) (hB b (cProg y4 p4 c4 p5 c5)::hB b1 (cProg y4 p4 c4 p5 c5)::hf) rfl rfl rfl rfl<|zFX (hx:=[hB b (cProg y4 p4 c4 p5 c5)]) rfl H rfl (zGJ (v:=undef)) rfl
   rintro I1 hf af _ _ ⟨p8,c8,rfl,rfl,h20⟩;exact yW [19] rfl<|oY 11 [(4,vI y10)]<|xE iR
 rintro I08 le8 _ _ ⟨p9,c9,rfl,rfl,h25⟩ _ _ rfl;refine yW [2,3,4,22] rfl ?_;have ⟨h8,h9⟩:=m2 le8 h8 h9;refine yI [] [5] rfl<|zI<|xB ?_;obtain rfl:=zC N;exact xA ⟨_,_,(.cell 0 rfl rfl (by kernel_rfl) (.tmp rfl (.tmp rfl (.tmp rfl ResV.nil)))),(zX [1] rfl (by decide)),⟨_,_,_,_,_,rfl,rfl,⟨_,rfl,(vD ⟨_,_,rfl,h8,h9⟩)⟩,rfl,rfl,rfl,(yO ⟨_,rfl,h25⟩)⟩⟩
def zFJ (b0:Nat) (r:zD×Int×Int×zK):KT:=fun kk I' ah v=>
  ∃ v0 v1 v2 k0,ah=[.blk b0 ⟨k0⟩]/\v=tupV [v0,v1,v2]/\(∃ cs,v0=.agg ⟨cs⟩/\Rp.rep I' cs r.1)/\v1=.int .i64 r.2.1/\v2=.int .i64 r.2.2.1/\Rp.rep I' k0 r.2.2.2
def fF (r0:zK):Option (zD×Int×Int×zK):=do
 let (y1,y2,y3,y4,y5)<-eV r0
 pure (y1,y2,y3,y5)
theorem zG9:∀ r0 r,fF r0=some r->∀ {I:Imm}{ar:Nat}{p c},(S4 I p r0.b c)->RT 28 [vP ar 0] I [hB ar (cRd r0 p c)] (zFJ ar r):=by
 intro r0 r N I ar p c h;unfold fF at N;refine yJ func28 fun B=>yE<|wL zTwo ?_;intro b hb;refine wB [] []<|yV<|yC 1 [] [10] rfl<|tO (zY [1,0] (ah:=[hB ar (cRd r0 p c),hB b zTwo])) ?_;obtain ⟨⟨y1,y2,y3,y4,y5⟩,hy,N⟩:=zB N;refine tM (zG8 r0 _ hy h) rfl ?_;rintro I0 aw v2 k2 le - ⟨v0,v01,v02,v03,kk,rfl,rfl,⟨cs,rfl,h1⟩,rfl,rfl,rfl,h5⟩ -;obtain ⟨p1,c1,p2,c2,rfl,h6,h7⟩:=nB h1;obtain ⟨p3,c3,rfl,h8⟩:=zZ h5;refine yC 7 [] [12,13,14,15] rfl<|wL zTwo ?_;intro b1 hb1;refine xH 0 (cProg y1 p1 c1 p2 c2) rfl<|yI [] [6,7] rfl<|yV<|rY 3 [0] [(16,vA (cProg y1 p1 c1 p2 c2)),(17,vI y2),(18,vI y3)]<|xH 2 (cProg y1 p1 c1 p2 c2) rfl<|yI [] [3,4] rfl<|zI<|xB ?_;obtain rfl:=zC N;exact xA ⟨_,_,(.cell 2 rfl rfl (by kernel_rfl) (.tmp rfl (.tmp rfl ResV.nil))),(zX [1] rfl (by decide)),⟨_,_,_,_,rfl,rfl,⟨_,rfl,(vD ⟨_,_,rfl,h6,h7⟩)⟩,rfl,rfl,(yO ⟨_,rfl,h8⟩)⟩⟩
def dS (r:zD×Int×Int×(List Int)):KT:=fun kk I' ah v=>
  ∃ v0 v1 v2 v3,ah=[]/\v=tupV [v0,v1,v2,v3]/\(∃ cs,v0=.agg ⟨cs⟩/\Rp.rep I' cs r.1)/\v1=.int .i64 r.2.1/\v2=.int .i64 r.2.2.1/\SL I' v3 r.2.2.2
def wT (out:List Int) (i:Int) (x:zK):Option (List Int):=do
 if (decide (i>0)) then
  let (y10,y11)<-yN x ([1,0,2,5,(-1),9223372036854775807]:List Int)
  let ap<-app 8 out ([y10]:List Int)
  wT ap (W (i - 1)) y11
 else
  pure (id out)
 partial_fixpoint
theorem dG :∀ (out:List Int) (i:Int) (x:zK) (o:List Int),wT out i x=some o->∀ {B}{I0 I:Imm}{Q}{y2:zD}{y3:Int}{y4:Int}{b:Nat}{b1:Nat}{p2 c2 p3 c3}{b2:Nat}{p6 c6 ay p7 c7},I0.le I->(S4 I p2 y2.Arrays c2)->(S4 I p3 y2.Parts c3)->(RL I ay out)->(S4 I p7 x.b c7)->NG Q->NO Q->(∀ (I':Imm) (aj:List Int) (p8:Option Addr) (c8:Nat) (aQ:List Value),o=aj->I0.le I'->(RL I' aQ aj)->T 38 B Q (.exit 0) I' [hO Int (vS p8 aj c8) aQ,hB b2 (cProg y2 p2 c2 p3 c3),hB b zTwo] [(2,vP b 0),(7,vP b2 0),(8,vI y3),(9,vI y4),(10,vS p8 aj c8)])->J Tryz.prog 38 B (nav (bodyOf f9) [1,1,1,1,0,1,0]) Q I [hB b1 (cRd x p7 c7),hO Int (vS p6 out c6) ay,hB b2 (cProg y2 p2 c2 p3 c3),hB b zTwo] [(2,vP b 0),(6,vP b1 0),(7,vP b2 0),(8,vI y3),(9,vI y4),(10,vS p6 out c6),(11,vI i)]:=by
 refine wT.partial_correctness  _ fun aH ih out i x o N B I0 I Q y2 y3 y4 b b1 p2 c2 p3 c3 b2 p6 c6 ay p7 c7 H h6 h7 h15 h16 hg ho hx=>yR hg ho<|yB<|yG [25] rfl<|zI<|yF N ?_ ?_
 · intro hc N;refine zT<|yA<|yH<|zM<|yC 2 [] [28,29] rfl<|nC (rI [1,0,2,5,(-1),9223372036854775807]) ?_;intro b5 bJ aW h19;have ⟨h15,h16,h6,h7,H⟩:=m5 aW h15 h16 h6 h7 H;obtain ⟨⟨y10,y11⟩,bf,N⟩:=zB N;refine tM (yT x ([1,0,2,5,(-1),9223372036854775807]:List Int) _ bf h16 h19) rfl ?_;rintro bN aw v2 k2 bt - ⟨v08,kk2,rfl,rfl,rfl,h21⟩ -;have ⟨h15,h6,h7,H⟩:=m4 bt h15 h6 h7 H;obtain ⟨p9,c9,rfl,h22⟩:=zZ h21;refine uD [vI y10] Int ?_;intro b6 hb5;have h23:RL bN [vI y10] ([y10]:List Int):=rI [y10];obtain ⟨ap,bw,N⟩:=zB N;exact sC 3 1 2 rfl rfl rfl h15 (.inr ⟨0,rfl⟩) h23 bw fun aV bc aR h24=>tO (zY [1,2,3,4] (ah:=[hB b1 (cRd y11 p9 c9),hO Int (vS aV ap bc) aR,hB b2 (cProg y2 p2 c2 p3 c3),hB b zTwo]))<|yI [] [10] rfl<|zP<|zI<|zM<|yI [] [11] rfl<|yP<|nN<|ih ap (W (i - 1)) y11 _ N H h6 h7 h24 h22 hg ho hx
 intro hc N;exact wR<|xQ (zX [1,2,3] rfl (by decide))<|yL<|hx _ _ _ _ _ (zC N).symm H h15
def rS (code:(List UInt8)):Option (zD×Int×Int×(List Int)):=do
 let y<-gA code
 let (y2,y3,y4,y5)<-fF y
 let (y7,y8)<-yN y5 ([3,1,0,5]:List Int)
 let aj<-wT ([]:List Int) y7 y8
 pure (y2,y3,y4,aj)
theorem zAQ:∀ code r,rS code=some r->∀ {I:Imm}{p c},(S4 I p code c)->RT 9 [vS p code c] I [] (dS  r):=by
 intro code r N I p c h;unfold rS at N;refine yJ func9 fun B=>yE<|wL zTwo ?_;intro b hb;refine wB [] []<|yV<|yC 1 [] [12] rfl<|bE N fun y hy N=>xM (zF4 code _ hy h) ?_;rintro I0 aw v2 k2 le - ⟨b1,p1,c1,rfl,rfl,h1⟩ -;refine yI [] [6] rfl<|yV<|yC 1 [] [15] rfl ?_;obtain ⟨⟨y2,y3,y4,y5⟩,aA,N⟩:=zB N;refine tM (zG9 y _ aA h1) rfl ?_;rintro aT aw v2 k2 af - ⟨v0,v01,v02,kk,rfl,rfl,⟨cs,rfl,h2⟩,rfl,rfl,h5⟩ -;obtain ⟨p2,c2,p3,c3,rfl,h6,h7⟩:=nB h2;obtain ⟨p4,c4,rfl,h8⟩:=zZ h5;refine yC 6 [] [17,18,19] rfl<|wL zTwo ?_;intro b2 hb1;refine xH 0 (cProg y2 p2 c2 p3 c3) rfl<|yI [] [8,9] rfl<|yV<|uD [] Int ?_;intro b3 hb2;have h9:RL aT [] ([]:List Int):=rfl;refine yI [] [10] rfl<|yA<|yE<|yC 1 [] [21] rfl<|nC (rI [3,1,0,5]) ?_;intro b4 aU aC h11;have ⟨h9,h6,h7,h8⟩:=m4 aC h9 h6 h7 h8;refine tO (zY [2,0,1,3] (ah:=[hB b1 (cRd y5 p4 c4),hO Int (vS (some ⟨b3,0,none⟩) ([]:List Int) 0) [],hB b2 (cProg y2 p2 c2 p3 c3),hB b zTwo])) ?_;obtain ⟨⟨y7,y8⟩,aJ,N⟩:=zB N;refine tM (yT y5 ([3,1,0,5]:List Int) _ aJ h8 h11) rfl ?_;rintro bC aw v2 k2 aD - ⟨v06,kk1,rfl,rfl,rfl,h13⟩ -;have ⟨h9,h6,h7⟩:=m3 aD h9 h6 h7;obtain ⟨p5,c5,rfl,h14⟩:=zZ h13;refine yI [] [11] rfl<|xX<|qP [(2,vP b 0),(6,vP b1 0),(7,vP b2 0),(8,vI y3),(9,vI y4),(10,vS (some ⟨b3,0,none⟩) ([]:List Int) 0),(11,vI y7)] ?_;obtain ⟨o0,aB,aI⟩:=zB N;refine dG ([]:List Int) y7 y8 o0 aB iR h6 h7 h9 h14 (fun _ _ _ h=>h) (fun _ _ h=>h) ?_;intro I06 aj p8 c8 aQ heq bv h17;subst o0;have ⟨h6,h7⟩:=m2 bv h6 h7;refine zS<|yV<|rY 4 [1] [(34,vA (cProg y2 p2 c2 p3 c3)),(35,vI y3),(36,vI y4),(37,vS p8 aj c8)]<|xH 2 (cProg y2 p2 c2 p3 c3) rfl<|yI [] [3,4,5] rfl<|xC<|yU 0 rfl ?_;intro I07 le7 hl02;have h25:=SL.of_frozen hl02 le7 h17;have ⟨h6,h7⟩:=m2 le7 h6 h7;obtain rfl:=zC aI;exact xA ⟨_,_,(.cell 1 rfl rfl (by kernel_rfl) (.tmp rfl (.tmp rfl (.tmp rfl ResV.nil)))),zQ,⟨_,_,_,_,rfl,rfl,⟨_,rfl,(vD ⟨_,_,rfl,h6,h7⟩)⟩,rfl,rfl,h25⟩⟩
def xW (n0:Int) (low:Int) (high:Int):Option (Bool):=do
 let t6<-(do
   if (decide (low<=n0)) then
    pure (decide (n0<=high))
   else
    pure false
     : Option Bool)
 pure (id t6)
theorem wC:∀ n0 low high r,xW n0 low high=some r->∀ {I:Imm} ,RT 50 [vI n0,vI low,vI high] I [] (zV  r):=by
 intro n0 low high r N I;unfold xW at N;refine yJ func50 fun B=>?_;have H:=iS I;refine vR []<|zI<|yB ?_;refine wS N [] (fun t6=>[(6,.bool t6)]) (fun o0 aB=>?_) ?_
 · have H:=iS I;refine zM<|yC 4 [] [10] rfl<|xS [10] aB ?_ ?_
   · intro hc N;exact yI [] [6] rfl<|yL<|zU (ct N H)
   intro hc N;exact wB [] [(6,vF)]<|yL<|zU (ct N H)
 intro t6 I0 le aS;refine zI<|xB ?_;obtain rfl:=zC aS;exact vE
def jI (s:Str) (substr:Str):Option Bool:=match substr.l with | [c]=>some (decide (0<=Lib.indexByte s.l c)) | _=>none
theorem zCm:∀ (s substr:Str) r,jI s substr=some r->∀ {I:Imm},RT 156 [vT s.l,vT substr.l] I [] (zV r):=by
 intro s substr r N I;unfold jI at N;split at N
 · rename_i c hc;cases N
   rw [hc];exact zKg (fun w g=>(Tryz.strings_Contains_one ⟨⟨s.l⟩⟩ c w).mono fun e w' ⟨h1,h2⟩=>⟨h1,h2 ▸ RowKit.Below.refl _ _,Nat.le_of_eq (by rw [h2])⟩) fun k=>⟨_,rfl,rfl,rfl⟩
 cases N
def kQ (s:Str):Option (Bool):=do
 let t2<-(do
   if ((s.l.length:Int)==1) then
    let y<-jI (⟨[65,66,67,68]⟩:Str) s
    pure (id y)
   else
    pure false
     : Option Bool)
 pure (id t2)
theorem nF:∀ s r,kQ s=some r->∀ {I:Imm} ,RT 114 [vT s.l] I [] (zV  r):=by
 intro s r N I;unfold kQ at N;refine yJ func114 fun B=>?_;have H:=iS I;refine vR []<|zI<|yB ?_;refine wS N [] (fun t2=>[(2,.bool t2)]) (fun o0 aB=>?_) ?_
 · have H:=iS I;refine zM<|yC 4 [] [6] rfl<|xS [6] aB ?_ ?_
   · intro hc N;refine yC 5 [] [7] rfl<|bE N fun y hy N=>uM (zCm (⟨[65,66,67,68]⟩:Str) s _ hy ) ?_;intro aT le;have H:=H.trans le;exact yI [] [2] rfl<|yL<|zU (ct N H)
   intro hc N;exact wB [] [(2,vF)]<|yL<|zU (ct N H)
 intro t2 I0 af aS;refine zI<|xB ?_;obtain rfl:=zC aS;exact vE
def jC (bd:List HA) (r:Int):KT:=fun kk I' ah v=>
  ∃ v0,bd=ah/\v=tupV [v0]/\v0=.int .i64 r
def wD (s:(List Int)) (f0:(Int->Option Bool)) (t8:Int):Option (Out Unit (Int)):=do
 if (decide (t8<(s.length:Int))) then
  let x<-idx s t8
  let y<-f0 x
  if y then
   pure (.ret t8)
  else
   wD s f0 (W (t8+1))
 else
  pure (.done ())
 partial_fixpoint
theorem eM (s:(List Int)) (f0:(Int->Option Bool)):∀ (t8:Int) (o:Out Unit (Int)),wD s f0 t8=some o->∀ {B}{I0 I:Imm}{Q p c}{fv:Value}{bd:List HA},I0.le I->(S4 I p s c)->(FV1 Tryz.prog I bd fv f0)->NG Q->NO Q->(∀ (I':Imm) ,o=(.done ())->I0.le I'->T 19 B Q (.exit 0) I' bd [])->(∀ r I' ah m',o=(.ret r)->I0.le I'->RS Tryz.prog f130 B (jC bd r) I' ah m'->T 19 B Q .ret I' ah m')->J Tryz.prog 19 B (nav (bodyOf f130) [1,0,1,0]) Q I bd [(0,vS p s c),(1,fv),(7,vI (s.length:Int)),(8,vI t8)]:=by
 refine wD.partial_correctness s f0 _ fun aH ih t8 o N B I0 I Q p c fv bd H h h1 hg ho hx hr=>yR hg ho<|yG [9] rfl<|yA<|yF N ?_ ?_
 · intro hc N;refine zT<|yA<|yH<|yG [5] rfl<|yV<|yC 3 [] [11,12,13] rfl<|bE N fun x hy N=>xO rfl rfl h hy ?_;intro ad aK aq al;obtain rfl:=al;refine xJ 0 aq [vI x] (vI x) rfl<|bE N fun y aA N=>zKN rfl rfl h1 aA rfl (cu _).symm ?_;rintro I0 v0 le rfl;refine wE (ah:=bd) (cu _) ?_;have ⟨h,h1,H⟩:=m3 le h h1 H;refine yD rfl<|zI<|yF N ?_ ?_
   · intro aE N;exact yG [4] rfl<|xC<|zW<|zH<|zH<|hr _ _ _ _ (zC N).symm H ⟨_,_,(.tmp rfl ResV.nil),(fun _ h=>h),⟨_,rfl,rfl,rfl⟩⟩
   intro aE N;exact zT<|zP<|zI<|zM<|yI [] [8] rfl<|yP<|nN<|ih (W (t8+1)) _ N H h h1 hg ho hx hr
 intro hc N;exact wR<|yL<|hx _  (zC N).symm H
def pD (s:(List Int)) (f0:(Int->Option Bool)):Option (Int):=do
 match<-wD s f0 0 with
 | .ret r0=>pure r0
 | .done _ =>
  pure (-1)
theorem dU:∀ s f0 r,pD s f0=some r->∀ {I:Imm}{p c}{fv:Value}{bd:List HA},(S4 I p s c)->(FV1 Tryz.prog I bd fv f0)->RT 130 [vS p s c,fv] I bd (jC bd r):=by
 intro s f0 r N I p c fv bd h h1;unfold pD at N;refine yJ func130 fun B=>vR []<|yA<|yG [7,8] rfl<|xX<|qP [(0,vS p s c),(1,fv),(7,vI (s.length:Int)),(8,vI 0)] ?_;obtain ⟨o0,aB,aI⟩:=zB N;refine eM s f0 0 o0 aB iR h h1 (fun _ _ _ h=>h) (fun _ _ h=>h) ?_ ?_
 · intro aT  heq af;subst o0;refine zS<|vK [4] rfl<|zI<|xB ?_;obtain rfl:=zC aI;exact xA ⟨_,_,(.tmp rfl ResV.nil),(fun _ h=>h),⟨_,rfl,rfl,rfl⟩⟩
 intro r0 I9 hs9 m9 aX le9 ba;subst aX;refine zW<|zH ?_;obtain rfl:=zC aI;exact xA ba
def fY (bd:List HA) (r:Bool):KT:=fun kk I' ah v=>
  ∃ v0,bd=ah/\v=tupV [v0]/\v0=.bool r
def xK (s:(List Int)) (f0:(Int->Option Bool)):Option (Bool):=do
 let y<-pD s f0
 pure (decide (y>=0))
theorem sT:∀ s f0 r,xK s f0=some r->∀ {I:Imm}{p c}{fv:Value}{bd:List HA},(S4 I p s c)->(FV1 Tryz.prog I bd fv f0)->RT 115 [vS p s c,fv] I bd (fY bd r):=by
 intro s f0 r N I p c fv bd h h1;unfold xK at N;refine yJ func115 fun B=>vR []<|yV<|yC 2 [] [5,6] rfl<|bE N fun y hy N=>zEd (hs1:=bd) (rest:=[]) rfl rfl rfl rfl (by kernel_rfl) rfl (cu _).symm (dU s f0 _ hy h h1) ?_;rintro I0 aw v2 k2 le - ⟨v0,rfl,rfl,rfl⟩ -;refine wE (ah:=bd) (cu _) ?_;refine yI [] [4] rfl<|zI<|xB ?_;obtain rfl:=zC N;exact xA ⟨_,_,(.tmp rfl ResV.nil),(fun _ h=>h),⟨_,rfl,rfl,rfl⟩⟩
def tF (n0:Int):Option (Bool):=do
 let y<-xW n0 1 6
 pure (!y)
theorem zAI:∀ n0 r,tF n0=some r->∀ {I:Imm} ,RT 116 [vI n0] I [] (zV  r):=by
 intro n0 r N I;unfold tF at N;refine yJ func116 fun B=>vR []<|yV<|yC 1 [] [3] rfl<|bE N fun y hy N=>uM (wC n0 1 6 _ hy ) fun I0 le=>wB [] [(2,.bool (!y))]<|zI<|xB ?_;obtain rfl:=zC N;exact vE
def qG (list:(List zF)) (t7:Int):Option (Out Unit (Bool)):=do
 if (decide (t7<(list.length:Int))) then
  let x<-idx list t7
  let t42<-(do
    let y<-kQ x.Name
    if (!y) then
     pure true
    else
     if (decide (t7>0)) then
      let x1<-idx list (W (t7 - 1))
      if (!(Op.bytesLess x1.Name.l x.Name.l)) then
       pure true
      else
       let y1<-xW (x.Dims.length:Int) 1 2
       if (!y1) then
        pure true
       else
        let y2<-xK x.Dims tF
        pure (id y2)
     else
      let y3<-xW (x.Dims.length:Int) 1 2
      if (!y3) then
       pure true
      else
       let y4<-xK x.Dims tF
       pure (id y4)
      : Option Bool)
  if t42 then
   pure (.ret false)
  else
   qG list (W (t7+1))
 else
  pure (.done ())
 partial_fixpoint
theorem zCn (list:(List zF)):∀ (t7:Int) (o:Out Unit (Bool)),qG list t7=some o->∀ {B}{I0 I:Imm}{Q p c},I0.le I->(S4 I p list c)->NG Q->NO Q->(∀ (I':Imm) ,o=(.done ())->I0.le I'->T 47 B Q (.exit 0) I' [] [(0,vS p list c)])->(∀ r I' ah m',o=(.ret r)->I0.le I'->RS Tryz.prog f77 B (zV  r) I' ah m'->T 47 B Q .ret I' ah m')->J Tryz.prog 47 B (nav (bodyOf f77) [1,0,1,0]) Q I [] [(0,vS p list c),(5,vS p list c),(6,vI (list.length:Int)),(7,vI t7)]:=by
 refine qG.partial_correctness list _ fun aH ih t7 o N B I0 I Q p c H h hg ho hx hr=>yR hg ho<|yG [8] rfl<|yA<|yF N ?_ ?_
 · intro hc N;refine zT<|yA<|yH<|yE<|yC 1 [] [9] rfl<|bE N fun x hy N=>xO rfl rfl h hy ?_;intro ad aK aq al;obtain ⟨p1,c1,rfl,h1⟩:=wG al;refine xJ 0 aq (cArr x p1 c1) (vA (cArr x p1 c1)) rfl<|wL [vT ([]),z0] ?_;intro b hb;refine yC 5 [] [3] rfl<|xH 0 (cArr x p1 c1) rfl<|yD rfl<|zI<|yB ?_;refine wS N [] (fun t42=>[(0,vS p list c),(5,vS p list c),(6,vI (list.length:Int)),(7,vI t7),(42,.bool t42)]) (fun o0 aB=>?_) ?_
   · have H:=iS I;obtain ⟨y,aA,N⟩:=zB aB;cases aE:(!y) with
     | true =>
      have hM0:=tZ aE N;refine vC [.p (vP b 0) [],.p (vT x.Name.l) [0],.q (.bool y),.q vY,.q vY,.p undef [],.p undef [],.p undef [],.p undef [],.p undef [],.p undef [],.p undef [],.p undef [],.p undef [],.p undef [],.p undef [],.p undef [],.p undef [],.p vY [],.p vY [],.p undef [],.p undef [],.p undef [],.p undef [],.p undef [],.p vY [],.p vY [],.p undef [],.p undef [],.p undef [],.p vY []] [[],[(0,false)],[(1,false)],[(2,false)],[(3,false)],[(4,false)],[(4,false),(5,false)],[(4,false),(6,false)],[(7,false)],[(7,false)],[(7,false),(9,false)],[(7,false),(8,false),(10,false)],[(7,false),(11,false)],[(7,false),(12,false)],[(7,false)],[(7,false),(14,false)],[(7,false),(13,false),(15,false)],[(4,false),(7,false),(16,false)],[(4,false),(17,false)],[(18,false)],[(19,false)],[(19,false),(20,false)],[(19,false),(21,false)],[(19,false),(22,false)],[(19,false),(23,false)],[(19,false),(24,false)],[(25,false)],[(26,false)],[(26,false),(27,false)],[(26,false),(28,false)],[(26,false),(29,false)]] [hB b (cArr x p1 c1)] [] [(30,false)] (zY [0]) ?_ ?_
      · refine Op<|Op<|Oq ?_<|Oq ?_<|Oq ?_<|Op<|Op<|Op<|Op<|Op<|Op<|Op<|Op<|Op<|Op<|Op<|Op<|Op<|Op<|Op<|Op<|Op<|Op<|Op<|Op<|Op<|Op<|Op<|Op<|Op<|Op<|On
        · intro I1 hf af;refine yW [13] rfl ?_;have H:=iS I1;refine uM (nF x.Name _ aA ) ?_;intro aT le;have H:=H.trans le;exact xE H
        · intro I1 hf af;refine yW [14] rfl<|oY 4 [(15,.bool (!y))] ?_;rw [aE];exact xE iR
        intro I1 hf af;exact dC [(15,vY)]<|oY 5 [(16,vY)]<|xE iR
      intro aU af;refine yW [0,5,6,7,42] rfl ?_;have H:=H.trans af;exact yD rfl<|xQ zQ<|yL<|zU (ct hM0 H)
     | false =>
      have hM01:=uZ aE N;cases aY:(decide (t7>0)) with
      | true =>
       have hM02:=tZ aY hM01;obtain ⟨x1,aJ,N⟩:=zB hM02;cases bG:(!(Op.bytesLess x1.Name.l x.Name.l)) with
       | true =>
        have hM03:=tZ bG N;refine vC [.p (vP b 0) [],.p (vT x.Name.l) [0],.q (.bool y),.q vF,.q vF,.p (vI t7) [],.q vY,.q vY,.p (vS p list c) [],.p (vI t7) [],.p (vI (W (t7 - 1))) [],.x (ePArr x1),.x (ePArr x1),.q (vT x1.Name.l),.p (vP b 0) [],.p (vT x.Name.l) [0],.q vY,.q vY,.q vY,.q vY,.p undef [],.p undef [],.p undef [],.p undef [],.p undef [],.p vY [],.p vY [],.p undef [],.p undef [],.p undef [],.p vY []] [[],[(0,false)],[(1,false)],[(2,false)],[(3,false)],[(4,false)],[(4,false),(5,false)],[(4,false),(6,false)],[(7,false)],[(7,false)],[(7,false),(9,false)],[(7,false),(8,false),(10,false)],[(7,false),(11,false)],[(7,false),(12,false)],[(7,false)],[(7,false),(14,false)],[(7,false),(13,false),(15,false)],[(4,false),(7,false),(16,false)],[(4,false),(17,false)],[(18,false)],[(19,false)],[(19,false),(20,false)],[(19,false),(21,false)],[(19,false),(22,false)],[(19,false),(23,false)],[(19,false),(24,false)],[(25,false)],[(26,false)],[(26,false),(27,false)],[(26,false),(28,false)],[(26,false),(29,false)]] [hB b (cArr x p1 c1)] [] [(30,false)] (zY [0]) ?_ ?_
        · refine Op<|Op<|Oq ?_<|Oq ?_<|Oq ?_<|Op<|Oq ?_<|Oq ?_<|Op<|Op<|Op<|Ox ?_<|Ox ?_<|Oq ?_<|Op<|Op<|Oq ?_<|Oq ?_<|Oq ?_<|Oq ?_<|Op<|Op<|Op<|Op<|Op<|Op<|Op<|Op<|Op<|Op<|Op<|On
          · intro I1 hf af;refine yW [13] rfl ?_;have H:=iS I1;refine uM (nF x.Name _ aA ) ?_;intro aT le;have H:=H.trans le;exact xE H
          · intro I1 hf af;refine yW [14] rfl<|oY 4 [(15,.bool (!y))] ?_;rw [aE];exact xE iR
          · intro I1 hf af;exact dC [(15,vF)]<|oY 5 [(16,vF)]<|xE iR
          · intro I1 hf af;refine yW [16,17] rfl<|oY 7 [(18,.bool (decide (t7>0)))] ?_;rw [aY];exact xE iR
          · intro I1 hf af;exact yW [16,18] rfl<|oY 8 [(19,vY)]<|xE iR
          · intro I1 hf af;refine yW [19,20,22] rfl ?_;have h:=h.mono af;refine xO rfl rfl h aJ ?_;intro ad1 bx au ax;obtain ⟨p2,c2,rfl,h3⟩:=wG ax;exact yQ [] iR ⟨_,_,_,rfl,rfl,au,h3⟩
          · rintro I1 hf af _ _ ⟨rfl,rfl⟩ _ _ ⟨ad1,p2,c2,rfl,rfl,au,h3⟩;exact yW [19,23] rfl<|oY 13 [(24,.pointer (some ad1))]<|yQ [] iR ⟨_,_,_,rfl,rfl,au,h3⟩
          · rintro I1 hf af _ _ ⟨rfl,rfl⟩ _ _ ⟨ad11,p21,c21,rfl,rfl,hat11,h31⟩;exact yW [19,24] rfl<|xJ 0 hat11 [vT x1.Name.l] (vT x1.Name.l) rfl<|xE iR
          · intro I1 hf af;refine yW [19,25,27] rfl<|oY 17 [(28,.bool (!(Op.bytesLess x1.Name.l x.Name.l)))] ?_;rw [bG];exact xE iR
          · intro I1 hf af;exact yW [16,19,28] rfl<|oY 18 [(29,vY)]<|xE iR
          · intro I1 hf af;exact yW [16,29] rfl<|oY 19 [(30,vY)]<|xE iR
          intro I1 hf af;exact dC [(30,vY)]<|oY 20 [(31,vY)]<|xE iR
        intro bC aC;refine yW [0,5,6,7,42] rfl ?_;have H:=H.trans aC;exact yD rfl<|xQ zQ<|yL<|zU (ct hM03 H)
       | false =>
        have hM04:=uZ bG N;obtain ⟨y1,bf,N⟩:=zB hM04;cases bM:(!y1) with
        | true =>
         have hM05:=tZ bM N;refine vC [.p (vP b 0) [],.p (vT x.Name.l) [0],.q (.bool y),.q vF,.q vF,.p (vI t7) [],.q vY,.q vY,.p (vS p list c) [],.p (vI t7) [],.p (vI (W (t7 - 1))) [],.x (ePArr x1),.x (ePArr x1),.q (vT x1.Name.l),.p (vP b 0) [],.p (vT x.Name.l) [0],.q vF,.q vF,.q vF,.q vF,.p (vP b 1) [],.p (vS p1 x.Dims c1) [0],.p (vI (x.Dims.length:Int)) [],.q (.bool y1),.q vY,.q vY,.q vY,.p undef [],.p undef [],.p undef [],.p vY []] [[],[(0,false)],[(1,false)],[(2,false)],[(3,false)],[(4,false)],[(4,false),(5,false)],[(4,false),(6,false)],[(7,false)],[(7,false)],[(7,false),(9,false)],[(7,false),(8,false),(10,false)],[(7,false),(11,false)],[(7,false),(12,false)],[(7,false)],[(7,false),(14,false)],[(7,false),(13,false),(15,false)],[(4,false),(7,false),(16,false)],[(4,false),(17,false)],[(18,false)],[(19,false)],[(19,false),(20,false)],[(19,false),(21,false)],[(19,false),(22,false)],[(19,false),(23,false)],[(19,false),(24,false)],[(25,false)],[(26,false)],[(26,false),(27,false)],[(26,false),(28,false)],[(26,false),(29,false)]] [hB b (cArr x p1 c1)] [] [(30,false)] (zY [0]) ?_ ?_
         · refine Op<|Op<|Oq ?_<|Oq ?_<|Oq ?_<|Op<|Oq ?_<|Oq ?_<|Op<|Op<|Op<|Ox ?_<|Ox ?_<|Oq ?_<|Op<|Op<|Oq ?_<|Oq ?_<|Oq ?_<|Oq ?_<|Op<|Op<|Op<|Oq ?_<|Oq ?_<|Oq ?_<|Oq ?_<|Op<|Op<|Op<|Op<|On
           · intro I1 hf af;refine yW [13] rfl ?_;have H:=iS I1;refine uM (nF x.Name _ aA ) ?_;intro aT le;have H:=H.trans le;exact xE H
           · intro I1 hf af;refine yW [14] rfl<|oY 4 [(15,.bool (!y))] ?_;rw [aE];exact xE iR
           · intro I1 hf af;exact dC [(15,vF)]<|oY 5 [(16,vF)]<|xE iR
           · intro I1 hf af;refine yW [16,17] rfl<|oY 7 [(18,.bool (decide (t7>0)))] ?_;rw [aY];exact xE iR
           · intro I1 hf af;exact yW [16,18] rfl<|oY 8 [(19,vY)]<|xE iR
           · intro I1 hf af;refine yW [19,20,22] rfl ?_;have h:=h.mono af;refine xO rfl rfl h aJ ?_;intro ad1 bx au ax;obtain ⟨p2,c2,rfl,h3⟩:=wG ax;exact yQ [] iR ⟨_,_,_,rfl,rfl,au,h3⟩
           · rintro I1 hf af _ _ ⟨rfl,rfl⟩ _ _ ⟨ad1,p2,c2,rfl,rfl,au,h3⟩;exact yW [19,23] rfl<|oY 13 [(24,.pointer (some ad1))]<|yQ [] iR ⟨_,_,_,rfl,rfl,au,h3⟩
           · rintro I1 hf af _ _ ⟨rfl,rfl⟩ _ _ ⟨ad11,p21,c21,rfl,rfl,hat11,h31⟩;exact yW [19,24] rfl<|xJ 0 hat11 [vT x1.Name.l] (vT x1.Name.l) rfl<|xE iR
           · intro I1 hf af;refine yW [19,25,27] rfl<|oY 17 [(28,.bool (!(Op.bytesLess x1.Name.l x.Name.l)))] ?_;rw [bG];exact xE iR
           · intro I1 hf af;exact yW [16,19,28] rfl<|oY 18 [(29,vF)]<|xE iR
           · intro I1 hf af;exact yW [16,29] rfl<|oY 19 [(30,vF)]<|xE iR
           · intro I1 hf af;exact dC [(30,vF)]<|oY 20 [(31,vF)]<|xE iR
           · intro I1 hf af;refine yW [31,34] rfl ?_;have H:=iS I1;refine uM (wC (x.Dims.length:Int) 1 2 _ bf ) ?_;intro bJ aD;have H:=H.trans aD;exact xE H
           · intro I1 hf af;refine yW [31,35] rfl<|oY 25 [(36,.bool (!y1))] ?_;rw [bM];exact xE iR
           · intro I1 hf af;exact yW [31,36] rfl<|oY 26 [(37,vY)]<|xE iR
           intro I1 hf af;exact dC [(37,vY)]<|oY 27 [(38,vY)]<|xE iR
         intro bN aW;refine yW [0,5,6,7,42] rfl ?_;have H:=H.trans aW;exact yD rfl<|xQ zQ<|yL<|zU (ct hM05 H)
        | false =>
         have hM06:=uZ bM N;obtain ⟨y2,bw,N⟩:=zB hM06;refine vC [.p (vP b 0) [],.p (vT x.Name.l) [0],.q (.bool y),.q vF,.q vF,.p (vI t7) [],.q vY,.q vY,.p (vS p list c) [],.p (vI t7) [],.p (vI (W (t7 - 1))) [],.x (ePArr x1),.x (ePArr x1),.q (vT x1.Name.l),.p (vP b 0) [],.p (vT x.Name.l) [0],.q vF,.q vF,.q vF,.q vF,.p (vP b 1) [],.p (vS p1 x.Dims c1) [0],.p (vI (x.Dims.length:Int)) [],.q (.bool y1),.q vF,.q vF,.q vF,.p (vP b 1) [],.p (vS p1 x.Dims c1) [0],.q (.bool y2),.p (.bool y2) []] [[],[(0,false)],[(1,false)],[(2,false)],[(3,false)],[(4,false)],[(4,false),(5,false)],[(4,false),(6,false)],[(7,false)],[(7,false)],[(7,false),(9,false)],[(7,false),(8,false),(10,false)],[(7,false),(11,false)],[(7,false),(12,false)],[(7,false)],[(7,false),(14,false)],[(7,false),(13,false),(15,false)],[(4,false),(7,false),(16,false)],[(4,false),(17,false)],[(18,false)],[(19,false)],[(19,false),(20,false)],[(19,false),(21,false)],[(19,false),(22,false)],[(19,false),(23,false)],[(19,false),(24,false)],[(25,false)],[(26,false)],[(26,false),(27,false)],[(26,false),(28,false)],[(26,false),(29,false)]] [hB b (cArr x p1 c1)] [] [(30,false)] (zY [0]) ?_ ?_
         · refine Op<|Op<|Oq ?_<|Oq ?_<|Oq ?_<|Op<|Oq ?_<|Oq ?_<|Op<|Op<|Op<|Ox ?_<|Ox ?_<|Oq ?_<|Op<|Op<|Oq ?_<|Oq ?_<|Oq ?_<|Oq ?_<|Op<|Op<|Op<|Oq ?_<|Oq ?_<|Oq ?_<|Oq ?_<|Op<|Op<|Oq ?_<|Op<|On
           · intro I1 hf af;refine yW [13] rfl ?_;have H:=iS I1;refine uM (nF x.Name _ aA ) ?_;intro aT le;have H:=H.trans le;exact xE H
           · intro I1 hf af;refine yW [14] rfl<|oY 4 [(15,.bool (!y))] ?_;rw [aE];exact xE iR
           · intro I1 hf af;exact dC [(15,vF)]<|oY 5 [(16,vF)]<|xE iR
           · intro I1 hf af;refine yW [16,17] rfl<|oY 7 [(18,.bool (decide (t7>0)))] ?_;rw [aY];exact xE iR
           · intro I1 hf af;exact yW [16,18] rfl<|oY 8 [(19,vY)]<|xE iR
           · intro I1 hf af;refine yW [19,20,22] rfl ?_;have h:=h.mono af;refine xO rfl rfl h aJ ?_;intro ad1 bx au ax;obtain ⟨p2,c2,rfl,h3⟩:=wG ax;exact yQ [] iR ⟨_,_,_,rfl,rfl,au,h3⟩
           · rintro I1 hf af _ _ ⟨rfl,rfl⟩ _ _ ⟨ad1,p2,c2,rfl,rfl,au,h3⟩;exact yW [19,23] rfl<|oY 13 [(24,.pointer (some ad1))]<|yQ [] iR ⟨_,_,_,rfl,rfl,au,h3⟩
           · rintro I1 hf af _ _ ⟨rfl,rfl⟩ _ _ ⟨ad11,p21,c21,rfl,rfl,hat11,h31⟩;exact yW [19,24] rfl<|xJ 0 hat11 [vT x1.Name.l] (vT x1.Name.l) rfl<|xE iR
           · intro I1 hf af;refine yW [19,25,27] rfl<|oY 17 [(28,.bool (!(Op.bytesLess x1.Name.l x.Name.l)))] ?_;rw [bG];exact xE iR
           · intro I1 hf af;exact yW [16,19,28] rfl<|oY 18 [(29,vF)]<|xE iR
           · intro I1 hf af;exact yW [16,29] rfl<|oY 19 [(30,vF)]<|xE iR
           · intro I1 hf af;exact dC [(30,vF)]<|oY 20 [(31,vF)]<|xE iR
           · intro I1 hf af;refine yW [31,34] rfl ?_;have H:=iS I1;refine uM (wC (x.Dims.length:Int) 1 2 _ bf ) ?_;intro bJ aD;have H:=H.trans aD;exact xE H
           · intro I1 hf af;refine yW [31,35] rfl<|oY 25 [(36,.bool (!y1))] ?_;rw [bM];exact xE iR
           · intro I1 hf af;exact yW [31,36] rfl<|oY 26 [(37,vF)]<|xE iR
           · intro I1 hf af;exact dC [(37,vF)]<|oY 27 [(38,vF)]<|xE iR
           intro I1 hf af;refine yW [38,40] rfl ?_;have H:=iS I1;have ⟨h,h1⟩:=m2 af h h1;have hf0:FV1 Tryz.prog I1 [] (.func (.func 116) ⟨[]⟩ ⟨[]⟩) tF:=by
             refine FV1.intro ?_;intro I1 af x0 r u0 hF k0;obtain rfl:=k0;exact (zAI x0 r hF ).mono (by rintro k i hs u ⟨v0,rfl,rfl,h⟩; exact ⟨rfl,h⟩)
           refine xM (sT x.Dims tF _ bw h1 hf0) ?_;rintro I06 aw v2 k2 bt - ⟨v04,rfl,rfl,rfl⟩ -;have H:=H.trans bt;exact xE H
         intro I07 bv;refine yW [0,5,6,7,42] rfl ?_;have H:=H.trans bv;exact yD rfl<|xQ zQ<|yL<|zU (ct N H)
      | false =>
       have hM07:=uZ aY hM01;obtain ⟨y3,bH,N⟩:=zB hM07;cases hc5:(!y3) with
       | true =>
        have hM08:=tZ hc5 N;refine vC [.p (vP b 0) [],.p (vT x.Name.l) [0],.q (.bool y),.q vF,.q vF,.p (vI t7) [],.q vF,.q vF,.p undef [],.p undef [],.p undef [],.p undef [],.p undef [],.p undef [],.p undef [],.p undef [],.p undef [],.p vF [],.p vF [],.p vF [],.p (vP b 1) [],.p (vS p1 x.Dims c1) [0],.p (vI (x.Dims.length:Int)) [],.q (.bool y3),.q vY,.q vY,.q vY,.p undef [],.p undef [],.p undef [],.p vY []] [[],[(0,false)],[(1,false)],[(2,false)],[(3,false)],[(4,false)],[(4,false),(5,false)],[(4,false),(6,false)],[(7,false)],[(7,false)],[(7,false),(9,false)],[(7,false),(8,false),(10,false)],[(7,false),(11,false)],[(7,false),(12,false)],[(7,false)],[(7,false),(14,false)],[(7,false),(13,false),(15,false)],[(4,false),(7,false),(16,false)],[(4,false),(17,false)],[(18,false)],[(19,false)],[(19,false),(20,false)],[(19,false),(21,false)],[(19,false),(22,false)],[(19,false),(23,false)],[(19,false),(24,false)],[(25,false)],[(26,false)],[(26,false),(27,false)],[(26,false),(28,false)],[(26,false),(29,false)]] [hB b (cArr x p1 c1)] [] [(30,false)] (zY [0]) ?_ ?_
        · refine Op<|Op<|Oq ?_<|Oq ?_<|Oq ?_<|Op<|Oq ?_<|Oq ?_<|Op<|Op<|Op<|Op<|Op<|Op<|Op<|Op<|Op<|Op<|Op<|Op<|Op<|Op<|Op<|Oq ?_<|Oq ?_<|Oq ?_<|Oq ?_<|Op<|Op<|Op<|Op<|On
          · intro I1 hf af;refine yW [13] rfl ?_;have H:=iS I1;refine uM (nF x.Name _ aA ) ?_;intro aT le;have H:=H.trans le;exact xE H
          · intro I1 hf af;refine yW [14] rfl<|oY 4 [(15,.bool (!y))] ?_;rw [aE];exact xE iR
          · intro I1 hf af;exact dC [(15,vF)]<|oY 5 [(16,vF)]<|xE iR
          · intro I1 hf af;refine yW [16,17] rfl<|oY 7 [(18,.bool (decide (t7>0)))] ?_;rw [aY];exact xE iR
          · intro I1 hf af;exact yW [16,18] rfl<|oY 8 [(19,vF)]<|xE iR
          · intro I1 hf af;refine yW [31,34] rfl ?_;have H:=iS I1;refine uM (wC (x.Dims.length:Int) 1 2 _ bH ) ?_;intro I08 le7;have H:=H.trans le7;exact xE H
          · intro I1 hf af;refine yW [31,35] rfl<|oY 25 [(36,.bool (!y3))] ?_;rw [hc5];exact xE iR
          · intro I1 hf af;exact yW [31,36] rfl<|oY 26 [(37,vY)]<|xE iR
          intro I1 hf af;exact dC [(37,vY)]<|oY 27 [(38,vY)]<|xE iR
        intro I09 le8;refine yW [0,5,6,7,42] rfl ?_;have H:=H.trans le8;exact yD rfl<|xQ zQ<|yL<|zU (ct hM08 H)
       | false =>
        have hM09:=uZ hc5 N;obtain ⟨y4,hy6,N⟩:=zB hM09;refine vC [.p (vP b 0) [],.p (vT x.Name.l) [0],.q (.bool y),.q vF,.q vF,.p (vI t7) [],.q vF,.q vF,.p undef [],.p undef [],.p undef [],.p undef [],.p undef [],.p undef [],.p undef [],.p undef [],.p undef [],.p vF [],.p vF [],.p vF [],.p (vP b 1) [],.p (vS p1 x.Dims c1) [0],.p (vI (x.Dims.length:Int)) [],.q (.bool y3),.q vF,.q vF,.q vF,.p (vP b 1) [],.p (vS p1 x.Dims c1) [0],.q (.bool y4),.p (.bool y4) []] [[],[(0,false)],[(1,false)],[(2,false)],[(3,false)],[(4,false)],[(4,false),(5,false)],[(4,false),(6,false)],[(7,false)],[(7,false)],[(7,false),(9,false)],[(7,false),(8,false),(10,false)],[(7,false),(11,false)],[(7,false),(12,false)],[(7,false)],[(7,false),(14,false)],[(7,false),(13,false),(15,false)],[(4,false),(7,false),(16,false)],[(4,false),(17,false)],[(18,false)],[(19,false)],[(19,false),(20,false)],[(19,false),(21,false)],[(19,false),(22,false)],[(19,false),(23,false)],[(19,false),(24,false)],[(25,false)],[(26,false)],[(26,false),(27,false)],[(26,false),(28,false)],[(26,false),(29,false)]] [hB b (cArr x p1 c1)] [] [(30,false)] (zY [0]) ?_ ?_
        · refine Op<|Op<|Oq ?_<|Oq ?_<|Oq ?_<|Op<|Oq ?_<|Oq ?_<|Op<|Op<|Op<|Op<|Op<|Op<|Op<|Op<|Op<|Op<|Op<|Op<|Op<|Op<|Op<|Oq ?_<|Oq ?_<|Oq ?_<|Oq ?_<|Op<|Op<|Oq ?_<|Op<|On
          · intro I1 hf af;refine yW [13] rfl ?_;have H:=iS I1;refine uM (nF x.Name _ aA ) ?_;intro aT le;have H:=H.trans le;exact xE H
          · intro I1 hf af;refine yW [14] rfl<|oY 4 [(15,.bool (!y))] ?_;rw [aE];exact xE iR
          · intro I1 hf af;exact dC [(15,vF)]<|oY 5 [(16,vF)]<|xE iR
          · intro I1 hf af;refine yW [16,17] rfl<|oY 7 [(18,.bool (decide (t7>0)))] ?_;rw [aY];exact xE iR
          · intro I1 hf af;exact yW [16,18] rfl<|oY 8 [(19,vF)]<|xE iR
          · intro I1 hf af;refine yW [31,34] rfl ?_;have H:=iS I1;refine uM (wC (x.Dims.length:Int) 1 2 _ bH ) ?_;intro I08 le7;have H:=H.trans le7;exact xE H
          · intro I1 hf af;refine yW [31,35] rfl<|oY 25 [(36,.bool (!y3))] ?_;rw [hc5];exact xE iR
          · intro I1 hf af;exact yW [31,36] rfl<|oY 26 [(37,vF)]<|xE iR
          · intro I1 hf af;exact dC [(37,vF)]<|oY 27 [(38,vF)]<|xE iR
          intro I1 hf af;refine yW [38,40] rfl ?_;have H:=iS I1;have ⟨h,h1⟩:=m2 af h h1;have hf01:FV1 Tryz.prog I1 [] (.func (.func 116) ⟨[]⟩ ⟨[]⟩) tF:=by
            refine FV1.intro ?_;intro I1 af x0 r u0 hF k0;obtain rfl:=k0;exact (zAI x0 r hF ).mono (by rintro k i hs u ⟨v0,rfl,rfl,h⟩; exact ⟨rfl,h⟩)
          refine xM (sT x.Dims tF _ hy6 h1 hf01) ?_;rintro bP aw v2 k2 le9 - ⟨v06,rfl,rfl,rfl⟩ -;have H:=H.trans le9;exact xE H
        intro bV le10;refine yW [0,5,6,7,42] rfl ?_;have H:=H.trans le10;exact yD rfl<|xQ zQ<|yL<|zU (ct N H)
   intro t42 I0 le11 aS;have ⟨h,H⟩:=m2 le11 h H;refine zI<|yF aS ?_ ?_
   · intro hc6 N;exact vR [(2,vF)]<|xC<|zW<|zH<|zH<|hr _ _ _ _ (zC N).symm H ⟨_,_,(.tmp rfl ResV.nil),zQ,⟨_,rfl,rfl,rfl⟩⟩
   intro hc6 N;exact zT<|zP<|zI<|zM<|yI [] [7] rfl<|yP<|nN<|ih (W (t7+1)) _ N H h hg ho hx hr
 intro hc N;exact wR<|yL<|hx _  (zC N).symm H
def jM (list:(List zF)):Option (Bool):=do
 match<-qG list 0 with
 | .ret r0=>pure r0
 | .done _ =>
  pure (decide ((list.length:Int)<=4))
theorem zFK:∀ list r,jM list=some r->∀ {I:Imm}{p c},(S4 I p list c)->RT 77 [vS p list c] I [] (zV  r):=by
 intro list r N I p c h;unfold jM at N;refine yJ func77 fun B=>vR []<|yA<|yG [5,6,7] rfl<|xX<|qP [(0,vS p list c),(5,vS p list c),(6,vI (list.length:Int)),(7,vI 0)] ?_;obtain ⟨aM,az,aI⟩:=zB N;refine zCn list 0 aM az iR h (fun _ _ _ h=>h) (fun _ _ h=>h) ?_ ?_
 · intro bW  heq1 le12;subst aM;refine zS<|vK [2] rfl<|zI<|xB ?_;obtain rfl:=zC aI;exact vE
 intro r0 I9 hs9 m9 aX le9 ba;subst aX;refine zW<|zH ?_;obtain rfl:=zC aI;exact xA ba
def rZ (bd:List HA) (r:Int):KT:=fun kk I' ah v=>
  ∃ v0,bd=ah/\v=tupV [v0]/\v0=.int .i64 r
def yY (s:(List zA)) (f0:(zA->Option Bool)) (t8:Int):Option (Out Unit (Int)):=do
 if (decide (t8<(s.length:Int))) then
  let x<-idx s t8
  let y<-f0 x
  if y then
   pure (.ret t8)
  else
   yY s f0 (W (t8+1))
 else
  pure (.done ())
 partial_fixpoint
theorem mZ (s:(List zA)) (f0:(zA->Option Bool)):∀ (t8:Int) (o:Out Unit (Int)),yY s f0 t8=some o->∀ {B}{I0 I:Imm}{Q p c}{fv:Value}{bd:List HA},I0.le I->(S4 I p s c)->(FV1 Tryz.prog I bd fv f0)->NG Q->NO Q->(∀ (I':Imm) ,o=(.done ())->I0.le I'->T 19 B Q (.exit 0) I' bd [])->(∀ r I' ah m',o=(.ret r)->I0.le I'->RS Tryz.prog f197 B (rZ bd r) I' ah m'->T 19 B Q .ret I' ah m')->J Tryz.prog 19 B (nav (bodyOf f197) [1,0,1,0]) Q I bd [(0,vS p s c),(1,fv),(7,vI (s.length:Int)),(8,vI t8)]:=by
 refine yY.partial_correctness s f0 _ fun aH ih t8 o N B I0 I Q p c fv bd H h h1 hg ho hx hr=>yR hg ho<|yG [9] rfl<|yA<|yF N ?_ ?_
 · intro hc N;refine zT<|yA<|yH<|yG [5] rfl<|yV<|yC 3 [] [11,12,13] rfl<|bE N fun x hy N=>xO rfl rfl h hy ?_;intro ad aK aq al;obtain ⟨p1,c1,rfl,h2⟩:=yM al;refine xJ 0 aq (cAff x p1 c1) (vA (cAff x p1 c1)) rfl<|bE N fun y aA N=>zKN rfl rfl h1 aA ⟨_,rfl,(yK ⟨_,rfl,h2⟩)⟩ (cu _).symm ?_;rintro I0 v01 le rfl;refine wE (ah:=bd) (cu _) ?_;have ⟨h,h1,H⟩:=m3 le h h1 H;refine yD rfl<|zI<|yF N ?_ ?_
   · intro aE N;exact yG [4] rfl<|xC<|zW<|zH<|zH<|hr _ _ _ _ (zC N).symm H ⟨_,_,(.tmp rfl ResV.nil),(fun _ h=>h),⟨_,rfl,rfl,rfl⟩⟩
   intro aE N;exact zT<|zP<|zI<|zM<|yI [] [8] rfl<|yP<|nN<|ih (W (t8+1)) _ N H h h1 hg ho hx hr
 intro hc N;exact wR<|yL<|hx _  (zC N).symm H
def wU (s:(List zA)) (f0:(zA->Option Bool)):Option (Int):=do
 match<-yY s f0 0 with
 | .ret r0=>pure r0
 | .done _ =>
  pure (-1)
theorem kZ:∀ s f0 r,wU s f0=some r->∀ {I:Imm}{p c}{fv:Value}{bd:List HA},(S4 I p s c)->(FV1 Tryz.prog I bd fv f0)->RT 197 [vS p s c,fv] I bd (rZ bd r):=by
 intro s f0 r N I p c fv bd h h1;unfold wU at N;refine yJ func197 fun B=>vR []<|yA<|yG [7,8] rfl<|xX<|qP [(0,vS p s c),(1,fv),(7,vI (s.length:Int)),(8,vI 0)] ?_;obtain ⟨o0,aB,aI⟩:=zB N;refine mZ s f0 0 o0 aB iR h h1 (fun _ _ _ h=>h) (fun _ _ h=>h) ?_ ?_
 · intro aT  heq af;subst o0;refine zS<|vK [4] rfl<|zI<|xB ?_;obtain rfl:=zC aI;exact xA ⟨_,_,(.tmp rfl ResV.nil),(fun _ h=>h),⟨_,rfl,rfl,rfl⟩⟩
 intro r0 I9 hs9 m9 aX le9 ba;subst aX;refine zW<|zH ?_;obtain rfl:=zC aI;exact xA ba
def mC (bd:List HA) (r:Bool):KT:=fun kk I' ah v=>
  ∃ v0,bd=ah/\v=tupV [v0]/\v0=.bool r
def xI (s:(List zA)) (f0:(zA->Option Bool)):Option (Bool):=do
 let y<-wU s f0
 pure (decide (y>=0))
theorem rU:∀ s f0 r,xI s f0=some r->∀ {I:Imm}{p c}{fv:Value}{bd:List HA},(S4 I p s c)->(FV1 Tryz.prog I bd fv f0)->RT 159 [vS p s c,fv] I bd (mC bd r):=by
 intro s f0 r N I p c fv bd h h1;unfold xI at N;refine yJ func159 fun B=>vR []<|yV<|yC 2 [] [5,6] rfl<|bE N fun y hy N=>zEd (hs1:=bd) (rest:=[]) rfl rfl rfl rfl (by kernel_rfl) rfl (cu _).symm (kZ s f0 _ hy h h1) ?_;rintro I0 aw v2 k2 le - ⟨v0,rfl,rfl,rfl⟩ -;refine wE (ah:=bd) (cu _) ?_;refine yI [] [4] rfl<|zI<|xB ?_;obtain rfl:=zC N;exact xA ⟨_,_,(.tmp rfl ResV.nil),(fun _ h=>h),⟨_,rfl,rfl,rfl⟩⟩
def fZ (n0:Int):Option (Bool):=do
 let y<-xW n0 (-99) 99
 pure (id y)
theorem zFi:∀ n0 r,fZ n0=some r->∀ {I:Imm} ,RT 198 [vI n0] I [] (zV  r):=by
 intro n0 r N I;unfold fZ at N;refine yJ func198 fun B=>vR []<|yV<|yC 1 [] [3] rfl<|bE N fun y hy N=>uM (wC n0 (-99) 99 _ hy ) fun I0 le=>wB [] [(2,.bool y)]<|zI<|xB ?_;obtain rfl:=zC N;exact vE
def sG (c:Int):Option (Bool):=do
 let y<-xW c (-9) 9
 pure (!y)
theorem zBk:∀ c r,sG c=some r->∀ {I:Imm} ,RT 199 [vI c] I [] (zV  r):=by
 intro c r N I;unfold sG at N;refine yJ func199 fun B=>vR []<|yV<|yC 1 [] [3] rfl<|bE N fun y hy N=>uM (wC c (-9) 9 _ hy ) fun I0 le=>wB [] [(2,.bool (!y))]<|zI<|xB ?_;obtain rfl:=zC N;exact vE
def qH (a0:zA):Option (Bool):=do
 let t2<-(do
   if ((a0.Coefs.length:Int)==4) then
    let y<-fZ a0.Const
    if y then
     let y1<-xK a0.Coefs sG
     pure (!y1)
    else
     pure false
   else
    pure false
     : Option Bool)
 pure (id t2)
theorem nL:∀ a0 r,qH a0=some r->∀ {I:Imm}{p c},(S4 I p a0.Coefs c)->RT 161 [vA (cAff a0 p c)] I [] (zV  r):=by
 intro a0 r N I p c h;unfold qH at N;refine yJ func161 fun B=>?_;have H:=iS I;refine yE<|tW (cAff a0 p c) ?_;intro b hb;refine wB [] []<|zI<|yB ?_;refine wS N [] (fun t2=>[(2,.bool t2)]) (fun o0 aB=>?_) ?_
 · have H:=iS I;refine zM<|yC 5 [0] [7] rfl<|xS [7] aB ?_ ?_
   · intro hc N;refine yC 7 [0] [9] rfl<|bE N fun y hy N=>uM (zFi a0.Const _ hy ) ?_;intro aT le;have ⟨h,H⟩:=m2 le h H;refine yC 10 [] [12] rfl<|xS [12] N ?_ ?_
     · intro aE N;refine yC 12 [0] [14] rfl ?_;have hf0:FV1 Tryz.prog aT [] (.func (.func 199) ⟨[]⟩ ⟨[]⟩) sG:=by
         refine FV1.intro ?_;intro I1 af x0 r u0 hF k0;obtain rfl:=k0;exact (zBk x0 r hF ).mono (by rintro k i hs u ⟨v0,rfl,rfl,h⟩; exact ⟨rfl,h⟩)
       obtain ⟨y1,aA,N⟩:=zB N;refine xM (sT a0.Coefs sG _ aA h hf0) ?_;rintro aU aw v2 k2 af - ⟨v01,rfl,rfl,rfl⟩ -;have H:=H.trans af;exact yI [] [2] rfl<|xQ zQ<|yL<|zU (ct N H)
     intro aE N;exact wB [] [(2,vF)]<|xQ zQ<|yL<|zU (ct N H)
   intro hc N;exact wB [] [(2,vF)]<|xQ zQ<|yL<|zU (ct N H)
 intro t2 I0 aC aS;refine zI<|xB ?_;obtain rfl:=zC aS;exact vE
def tJ (a0:zA) (n0:Int):Option (Int):=do
 let t17<-(do
   if (decide (n0>0)) then
    let x<-idx a0.Coefs (W (n0 - 1))
    pure (x==0)
   else
    pure false
     : Option Bool)
 if t17 then
  tJ a0 (W (n0 - 1))
 else
  pure (id n0)
 partial_fixpoint
theorem zBC (a0:zA):∀ (n0:Int) (o:Int),tJ a0 n0=some o->∀ {B}{I0 I:Imm}{Q p c}{b:Nat},I0.le I->(S4 I p a0.Coefs c)->NG Q->NO Q->(∀ (I':Imm) (n01:Int),o=n01->I0.le I'->T 21 B Q (.exit 0) I' [] [(3,vI n01)])->J Tryz.prog 21 B (nav (bodyOf f162) [1,1,0,0]) Q I [hB b (cAff a0 p c)] [(1,vP b 0),(3,vI n0)]:=by
 refine tJ.partial_correctness a0 _ fun aH ih n0 o N B I0 I Q p c b H h hg ho hx=>yR hg ho<|yB<|yB ?_;refine wS N [hB b (cAff a0 p c)] (fun t17=>[(1,vP b 0),(3,vI n0),(17,.bool t17)]) (fun o0 aB=>?_) ?_
 · have H:=iS I;refine zM<|yC 3 [] [9] rfl<|xS [9] aB ?_ ?_
   · intro hc N;refine yC 7 [0] [11,13] rfl<|bE N fun x hy N=>xO rfl rfl h hy ?_;intro ad aK aq al;obtain rfl:=al;exact xJ 0 aq [vI x] (vI x) rfl<|yI [] [17] rfl<|yL<|zU (ct N H)
   intro hc N;exact wB [] [(17,vF)]<|yL<|zU (ct N H)
 intro t17 I0 le aS;have ⟨h,H⟩:=m2 le h H;refine zI<|yF aS ?_ ?_
 · intro aE N;exact zT<|xX<|zM<|yI [] [3] rfl<|zP<|yP<|nN<|ih (W (n0 - 1)) _ N H h hg ho hx
 intro aE N;exact wR<|xQ zQ<|yL<|hx _ _ (zC N).symm H
def sZ (a0:zA):Option (Int):=do
 let n01<-tJ a0 (a0.Coefs.length:Int)
 pure (id n01)
theorem gK:∀ a0 r,sZ a0=some r->∀ {I:Imm}{p c},(S4 I p a0.Coefs c)->RT 162 [vA (cAff a0 p c)] I [] (xD  r):=by
 intro a0 r N I p c h;unfold sZ at N;refine yJ func162 fun B=>yE<|tW (cAff a0 p c) ?_;intro b hb;refine wB [] []<|yV<|yI [0] [3] rfl<|yA<|yH<|qP [(1,vP b 0),(3,vI (a0.Coefs.length:Int))] ?_;obtain ⟨aM,az,aI⟩:=zB N;refine zBC a0 (a0.Coefs.length:Int) aM az iR h (fun _ _ _ h=>h) (fun _ _ h=>h) ?_;intro aT n01 heq1 af;subst aM;refine zS<|vK [2] rfl<|zI<|xB ?_;obtain rfl:=zC aI;exact vE
def rE (a0:zA) (x:Int):Option (Bool):=do
 let t3<-(do
   let y<-qH a0
   if (!y) then
    pure true
   else
    let y1<-sZ a0
    pure (decide (y1>x))
     : Option Bool)
 pure (id t3)
theorem zDU:∀ a0 x r,rE a0 x=some r->∀ {I:Imm}{p c}{ad:Addr},(S4 I p a0.Coefs c)->(At I ad [vI x])->RT 196 [vA (cAff a0 p c),.pointer (some ad)] I [] (zV  r):=by
 intro a0 x r N I p c ad h aq;unfold rE at N;refine yJ func196 fun B=>?_;have H:=iS I;refine yE<|tW (cAff a0 p c) ?_;intro b hb;refine wB [] []<|zI<|yB ?_;refine wS N [] (fun t3=>[(3,.bool t3)]) (fun o0 aB=>?_) ?_
 · have H:=iS I;obtain ⟨y,hy,N⟩:=zB aB;cases hc:(!y) with
   | true =>
    have hM0:=tZ hc N;refine vC [.p (vA (cAff a0 p c)) [0],.q (.bool y),.q vY,.q vY,.p undef [],.p undef [],.p undef [],.p undef [],.p vY []] [[],[(0,false)],[(1,false)],[(2,false)],[(3,false)],[(3,false),(4,false)],[(3,false)],[(3,false),(5,false),(6,false)],[(3,false),(7,false)]] [hB b (cAff a0 p c)] [] [(8,false)] (zY [0]) ?_ ?_
    · refine Op<|Oq ?_<|Oq ?_<|Oq ?_<|Op<|Op<|Op<|Op<|Op<|On
      · intro I1 hf af;refine yW [4] rfl ?_;have H:=iS I1;have h:=h.mono af;refine uM (nL a0 _ hy h) ?_;intro aT le;have H:=H.trans le;exact xE H
      · intro I1 hf af;refine yW [5] rfl<|oY 3 [(6,.bool (!y))] ?_;rw [hc];exact xE iR
      intro I1 hf af;exact dC [(6,vY)]<|oY 4 [(7,vY)]<|xE iR
    intro aU af;refine dC [(12,vY)] ?_;have H:=H.trans af;exact wB [] [(3,vY)]<|xQ zQ<|yL<|zU (ct hM0 H)
   | false =>
    have hM01:=uZ hc N;obtain ⟨y1,aA,N⟩:=zB hM01;refine vC [.p (vA (cAff a0 p c)) [0],.q (.bool y),.q vF,.q vF,.p (vA (cAff a0 p c)) [0],.q (vI y1),.q (vI x),.p (.bool (decide (y1>x))) [],.p (.bool (decide (y1>x))) []] [[],[(0,false)],[(1,false)],[(2,false)],[(3,false)],[(3,false),(4,false)],[(3,false)],[(3,false),(5,false),(6,false)],[(3,false),(7,false)]] [hB b (cAff a0 p c)] [] [(8,false)] (zY [0]) ?_ ?_
    · refine Op<|Oq ?_<|Oq ?_<|Oq ?_<|Op<|Oq ?_<|Oq ?_<|Op<|Op<|On
      · intro I1 hf af;refine yW [4] rfl ?_;have H:=iS I1;have h:=h.mono af;refine uM (nL a0 _ hy h) ?_;intro aT le;have H:=H.trans le;exact xE H
      · intro I1 hf af;refine yW [5] rfl<|oY 3 [(6,.bool (!y))] ?_;rw [hc];exact xE iR
      · intro I1 hf af;exact dC [(6,vF)]<|oY 4 [(7,vF)]<|xE iR
      · intro I1 hf af;refine yW [7,8] rfl ?_;have H:=iS I1;have h:=h.mono af;refine gR (gK a0 _ aA h) ?_;intro bC aC;have H:=H.trans aC;exact xE H
      intro I1 hf af;refine yW [1,7] rfl ?_;have aq:=aq.mono af;exact xJ 0 aq [vI x] (vI x) rfl<|xE iR
    intro bJ aD;refine yW [12] rfl ?_;have H:=H.trans aD;exact yI [] [3] rfl<|xQ zQ<|yL<|zU (ct N H)
 intro t3 I0 aW aS;refine zI<|xB ?_;obtain rfl:=zC aS;exact vE
def mG (list:(List zA)) (aa:Int):Option (Bool):=do
 let t4<-(do
   let y<-xW (list.length:Int) 1 2
   if y then
    let y1<-xI list (fun x0=>rE x0 aa)
    pure (!y1)
   else
    pure false
     : Option Bool)
 pure (id t4)
theorem zBD:∀ list aa r,mG list aa=some r->∀ {I:Imm}{p c},(S4 I p list c)->RT 157 [vS p list c,vI aa] I [] (zV  r):=by
 intro list aa r N I p c h;unfold mG at N;refine yJ func157 fun B=>?_;have H:=iS I;refine yE<|tW [vI aa] ?_;intro b hb;refine xF 0 rfl ?_;intro I0 le hl0;have aq:At I0 ⟨b,0,none⟩ [vI aa]:=At.of_blk hl0;have ⟨h,H⟩:=m2 le h H;refine wB [] []<|zI<|yB ?_;refine wS N [] (fun t4=>[(4,.bool t4)]) (fun o0 aB=>?_) ?_
 · have H:=iS I0;refine zM<|yC 2 [] [6] rfl ?_;obtain ⟨y,hy,N⟩:=zB aB;refine uM (wC (list.length:Int) 1 2 _ hy ) ?_;intro aU af;have ⟨h,aq,H⟩:=m3 af h aq H;refine yC 4 [] [8] rfl<|xS [8] N ?_ ?_
   · intro hc N;refine yC 6 [] [9,10] rfl ?_;have hf0:FV1 Tryz.prog aU [] (.func (.func 196) ⟨[]⟩ ⟨[vP b 0]⟩) (fun x0=>rE x0 aa):=by
       refine FV1.intro ?_;intro I1 af x0 r u0 hF k0;obtain ⟨_,rfl,k0⟩:=k0;obtain ⟨p1,c1,rfl,h2⟩:=yM k0;exact (zDU x0 aa r hF h2 (aq.mono af)).mono (by rintro k i hs u ⟨v0,rfl,rfl,h⟩; exact ⟨rfl,h⟩)
     obtain ⟨y1,aA,N⟩:=zB N;refine xM (rU list (fun x0=>rE x0 aa) _ aA h hf0) ?_;rintro bC aw v2 k2 aC - ⟨v02,rfl,rfl,rfl⟩ -;have H:=H.trans aC;exact yI [] [4] rfl<|yL<|zU (ct N H)
   intro hc N;exact wB [] [(4,vF)]<|yL<|zU (ct N H)
 intro t4 aT aD aS;refine zI<|xB ?_;obtain rfl:=zC aS;exact vE
def rA (nest:(List zE)) (t7:Int):Option (Out Unit (Bool)):=do
 if (decide (t7<(nest.length:Int))) then
  let x<-idx nest t7
  let t23<-(do
    let y<-mG x.Lo t7
    if (!y) then
     pure true
    else
     let y1<-mG x.Hi t7
     pure (!y1)
      : Option Bool)
  if t23 then
   pure (.ret false)
  else
   rA nest (W (t7+1))
 else
  pure (.done ())
 partial_fixpoint
theorem zCJ (nest:(List zE)):∀ (t7:Int) (o:Out Unit (Bool)),rA nest t7=some o->∀ {B}{I0 I:Imm}{Q p c},I0.le I->(S4 I p nest c)->NG Q->NO Q->(∀ (I':Imm) ,o=(.done ())->I0.le I'->T 28 B Q (.exit 0) I' [] [(0,vS p nest c)])->(∀ r I' ah m',o=(.ret r)->I0.le I'->RS Tryz.prog f117 B (zV  r) I' ah m'->T 28 B Q .ret I' ah m')->J Tryz.prog 28 B (nav (bodyOf f117) [1,0,1,0]) Q I [] [(0,vS p nest c),(5,vS p nest c),(6,vI (nest.length:Int)),(7,vI t7)]:=by
 refine rA.partial_correctness nest _ fun aH ih t7 o N B I0 I Q p c H h hg ho hx hr=>yR hg ho<|yG [8] rfl<|yA<|yF N ?_ ?_
 · intro hc N;refine zT<|yA<|yH<|yE<|yC 1 [] [9] rfl<|bE N fun x hy N=>xO rfl rfl h hy ?_;intro ad aK aq al;obtain ⟨p1,c1,p2,c2,rfl,h1,h2⟩:=sA al;refine xJ 0 aq (cLoop x p1 c1 p2 c2) (vA (cLoop x p1 c1 p2 c2)) rfl<|wL zTwo ?_;intro b hb;refine yC 5 [] [3] rfl<|xH 0 (cLoop x p1 c1 p2 c2) rfl<|yD rfl<|zI<|yB ?_;refine wS N [] (fun t23=>[(0,vS p nest c),(5,vS p nest c),(6,vI (nest.length:Int)),(7,vI t7),(23,.bool t23)]) (fun o0 aB=>?_) ?_
   · have H:=iS I;refine zM<|yC 3 [0] [13,14] rfl ?_;obtain ⟨y,aA,N⟩:=zB aB;refine uM (zBD x.Lo t7 _ aA h1) ?_;intro aT le;have ⟨h2,H⟩:=m2 le h2 H;refine yC 6 [] [17] rfl<|xS [17] N ?_ ?_
     · intro aE N;exact wB [] [(23,vY)]<|xQ zQ<|yL<|zU (ct N H)
     intro aE N;refine yC 9 [0] [19,20] rfl<|bE N fun y1 aJ N=>uM (zBD x.Hi t7 _ aJ h2) ?_;intro aU af;have H:=H.trans af;exact yI [] [23] rfl<|xQ zQ<|yL<|zU (ct N H)
   intro t23 I0 aC aS;have ⟨h,H⟩:=m2 aC h H;refine zI<|yF aS ?_ ?_
   · intro aY N;exact vR [(2,vF)]<|xC<|zW<|zH<|zH<|hr _ _ _ _ (zC N).symm H ⟨_,_,(.tmp rfl ResV.nil),zQ,⟨_,rfl,rfl,rfl⟩⟩
   intro aY N;exact zT<|zP<|zI<|zM<|yI [] [7] rfl<|yP<|nN<|ih (W (t7+1)) _ N H h hg ho hx hr
 intro hc N;exact wR<|yL<|hx _  (zC N).symm H
def kR (nest:(List zE)):Option (Bool):=do
 match<-rA nest 0 with
 | .ret r0=>pure r0
 | .done _ =>
  pure (decide ((nest.length:Int)<=4))
theorem zEN:∀ nest r,kR nest=some r->∀ {I:Imm}{p c},(S4 I p nest c)->RT 117 [vS p nest c] I [] (zV  r):=by
 intro nest r N I p c h;unfold kR at N;refine yJ func117 fun B=>vR []<|yA<|yG [5,6,7] rfl<|xX<|qP [(0,vS p nest c),(5,vS p nest c),(6,vI (nest.length:Int)),(7,vI 0)] ?_;obtain ⟨aM,az,aI⟩:=zB N;refine zCJ nest 0 aM az iR h (fun _ _ _ h=>h) (fun _ _ h=>h) ?_ ?_
 · intro bC  heq1 aD;subst aM;refine zS<|vK [2] rfl<|zI<|xB ?_;obtain rfl:=zC aI;exact vE
 intro r0 I9 hs9 m9 aX le9 ba;subst aX;refine zW<|zH ?_;obtain rfl:=zC aI;exact xA ba
def zAR (r:List Int):KT:=fun kk I' ah v=>
  ∃ a0 c0 s0,ah=[.osl (.slice a0 r.length c0) (Rp.sz Int) s0]/\v=tupV [(.slice a0 r.length c0)]/\RepL (Rp.rep I') (Rp.sz Int) s0 r
def sU (s:List Int):Option (List Int):=app 8 ([]:List Int) s
theorem kS:∀ s r,sU s=some r->∀ {I:Imm}{p c},SL I (vS p s c) s->RT 84 [vS p s c] I [] (zAR r):=by
 intro s r N I p c h;unfold sU at N;obtain ⟨aK,k0,k01⟩:=h;refine yJ func84 fun B=>?_;cases p with
 | none =>
  have hs:s=[]:=by
    rcases k0 with ⟨hv,rfl⟩ | ⟨b0,off,len,cap,cc,hv,k2⟩
    · cases s with
      | nil=>rfl
      | cons _ _=>simp at hv
    simp at hv
  subst hs;obtain ⟨_,rfl⟩:=gT N;refine yG [0,2] rfl<|yA<|yE<|yC 1 [] [3] rfl<|zMR true rfl rfl ?_ rfl;exact wB [] [(4,vY)]<|zI<|fO rfl<|vR [(2,z0)]<|xC<|zH<|xQ (pP (Rp.sz Int))<|xA ⟨_,_,(.tmp rfl ResV.nil),(zX [0] rfl (by decide)),⟨none,0,[],rfl,rfl,rfl⟩⟩
 | some ad =>
  refine yG [0,2] rfl<|yA<|yE<|yC 1 [] [3] rfl<|zMR false rfl rfl ?_ rfl;refine yI [] [0,4] rfl<|zI<|jD rfl<|zT<|yV<|uD [] Int ?_;intro b2 hb2;have h1:RL I [] ([]:List Int):=rfl;exact yC 2 [] [6] rfl<|sC 3 1 0 rfl rfl rfl h1 (.inl k0) k01 N fun p1 c1 cs h2=>yI [] [2] rfl<|xC<|xA ⟨_,_,(.tmp rfl ResV.nil),(zX [0] rfl (by decide)),⟨_,_,_,rfl,rfl,h2⟩⟩
def tY (a0:zA) (ag:(List Int)) (sum:Int) (t12:Int):Option (Int):=do
 if (decide (t12<(ag.length:Int))) then
  let x<-idx ag t12
  let x1<-idx a0.Coefs t12
  tY a0 ag (W (sum+(W (x1*x)))) (W (t12+1))
 else
  pure (id sum)
 partial_fixpoint
theorem zBX (a0:zA) (ag:(List Int)):∀ (sum:Int) (t12:Int) (o:Int),tY a0 ag sum t12=some o->∀ {B}{I0 I:Imm}{Q p c p1 c1}{b:Nat},I0.le I->(S4 I p1 ag c1)->(S4 I p a0.Coefs c)->NG Q->NO Q->(∀ (I':Imm) (sum1:Int),o=sum1->I0.le I'->T 28 B Q (.exit 0) I' [] [(5,vI sum1)])->J Tryz.prog 28 B (nav (bodyOf f167) [1,1,0,1,0]) Q I [hB b (cAff a0 p c)] [(2,vP b 0),(5,vI sum),(10,vS p1 ag c1),(11,vI (ag.length:Int)),(12,vI t12)]:=by
 refine tY.partial_correctness a0 ag _ fun aH ih sum t12 o N B I0 I Q p c p1 c1 b H h1 h hg ho hx=>yR hg ho<|yG [13] rfl<|yA<|yF N ?_ ?_
 · intro hc N;refine zT<|yA<|yH<|yE<|yC 1 [] [14] rfl<|bE N fun x hy N=>xO rfl rfl h1 hy ?_;intro ad aK aq al;obtain rfl:=al;refine xJ 0 aq [vI x] (vI x) rfl<|yI [] [6,7] rfl<|zI<|zM<|yC 4 [0] [17,19,20] rfl<|bE N fun x1 aA N=>xO rfl rfl h aA ?_;intro ad1 bx au ax;obtain rfl:=ax;exact xJ 0 au [vI x1] (vI x1) rfl<|yI [] [5] rfl<|zP<|zI<|zM<|yI [] [12] rfl<|yP<|nN<|ih (W (sum+(W (x1*x)))) (W (t12+1)) _ N H h1 h hg ho hx
 intro hc N;exact wR<|xQ zQ<|yL<|hx _ _ (zC N).symm H
def tK (a0:zA) (ag:(List Int)):Option (Int):=do
 let sum1<-tY a0 ag a0.Const 0
 pure (id sum1)
theorem nM:∀ a0 ag r,tK a0 ag=some r->∀ {I:Imm}{p c p1 c1},(S4 I p a0.Coefs c)->(S4 I p1 ag c1)->RT 167 [vA (cAff a0 p c),vS p1 ag c1] I [] (xD  r):=by
 intro a0 ag r N I p c p1 c1 h h1;unfold tK at N;refine yJ func167 fun B=>yE<|tW (cAff a0 p c) ?_;intro b hb;refine wB [] []<|yV<|yI [0] [5] rfl<|yA<|yG [10,11,12] rfl<|xX<|qP [(2,vP b 0),(5,vI a0.Const),(10,vS p1 ag c1),(11,vI (ag.length:Int)),(12,vI 0)] ?_;obtain ⟨o0,aB,aI⟩:=zB N;refine zBX a0 ag a0.Const 0 o0 aB iR h1 h (fun _ _ _ h=>h) (fun _ _ h=>h) ?_;intro I0 sum1 heq le;subst o0;refine zS<|vK [4] rfl<|zI<|xB ?_;obtain rfl:=zC aI;exact vE
def rB (l:zE) (ag:(List Int)) (lo:Int) (t27:Int):Option (Int):=do
 if (decide (t27<(l.Lo.length:Int))) then
  let x2<-idx l.Lo t27
  let y2<-tK x2 ag
  rB l ag (if y2>lo then y2 else lo) (W (t27+1))
 else
  pure (id lo)
 partial_fixpoint
theorem zCK (l:zE) (ag:(List Int)):∀ (lo:Int) (t27:Int) (o:Int),rB l ag lo t27=some o->∀ {B}{I0 I:Imm}{Q}{y1:Int}{p c p1 c1 p2 c2}{b:Nat},I0.le I->(S4 I p2 ag c2)->(S4 I p l.Lo c)->(S4 I p1 l.Hi c1)->NG Q->NO Q->(∀ (I':Imm) (lo1:Int),o=lo1->I0.le I'->T 52 B Q (.exit 0) I' [hB b (cLoop l p c p1 c1)] [(1,vS p2 ag c2),(2,vP b 0),(6,vI lo1),(7,vI y1)])->J Tryz.prog 52 B (nav (bodyOf f158) [1,1,0,1,0]) Q I [hB b (cLoop l p c p1 c1)] [(1,vS p2 ag c2),(2,vP b 0),(6,vI lo),(7,vI y1),(25,vS p l.Lo c),(26,vI (l.Lo.length:Int)),(27,vI t27)]:=by
 refine rB.partial_correctness l ag _ fun aH ih lo t27 o N B I0 I Q y1 p c p1 c1 p2 c2 b H h2 h h1 hg ho hx=>yR hg ho<|yG [28] rfl<|yA<|yF N ?_ ?_
 · intro hc N;refine zT<|yA<|yH<|yE<|bE N fun x2 bw N=>xO rfl rfl h bw ?_;intro ad2 bO br bq;obtain ⟨p5,c5,rfl,h7⟩:=yM bq;refine xJ 0 br (cAff x2 p5 c5) (vA (cAff x2 p5 c5)) rfl<|wL [z0,vI 0] ?_;intro b1 hb1;refine xH 0 (cAff x2 p5 c5) rfl<|yD rfl<|zI<|zM<|rY 3 [0] [(31,vI lo),(32,vA (cAff x2 p5 c5)),(33,vS p2 ag c2)]<|bE N fun y2 bH N=>gR (nM x2 ag _ bH h7 h2) ?_;intro bC aD;have ⟨h2,h,h1,H⟩:=m4 aD h2 h h1 H;exact yI [] [6] rfl<|zP<|zI<|zM<|yI [] [27] rfl<|yP<|nX (zX [1] rfl (by decide))<|nN<|ih (if y2>lo then y2 else lo) (W (t27+1)) _ N H h2 h h1 hg ho hx
 intro hc N;exact wR<|yL<|hx _ _ (zC N).symm H
def rC (l:zE) (ag:(List Int)) (hi:Int) (t40:Int):Option (Int):=do
 if (decide (t40<(l.Hi.length:Int))) then
  let x3<-idx l.Hi t40
  let y3<-tK x3 ag
  rC l ag (if y3<hi then y3 else hi) (W (t40+1))
 else
  pure (id hi)
 partial_fixpoint
theorem zCL (l:zE) (ag:(List Int)):∀ (hi:Int) (t40:Int) (o:Int),rC l ag hi t40=some o->∀ {B}{I0 I:Imm}{Q}{lo1:Int}{p1 c1 p2 c2},I0.le I->(S4 I p2 ag c2)->(S4 I p1 l.Hi c1)->NG Q->NO Q->(∀ (I':Imm) (hi1:Int),o=hi1->I0.le I'->T 52 B Q (.exit 2) I' [] [(6,vI lo1),(7,vI hi1)])->J Tryz.prog 52 B (nav (bodyOf f158) [1,1,1,0,1,0]) Q I [] [(1,vS p2 ag c2),(6,vI lo1),(7,vI hi),(38,vS p1 l.Hi c1),(39,vI (l.Hi.length:Int)),(40,vI t40)]:=by
 refine rC.partial_correctness l ag _ fun aH ih hi t40 o N B I0 I Q lo1 p1 c1 p2 c2 H h2 h1 hg ho hx=>yR hg ho<|yG [41] rfl<|yA<|yF N ?_ ?_
 · intro aE N;refine zT<|yA<|yH<|yE<|bE N fun x3 hy6 N=>xO rfl rfl h1 hy6 ?_;intro ad3 ccs3 hat3 bI;obtain ⟨p6,c6,rfl,h9⟩:=yM bI;refine xJ 0 hat3 (cAff x3 p6 c6) (vA (cAff x3 p6 c6)) rfl<|wL [z0,vI 0] ?_;intro b2 hb2;refine xH 0 (cAff x3 p6 c6) rfl<|yD rfl<|zI<|zM<|rY 3 [0] [(44,vI hi),(45,vA (cAff x3 p6 c6)),(46,vS p2 ag c2)]<|bE N fun y3 hy7 N=>gR (nM x3 ag _ hy7 h9 h2) ?_;intro bN bt;have ⟨h2,h1,H⟩:=m3 bt h2 h1 H;exact yI [] [7] rfl<|zP<|zI<|zM<|yI [] [40] rfl<|yP<|nX zQ<|nN<|ih (if y3<hi then y3 else hi) (W (t40+1)) _ N H h2 h1 hg ho hx
 intro aE N;exact wR<|yL<|hx _ _ (zC N).symm H
def kT (l:zE) (ag:(List Int)):Option (Int×Int):=do
 let x<-idx l.Lo 0
 let y<-tK x ag
 let x1<-idx l.Hi 0
 let y1<-tK x1 ag
 let lo1<-rB l ag y 0
 let hi1<-rC l ag y1 0
 pure (lo1,hi1)
theorem zEO:∀ l ag r,kT l ag=some r->∀ {I:Imm}{p c p1 c1 p2 c2},(S4 I p l.Lo c)->(S4 I p1 l.Hi c1)->(S4 I p2 ag c2)->RT 158 [vA (cLoop l p c p1 c1),vS p2 ag c2] I [] (fM  r):=by
 intro l ag r N I p c p1 c1 p2 c2 h h1 h2;unfold kT at N;refine yJ func158 fun B=>?_;have H:=iS I;refine yE<|tW (cLoop l p c p1 c1) ?_;intro b hb;refine wB [] []<|zI<|yB ?_;obtain ⟨x,hy,N⟩:=zB N;obtain ⟨y,aA,N⟩:=zB N;obtain ⟨x1,aJ,N⟩:=zB N;obtain ⟨y1,bf,N⟩:=zB N;refine vC [.p (vP b 0) [],.p (vS p l.Lo c) [0],.x (ePAff x),.x (eVAff x),.p (vS p2 ag c2) [],.q (vI y),.p (vP b 1) [],.p (vS p1 l.Hi c1) [0],.x (ePAff x1),.x (eVAff x1),.p (vS p2 ag c2) [],.q (vI y1),.p (vI y) []] [[],[(0,false)],[(1,false)],[(2,false)],[],[(3,false),(4,false)],[],[(6,false)],[(7,false)],[(8,false)],[],[(9,false),(10,false)],[(5,false)]] [hB b (cLoop l p c p1 c1)] [] [(11,false),(12,false)] (zY [0]) ?_ ?_
 · refine Op<|Op<|Ox ?_<|Ox ?_<|Op<|Oq ?_<|Op<|Op<|Ox ?_<|Ox ?_<|Op<|Oq ?_<|Op<|On
   · intro I1 hf af;refine yW [13] rfl ?_;have h:=h.mono af;refine xO rfl rfl h hy ?_;intro ad aK aq al;obtain ⟨p3,c3,rfl,h3⟩:=yM al;exact yQ [] iR ⟨_,_,_,rfl,rfl,aq,h3⟩
   · rintro I1 hf af _ _ ⟨ad,p3,c3,rfl,rfl,aq,h3⟩;exact yW [14] rfl<|xJ 0 aq (cAff x p3 c3) (vA (cAff x p3 c3)) rfl<|yQ [] iR ⟨_,_,rfl,rfl,h3⟩
   · rintro I1 hf af _ _ ⟨p31,c31,rfl,rfl,h31⟩;refine yW [15,16] rfl ?_;have H:=iS I1;have h2:=h2.mono af;refine gR (nM x ag _ aA h31 h2) ?_;intro I0 le;have H:=H.trans le;exact xE H
   · intro I1 hf af;refine yW [19] rfl ?_;have h1:=h1.mono af;refine xO rfl rfl h1 aJ ?_;intro ad1 bx au ax;obtain ⟨p4,c4,rfl,h5⟩:=yM ax;exact yQ [] iR ⟨_,_,_,rfl,rfl,au,h5⟩
   · rintro I1 hf af _ _ ⟨ad1,p4,c4,rfl,rfl,au,h5⟩;exact yW [20] rfl<|xJ 0 au (cAff x1 p4 c4) (vA (cAff x1 p4 c4)) rfl<|yQ [] iR ⟨_,_,rfl,rfl,h5⟩
   rintro I1 hf af _ _ ⟨p41,c41,rfl,rfl,h51⟩;refine yW [21,22] rfl ?_;have H:=iS I1;have h2:=h2.mono af;refine gR (nM x1 ag _ bf h51 h2) ?_;intro aT af;have H:=H.trans af;exact xE H
 intro aU aC;refine yW [1,2,6,23] rfl ?_;have ⟨h2,h,h1⟩:=m3 aC h2 h h1;refine yI [] [7] rfl<|yA<|yE<|yI [0] [25,26,27] rfl<|xX<|qP [(1,vS p2 ag c2),(2,vP b 0),(6,vI y),(7,vI y1),(25,vS p l.Lo c),(26,vI (l.Lo.length:Int)),(27,vI 0)] ?_;obtain ⟨o0,aB,aI⟩:=zB N;refine zCK l ag y 0 o0 aB iR h2 h h1 (fun _ _ _ h=>h) (fun _ _ h=>h) ?_;intro bJ lo1 heq aW;subst o0;have ⟨h2,h,h1⟩:=m3 aW h2 h h1;refine zS<|yA<|yE<|yI [0] [38,39,40] rfl<|xX<|nX (zY [] (ah:=[]))<|qP [(1,vS p2 ag c2),(6,vI lo1),(7,vI y1),(38,vS p1 l.Hi c1),(39,vI (l.Hi.length:Int)),(40,vI 0)] ?_;obtain ⟨aM,az,hMl1⟩:=zB aI;refine zCL l ag y1 0 aM az iR h2 h1 (fun _ _ _ h=>h) (fun _ _ h=>h) ?_;intro I06 hi1 heq1 bv;subst aM;refine zS<|vK [4,5] rfl<|zI<|xB ?_;obtain rfl:=zC hMl1;exact xA ⟨_,_,(.tmp rfl (.tmp rfl ResV.nil)),zQ,⟨_,_,rfl,rfl,rfl,rfl⟩⟩
def jJ (b0:Nat) (r:Bool×sB):KT:=fun kk I' ah v=>
  ∃ v0 x0_0 y0_0 x0_2 y0_2 z0_2,ah=[.blk b0 ⟨[.slice x0_0 r.2.nest.length y0_0,.int .i64 r.2.steps,.slice x0_2 r.2.out.length y0_2]⟩,.osl (.slice x0_2 r.2.out.length y0_2) (Rp.sz (List Int)) z0_2]/\v=tupV [v0]/\v0=.bool r.1/\SL I' (.slice x0_0 r.2.nest.length y0_0) r.2.nest/\RepL (Rp.rep I') (Rp.sz (List Int)) z0_2 r.2.out
mutual
def tU (w0:sB) (ag:(List Int)):Option (Bool×sB):=do
 if ((ag.length:Int)==(w0.nest.length:Int)) then
  let y<-sU ag
  let l<-app 24 w0.out ([y]:List (List Int))
  pure ((decide ((l.length:Int)<=120)),(sB.mk w0.nest w0.steps l))
 else
  let x<-idx w0.nest (ag.length:Int)
  let (y2,y3)<-kT x ag
  match<-sV (same ag) (same y3) (same y2) w0.nest w0.steps w0.out with
  | .ret r0=>pure r0
  | .done (nest1,steps1,aj) =>
   pure (true,(sB.mk nest1 steps1 aj))
 partial_fixpoint
def sV (ag:(List Int)) (y3:Int) (n0:Int) (nest:List zE) (steps:Int) (out:List (List Int)):Option (Out (List zE×Int×List (List Int)) (Bool×sB)):=do
 if (decide (n0<y3)) then
  let (t74,nest2,steps2,ap)<-(do
    if (decide ((W ((W (steps+1))+1))>1200)) then
     pure (true,nest,(W (steps+1)),out)
    else
     let y4<-sU ag
     let l1<-app 8 y4 ([n0]:List Int)
     let (y6,y7)<-tU (sB.mk nest (W (steps+1)) out) (same l1)
     pure ((!y6),y7.nest,y7.steps,y7.out)
      : Option (Bool×List zE×Int×List (List Int)))
  if t74 then
   pure (.ret (false,(sB.mk nest2 steps2 ap)))
  else
   sV (same ag) (same y3) (W (n0+1)) (same nest2) (same steps2) (same ap)
 else
  pure (.done (nest,steps,out))
 partial_fixpoint
end
theorem zBl:(∀ (w0:sB) (ag:(List Int)) r,tU w0 ag=some r->∀ {I:Imm}{r0:Nat}{p c p1 c1 cs p2 c2},(S4 I p w0.nest c)->(RL I cs w0.out)->(S4 I p2 ag c2)->RT 118 [vP r0 0,vS p2 ag c2] I [hB r0 [vS p w0.nest c,vI w0.steps,vS p1 w0.out c1],hO (List Int) (vS p1 w0.out c1) cs] (jJ r0 r))/\(∀ (ag:(List Int)) (y3:Int) (n0:Int) (nest:List zE) (steps:Int) (out:List (List Int)) o,sV ag y3 n0 nest steps out=some o->∀ {B}{I0 I:Imm}{Q}  {r0:Nat}{p2 c2 p7 c7 p8 c8 aR},I0.le I->(S4 I p2 ag c2)->(S4 I p7 nest c7)->(RL I aR out)->NG Q->NO Q->(∀ (I':Imm) (nest1:List zE) (steps1:Int) (aj:List (List Int)) (p9:Option Addr) (c9:Nat) (aV:Option Addr) (bc:Nat) (bz:List Value),o=(.done (nest1,steps1,aj))->I0.le I'->(S4 I' p9 nest1 c9)->(RL I' bz aj)->T 75 B Q (.exit 0) I' [hB r0 [vS p9 nest1 c9,vI steps1,vS aV aj bc],hO (List Int) (vS aV aj bc) bz] [])->(∀ r I' ah m',o=(.ret r)->I0.le I'->RS Tryz.prog f118 B (jJ r0 r) I' ah m'->T 75 B Q .ret I' ah m')->J Tryz.prog 75 B (nav (bodyOf f118) [1,1,1,0,1,0]) Q I [hB r0 [vS p7 nest c7,vI steps,vS p8 out c8],hO (List Int) (vS p8 out c8) aR] [(0,vP r0 0),(1,vS p2 ag c2),(6,vI y3),(7,vI n0)]):=by
  refine tU.mutual_partial_correctness _ _ ?_ ?_
  · intro F_impl_walking_walk_l1 ih_impl_walking_walk_l1 w0 ag r N I r0 p c p1 c1 cs p2 c2 h h1 h2;refine yJ func118 fun B=>?_;have H:=iS I;refine vR []<|yA<|yE<|yI [0] [15] rfl<|zI<|yF N ?_ ?_
    · intro hc N;refine yB ?_;obtain ⟨y,hy,N⟩:=zB N;obtain ⟨l,aA,N⟩:=zB N;refine vC [.p (vP r0 0) [],.p (vP r0 0) [],.p (vP r0 0) [],.p (vP r0 2) [],.p (vS p1 w0.out c1) [0],.p (vS p2 ag c2) [],.x (fun I' v hx=>∃ p3 c3 ay,v=vS p3 y c3/\hx=[hO Int (vS p3 y c3) ay]/\(RL I' ay y)),.x (fun I' v hx=>∃ b,v=vS (some ⟨b,0,none⟩) ([y]:List (List Int)) 1/\hx=[]/\(SL I' (vS (some ⟨b,0,none⟩) ([y]:List (List Int)) 1) ([y]:List (List Int)))),.x (fun I' v hx=>∃ p4 c4 aQ,v=vS p4 l c4/\hx=[hO (List Int) (vS p4 l c4) aQ]/\(RL I' aQ l))] [[],[],[(1,false)],[(2,false)],[(3,false)],[],[(5,false)],[(6,true)],[(4,false),(7,false),(12,true)]] [hB r0 [vS p w0.nest c,vI w0.steps,vS p1 w0.out c1]] [[hO (List Int) (vS p1 w0.out c1) cs]] [(0,false),(8,true)] (zY [0,1]) ?_ ?_
      · refine Op<|Op<|Op<|Op<|Op<|Op<|Ox ?_<|Ox ?_<|Ox ?_<|On
        · intro I1 hf af;refine yW [21] rfl ?_;have H:=iS I1;have h2:=h2.mono af;refine xM (kS ag _ hy h2) ?_;rintro I0 aw v2 k2 le - ⟨p3,c3,ay,rfl,rfl,h3⟩ -;have H:=H.trans le;exact yQ [hO Int (vS p3 y c3) ay] H ⟨_,_,_,rfl,rfl,h3⟩
        · rintro I1 hf af _ _ ⟨p3,c3,ay,rfl,rfl,h3⟩;refine yW [22] rfl ?_;have H:=iS I1;refine xF 0 rfl ?_;intro aT af hl0;have h4:=SL.of_frozen hl0 af h3;have H:=H.trans af;refine nC (rc y ⟨_,rfl,h4⟩ rN) ?_;intro b aU aC h6;have H:=H.trans aC;exact yQ [] H ⟨_,rfl,rfl,h6⟩
        rintro I1 hf af _ _ ⟨rfl,rfl⟩ _ _ ⟨b,rfl,rfl,h6⟩ _ _ rfl;refine yW [20,23] rfl ?_;have h1:=iM af h1;obtain ⟨aK,k0,k01⟩:=h6;have h6:SL I1 (vS (some ⟨b,0,none⟩) ([y]:List (List Int)) 1) ([y]:List (List Int)):=⟨_,k0,k01⟩;exact sC 27 1 0 rfl rfl rfl h1 (.inl k0) k01 aA fun p4 c4 aQ h7=>wE (ah:=(hO (List Int) (vS p4 l c4) aQ::hB r0 [vS p w0.nest c,vI w0.steps,vS p1 w0.out c1]::hf)) rfl<|yQ [hO (List Int) (vS p4 l c4) aQ] iR ⟨_,_,_,rfl,rfl,h7⟩
      rintro bC aD _ _ ⟨rfl,rfl⟩ _ _ ⟨p4,c4,aQ,rfl,rfl,h7⟩;refine yW [0,16,24] rfl ?_;have h:=h.mono aD;refine yC 11 [] [26] rfl<|xH 1 [vS p w0.nest c,vI w0.steps,vS p4 l c4] rfl<|yD rfl<|yV<|yI [1] [4] rfl<|xC<|zH ?_;obtain rfl:=zC N;exact xA ⟨_,_,(.tmp rfl ResV.nil),(zX [1,0] rfl (by decide)),⟨_,_,_,_,_,_,rfl,rfl,rfl,h,h7⟩⟩
    intro hc N;refine zT<|yV<|yC 6 [0] [37,39] rfl<|bE N fun x aJ N=>xO rfl rfl h aJ ?_;intro ad bx aq al;obtain ⟨p5,c5,p6,c6,rfl,h8,h9⟩:=sA al;refine xJ 0 aq (cLoop x p5 c5 p6 c6) (vA (cLoop x p5 c5 p6 c6)) rfl<|yC 9 [] [42] rfl ?_;obtain ⟨⟨y2,y3⟩,bf,N⟩:=zB N;refine xM (zEO x ag _ bf h8 h9 h2) ?_;rintro bJ aw v2 k2 aW - ⟨v02,v03,rfl,rfl,rfl,rfl⟩ -;have ⟨h2,h,h1⟩:=m3 aW h2 h h1;refine yI [] [5,6] rfl<|yA<|yG [7] rfl<|xX<|qP [(0,vP r0 0),(1,vS p2 ag c2),(6,vI y3),(7,vI y2)] ?_;obtain ⟨aM,az,aI⟩:=zB N;refine ih_impl_walking_walk_l1 ag y3 y2 w0.nest w0.steps w0.out aM az iR h2 h h1 (fun _ _ _ h=>h) (fun _ _ h=>h) ?_ ?_
    · intro I09 nest1 steps1 aj p9 c9 aV bc bz heq1 le9 h14 h15;subst aM;refine zS<|zGR [(4,vY)]<|zI<|xB ?_;obtain rfl:=zC aI;exact xA ⟨_,_,(.tmp rfl ResV.nil),(zX [0,1] rfl (by decide)),⟨_,_,_,_,_,_,rfl,rfl,rfl,h14,h15⟩⟩
    intro r0 I9 hs9 m9 aX le9 ba;subst aX;refine zW<|zH ?_;obtain rfl:=zC aI;exact xA ba
  intro F_impl_walking_walk F_impl_walking_walk_l1 ih_impl_walking_walk ih_impl_walking_walk_l1 ag y3 n0 nest steps out o N B I0 I Q r0 p2 c2 p7 c7 p8 c8 aR H h2 h12 h13 hg ho hx hr;refine yR hg ho<|yB<|yG [49] rfl<|zI<|yF N ?_ ?_
  · intro aE N;refine zT<|yA<|yH<|yE<|yC 7 [0] [56,58] rfl<|xH 0 [vS p7 nest c7,vI (W (steps+1)),vS p8 out c8] rfl<|yD rfl<|zI<|yB ?_;obtain ⟨o0,aB,aS⟩:=zB N;refine qR (fun I' ah m'=>∃ (t74:Bool) (nest2:List zE) (steps2:Int) (ap:List (List Int)) (aN:Option Addr) (aZ:Nat) (bB:Option Addr) (bk:Nat) (bD:List Value),o0=(t74,nest2,steps2,ap)/\I.le I'/\(S4 I' aN nest2 aZ)/\(RL I' bD ap)/\ah=[hB r0 [vS aN nest2 aZ,vI steps2,vS bB ap bk],hO (List Int) (vS bB ap bk) bD]/\m'=[(0,vP r0 0),(1,vS p2 ag c2),(6,vI y3),(7,vI n0),(74,.bool t74)]) ?_ ?_
    · have H:=iS I;refine zM<|yC 7 [0] [65] rfl<|xS [65] aB ?_ ?_
      · intro aY N;exact wB [] [(74,vY)]<|yL<|zU ⟨_,_,_,_,_,_,_,_,_,(zC N).symm,H,h12,h13,rfl,rfl⟩
      intro aY N;refine yC 9 [] [66,67] rfl<|bE N fun y4 bw N=>xM (kS ag _ bw h2) ?_;rintro I06 aw v2 k2 bt - ⟨bj,bo,cs6,rfl,rfl,h18⟩ -;have ⟨h12,h13,H⟩:=m3 bt h12 h13 H;refine yC 11 [] [69] rfl<|uD [vI n0] Int ?_;intro b1 hb1;have h19:RL I06 [vI n0] ([n0]:List Int):=rI [n0];obtain ⟨l1,bH,N⟩:=zB N;refine sC 3 1 1 rfl rfl rfl h18 (.inr ⟨0,rfl⟩) h19 bH fun p14 c14 cs7 h20=>tO (zY [1,2,3] (ah:=[hO Int (vS p14 l1 c14) cs7,hB r0 [vS p7 nest c7,vI (W (steps+1)),vS p8 out c8],hO (List Int) (vS p8 out c8) aR]))<|xF 0 rfl ?_;intro I07 bv hl02;have h21:=SL.of_frozen hl02 bv h20;have ⟨h12,h13,H⟩:=m3 bv h12 h13 H;obtain ⟨⟨y6,y7⟩,hy6,N⟩:=zB N;refine tM (ih_impl_walking_walk (sB.mk nest (W (steps+1)) out) l1 _ hy6 h12 h13 h21) rfl ?_;rintro I08 aw v2 k2 le7 - ⟨v04,p15,c15,p16,c16,cs8,rfl,rfl,rfl,h23,h24⟩ -;have H:=H.trans le7;exact yI [] [74] rfl<|yL<|zU ⟨_,_,_,_,_,_,_,_,_,(zC N).symm,H,h23,h24,rfl,rfl⟩
    rintro bN aw m2 ⟨t74,nest2,steps2,ap,aN,aZ,bB,bk,bD,heq,le8,h16,h17,rfl,rfl⟩;subst o0;have ⟨h2,H⟩:=m2 le8 h2 H;refine zI<|yF aS ?_ ?_
    · intro bG N;exact vR [(4,vF)]<|xC<|zW<|zH<|zH<|hr _ _ _ _ (zC N).symm H ⟨_,_,(.tmp rfl ResV.nil),(zX [0,1] rfl (by decide)),⟨_,_,_,_,_,_,rfl,rfl,rfl,h16,h17⟩⟩
    intro bG N;exact zT<|zP<|zI<|zM<|yI [] [7] rfl<|yP<|nN<|ih_impl_walking_walk_l1 ag y3 (W (n0+1)) nest2 steps2 ap _ N H h2 h16 h17 hg ho hx hr
  intro aE N;exact wR<|yL<|hx _ _ _ _ _ _ _ _ _ (zC N).symm H h12 h13
theorem zCM:∀ w0 ag r,tU w0 ag=some r->∀ {I:Imm}{r0:Nat}{p c p1 c1 cs p2 c2},(S4 I p w0.nest c)->(RL I cs w0.out)->(S4 I p2 ag c2)->RT 118 [vP r0 0,vS p2 ag c2] I [hB r0 [vS p w0.nest c,vI w0.steps,vS p1 w0.out c1],hO (List Int) (vS p1 w0.out c1) cs] (jJ r0 r):=zBl.1
def mM (nest:(List zE)):Option ((List (List Int))×Bool):=do
 let y<-kR nest
 if (!y) then
  pure (([]:List (List Int)),false)
 else
  let (y2,y3)<-tU (sB.mk nest 0 ([]:List (List Int))) ([]:List Int)
  if (!y2) then
   pure (([]:List (List Int)),false)
  else
   pure (y3.out,true)
theorem zDV:∀ nest r,mM nest=some r->∀ {I:Imm}{p c},(S4 I p nest c)->RT 78 [vS p nest c] I [] (dA  r):=by
 intro nest r N I p c h;unfold mM at N;refine yJ func78 fun B=>vR []<|yA<|yE<|yC 1 [] [5] rfl<|bE N fun y hy N=>uM (zEN nest _ hy h) ?_;intro I0 le;have h:=h.mono le;refine yI [] [7] rfl<|zI<|yF N ?_ ?_
 · intro hc N;refine yG [2,3] rfl<|xC<|zH ?_;obtain rfl:=zC N;exact xA ⟨_,_,(.tmp rfl (.tmp rfl ResV.nil)),zQ,⟨_,_,rfl,rfl,(SL.nil _),rfl⟩⟩
 intro hc N;refine zT<|yV<|yC 2 [] [9] rfl<|tW [vS p nest c,vI 0,z0] ?_;intro b hb;refine yI [] [4] rfl<|yA<|yE<|yC 1 [] [11] rfl<|zNi (List Int) fun h2=>?_;refine tO (zY [1,0] (ah:=[hB b [vS p nest c,vI 0,vS none ([]:List (List Int)) 0],hO (List Int) (vS none ([]:List (List Int)) 0) []])) ?_;obtain ⟨⟨y2,y3⟩,aA,N⟩:=zB N;refine tM (zCM (sB.mk nest 0 ([]:List (List Int))) ([]:List Int) _ aA h h2 (SL.nil _)) rfl ?_;rintro aT aw v2 k2 af - ⟨v01,p1,c1,p2,c2,cs,rfl,rfl,rfl,h4,h5⟩ -;refine yI [] [13] rfl<|zI<|yF N ?_ ?_
 · intro aE N;refine yG [2,3] rfl<|xC<|zH ?_;obtain rfl:=zC N;exact xA ⟨_,_,(.tmp rfl (.tmp rfl ResV.nil)),zQ,⟨_,_,rfl,rfl,(SL.nil _),rfl⟩⟩
 intro aE N;refine zT<|yV<|yI [0] [2,3] rfl<|xC<|yU 1 rfl ?_;intro aU aC hl0;have h6:=SL.of_frozen hl0 aC h5;obtain rfl:=zC N;exact xA ⟨_,_,(.tmp rfl (.tmp rfl ResV.nil)),zQ,⟨_,_,rfl,rfl,h6,rfl⟩⟩
def pK (bd:List HA) (r:Int):KT:=fun kk I' ah v=>
  ∃ v0,bd=ah/\v=tupV [v0]/\v0=.int .i64 r
def xG (s:(List zO)) (f0:(zO->Option Bool)) (t8:Int):Option (Out Unit (Int)):=do
 if (decide (t8<(s.length:Int))) then
  let x<-idx s t8
  let y<-f0 x
  if y then
   pure (.ret t8)
  else
   xG s f0 (W (t8+1))
 else
  pure (.done ())
 partial_fixpoint
theorem jK (s:(List zO)) (f0:(zO->Option Bool)):∀ (t8:Int) (o:Out Unit (Int)),xG s f0 t8=some o->∀ {B}{I0 I:Imm}{Q p c}{fv:Value}{bd:List HA},I0.le I->(S4 I p s c)->(FV1 Tryz.prog I bd fv f0)->NG Q->NO Q->(∀ (I':Imm) ,o=(.done ())->I0.le I'->T 19 B Q (.exit 0) I' bd [])->(∀ r I' ah m',o=(.ret r)->I0.le I'->RS Tryz.prog f119 B (pK bd r) I' ah m'->T 19 B Q .ret I' ah m')->J Tryz.prog 19 B (nav (bodyOf f119) [1,0,1,0]) Q I bd [(0,vS p s c),(1,fv),(7,vI (s.length:Int)),(8,vI t8)]:=by
 refine xG.partial_correctness s f0 _ fun aH ih t8 o N B I0 I Q p c fv bd H h h1 hg ho hx hr=>yR hg ho<|yG [9] rfl<|yA<|yF N ?_ ?_
 · intro hc N;refine zT<|yA<|yH<|yG [5] rfl<|yV<|yC 3 [] [11,12,13] rfl<|bE N fun x hy N=>xO rfl rfl h hy ?_;intro ad aK aq al;obtain ⟨p1,c1,p2,c2,p3,c3,p4,c4,rfl,h2,h3,h4,h5⟩:=qS al;refine xJ 0 aq (cStmt x p1 c1 p2 c2 p3 c3 p4 c4) (vA (cStmt x p1 c1 p2 c2 p3 c3 p4 c4)) rfl<|bE N fun y aA N=>zKN rfl rfl h1 aA ⟨_,rfl,(wM ⟨_,_,_,_,rfl,h2,h3,h4,h5⟩)⟩ (cu _).symm ?_;rintro I0 v04 le rfl;refine wE (ah:=bd) (cu _) ?_;have ⟨h,h1,H⟩:=m3 le h h1 H;refine yD rfl<|zI<|yF N ?_ ?_
   · intro aE N;exact yG [4] rfl<|xC<|zW<|zH<|zH<|hr _ _ _ _ (zC N).symm H ⟨_,_,(.tmp rfl ResV.nil),(fun _ h=>h),⟨_,rfl,rfl,rfl⟩⟩
   intro aE N;exact zT<|zP<|zI<|zM<|yI [] [8] rfl<|yP<|nN<|ih (W (t8+1)) _ N H h h1 hg ho hx hr
 intro hc N;exact wR<|yL<|hx _  (zC N).symm H
def uB (s:(List zO)) (f0:(zO->Option Bool)):Option (Int):=do
 match<-xG s f0 0 with
 | .ret r0=>pure r0
 | .done _ =>
  pure (-1)
theorem jX:∀ s f0 r,uB s f0=some r->∀ {I:Imm}{p c}{fv:Value}{bd:List HA},(S4 I p s c)->(FV1 Tryz.prog I bd fv f0)->RT 119 [vS p s c,fv] I bd (pK bd r):=by
 intro s f0 r N I p c fv bd h h1;unfold uB at N;refine yJ func119 fun B=>vR []<|yA<|yG [7,8] rfl<|xX<|qP [(0,vS p s c),(1,fv),(7,vI (s.length:Int)),(8,vI 0)] ?_;obtain ⟨o0,aB,aI⟩:=zB N;refine jK s f0 0 o0 aB iR h h1 (fun _ _ _ h=>h) (fun _ _ h=>h) ?_ ?_
 · intro aT  heq af;subst o0;refine zS<|vK [4] rfl<|zI<|xB ?_;obtain rfl:=zC aI;exact xA ⟨_,_,(.tmp rfl ResV.nil),(fun _ h=>h),⟨_,rfl,rfl,rfl⟩⟩
 intro r0 I9 hs9 m9 aX le9 ba;subst aX;refine zW<|zH ?_;obtain rfl:=zC aI;exact xA ba
def kU (bd:List HA) (r:Bool):KT:=fun kk I' ah v=>
  ∃ v0,bd=ah/\v=tupV [v0]/\v0=.bool r
def xV (s:(List zO)) (f0:(zO->Option Bool)):Option (Bool):=do
 let y<-uB s f0
 pure (decide (y>=0))
theorem jL:∀ s f0 r,xV s f0=some r->∀ {I:Imm}{p c}{fv:Value}{bd:List HA},(S4 I p s c)->(FV1 Tryz.prog I bd fv f0)->RT 79 [vS p s c,fv] I bd (kU bd r):=by
 intro s f0 r N I p c fv bd h h1;unfold xV at N;refine yJ func79 fun B=>vR []<|yV<|yC 2 [] [5,6] rfl<|bE N fun y hy N=>zEd (hs1:=bd) (rest:=[]) rfl rfl rfl rfl (by kernel_rfl) rfl (cu _).symm (jX s f0 _ hy h h1) ?_;rintro I0 aw v2 k2 le - ⟨v0,rfl,rfl,rfl⟩ -;refine wE (ah:=bd) (cu _) ?_;refine yI [] [4] rfl<|zI<|xB ?_;obtain rfl:=zC N;exact xA ⟨_,_,(.tmp rfl ResV.nil),(fun _ h=>h),⟨_,rfl,rfl,rfl⟩⟩
def pE (s:zA) (x:Int):Option (Bool):=do
 let t3<-(do
   let y<-qH s
   if (!y) then
    pure true
   else
    let y1<-sZ s
    pure (decide (y1>x))
     : Option Bool)
 pure (id t3)
theorem zDW:∀ s x r,pE s x=some r->∀ {I:Imm}{p c}{ad:Addr},(S4 I p s.Coefs c)->(At I ad [vI x])->RT 160 [vA (cAff s p c),.pointer (some ad)] I [] (zV  r):=by
 intro s x r N I p c ad h aq;unfold pE at N;refine yJ func160 fun B=>?_;have H:=iS I;refine yE<|tW (cAff s p c) ?_;intro b hb;refine wB [] []<|zI<|yB ?_;refine wS N [] (fun t3=>[(3,.bool t3)]) (fun o0 aB=>?_) ?_
 · have H:=iS I;obtain ⟨y,hy,N⟩:=zB aB;cases hc:(!y) with
   | true =>
    have hM0:=tZ hc N;refine vC [.p (vA (cAff s p c)) [0],.q (.bool y),.q vY,.q vY,.p undef [],.p undef [],.p undef [],.p undef [],.p vY []] [[],[(0,false)],[(1,false)],[(2,false)],[(3,false)],[(3,false),(4,false)],[(3,false)],[(3,false),(5,false),(6,false)],[(3,false),(7,false)]] [hB b (cAff s p c)] [] [(8,false)] (zY [0]) ?_ ?_
    · refine Op<|Oq ?_<|Oq ?_<|Oq ?_<|Op<|Op<|Op<|Op<|Op<|On
      · intro I1 hf af;refine yW [4] rfl ?_;have H:=iS I1;have h:=h.mono af;refine uM (nL s _ hy h) ?_;intro aT le;have H:=H.trans le;exact xE H
      · intro I1 hf af;refine yW [5] rfl<|oY 3 [(6,.bool (!y))] ?_;rw [hc];exact xE iR
      intro I1 hf af;exact dC [(6,vY)]<|oY 4 [(7,vY)]<|xE iR
    intro aU af;refine dC [(12,vY)] ?_;have H:=H.trans af;exact wB [] [(3,vY)]<|xQ zQ<|yL<|zU (ct hM0 H)
   | false =>
    have hM01:=uZ hc N;obtain ⟨y1,aA,N⟩:=zB hM01;refine vC [.p (vA (cAff s p c)) [0],.q (.bool y),.q vF,.q vF,.p (vA (cAff s p c)) [0],.q (vI y1),.q (vI x),.p (.bool (decide (y1>x))) [],.p (.bool (decide (y1>x))) []] [[],[(0,false)],[(1,false)],[(2,false)],[(3,false)],[(3,false),(4,false)],[(3,false)],[(3,false),(5,false),(6,false)],[(3,false),(7,false)]] [hB b (cAff s p c)] [] [(8,false)] (zY [0]) ?_ ?_
    · refine Op<|Oq ?_<|Oq ?_<|Oq ?_<|Op<|Oq ?_<|Oq ?_<|Op<|Op<|On
      · intro I1 hf af;refine yW [4] rfl ?_;have H:=iS I1;have h:=h.mono af;refine uM (nL s _ hy h) ?_;intro aT le;have H:=H.trans le;exact xE H
      · intro I1 hf af;refine yW [5] rfl<|oY 3 [(6,.bool (!y))] ?_;rw [hc];exact xE iR
      · intro I1 hf af;exact dC [(6,vF)]<|oY 4 [(7,vF)]<|xE iR
      · intro I1 hf af;refine yW [7,8] rfl ?_;have H:=iS I1;have h:=h.mono af;refine gR (gK s _ aA h) ?_;intro bC aC;have H:=H.trans aC;exact xE H
      intro I1 hf af;refine yW [1,7] rfl ?_;have aq:=aq.mono af;exact xJ 0 aq [vI x] (vI x) rfl<|xE iR
    intro bJ aD;refine yW [12] rfl ?_;have H:=H.trans aD;exact yI [] [3] rfl<|xQ zQ<|yL<|zU (ct N H)
 intro t3 I0 aW aS;refine zI<|xB ?_;obtain rfl:=zC aS;exact vE
def mH (a0:zJ) (aa:Int):Option (Bool):=do
 let t4<-(do
   let y<-kQ a0.Array
   if y then
    let y1<-xW (a0.Subs.length:Int) 1 2
    if y1 then
     let y2<-xI a0.Subs (fun x0=>pE x0 aa)
     pure (!y2)
    else
     pure false
   else
    pure false
     : Option Bool)
 pure (id t4)
theorem zBE:∀ a0 aa r,mH a0 aa=some r->∀ {I:Imm}{p c},(S4 I p a0.Subs c)->RT 120 [vA (cAccess a0 p c),vI aa] I [] (zV  r):=by
 intro a0 aa r N I p c h;unfold mH at N;refine yJ func120 fun B=>?_;have H:=iS I;refine yE<|tW (cAccess a0 p c) ?_;intro b hb;refine tW [vI aa] ?_;intro b1 hb1;refine xF 0 rfl ?_;intro I0 le hl0;have aq:At I0 ⟨b1,0,none⟩ [vI aa]:=At.of_blk hl0;have ⟨h,H⟩:=m2 le h H;refine wB [] []<|zI<|yB ?_;refine wS N [] (fun t4=>[(4,.bool t4)]) (fun o0 aB=>?_) ?_
 · have H:=iS I0;refine zM<|yC 2 [0] [6] rfl ?_;obtain ⟨y,hy,N⟩:=zB aB;refine uM (nF a0.Array _ hy ) ?_;intro aU af;have ⟨aq,h,H⟩:=m3 af aq h H;refine yC 4 [] [8] rfl<|xS [8] N ?_ ?_
   · intro hc N;refine yC 7 [0] [11] rfl<|bE N fun y1 aA N=>uM (wC (a0.Subs.length:Int) 1 2 _ aA ) ?_;intro bC aC;have ⟨aq,h,H⟩:=m3 aC aq h H;refine yC 10 [] [14] rfl<|xS [14] N ?_ ?_
     · intro aE N;refine yC 13 [0] [16,17] rfl ?_;have hf0:FV1 Tryz.prog bC [] (.func (.func 160) ⟨[]⟩ ⟨[vP b1 0]⟩) (fun x0=>pE x0 aa):=by
         refine FV1.intro ?_;intro I1 af x0 r u0 hF k0;obtain ⟨_,rfl,k0⟩:=k0;obtain ⟨p1,c1,rfl,h3⟩:=yM k0;exact (zDW x0 aa r hF h3 (aq.mono af)).mono (by rintro k i hs u ⟨v0,rfl,rfl,h⟩; exact ⟨rfl,h⟩)
       obtain ⟨y2,aJ,N⟩:=zB N;refine xM (rU a0.Subs (fun x0=>pE x0 aa) _ aJ h hf0) ?_;rintro bJ aw v2 k2 aD - ⟨v03,rfl,rfl,rfl⟩ -;have H:=H.trans aD;exact yI [] [4] rfl<|xQ zQ<|yL<|zU (ct N H)
     intro aE N;exact wB [] [(4,vF)]<|xQ zQ<|yL<|zU (ct N H)
   intro hc N;exact wB [] [(4,vF)]<|xQ zQ<|yL<|zU (ct N H)
 intro t4 aT aW aS;refine zI<|xB ?_;obtain rfl:=zC aS;exact vE
def mI (a0:zA):Option (Bool):=do
 let t2<-(do
   if ((a0.Coefs.length:Int)==0) then
    pure (a0.Const==0)
   else
    pure false
     : Option Bool)
 pure (id t2)
theorem zBF:∀ a0 r,mI a0=some r->∀ {I:Imm}{p c},(S4 I p a0.Coefs c)->RT 163 [vA (cAff a0 p c)] I [] (zV  r):=by
 intro a0 r N I p c h;unfold mI at N;refine yJ func163 fun B=>?_;have H:=iS I;refine yE<|tW (cAff a0 p c) ?_;intro b hb;refine wB [] []<|zI<|yB ?_;refine wS N [] (fun t2=>[(2,.bool t2)]) (fun o0 aB=>?_) ?_
 · have H:=iS I;refine zM<|yC 5 [0] [7] rfl<|xS [7] aB ?_ ?_
   · intro hc N;exact yI [0] [2] rfl<|xQ zQ<|yL<|zU (ct N H)
   intro hc N;exact wB [] [(2,vF)]<|xQ zQ<|yL<|zU (ct N H)
 intro t2 I0 le aS;refine zI<|xB ?_;obtain rfl:=zC aS;exact vE
end Go.LN
