/- Helper of the proof (see the last text). -/
import Derived.Test.YtndncjnhabjnbaaGreatHM2
set_option linter.unusedVariables false
set_option linter.unusedSimpArgs false
namespace Go.LN
open Go.Proofs Go.Proofs.Tryz
set_option maxRecDepth 20000
def uK(list:(List zG))(a0:zI)(ag:(List Int))(i:Int)(n0:Int)(k0:Int):Option (Out Int (Int)):=do
 if(decide (k0<(a0.Subs.length:Int))) then
  let x2<-idx list i
  if((a0.Subs.length:Int) != (x2.Dims.length:Int)) then
   pure (.ret (-1))
  else
   let x3<-idx a0.Subs k0
   let y1<-rD x3 ag
   let t70<-(do
    if(decide (y1<0)) then
     pure true
    else
     let x4<-idx list i
     let x5<-idx x4.Dims k0
     pure (decide (y1>=x5))
      : Option Bool)
   if t70 then
    pure (.ret (-1))
   else
    let x6<-idx list i
    let x7<-idx x6.Dims k0
    uK list a0 ag i (W ((W (n0*x7))+y1)) (W (k0+1))
 else
  pure (.done n0)
 partial_fixpoint
theorem zD3(list:(List zG))(a0:zI)(ag:(List Int))(i:Int):∀(n0:Int) (k0:Int) (o:Out Int (Int)),uK list a0 ag i n0 k0=some o->∀{B}{I0 I:Imm}{Q}{base:Int}{p c p1 c1 p2 c2}{b:Nat},I0.le I->(S4 I p list c)->(S4 I p2 ag c2)->(S4 I p1 a0.Subs c1)->NG Q->NO Q->(∀(I':Imm) (n01:Int),o=(.done n01)->I0.le I'->T 86 B Q (.exit 2) I' [] [(7,vI base),(9,vI n01)])->(∀r I' ah m',o=(.ret r)->I0.le I'->RS Tryz.prog f159 B (yQ  r) I' ah m'->T 86 B Q .ret I' ah m')->J Tryz.prog 86 B (nav (bodyOf f159) [1,1,0,1,0,0,1,0,0,1,1,0,1,0]) Q I [hB b (cAccess a0 p1 c1)] [(0,vS p list c),(2,vS p2 ag c2),(4,vP b 0),(7,vI base),(8,vI i),(9,vI n0),(10,vI k0)]:=by
 refine uK.partial_correctness list a0 ag i _ λaI ih n0 k0 o N B I0 I Q base p c p1 c1 p2 c2 b H h h2 h1 hg ho hx hr=>yR hg ho<|yA<|yE<|yI [0] [37] rfl<|zJ<|yD N ?_ ?_
 ·intro bd N;refine zU<|zZ<|yH<|yA<|yA<|nP (by kernel_rfl) (by kernel_rfl)<|gN 5 [0] [42,43,44] rfl<|bE N λx2 bb N=>gT rfl rfl h bb ?_;intro ad2 bM aP aW;obtain⟨p5,c5,rfl,h6⟩:=vU aW;refine gN 7 [] [46] rfl<|kF 1 aP [vS p5 x2.Dims c5] (vS p5 x2.Dims c5) rfl<|zEw [] [49] rfl<|zJ<|yD N ?_ ?_
  ·intro bI N;exact yG [6] rfl<|xF<|zH<|zV<|zH<|zH<|hr _ _ _ _ (zC N).symm H ⟨_,_,(.tmp rfl ResV.nil),zO,⟨_,rfl,rfl,rfl⟩⟩
  intro bI N;refine zU<|xA<|yF 3 [0] [51,52] rfl<|bE N λx3 bt N=>xN rfl rfl h1 bt ?_;intro ad3 ccs3 hat3 bq;obtain⟨p6,c6,rfl,h7⟩:=yO bq;refine xE 0 hat3 (cAff x3 p6 c6) (vA (cAff x3 p6 c6)) rfl<|yF 6 [] [55] rfl<|bE N λy1 bH N=>jE (jY x3 ag _ bH h7 h2) ?_;intro aU af;have ⟨h,h2,h1,H⟩:=m4 af h h2 h1 H;refine yI [] [11] rfl<|zZ<|yA ?_;refine wE N [hB b (cAccess a0 p1 c1)] (λt70=>[(0,vS p list c),(2,vS p2 ag c2),(4,vP b 0),(7,vI base),(8,vI i),(9,vI n0),(10,vI k0),(11,vI y1),(70,.bool t70)]) (λo0 aB=>?_) ?_
  ·have H:=iS aU;refine zK<|yF 3 [] [59] rfl<|xW [59] aB ?_ ?_
   ·intro bN N;exact wG [] [(70,vY)]<|yN<|zT (ct N H)
   intro bN N;refine yF 6 [] [60,61,62] rfl<|bE N λx4 hy6 N=>xN rfl rfl h hy6 ?_;intro ad4 ccs4 hat4 hrep4;obtain⟨p7,c7,rfl,h9⟩:=vU hrep4;refine yF 8 [] [64] rfl<|xE 1 hat4 [vS p7 x4.Dims c7] (vS p7 x4.Dims c7) rfl<|yF 10 [] [66] rfl<|bE N λx5 hy7 N=>xN rfl rfl h9 hy7 ?_;intro ad5 ccs5 hat5 hrep5;obtain rfl:=hrep5;exact xE 0 hat5 [vI x5] (vI x5) rfl<|yI [] [70] rfl<|yN<|zT (ct N H)
  intro t70 aQ aE aN;have ⟨h,h2,h1,H⟩:=m4 aE h h2 h1 H;refine zJ<|yD aN ?_ ?_
  ·intro hc5 N;exact yG [6] rfl<|xF<|zH<|zV<|zH<|zH<|hr _ _ _ _ (zC N).symm H ⟨_,_,(.tmp rfl ResV.nil),zO,⟨_,rfl,rfl,rfl⟩⟩
  intro hc5 N;refine zU<|zJ<|zK<|yF 3 [] [71,72,73] rfl<|bE N λx6 hy8 N=>xN rfl rfl h hy8 ?_;intro ad6 ccs6 hat6 hrep6;obtain⟨p8,c8,rfl,h10⟩:=vU hrep6;refine yF 5 [] [75] rfl<|xE 1 hat6 [vS p8 x6.Dims c8] (vS p8 x6.Dims c8) rfl<|yF 7 [] [77] rfl<|bE N λx7 hy9 N=>xN rfl rfl h10 hy9 ?_;intro ad7 ccs7 hat7 hrep7;obtain rfl:=hrep7;exact xE 0 hat7 [vI x7] (vI x7) rfl<|yI [] [9] rfl<|zP<|zJ<|zK<|yI [] [10] rfl<|yS<|nU<|ih (W ((W (n0*x7))+y1)) (W (k0+1)) _ N H h h2 h1 hg ho hx hr
 intro bd N;exact wZ<|xV zO<|yN<|hx _ _ (zC N).symm H
def uL(list:(List zG))(a0:zI)(ag:(List Int))(base:Int)(i:Int):Option (Out Unit (Int)):=do
 if(decide (i<(list.length:Int))) then
  let x<-idx list i
  if(!(x.Name.l==a0.Array.l)) then
   let x1<-idx list i
   let y<-mS x1
   uL list a0 ag (W (base+y)) (W (i+1))
  else
   match<-uK list a0 ag i 0 0 with
   | .ret r0=>pure (.ret r0)
   | .done n01=>
    pure (.ret (W (base+n01)))
 else
  pure (.done ())
 partial_fixpoint
theorem zD4(list:(List zG))(a0:zI)(ag:(List Int)):∀(base:Int) (i:Int) (o:Out Unit (Int)),uL list a0 ag base i=some o->∀{B}{I0 I:Imm}{Q p c p1 c1 p2 c2}{b:Nat},I0.le I->(S4 I p list c)->(S4 I p2 ag c2)->(S4 I p1 a0.Subs c1)->NG Q->NO Q->(∀(I':Imm) ,o=(.done ())->I0.le I'->T 86 B Q (.exit 0) I' [] [])->(∀r I' ah m',o=(.ret r)->I0.le I'->RS Tryz.prog f159 B (yQ  r) I' ah m'->T 86 B Q .ret I' ah m')->J Tryz.prog 86 B (nav (bodyOf f159) [1,1,0,1,0]) Q I [hB b (cAccess a0 p1 c1)] [(0,vS p list c),(2,vS p2 ag c2),(4,vP b 0),(7,vI base),(8,vI i)]:=by
 refine uL.partial_correctness list a0 ag _ λaI ih base i o N B I0 I Q p c p1 c1 p2 c2 b H h h2 h1 hg ho hx hr=>yR hg ho<|yA<|yG [15] rfl<|zJ<|yD N ?_ ?_
 ·intro hc N;refine zU<|zZ<|yH<|yA<|yA<|nP (by kernel_rfl) (by kernel_rfl)<|gN 2 [] [18,19] rfl<|bE N λx hy N=>gT rfl rfl h hy ?_;intro ad aL ap al;obtain⟨p3,c3,rfl,h3⟩:=vU al;refine gN 4 [] [21] rfl<|kF 0 ap [vT x.Name.l] (vT x.Name.l) rfl<|zEw [0] [25] rfl<|zJ<|yD N ?_ ?_
  ·intro aF N;refine yE<|yF 3 [] [26,27,28] rfl<|bE N λx1 ay N=>xN rfl rfl h ay ?_;intro ad1 bv ar az;obtain⟨p4,c4,rfl,h4⟩:=vU az;refine xE 0 ar (cArr x1 p4 c4) (vA (cArr x1 p4 c4)) rfl<|bE N λy aJ N=>jE (zFu x1 _ aJ h4) ?_;intro I0 le;have ⟨h,h2,h1,H⟩:=m4 le h h2 h1 H;exact yI [] [7] rfl<|zJ<|zH3<|fL<|zR<|zJ<|zK<|yI [] [8] rfl<|yS<|nU<|ih (W (base+y)) (W (i+1)) _ N H h h2 h1 hg ho hx hr
  intro aF N;refine zU<|wW [9] rfl<|zZ<|yG [10] rfl<|wC<|oA [(0,vS p list c),(2,vS p2 ag c2),(4,vP b 0),(7,vI base),(8,vI i),(9,vI 0),(10,vI 0)] ?_;obtain⟨aM,aA,aH⟩:=zB N;refine zD3 list a0 ag i 0 0 aM aA iR h h2 h1 (λ_ _ _ h=>hg _ _ _ h) (λ_ _ h=>ho _ _ h) ?_ ?_
  ·intro bz n01 heq1 aK;subst aM;have H:=H.trans aK;exact zR<|wW [6] rfl<|xF<|zV<|zH<|zH<|hr _ _ _ _ (zC aH).symm H ⟨_,_,(.tmp rfl ResV.nil),zO,⟨_,rfl,rfl,rfl⟩⟩
  intro r0 I9 hs9 m9 aR le9 aS;subst aR;exact zV<|zH<|zV<|zH<|zH<|hr _ _ _ _ (zC aH).symm (H.trans le9) aS
 intro hc N;exact wZ<|xV zO<|yN<|hx _  (zC N).symm H
def nJ(list:(List zG))(a0:zI)(ag:(List Int)):Option (Int):=do
 match<-uL list a0 ag 0 0 with
 | .ret r0=>pure r0
 | .done _=>
  pure (-1)
theorem zBi:∀list a0 ag r,nJ list a0 ag=some r->∀{I:Imm}{p c p1 c1 p2 c2},(S4 I p list c)->(S4 I p1 a0.Subs c1)->(S4 I p2 ag c2)->RT 159 [vS p list c,vA (cAccess a0 p1 c1),vS p2 ag c2] I [] (yQ  r):=by
 intro list a0 ag r N I p c p1 c1 p2 c2 h h1 h2;unfold nJ at N;refine yJ func159 λB=>yE<|uH (cAccess a0 p1 c1) ?_;intro b hb;refine wG [] []<|wW [7] rfl<|zZ<|yG [8] rfl<|wC<|oA [(0,vS p list c),(2,vS p2 ag c2),(4,vP b 0),(7,vI 0),(8,vI 0)] ?_;obtain⟨o02,ho02,hMl1⟩:=zB N;refine zD4 list a0 ag 0 0 o02 ho02 iR h h2 h1 (λ_ _ _ h=>h) (λ_ _ h=>h) ?_ ?_
 ·intro bK  heq2 bi;subst o02;refine zR<|wW [6] rfl<|zJ<|yZ ?_;obtain rfl:=zC hMl1;exact wV
 intro r0 I9 hs9 m9 aR le9 aS;subst aR;refine zV<|zH ?_;obtain rfl:=zC hMl1;exact xC aS
def zAW(r:(List Int)×Int×Bool):KT:=λkk I' ah v=>
 ∃v0 v1 v2,ah=[]/\v=tupV [v0,v1,v2]/\SL I' v0 r.1/\v1=.int .i64 r.2.1/\v2=.bool r.2.2
def uS(list:(List zG))(ag:(List Int))(y:(List zI))(out:List Int)(i:Int):Option (Out (List Int) ((List Int)×Int×Bool)):=do
 if(decide (i<(y.length:Int))) then
  let x<-idx y i
  let y1<-nJ list x ag
  if(decide (y1<0)) then
   pure (.ret (([]:List Int),0,false))
  else
   let am<-app 8 out ([y1]:List Int)
   uS list ag y am (W (i+1))
 else
  pure (.done out)
 partial_fixpoint
theorem zCp(list:(List zG))(ag:(List Int))(y:(List zI)):∀(out:List Int) (i:Int) (o:Out (List Int) ((List Int)×Int×Bool)),uS list ag y out i=some o->∀{B}{I0 I:Imm}{Q}{s:zQ}{p c p1 c1 p2 c2 p3 c3 p4 c4 p5 c5}{b:Nat}{p6 c6 cs p7 c7 aC},I0.le I->(S4 I p list c)->(S4 I p5 ag c5)->(RL I cs y)->(S4 I p1 s.Write.Subs c1)->(S4 I p2 s.Value.Index.Coefs c2)->(S4 I p3 s.Value.Read.Subs c3)->(S4 I p4 s.Value.Kids c4)->(RL I aC out)->NG Q->NO Q->(∀(I':Imm) (aj:List Int) (p8:Option Addr) (c8:Nat) (aO:List Value),o=(.done aj)->I0.le I'->(RL I' aO aj)->T 49 B Q (.exit 0) I' [hO Int (vS p8 aj c8) aO,hB b (cStmt s p1 c1 p2 c2 p3 c3 p4 c4)] [(0,vS p list c),(2,vS p5 ag c5),(4,vP b 0),(9,vS p8 aj c8)])->(∀r I' ah m',o=(.ret r)->I0.le I'->RS Tryz.prog f119 B (zAW  r) I' ah m'->T 49 B Q .ret I' ah m')->J Tryz.prog 49 B (nav (bodyOf f119) [1,1,1,0,1,0]) Q I [hO zI (vS p6 y c6) cs,hO Int (vS p7 out c7) aC,hB b (cStmt s p1 c1 p2 c2 p3 c3 p4 c4)] [(0,vS p list c),(2,vS p5 ag c5),(4,vP b 0),(9,vS p7 out c7),(10,vS p6 y c6),(11,vI i)]:=by
 refine uS.partial_correctness list ag y _ λaI ih out i o N B I0 I Q s p c p1 c1 p2 c2 p3 c3 p4 c4 p5 c5 b p6 c6 cs p7 c7 aC H h h5 h8 h1 h2 h3 h4 h9 hg ho hx hr=>yR hg ho<|yA<|yG [22] rfl<|zJ<|yD N ?_ ?_
 ·intro hc N;refine zU<|zZ<|yH<|yE<|yF 3 [] [25,26,27] rfl<|bE N λx ay N=>nA 0 rfl rfl rfl h8 ay ?_;intro ad aL ap bG al;obtain⟨p9,c9,rfl,h11⟩:=oH al;refine zCJ 0 0 ap bG (cAccess x p9 c9) (vA (cAccess x p9 c9)) rfl rfl<|yF 6 [] [30] rfl<|bE N λy1 aJ N=>jE (zBi list x ag _ aJ h h11 h5) ?_;intro aU af;have ⟨h,h5,h9,h8,h1,h2⟩:=m6 af h h5 h9 h8 h1 h2;have ⟨h3,h4,H⟩:=m3 af h3 h4 H;refine yI [] [12] rfl<|zZ<|yG [33] rfl<|zJ<|yD N ?_ ?_
  ·intro aF N;refine yE<|tU [] Int ?_;intro b3 hb3;have h13:RL aU [] ([]:List Int):=rfl;refine yI [] [6,7,8] rfl<|xF<|zH<|zV<|zH<|zH<|xB 0 rfl ?_;intro aQ aE hl0;have h14:=SL.of_frozen hl0 aE h13;have H:=H.trans aE;exact hr _ _ _ _ (zC N).symm H ⟨_,_,(.tmp rfl (.tmp rfl (.tmp rfl ResV.nil))),zO,⟨_,_,_,rfl,rfl,h14,rfl,rfl⟩⟩
  intro aF N;refine zU<|zJ<|zK<|yF 2 [] [35,36] rfl<|tU [vI y1] Int ?_;intro b4 hb4;have h15:RL aU [vI y1] ([y1]:List Int):=rI [y1];obtain⟨am,bb,N⟩:=zB N;exact pC 3 1 2 rfl rfl rfl h9 (.inr ⟨0,rfl⟩) h15 bb λaZ bh aT h16=>qE (zX [1,2,3] (ah:=[hO zI (vS p6 y c6) cs,hO Int (vS aZ am bh) aT,hB b (cStmt s p1 c1 p2 c2 p3 c3 p4 c4)]))<|yI [] [9] rfl<|zP<|zJ<|zK<|yI [] [11] rfl<|yS<|nU<|ih am (W (i+1)) _ N H h h5 h8 h1 h2 h3 h4 h16 hg ho hx hr
 intro hc N;exact wZ<|xV (zW [1,2] rfl (by decide))<|yN<|hx _ _ _ _ _ (zC N).symm H h9
def oJ(list:(List zG))(s:zQ)(ag:(List Int)):Option ((List Int)×Int×Bool):=do
 let y<-tZ ([]:List zI) s.Value
 match<-uS list ag y ([]:List Int) 0 with
 | .ret r0=>pure r0
 | .done aj=>
  let y2<-nJ list s.Write ag
  if(decide (y2<0)) then
   pure (([]:List Int),0,false)
  else
   pure (aj,y2,true)
theorem zBT:∀list s ag r,oJ list s ag=some r->∀{I:Imm}{p c p1 c1 p2 c2 p3 c3 p4 c4 p5 c5},(S4 I p list c)->(S4 I p1 s.Write.Subs c1)->(S4 I p2 s.Value.Index.Coefs c2)->(S4 I p3 s.Value.Read.Subs c3)->(S4 I p4 s.Value.Kids c4)->(S4 I p5 ag c5)->RT 119 [vS p list c,vA (cStmt s p1 c1 p2 c2 p3 c3 p4 c4),vS p5 ag c5] I [] (zAW  r):=by
 intro list s ag r N I p c p1 c1 p2 c2 p3 c3 p4 c4 p5 c5 h h1 h2 h3 h4 h5;unfold oJ at N;refine yJ func119 λB=>yE<|uH (cStmt s p1 c1 p2 c2 p3 c3 p4 c4) ?_;intro b hb;refine wG [] []<|xA<|tU [] Int ?_;intro b1 hb1;have h6:RL I [] ([]:List Int):=rfl;refine yI [] [9] rfl<|xA<|tU [] zI ?_;intro b2 hb2;have h7:RL I [] ([]:List zI):=rfl;refine qA 3 [2] [(17,vA (cExpr s.Value p2 c2 p3 c3 p4 c4))]<|bE N λy hy N=>rC (zFD ([]:List zI) s.Value _ hy h7 h2 h3 h4) rfl ?_;rintro I0 ax v2 k2 le - ⟨p6,c6,cs,rfl,rfl,h8⟩ -;have ⟨h,h5,h6,h1,h2,h3⟩:=m6 le h h5 h6 h1 h2 h3;have h4:=h4.mono le;refine yI [] [10] rfl<|zZ<|yG [11] rfl<|wC<|oA [(0,vS p list c),(2,vS p5 ag c5),(4,vP b 0),(9,vS (some ⟨b1,0,none⟩) ([]:List Int) 0),(10,vS p6 y c6),(11,vI 0)] ?_;obtain⟨o0,aB,aH⟩:=zB N;refine zCp list ag y ([]:List Int) 0 o0 aB iR h h5 h8 h1 h2 h3 h4 h6 (λ_ _ _ h=>h) (λ_ _ h=>h) ?_ ?_
 ·intro bz aj p8 c8 aO heq aK h10;subst o0;have ⟨h,h5,h1⟩:=m3 aK h h5 h1;refine zR<|xA<|qA 4 [1] [(39,vS p list c),(41,vA (cAccess s.Write p1 c1)),(42,vS p5 ag c5)] ?_;obtain⟨y2,bt,N⟩:=zB aH;refine jE (zBi list s.Write ag _ bt h h1 h5) ?_;intro bK bi;have h10:=iM bi h10;refine yI [] [13] rfl<|zZ<|yG [45] rfl<|zJ<|yD N ?_ ?_
  ·intro bd N;refine yE<|tU [] Int ?_;intro b5 hb5;have h18:RL bK [] ([]:List Int):=rfl;refine yI [] [6,7,8] rfl<|xF<|zH<|xB 0 rfl ?_;intro bO bw hl01;have h19:=SL.of_frozen hl01 bw h18;obtain rfl:=zC N;exact xC ⟨_,_,(.tmp rfl (.tmp rfl (.tmp rfl ResV.nil))),zO,⟨_,_,_,rfl,rfl,h19,rfl,rfl⟩⟩
  intro bd N;refine zU<|wW [6,7,8] rfl<|xF<|xB 0 rfl ?_;intro I06 bD hl02;have h20:=SL.of_frozen hl02 bD h10;obtain rfl:=zC N;exact xC ⟨_,_,(.tmp rfl (.tmp rfl (.tmp rfl ResV.nil))),zO,⟨_,_,_,rfl,rfl,h20,rfl,rfl⟩⟩
 intro r0 I9 hs9 m9 aR le9 aS;subst aR;refine zV<|zH ?_;obtain rfl:=zC aH;exact xC aS
def uT(p:(List Int))(i:Int):Option (Out Unit (Bool)):=do
 if(decide (i<(p.length:Int))) then
  let x<-idx p i
  let y<-vJ x 9999
  if(!y) then
   pure (.ret false)
  else
   uT p (W (i+1))
 else
  pure (.done ())
 partial_fixpoint
theorem zCq(p:(List Int)):∀(i:Int) (o:Out Unit (Bool)),uT p i=some o->∀{B}{I0 I:Imm}{Q p1 c},I0.le I->(S4 I p1 p c)->NG Q->NO Q->(∀(I':Imm) ,o=(.done ())->I0.le I'->T 19 B Q (.exit 0) I' [] [(0,vS p1 p c)])->(∀r I' ah m',o=(.ret r)->I0.le I'->RS Tryz.prog f120 B (zS  r) I' ah m'->T 19 B Q .ret I' ah m')->J Tryz.prog 19 B (nav (bodyOf f120) [1,0,1,0]) Q I [] [(0,vS p1 p c),(3,vI i)]:=by
 refine uT.partial_correctness p _ λaI ih i o N B I0 I Q p1 c H h hg ho hx hr=>yR hg ho<|yA<|yG [7] rfl<|zJ<|yD N ?_ ?_
 ·intro hc N;refine zU<|zZ<|yH<|yE<|yF 2 [] [10,11] rfl<|bE N λx hy N=>xN rfl rfl h hy ?_;intro ad aL ap al;obtain rfl:=al;refine xE 0 ap [vI x] (vI x) rfl<|bE N λy ay N=>vV (eC x 9999 _ ay ) ?_;intro I0 le;have ⟨h,H⟩:=m2 le h H;refine yI [] [15] rfl<|zJ<|yD N ?_ ?_
  ·intro aF N;exact vK [(2,vF)]<|xF<|zV<|zH<|zH<|hr _ _ _ _ (zC N).symm H ⟨_,_,(.tmp rfl ResV.nil),zO,⟨_,rfl,rfl,rfl⟩⟩
  intro aF N;exact zU<|zP<|zJ<|zK<|yI [] [3] rfl<|yS<|nU<|ih (W (i+1)) _ N H h hg ho hx hr
 intro hc N;exact wZ<|yN<|hx _  (zC N).symm H
def nS(p:(List Int)):Option (Bool):=do
 match<-uT p 0 with
 | .ret r0=>pure r0
 | .done _=>
  pure (decide ((p.length:Int)<=4))
theorem zFE:∀p r,nS p=some r->∀{I:Imm}{p1 c},(S4 I p1 p c)->RT 120 [vS p1 p c] I [] (zS  r):=by
 intro p r N I p1 c h;unfold nS at N;refine yJ func120 λB=>vK []<|zZ<|yG [3] rfl<|wC<|oA [(0,vS p1 p c),(3,vI 0)] ?_;obtain⟨o0,aB,aH⟩:=zB N;refine zCq p 0 o0 aB iR h (λ_ _ _ h=>h) (λ_ _ h=>h) ?_ ?_
 ·intro aU  heq af;subst o0;refine zR<|wW [2] rfl<|zJ<|yZ ?_;obtain rfl:=zC aH;exact wV
 intro r0 I9 hs9 m9 aR le9 aS;subst aR;refine zV<|zH ?_;obtain rfl:=zC aH;exact xC aS
def kI(r:Int×Bool):KT:=λkk I' ah v=>
 ∃v0 v1,ah=[]/\v=tupV [v0,v1]/\v0=.int .i64 r.1/\v1=.bool r.2
def uM(list:(List zG))(part:zN)(y1:(List (List Int)))(i:Int)(k0:Int):Option (Out Unit (Int×Bool)):=do
 if(decide (k0<(y1.length:Int))) then
  let x1<-idx part.Body i
  let x2<-idx y1 k0
  let (y5,y6,y7)<-oJ list x1 x2
  let t80<-(do
   if(!y7) then
    pure true
   else
    let x3<-idx y1 k0
    let y8<-nS x3
    pure (!y8)
     : Option Bool)
  if t80 then
   pure (.ret (0,false))
  else
   uM list part y1 i (W (k0+1))
 else
  pure (.done ())
 partial_fixpoint
theorem zD5(list:(List zG))(part:zN)(y1:(List (List Int)))(i:Int):∀(k0:Int) (o:Out Unit (Int×Bool)),uM list part y1 i k0=some o->∀{B}{I0 I:Imm}{Q p c p1 c1 p2 c2}{b:Nat}{p3 c3},I0.le I->(S4 I p list c)->(S4 I p3 y1 c3)->(S4 I p1 part.Nest c1)->(S4 I p2 part.Body c2)->NG Q->NO Q->(∀(I':Imm) ,o=(.done ())->I0.le I'->T 87 B Q (.exit 2) I' [hB b (cPart part p1 c1 p2 c2)] [(0,vS p list c),(3,vP b 0),(6,vS p3 y1 c3),(8,vI i)])->(∀r I' ah m',o=(.ret r)->I0.le I'->RS Tryz.prog f81 B (kI  r) I' ah m'->T 87 B Q .ret I' ah m')->J Tryz.prog 87 B (nav (bodyOf f81) [1,1,1,0,1,0,0,1,0,0,1,1,0]) Q I [hB b (cPart part p1 c1 p2 c2)] [(0,vS p list c),(3,vP b 0),(6,vS p3 y1 c3),(8,vI i),(9,vI k0)]:=by
 refine uM.partial_correctness list part y1 i _ λaI ih k0 o N B I0 I Q p c p1 c1 p2 c2 b p3 c3 H h h3 h1 h2 hg ho hx hr=>yR hg ho<|yA<|yG [53] rfl<|zJ<|yD N ?_ ?_
 ·intro hc5 N;refine zU<|zZ<|yH<|yA ?_;obtain⟨x1,bb,N⟩:=zB N;obtain⟨x2,bt,N⟩:=zB N;obtain⟨⟨y5,y6,y7⟩,bH,N⟩:=zB N;refine wX [.p (vS p list c) [],.p (vP b 1) [],.p (vS p2 part.Body c2) [0],.p (vI i) [],.x (ePStmt x1),.x (eVStmt x1),.p (vS p3 y1 c3) [],.p (vI k0) [],.x (λI' v hx=>∃ad2 bB bo,v=.pointer (some ad2)/\hx=[]/\(At I' ad2 [vS bB x2 bo])/\(S4 I' bB x2 bo)),.x (eS x2),.x (λI' v hx=>∃bm bu,v=.tuple ⟨[vS bm y5 bu,vI y6,.bool y7]⟩/\hx=[]/\(S4 I' bm y5 bu)),.x (λI' v hx=>∃p131 c131,v=.tuple ⟨[vS p131 y5 c131,vI y6,.bool y7]⟩/\hx=[]/\(S4 I' p131 y5 c131)),.x (eS y5),.q (vI y6),.q (.bool y7),.x (eS y5),.p (vI y6) []] [[],[],[(1,false)],[],[(2,false),(3,false)],[(4,false)],[],[],[(6,false),(7,false)],[(8,false)],[(0,false),(5,false),(9,false)],[(10,false)],[(11,false)],[(11,false)],[(11,false)],[(12,false)],[(13,false)]] [hB b (cPart part p1 c1 p2 c2)] [] [(14,false)] (zX [0]) ?_ ?_
  ·refine Op<|Op<|Op<|Op<|Ox ?_<|Ox ?_<|Op<|Op<|Ox ?_<|Ox ?_<|Ox ?_<|Ox ?_<|Ox ?_<|Oq ?_<|Oq ?_<|Ox ?_<|Op<|On
   ·intro I1 hf af;refine yP [59,60] rfl ?_;have h2:=h2.mono af;refine xN rfl rfl h2 bb ?_;intro ad1 bv ar az;obtain⟨p8,c8,p9,c9,aZ,bh,aV,bj,rfl,h10,h11,h12,h13⟩:=qF az;exact yK [] iR ⟨_,_,_,_,_,_,_,_,_,rfl,rfl,ar,h10,h11,h12,h13⟩
   ·rintro I1 hf af _ _ ⟨ad1,p8,c8,p9,c9,aZ,bh,aV,bj,rfl,rfl,ar,h10,h11,h12,h13⟩;exact yP [61] rfl<|xE 0 ar (cStmt x1 p8 c8 p9 c9 aZ bh aV bj) (vA (cStmt x1 p8 c8 p9 c9 aZ bh aV bj)) rfl<|yK [] iR ⟨_,_,_,_,_,_,_,_,rfl,rfl,h10,h11,h12,h13⟩
   ·intro I1 hf af;refine yP [63,64] rfl ?_;have h3:=h3.mono af;refine xN rfl rfl h3 bt ?_;intro ad2 bM aP aW;obtain⟨v011,rfl,h14⟩:=aW;obtain⟨bB,bo,rfl⟩:=h14.form;exact yK [] iR ⟨_,_,_,rfl,rfl,aP,h14⟩
   ·rintro I1 hf af _ _ ⟨ad2,bB,bo,rfl,rfl,aP,h14⟩;exact yP [65] rfl<|xE 0 aP [vS bB x2 bo] (vS bB x2 bo) rfl<|yK [] iR ⟨_,_,rfl,rfl,h14⟩
   ·rintro I1 hf af _ _ ⟨rfl,rfl⟩ _ _ ⟨p81,c81,p91,c91,p101,c101,p111,c111,rfl,rfl,h101,h111,h121,h131⟩ _ _ ⟨p121,c121,rfl,rfl,h141⟩;refine yP [57,62,66] rfl ?_;have H:=iS I1;have h:=h.mono af;refine xO (zBT list x1 x2 _ bH h h101 h111 h121 h131 h141) ?_;rintro bK ax v2 k2 bi - ⟨v012,v013,v014,rfl,rfl,h15,rfl,rfl⟩ -;have H:=H.trans bi;obtain⟨bm,bu,rfl⟩:=h15.form;exact yK [] H ⟨_,_,rfl,rfl,h15⟩
   ·rintro I1 hf af _ _ ⟨bm,bu,rfl,rfl,h15⟩;exact yP [67] rfl<|rS 12 [(56,.tuple ⟨[vS bm y5 bu,vI y6,.bool y7]⟩)]<|yK [] iR ⟨_,_,rfl,rfl,h15⟩
   ·rintro I1 hf af _ _ ⟨p131,c131,rfl,rfl,h151⟩;exact yP [56] rfl<|rS 13 [(68,vS p131 y5 c131)]<|yK [] iR ⟨_,_,rfl,rfl,h151⟩
   ·rintro I1 hf af _ _ ⟨p131,c131,rfl,rfl,h151⟩;exact yP [56] rfl<|rS 14 [(69,vI y6)]<|yT iR
   ·rintro I1 hf af _ _ ⟨p131,c131,rfl,rfl,h151⟩;exact yP [56] rfl<|rS 15 [(70,.bool y7)]<|yT iR
   rintro I1 hf af _ _ ⟨p1311,c1311,rfl,rfl,h1511⟩;exact yP [68] rfl<|rS 16 [(10,vS p1311 y5 c1311)]<|yK [] iR ⟨_,_,rfl,rfl,h1511⟩
  intro bO bw;refine yP [0,3,6,8,9,70] rfl ?_;have ⟨h,h3,h1,h2,H⟩:=m5 bw h h3 h1 h2 H;refine yI [] [12] rfl<|zJ<|yA ?_;refine wE N [hB b (cPart part p1 c1 p2 c2)] (λt80=>[(0,vS p list c),(3,vP b 0),(6,vS p3 y1 c3),(8,vI i),(9,vI k0),(80,.bool t80)]) (λaM aA=>?_) ?_
  ·have H:=iS bO;refine zK<|yF 3 [] [73] rfl<|xW [73] aA ?_ ?_
   ·intro hc6 N;exact wG [] [(80,vY)]<|yN<|zT (ct N H)
   intro hc6 N;refine yF 5 [] [74,75] rfl<|bE N λx3 hy6 N=>xN rfl rfl h3 hy6 ?_;intro ad3 ccs3 hat3 bq;obtain⟨v015,rfl,h18⟩:=bq;obtain⟨p14,c14,rfl⟩:=h18.form;refine xE 0 hat3 [vS p14 x3 c14] (vS p14 x3 c14) rfl<|bE N λy8 hy7 N=>vV (zFE x3 _ hy7 h18) ?_;intro I07 bD;have H:=H.trans bD;exact yI [] [80] rfl<|yN<|zT (ct N H)
  intro t80 I06 le7 hMc1;have ⟨h,h3,h1,h2,H⟩:=m5 le7 h h3 h1 h2 H;refine zJ<|yD hMc1 ?_ ?_
  ·intro hc7 N;exact yG [4,5] rfl<|xF<|zV<|zH<|zH<|hr _ _ _ _ (zC N).symm H ⟨_,_,(.tmp rfl (.tmp rfl ResV.nil)),zO,⟨_,_,rfl,rfl,rfl,rfl⟩⟩
  intro hc7 N;exact zU<|zP<|zJ<|zK<|yI [] [9] rfl<|yS<|nU<|ih (W (k0+1)) _ N H h h3 h1 h2 hg ho hx hr
 intro hc5 N;exact wZ<|yN<|hx _  (zC N).symm H
def uN(list:(List zG))(part:zN)(y1:(List (List Int)))(i:Int):Option (Out Unit (Int×Bool)):=do
 if(decide (i<(part.Body.length:Int))) then
  let x<-idx part.Body i
  let y3<-sO x (part.Nest.length:Int)
  if(!y3) then
   pure (.ret (0,false))
  else
   match<-uM list part y1 i 0 with
   | .ret r0=>pure (.ret r0)
   | .done _=>
    uN list part y1 (W (i+1))
 else
  pure (.done ())
 partial_fixpoint
theorem zD6(list:(List zG))(part:zN)(y1:(List (List Int))):∀(i:Int) (o:Out Unit (Int×Bool)),uN list part y1 i=some o->∀{B}{I0 I:Imm}{Q p c p1 c1 p2 c2}{b:Nat}{p3 c3},I0.le I->(S4 I p list c)->(S4 I p3 y1 c3)->(S4 I p1 part.Nest c1)->(S4 I p2 part.Body c2)->NG Q->NO Q->(∀(I':Imm) ,o=(.done ())->I0.le I'->T 87 B Q (.exit 0) I' [hB b (cPart part p1 c1 p2 c2)] [(3,vP b 0),(6,vS p3 y1 c3)])->(∀r I' ah m',o=(.ret r)->I0.le I'->RS Tryz.prog f81 B (kI  r) I' ah m'->T 87 B Q .ret I' ah m')->J Tryz.prog 87 B (nav (bodyOf f81) [1,1,1,0,1,0]) Q I [hB b (cPart part p1 c1 p2 c2)] [(0,vS p list c),(3,vP b 0),(6,vS p3 y1 c3),(8,vI i)]:=by
 refine uN.partial_correctness list part y1 _ λaI ih i o N B I0 I Q p c p1 c1 p2 c2 b p3 c3 H h h3 h1 h2 hg ho hx hr=>yR hg ho<|yA<|yE<|yI [0] [37] rfl<|zJ<|yD N ?_ ?_
 ·intro bI N;refine zU<|zZ<|yH<|yA<|yA ?_;obtain⟨x,ay,N⟩:=zB N;obtain⟨y3,aJ,N⟩:=zB N;refine wX [.p (vP b 1) [],.p (vS p2 part.Body c2) [0],.p (vI i) [],.x (ePStmt x),.x (eVStmt x),.p (vP b 0) [],.p (vS p1 part.Nest c1) [0],.p (vI (part.Nest.length:Int)) [],.q (.bool y3),.p (.bool (!y3)) []] [[],[(0,false)],[],[(1,false),(2,false)],[(3,false)],[],[(5,false)],[(6,false)],[(4,false),(7,false)],[(8,false)]] [hB b (cPart part p1 c1 p2 c2)] [] [(9,false)] (zX [0]) ?_ ?_
  ·refine Op<|Op<|Op<|Ox ?_<|Ox ?_<|Op<|Op<|Op<|Oq ?_<|Op<|On
   ·intro I1 hf af;refine yP [41,42] rfl ?_;have h2:=h2.mono af;refine xN rfl rfl h2 ay ?_;intro ad aL ap al;obtain⟨p4,c4,p5,c5,p6,c6,p7,c7,rfl,h5,h6,h7,h8⟩:=qF al;exact yK [] iR ⟨_,_,_,_,_,_,_,_,_,rfl,rfl,ap,h5,h6,h7,h8⟩
   ·rintro I1 hf af _ _ ⟨ad,p4,c4,p5,c5,p6,c6,p7,c7,rfl,rfl,ap,h5,h6,h7,h8⟩;exact yP [43] rfl<|xE 0 ap (cStmt x p4 c4 p5 c5 p6 c6 p7 c7) (vA (cStmt x p4 c4 p5 c5 p6 c6 p7 c7)) rfl<|yK [] iR ⟨_,_,_,_,_,_,_,_,rfl,rfl,h5,h6,h7,h8⟩
   rintro I1 hf af _ _ ⟨p41,c41,p51,c51,p61,c61,p71,c71,rfl,rfl,h51,h61,h71,h81⟩;refine yP [44,47] rfl ?_;have H:=iS I1;refine vV (fO x (part.Nest.length:Int) _ aJ h51 h61 h71 h81) ?_;intro aQ aE;have H:=H.trans aE;exact yT H
  intro bz aK;refine yP [0,3,6,8,49] rfl ?_;have ⟨h,h3,h1,h2,H⟩:=m5 aK h h3 h1 h2 H;refine yC rfl<|zJ<|yD N ?_ ?_
  ·intro bN N;exact yG [4,5] rfl<|xF<|zH<|zV<|zH<|zH<|hr _ _ _ _ (zC N).symm H ⟨_,_,(.tmp rfl (.tmp rfl ResV.nil)),zO,⟨_,_,rfl,rfl,rfl,rfl⟩⟩
  intro bN N;refine zU<|wW [9] rfl<|wC<|oA [(0,vS p list c),(3,vP b 0),(6,vS p3 y1 c3),(8,vI i),(9,vI 0)] ?_;obtain⟨o02,ho02,aH⟩:=zB N;refine zD5 list part y1 i 0 o02 ho02 iR h h3 h1 h2 (λ_ _ _ h=>hg _ _ _ h) (λ_ _ h=>ho _ _ h) ?_ ?_
  ·intro I08  heq2 le8;subst o02;have ⟨h,h3,h1,h2,H⟩:=m5 le8 h h3 h1 h2 H;exact zR<|zP<|zJ<|zK<|yI [] [8] rfl<|yS<|nU<|ih (W (i+1)) _ aH H h h3 h1 h2 hg ho hx hr
  intro r0 I9 hs9 m9 aR le9 aS;subst aR;exact zV<|zV<|zH<|zH<|hr _ _ _ _ (zC aH).symm (H.trans le9) aS
 intro bI N;exact wZ<|yN<|hx _  (zC N).symm H
def oG(list:(List zG))(part:zN):Option (Int×Bool):=do
 let (y1,y2)<-qI part.Nest
 let t32<-(do
  if(!y2) then
   pure true
  else
   if(decide ((part.Body.length:Int)<1)) then
    pure true
   else
    pure (decide ((part.Body.length:Int)>4))
    : Option Bool)
 if t32 then
  pure (0,false)
 else
  match<-uN list part y1 0 with
  | .ret r0=>pure r0
  | .done _=>
   pure ((W ((y1.length:Int)*(part.Body.length:Int))),true)
theorem zAB:∀list part r,oG list part=some r->∀{I:Imm}{p c p1 c1 p2 c2},(S4 I p list c)->(S4 I p1 part.Nest c1)->(S4 I p2 part.Body c2)->RT 81 [vS p list c,vA (cPart part p1 c1 p2 c2)] I [] (kI  r):=by
 intro list part r N I p c p1 c1 p2 c2 h h1 h2;unfold oG at N;refine yJ func81 λB=>?_;have H:=iS I;refine yE<|uH (cPart part p1 c1 p2 c2) ?_;intro b hb;refine wG [] []<|xA<|yF 2 [0] [15] rfl ?_;obtain⟨⟨y1,y2⟩,hy,N⟩:=zB N;refine xO (zCo part.Nest _ hy h1) ?_;rintro I0 ax v2 k2 le - ⟨v0,v01,rfl,rfl,h3,rfl⟩ -;have ⟨h,h1,h2,H⟩:=m4 le h h1 h2 H;obtain⟨p3,c3,rfl⟩:=h3.form;refine yI [] [6,7] rfl<|zZ<|yA ?_;refine wE N [hB b (cPart part p1 c1 p2 c2)] (λt32=>[(0,vS p list c),(3,vP b 0),(6,vS p3 y1 c3),(32,.bool t32)]) (λo0 aB=>?_) ?_
 ·have H:=iS I0;refine zK<|yF 3 [] [21] rfl<|xW [21] aB ?_ ?_
  ·intro hc N;exact wG [] [(32,vY)]<|yN<|zT (ct N H)
  intro hc N;refine yF 9 [0] [27] rfl<|xW [27] N ?_ ?_
  ·intro aF N;exact wG [] [(32,vY)]<|yN<|zT (ct N H)
  intro aF N;exact yI [0] [32] rfl<|yN<|zT (ct N H)
 intro t32 aU af aN;have ⟨h,h3,h1,h2⟩:=m4 af h h3 h1 h2;refine zJ<|yD aN ?_ ?_
 ·intro bd N;refine yG [4,5] rfl<|xF<|zH ?_;obtain rfl:=zC N;exact xC ⟨_,_,(.tmp rfl (.tmp rfl ResV.nil)),zO,⟨_,_,rfl,rfl,rfl,rfl⟩⟩
 intro bd N;refine zU<|zZ<|yG [8] rfl<|wC<|oA [(0,vS p list c),(3,vP b 0),(6,vS p3 y1 c3),(8,vI 0)] ?_;obtain⟨o03,ho03,hMl1⟩:=zB N;refine zD6 list part y1 0 o03 ho03 iR h h3 h1 h2 (λ_ _ _ h=>h) (λ_ _ h=>h) ?_ ?_
 ·intro I09  heq3 le9;subst o03;refine zR<|xA<|yI [0] [4,5] rfl<|zJ<|yZ ?_;obtain rfl:=zC hMl1;exact xC ⟨_,_,(.tmp rfl (.tmp rfl ResV.nil)),zO,⟨_,_,rfl,rfl,rfl,rfl⟩⟩
 intro r0 I9 hs9 m9 aR le9 aS;subst aR;refine zV<|zH ?_;obtain rfl:=zC hMl1;exact xC aS
def wB(p:zD)(total:Int)(i:Int):Option (Out Int (Bool)):=do
 if(decide (i<(p.Parts.length:Int))) then
  let x<-idx p.Parts i
  let (y2,y3)<-oG p.Arrays x
  if(!y3) then
   pure (.ret false)
  else
   wB p (W (total+y2)) (W (i+1))
 else
  pure (.done total)
 partial_fixpoint
theorem zAh(p:zD):∀(total:Int) (i:Int) (o:Out Int (Bool)),wB p total i=some o->∀{B}{I0 I:Imm}{Q p1 c p2 c1}{b:Nat},I0.le I->(S4 I p1 p.Arrays c)->(S4 I p2 p.Parts c1)->NG Q->NO Q->(∀(I':Imm) (total1:Int),o=(.done total1)->I0.le I'->T 42 B Q (.exit 0) I' [] [(3,vI total1)])->(∀r I' ah m',o=(.ret r)->I0.le I'->RS Tryz.prog f43 B (zS  r) I' ah m'->T 42 B Q .ret I' ah m')->J Tryz.prog 42 B (nav (bodyOf f43) [1,1,1,0,1,0]) Q I [hB b (cProg p p1 c p2 c1)] [(1,vP b 0),(3,vI total),(4,vI i)]:=by
 refine wB.partial_correctness p _ λaI ih total i o N B I0 I Q p1 c p2 c1 b H h h1 hg ho hx hr=>yR hg ho<|yA<|yE<|yI [0] [21] rfl<|zJ<|yD N ?_ ?_
 ·intro bd N;refine zU<|zZ<|yH<|yA ?_;obtain⟨x,ay,N⟩:=zB N;obtain⟨⟨y2,y3⟩,aJ,N⟩:=zB N;refine wX [.p (vP b 0) [],.p (vS p1 p.Arrays c) [0],.p (vP b 1) [],.p (vS p2 p.Parts c1) [0],.p (vI i) [],.x (ePPart x),.x (eVPart x),.q (.tuple ⟨[vI y2,.bool y3]⟩),.p (.tuple ⟨[vI y2,.bool y3]⟩) [],.p (vI y2) [],.p (.bool y3) [],.p (vI y2) []] [[],[(0,false)],[],[(2,false)],[],[(3,false),(4,false)],[(5,false)],[(1,false),(6,false)],[(7,false)],[(8,false)],[(8,false)],[(9,false)]] [hB b (cProg p p1 c p2 c1)] [] [(10,false),(11,false)] (zX [0]) ?_ ?_
  ·refine Op<|Op<|Op<|Op<|Op<|Ox ?_<|Ox ?_<|Oq ?_<|Op<|Op<|Op<|Op<|On
   ·intro I1 hf af;refine yP [28,29] rfl ?_;have h1:=h1.mono af;refine xN rfl rfl h1 ay ?_;intro ad aL ap al;obtain⟨p3,c2,p4,c3,rfl,h3,h4⟩:=tB al;exact yK [] iR ⟨_,_,_,_,_,rfl,rfl,ap,h3,h4⟩
   ·rintro I1 hf af _ _ ⟨ad,p3,c2,p4,c3,rfl,rfl,ap,h3,h4⟩;exact yP [30] rfl<|xE 0 ap (cPart x p3 c2 p4 c3) (vA (cPart x p3 c2 p4 c3)) rfl<|yK [] iR ⟨_,_,_,_,rfl,rfl,h3,h4⟩
   rintro I1 hf af _ _ ⟨rfl,rfl⟩ _ _ ⟨p31,c21,p41,c31,rfl,rfl,h31,h41⟩;refine yP [26,31] rfl ?_;have H:=iS I1;have h:=h.mono af;refine xO (zAB p.Arrays x _ aJ h h31 h41) ?_;rintro aQ ax v2 k2 aE - ⟨v03,v04,rfl,rfl,rfl,rfl⟩ -;have H:=H.trans aE;exact yT H
  intro bz aK;refine yP [1,3,4,5,34] rfl ?_;have ⟨h,h1,H⟩:=m3 aK h h1 H;refine yI [] [6] rfl<|zZ<|yG [36] rfl<|zJ<|yD N ?_ ?_
  ·intro bI N;exact vK [(2,vF)]<|xF<|zH<|zV<|zH<|zH<|hr _ _ _ _ (zC N).symm H ⟨_,_,(.tmp rfl ResV.nil),zO,⟨_,rfl,rfl,rfl⟩⟩
  intro bI N;exact zU<|zJ<|zK<|yI [] [3] rfl<|zP<|zJ<|zK<|yI [] [4] rfl<|yS<|nU<|ih (W (total+y2)) (W (i+1)) _ N H h h1 hg ho hx hr
 intro bd N;exact wZ<|xV zO<|yN<|hx _ _ (zC N).symm H
def tM(p:zD):Option (Bool):=do
 let t16<-(do
  let y<-oU p.Arrays
  if(!y) then
   pure true
  else
   pure (decide ((p.Parts.length:Int)>4))
    : Option Bool)
 if t16 then
  pure false
 else
  match<-wB p 0 0 with
  | .ret r0=>pure r0
  | .done total1=>
   pure (decide (total1<=120))
theorem eT:∀p r,tM p=some r->∀{I:Imm}{p1 c p2 c1},(S4 I p1 p.Arrays c)->(S4 I p2 p.Parts c1)->RT 43 [vA (cProg p p1 c p2 c1)] I [] (zS  r):=by
 intro p r N I p1 c p2 c1 h h1;unfold tM at N;refine yJ func43 λB=>?_;have H:=iS I;refine yE<|uH (cProg p p1 c p2 c1) ?_;intro b hb;refine wG [] []<|zZ<|yA ?_;refine wE N [hB b (cProg p p1 c p2 c1)] (λt16=>[(1,vP b 0),(16,.bool t16)]) (λo0 aB=>?_) ?_
 ·have H:=iS I;refine zK<|yF 2 [0] [8] rfl ?_;obtain⟨y,hy,N⟩:=zB aB;refine vV (zEU p.Arrays _ hy h) ?_;intro aU le;have H:=H.trans le;refine yF 5 [] [11] rfl<|xW [11] N ?_ ?_
  ·intro hc N;exact wG [] [(16,vY)]<|yN<|zT (ct N H)
  intro hc N;exact yI [0] [16] rfl<|yN<|zT (ct N H)
 intro t16 I0 af aN;have ⟨h,h1⟩:=m2 af h h1;refine zJ<|yD aN ?_ ?_
 ·intro aF N;refine vK [(2,vF)]<|xF<|zH ?_;obtain rfl:=zC N;exact wV
 intro aF N;refine zU<|wW [3] rfl<|zZ<|yG [4] rfl<|wC<|oA [(1,vP b 0),(3,vI 0),(4,vI 0)] ?_;obtain⟨aM,aA,aH⟩:=zB N;refine zAh p 0 0 aM aA iR h h1 (λ_ _ _ h=>h) (λ_ _ h=>h) ?_ ?_
 ·intro bK total1 heq1 bi;subst aM;refine zR<|wW [2] rfl<|zJ<|yZ ?_;obtain rfl:=zC aH;exact wV
 intro r0 I9 hs9 m9 aR le9 aS;subst aR;refine zV<|zH ?_;obtain rfl:=zC aH;exact xC aS
def zEY(r:(List zG)):KT:=λkk I' ah v=>
 ∃v0,ah=[]/\v=tupV [v0]/\SL I' v0 r
def mT :Option ((List zG)):=do
 pure ([(zG.mk (⟨[65]⟩:Str) ([6]:List Int)),(zG.mk (⟨[66]⟩:Str) ([4,5]:List Int)),(zG.mk (⟨[67]⟩:Str) ([3]:List Int))]:List zG)
theorem fP:∀r,mT =some r->∀{I:Imm} ,RT 76 [] I [] (zEY  r):=by
 intro  r N I;unfold mT at N;refine yJ func76 λB=>vK []<|xA<|tU [vI 6] Int ?_;intro b hb;have h:RL I [vI 6] ([6]:List Int):=rI [6];refine yF 2 [] [2] rfl<|tU [vI 4,vI 5] Int ?_;intro b1 hb1;have h1:RL I [vI 4,vI 5] ([4,5]:List Int):=rI [4,5];refine yF 4 [] [4] rfl<|tU [vI 3] Int ?_;intro b2 hb2;have h2:RL I [vI 3] ([3]:List Int):=rI [3];refine yF 6 [] [6] rfl<|xM 2 rfl ?_;intro I0 le hl0;have h3:=SL.of_frozen hl0 le h;have ⟨h1,h2⟩:=m2 le h1 h2;refine xM 1 rfl ?_;intro aU af hl01;have h4:=SL.of_frozen hl01 af h1;have ⟨h3,h2⟩:=m2 af h3 h2;refine xM 0 rfl ?_;intro aQ aE hl02;have h5:=SL.of_frozen hl02 aE h2;have ⟨h3,h4⟩:=m2 aE h3 h4;refine tU [vT ([65]),vS (some ⟨b,0,none⟩) ([6]:List Int) 1,vT ([66]),vS (some ⟨b1,0,none⟩) ([4,5]:List Int) 2,vT ([67]),vS (some ⟨b2,0,none⟩) ([3]:List Int) 1] zG ?_;intro b3 hb3;have h6:RL aQ [vT ([65]),vS (some ⟨b,0,none⟩) ([6]:List Int) 1,vT ([66]),vS (some ⟨b1,0,none⟩) ([4,5]:List Int) 2,vT ([67]),vS (some ⟨b2,0,none⟩) ([3]:List Int) 1] ([(zG.mk (⟨[65]⟩:Str) ([6]:List Int)),(zG.mk (⟨[66]⟩:Str) ([4,5]:List Int)),(zG.mk (⟨[67]⟩:Str) ([3]:List Int))]:List zG):=⟨[vT ([65]),vS (some ⟨b,0,none⟩) ([6]:List Int) 1],_,rfl,rfl,(oQ ⟨_,rfl,h3⟩),⟨[vT ([66]),vS (some ⟨b1,0,none⟩) ([4,5]:List Int) 2],_,rfl,rfl,(oQ ⟨_,rfl,h4⟩),⟨[vT ([67]),vS (some ⟨b2,0,none⟩) ([3]:List Int) 1],_,rfl,rfl,(oQ ⟨_,rfl,h5⟩),rfl⟩⟩⟩;refine yI [] [0] rfl<|xF<|xB 0 rfl ?_;intro bz aK hl03;have h7:=SL.of_frozen hl03 aK h6;obtain rfl:=zC N;exact xC ⟨_,_,(.tmp rfl ResV.nil),zO,⟨_,rfl,rfl,h7⟩⟩
def sT(a0:zA)(x:Int)(b:zA)(y:Int)(i:Int)(Coefs:List Int):Option (List Int):=do
 if(decide (i<4)) then
  let x1<-idx a0.Coefs i
  let x2<-idx b.Coefs i
  let l<-app 8 Coefs ([(W ((W (x*x1))+(W (y*x2))))]:List Int)
  sT a0 x b y (W (i+1)) l
 else
  pure (id Coefs)
 partial_fixpoint
theorem zBj(a0:zA)(x:Int)(b:zA)(y:Int):∀(i:Int) (Coefs:List Int) (o:List Int),sT a0 x b y i Coefs=some o->∀{B}{I0 I:Imm}{Q p c p1 c1}{b1:Nat}{b2:Nat}{b3:Nat}{b4:Nat}{p2 c2 cs},I0.le I->(S4 I p1 b.Coefs c1)->(S4 I p a0.Coefs c)->(RL I cs Coefs)->NG Q->NO Q->(∀(I':Imm) (Coefs1:List Int) (p3:Option Addr) (c3:Nat) (aC:List Value),o=Coefs1->I0.le I'->(RL I' aC Coefs1)->T 46 B Q (.exit 0) I' [hO Int (vS p3 Coefs1 c3) aC,hB b4 [vS p3 Coefs1 c3,vI (W ((W (x*a0.Const))+(W (y*b.Const))))],hB b3 [z0,vI 0]] [(8,vP b3 0),(9,vP b4 0)])->J Tryz.prog 46 B (nav (bodyOf f177) [1,1,0,1,0]) Q I [hO Int (vS p2 Coefs c2) cs,hB b4 [vS p2 Coefs c2,vI (W ((W (x*a0.Const))+(W (y*b.Const))))],hB b3 [z0,vI 0],hB b2 (cAff b p1 c1),hB b1 (cAff a0 p c)] [(1,vI x),(3,vI y),(4,vP b1 0),(6,vP b2 0),(8,vP b3 0),(9,vP b4 0),(10,vI i)]:=by
 refine sT.partial_correctness a0 x b y _ λaI ih i Coefs o N B I0 I Q p c p1 c1 b1 b2 b3 b4 p2 c2 cs H h1 h h3 hg ho hx=>yR hg ho<|yA<|yG [22] rfl<|zJ<|yD N ?_ ?_
 ·intro hc N;refine zU<|zZ<|yH ?_;obtain⟨x1,hy,N⟩:=zB N;obtain⟨x2,ay,N⟩:=zB N;obtain⟨l,aJ,N⟩:=zB N;refine wX [.p (vP b4 0) [],.p (vS p2 Coefs c2) [0],.p (vI x) [],.p (vP b1 0) [],.p (vS p a0.Coefs c) [3],.p (vI i) [],.x (λI' v hx=>∃ad,v=.pointer (some ad)/\hx=[]/\(At I' ad [vI x1])),.q (vI x1),.p (vI (W (x*x1))) [],.p (vI y) [],.p (vP b2 0) [],.p (vS p1 b.Coefs c1) [2],.p (vI i) [],.x (λI' v hx=>∃ad1,v=.pointer (some ad1)/\hx=[]/\(At I' ad1 [vI x2])),.q (vI x2),.p (vI (W (y*x2))) [],.p (vI (W ((W (x*x1))+(W (y*x2))))) [],.x (λI' v hx=>∃b5,v=vS (some ⟨b5,0,none⟩) ([(W ((W (x*x1))+(W (y*x2))))]:List Int) 1/\hx=[]/\(SL I' (vS (some ⟨b5,0,none⟩) ([(W ((W (x*x1))+(W (y*x2))))]:List Int) 1) ([(W ((W (x*x1))+(W (y*x2))))]:List Int))),.x (λI' v hx=>∃p4 c4 aO,v=vS p4 l c4/\hx=[hO Int (vS p4 l c4) aO]/\(RL I' aO l))] [[],[(0,false)],[],[],[(3,false)],[],[(4,false),(5,false)],[(6,false)],[(2,false),(7,false)],[],[],[(10,false)],[],[(11,false),(12,false)],[(13,false)],[(9,false),(14,false)],[(8,false),(15,false)],[(16,false)],[(1,false),(17,false),(21,true)]] [hB b4 [vS p2 Coefs c2,vI (W ((W (x*a0.Const))+(W (y*b.Const))))],hB b3 [z0,vI 0],hB b2 (cAff b p1 c1),hB b1 (cAff a0 p c)] [[hO Int (vS p2 Coefs c2) cs]] [(18,true)] (zX [1,2,3,4,0]) ?_ ?_
  ·refine Op<|Op<|Op<|Op<|Op<|Op<|Ox ?_<|Oq ?_<|Op<|Op<|Op<|Op<|Op<|Ox ?_<|Oq ?_<|Op<|Op<|Ox ?_<|Ox ?_<|On
   ·intro I1 hf af;refine yP [29,30] rfl ?_;have h:=h.mono af;refine xN rfl rfl h hy ?_;intro ad aL ap al;obtain rfl:=al;exact yK [] iR ⟨_,rfl,rfl,ap⟩
   ·rintro I1 hf af _ _ ⟨ad,rfl,rfl,ap⟩;exact yP [31] rfl<|xE 0 ap [vI x1] (vI x1) rfl<|yT iR
   ·intro I1 hf af;refine yP [36,37] rfl ?_;have h1:=h1.mono af;refine xN rfl rfl h1 ay ?_;intro ad1 bv ar az;obtain rfl:=az;exact yK [] iR ⟨_,rfl,rfl,ar⟩
   ·rintro I1 hf af _ _ ⟨ad1,rfl,rfl,ar⟩;exact yP [38] rfl<|xE 0 ar [vI x2] (vI x2) rfl<|yT iR
   ·intro I1 hf af;refine yP [41] rfl ?_;have H:=iS I1;refine nV (rI [(W ((W (x*x1))+(W (y*x2))))]) ?_;intro b5 I0 le h6;have H:=H.trans le;exact yK [] H ⟨_,rfl,rfl,h6⟩
   rintro I1 hf af _ _ ⟨rfl,rfl⟩ _ _ ⟨b5,rfl,rfl,h6⟩ _ _ rfl;refine yP [26,42] rfl ?_;have h3:=iM af h3;obtain⟨bM,k0,k01⟩:=h6;have h6:SL I1 (vS (some ⟨b5,0,none⟩) ([(W ((W (x*x1))+(W (y*x2))))]:List Int) 1) ([(W ((W (x*x1))+(W (y*x2))))]:List Int):=⟨_,k0,k01⟩;exact pC 3 1 0 rfl rfl rfl h3 (.inl k0) k01 aJ λp4 c4 aO h7=>uW (ah:=(hO Int (vS p4 l c4) aO::hB b4 [vS p2 Coefs c2,vI (W ((W (x*a0.Const))+(W (y*b.Const))))]::hB b3 [z0,vI 0]::hB b2 (cAff b p1 c1)::hB b1 (cAff a0 p c)::hf)) rfl<|yK [hO Int (vS p4 l c4) aO] iR ⟨_,_,_,rfl,rfl,h7⟩
  rintro aU af _ _ ⟨p4,c4,aO,rfl,rfl,h7⟩;refine yP [1,3,4,6,8,9,10,43] rfl ?_;have ⟨h1,h,H⟩:=m3 af h1 h H;exact yF 20 [] [44] rfl<|xP 1 [vS p4 l c4,vI (W ((W (x*a0.Const))+(W (y*b.Const))))] rfl<|yC rfl<|zP<|zJ<|zK<|yI [] [10] rfl<|yS<|nU<|ih (W (i+1)) l _ N H h1 h h7 hg ho hx
 intro hc N;exact wZ<|xV (zW [0,1,2] rfl (by decide))<|yN<|hx _ _ _ _ _ (zC N).symm H h3
def nL(a0:zA)(x:Int)(b:zA)(y:Int):Option (zA):=do
 let Coefs1<-sT a0 x b y 0 ([]:List Int)
 pure (zA.mk Coefs1 (W ((W (x*a0.Const))+(W (y*b.Const)))))
theorem zAX:∀a0 x b y r,nL a0 x b y=some r->∀{I:Imm}{p c p1 c1},(S4 I p a0.Coefs c)->(S4 I p1 b.Coefs c1)->RT 177 [vA (cAff a0 p c),vI x,vA (cAff b p1 c1),vI y] I [] (kW  r):=by
 intro a0 x b y r N I p c p1 c1 h h1;unfold nL at N;refine yJ func177 λB=>yE<|uH (cAff a0 p c) ?_;intro b1 hb;refine uH (cAff b p1 c1) ?_;intro b2 hb1;refine uB [z0,vI 0] ?_;intro b3 hb2;refine yC rfl<|xA<|qA 10 [2,1] [(20,vA [z0,vI (W ((W (x*a0.Const))+(W (y*b.Const))))])]<|uB [z0,vI 0] ?_;intro b4 hb3;refine xP 0 [z0,vI (W ((W (x*a0.Const))+(W (y*b.Const))))] rfl<|yC rfl<|zZ<|yG [10] rfl<|wC<|oA [(1,vI x),(3,vI y),(4,vP b1 0),(6,vP b2 0),(8,vP b3 0),(9,vP b4 0),(10,vI 0)]<|dW Int λh2=>?_;obtain⟨o0,aB,aH⟩:=zB N;refine zBj a0 x b y 0 ([]:List Int) o0 aB iR h1 h h2 (λ_ _ _ h=>h) (λ_ _ h=>h) ?_;intro aQ Coefs1 p3 c3 aC heq aE h4;subst o0;refine zR<|xA<|qA 1 [1] [(45,vA [vS p3 Coefs1 c3,vI (W ((W (x*a0.Const))+(W (y*b.Const))))])]<|xP 2 [vS p3 Coefs1 c3,vI (W ((W (x*a0.Const))+(W (y*b.Const))))] rfl<|yC rfl<|xF<|xB 0 rfl ?_;intro bz aK hl01;have h8:=SL.of_frozen hl01 aK h4;obtain rfl:=zC aH;exact xC ⟨_,_,(.cell 1 rfl rfl (by kernel_rfl) ResV.nil),zO,⟨_,rfl,rfl,⟨_,rfl,(yL ⟨_,rfl,h8⟩)⟩⟩⟩
def zEZ(b0:Nat)(r:zE×zL):KT:=λkk I' ah v=>
 ∃v0 k0,ah=[.blk b0 ⟨k0⟩]/\v=tupV [v0]/\(∃cs,v0=.agg ⟨cs⟩/\Rp.rep I' cs r.1)/\Rp.rep I' k0 r.2
def gV(r0:zL)(aa:Int):Option (zE×zL):=do
 let (y1,y2)<-yV r0 ([0,0,1,0,(-1)]:List Int)
 let y3<-wM y1
 let (y5,y6)<-yV y2 ([3,4,2,3,1]:List Int)
 let y7<-wM y5
 let (t23,x)<-(do
  if(decide (aa>0)) then
   let (y9,y10)<-yW y6 4
   pure ((y9==0),y10)
  else
   pure (false,y6)
    : Option (Bool×zL))
 let (x1,x2,x3)<-(do
  if t23 then
   let (y12,y13)<-yW x aa
   let (y15,y16)<-yW y13 2
   let (x4,x5)<-(do
    if(y15==0) then
     let y17<-nF y12
     pure (y17,(zA.mk y7.Coefs y7.Const))
    else
     let y18<-nF y12
     let y19<-wM 1
     let y20<-nL y18 1 y19 1
     pure ((zA.mk y3.Coefs y3.Const),y20)
      : Option (zA×zA))
   pure (x4,x5,y16)
  else
   pure ((zA.mk y3.Coefs y3.Const),(zA.mk y7.Coefs y7.Const),x)
    : Option (zA×zA×zL))
 let (y22,y23)<-yW x3 12
 let (Lo,Hi,x6)<-(do
  if(y22==0) then
   let (y25,y26)<-yV y23 ([3,2,4]:List Int)
   let y27<-wM y25
   let l<-app 32 ([x2]:List zA) ([y27]:List zA)
   pure (([x1]:List zA),l,y26)
  else
   let (Lo1,x7)<-(do
    if(y22==1) then
     let (y29,y30)<-yV y23 ([0,1]:List Int)
     let y31<-wM y29
     let l1<-app 32 ([x1]:List zA) ([y31]:List zA)
     pure (l1,y30)
    else
     pure (([x1]:List zA),y23)
      : Option (List zA×zL))
   pure (Lo1,([x2]:List zA),x7)
    : Option (List zA×List zA×zL))
 pure ((zE.mk Lo Hi),x6)
theorem zFv:∀r0 aa r,gV r0 aa=some r->∀{I:Imm}{aq:Nat}{p c},(S4 I p r0.b c)->RT 146 [vP aq 0,vI aa] I [hB aq (cRd r0 p c)] (zEZ aq r):=by
 intro r0 aa r N I aq p c h;unfold gV at N;refine yJ func146 λB=>?_;have H:=iS I;refine yE<|uB zTwo ?_;intro b hb;refine yC rfl<|xA<|yF 1 [] [9] rfl<|nV (rI [0,0,1,0,(-1)]) ?_;intro b1 I0 le h2;have ⟨h,H⟩:=m2 le h H;refine qE (zX [1,0] (ah:=[hB aq (cRd r0 p c),hB b zTwo])) ?_;obtain⟨⟨y1,y2⟩,hy,N⟩:=zB N;refine rC (xJ r0 ([0,0,1,0,(-1)]:List Int) _ hy h h2) rfl ?_;rintro aU ax v2 k2 af - ⟨v0,kk,rfl,rfl,rfl,h4⟩ -;have H:=H.trans af;obtain⟨p1,c1,rfl,h5⟩:=yB h4;obtain⟨y3,ay,N⟩:=zB N;refine xO (uF y1 _ ay ) ?_;rintro aQ ax v2 k2 aE - ⟨p2,c2,cs,rfl,rfl,h6⟩ -;have ⟨h5,H⟩:=m2 aE h5 H;refine uB [z0,vI 0] ?_;intro b2 hb2;refine xP 0 (cAff y3 p2 c2) rfl<|yC rfl<|xA<|yF 1 [] [13] rfl<|nV (rI [3,4,2,3,1]) ?_;intro b3 bz aK h8;have ⟨h6,h5,H⟩:=m3 aK h6 h5 H;refine qE (zX [2,0,1,3] (ah:=[hB aq (cRd y2 p1 c1),hB b2 (cAff y3 p2 c2),hO Int (vS p2 y3.Coefs c2) cs,hB b zTwo])) ?_;obtain⟨⟨y5,y6⟩,aJ,N⟩:=zB N;refine rC (xJ y2 ([3,4,2,3,1]:List Int) _ aJ h5 h8) rfl ?_;rintro bK ax v2 k2 bi - ⟨v02,kk1,rfl,rfl,rfl,h10⟩ -;have ⟨h6,H⟩:=m2 bi h6 H;obtain⟨p3,c3,rfl,h11⟩:=yB h10;obtain⟨y7,bb,N⟩:=zB N;refine xO (uF y5 _ bb ) ?_;rintro bO ax v2 k2 bw - ⟨p4,c4,aC,rfl,rfl,h12⟩ -;have ⟨h11,h6,H⟩:=m3 bw h11 h6 H;refine uB [z0,vI 0] ?_;intro b4 hb4;refine xP 0 (cAff y7 p4 c4) rfl<|yC rfl<|zZ<|yA ?_;obtain⟨o0,aB,aN⟩:=zB N;refine pZ (λI' ah m'=>∃(t23:Bool) (x:zL) (p5:Option Addr) (c5:Nat),o0=(t23,x)/\bO.le I'/\(S4 I' p5 x.b c5)/\ah=[hB b4 (cAff y7 p4 c4),hO Int (vS p4 y7.Coefs c4) aC,hB aq (cRd x p5 c5),hB b2 (cAff y3 p2 c2),hO Int (vS p2 y3.Coefs c2) cs,hB b zTwo]/\m'=[(0,vP aq 0),(1,vI aa),(4,vP b 0),(5,vP b2 0),(6,vP b4 0),(23,.bool t23)]) ?_ ?_
 ·have H:=iS bO;refine zK<|yF 3 [] [19] rfl<|xW [19] aB ?_ ?_
  ·intro hc N;refine yF 4 [] [20] rfl<|qE (zX [2,0,1,3,4,5] (ah:=[hB aq (cRd y6 p3 c3),hB b4 (cAff y7 p4 c4),hO Int (vS p4 y7.Coefs c4) aC,hB b2 (cAff y3 p2 c2),hO Int (vS p2 y3.Coefs c2) cs,hB b zTwo])) ?_;obtain⟨⟨y9,y10⟩,bt,N⟩:=zB N;refine rC (xR y6 4 _ bt h11) rfl ?_;rintro I07 ax v2 k2 bD - ⟨v04,kk2,rfl,rfl,rfl,h15⟩ -;have H:=H.trans bD;obtain⟨p6,c6,rfl,h16⟩:=yB h15;exact yI [] [23] rfl<|xV (zW [1,2,0,3,4,5] rfl (by decide))<|yN<|zT ⟨_,_,_,_,(zC N).symm,H,h16,rfl,rfl⟩
  intro hc N;exact wG [] [(23,vF)]<|yN<|zT ⟨_,_,_,_,(zC N).symm,H,h11,rfl,rfl⟩
 rintro I06 ax m2 ⟨t23,x,p5,c5,heq,le7,h13,rfl,rfl⟩;subst o0;have ⟨h12,h6,H⟩:=m3 le7 h12 h6 H;refine zJ<|nO 4 rfl ?_;intro I08 le8 hl02;have h17:=SL.of_frozen hl02 le8 h6;have ⟨h12,h13,H⟩:=m3 le8 h12 h13 H;refine nO 1 rfl ?_;intro I09 le9 hl03;have h18:=SL.of_frozen hl03 le9 h12;have ⟨h13,h17,H⟩:=m3 le9 h13 h17 H;obtain⟨aM,aA,hMc1⟩:=zB aN;refine pZ (λI' ah m'=>∃(x1:zA) (x2:zA) (x3:zL) (p7:Option Addr) (c7:Nat) (p8:Option Addr) (c8:Nat) (p9:Option Addr) (c9:Nat),aM=(x1,x2,x3)/\I09.le I'/\(S4 I' p7 x1.Coefs c7)/\(S4 I' p8 x2.Coefs c8)/\(S4 I' p9 x3.b c9)/\ah=[hB b4 (cAff x2 p8 c8),hB aq (cRd x3 p9 c9),hB b2 (cAff x1 p7 c7),hB b zTwo]/\m'=[(0,vP aq 0),(4,vP b 0),(5,vP b2 0),(6,vP b4 0)]) ?_ ?_
 ·have H:=iS I09;refine yD aA ?_ ?_
  ·intro aF N;refine yE<|yF 2 [] [24,25] rfl<|qE (zX [1,0,2,3] (ah:=[hB aq (cRd x p5 c5),hB b4 (cAff y7 p4 c4),hB b2 (cAff y3 p2 c2),hB b zTwo])) ?_;obtain⟨⟨y12,y13⟩,bH,N⟩:=zB N;refine rC (xR x aa _ bH h13) rfl ?_;rintro bV ax v2 k2 le10 - ⟨v06,kk3,rfl,rfl,rfl,h23⟩ -;have ⟨h18,h17,H⟩:=m3 le10 h18 h17 H;obtain⟨aZ,bh,rfl,h24⟩:=yB h23;refine yI [] [7] rfl<|xA<|yF 1 [] [27] rfl ?_;obtain⟨⟨y15,y16⟩,hy6,N⟩:=zB N;refine rC (xR y13 2 _ hy6 h24) rfl ?_;rintro bU ax v2 k2 le11 - ⟨v08,kk4,rfl,rfl,rfl,h26⟩ -;have ⟨h18,h17,H⟩:=m3 le11 h18 h17 H;obtain⟨aV,bj,rfl,h27⟩:=yB h26;refine yI [] [29] rfl<|zJ ?_;obtain⟨o02,ho02,hMc2⟩:=zB N;refine pZ (λI' ah m'=>∃(x4:zA) (x5:zA) (bB:Option Addr) (bo:Nat) (bm:Option Addr) (bu:Nat),o02=(x4,x5)/\bU.le I'/\(S4 I' bB x4.Coefs bo)/\(S4 I' bm x5.Coefs bu)/\ah=[hB aq (cRd y16 aV bj),hB b4 (cAff x5 bm bu),hB b2 (cAff x4 bB bo),hB b zTwo]/\m'=[(0,vP aq 0),(4,vP b 0),(5,vP b2 0),(6,vP b4 0)]) ?_ ?_
   ·have H:=iS bU;refine yD ho02 ?_ ?_
    ·intro bd N;refine zK<|yF 1 [] [30] rfl<|bE N λy17 hy7 N=>xO (gU y12 _ hy7 ) ?_;rintro I014 ax v2 k2 le12 - ⟨v010,rfl,rfl,⟨aO,rfl,h30⟩⟩ -;have ⟨h18,H⟩:=m2 le12 h18 H;obtain⟨p14,c14,rfl,h31⟩:=yO h30;exact xP 2 (cAff y17 p14 c14) rfl<|yC rfl<|yN<|zT ⟨_,_,_,_,_,_,(zC N).symm,H,h31,h18,rfl,rfl⟩
    intro bd N;refine zK<|yF 1 [] [32] rfl<|bE N λy18 hy8 N=>xO (gU y12 _ hy8 ) ?_;rintro I015 ax v2 k2 le13 - ⟨v012,rfl,rfl,⟨aT,rfl,h32⟩⟩ -;have ⟨h17,H⟩:=m2 le13 h17 H;obtain⟨p15,c15,rfl,h33⟩:=yO h32;obtain⟨y19,hy9,N⟩:=zB N;refine xO (uF 1 _ hy9 ) ?_;rintro I016 ax v2 k2 le14 - ⟨p16,c16,br,rfl,rfl,h34⟩ -;have ⟨h33,h17,H⟩:=m3 le14 h33 h17 H;refine xM 0 rfl ?_;intro I017 le15 hl04;have h35:=SL.of_frozen hl04 le15 h34;have ⟨h33,h17,H⟩:=m3 le15 h33 h17 H;obtain⟨y20,hy10,N⟩:=zB N;refine xO (zAX y18 1 y19 1 _ hy10 h33 h35) ?_;rintro I018 ax v2 k2 le16 - ⟨v014,rfl,rfl,⟨bC,rfl,h36⟩⟩ -;have ⟨h17,H⟩:=m2 le16 h17 H;obtain⟨p17,c17,rfl,h37⟩:=yO h36;exact xP 1 (cAff y20 p17 c17) rfl<|yC rfl<|yN<|zT ⟨_,_,_,_,_,_,(zC N).symm,H,h17,h37,rfl,rfl⟩
   rintro I013 ax m2 ⟨x4,x5,bB,bo,bm,bu,heq1,le17,h28,h29,rfl,rfl⟩;subst o02;have ⟨h27,H⟩:=m2 le17 h27 H;exact xV (zW [1,0,2,3] rfl (by decide))<|yN<|zT ⟨_,_,_,_,_,_,_,_,_,(zC hMc2).symm,H,h28,h29,h27,rfl,rfl⟩
  intro aF N;exact zU<|yN<|zT ⟨_,_,_,_,_,_,_,_,_,(zC N).symm,H,h17,h18,h13,rfl,rfl⟩
 rintro bR ax m2 ⟨x1,x2,x3,p7,c7,p8,c8,p9,c9,heq2,le18,h19,h20,h21,rfl,rfl⟩;subst aM;have H:=H.trans le18;refine xA<|qA 1 [2] [(36,vA (cAff x1 p7 c7))]<|tU (cAff x1 p7 c7) zA ?_;intro b5 hb5;have h38:RL bR (cAff x1 p7 c7) ([x1]:List zA):=⟨(cAff x1 p7 c7),_,rfl,rfl,(yL ⟨_,rfl,h19⟩),rfl⟩;refine qA 3 [1] [(38,vA (cAff x2 p8 c8))]<|tU (cAff x2 p8 c8) zA ?_;intro b6 hb6;have h39:RL bR (cAff x2 p8 c8) ([x2]:List zA):=⟨(cAff x2 p8 c8),_,rfl,rfl,(yL ⟨_,rfl,h20⟩),rfl⟩;refine yF 5 [] [40] rfl<|uB zTwo ?_;intro b7 hb7;refine xP 0 [vS (some ⟨b5,0,none⟩) ([x1]:List zA) 1,vS (some ⟨b6,0,none⟩) ([x2]:List zA) 1] rfl<|yC rfl<|zZ<|yE<|yF 1 [] [41] rfl<|qE (zX [4,0,1,2,3,5,6] (ah:=[hB aq (cRd x3 p9 c9),hB b7 [vS (some ⟨b5,0,none⟩) ([x1]:List zA) 1,vS (some ⟨b6,0,none⟩) ([x2]:List zA) 1],hO zA (vS (some ⟨b6,0,none⟩) ([x2]:List zA) 1) (cAff x2 p8 c8),hO zA (vS (some ⟨b5,0,none⟩) ([x1]:List zA) 1) (cAff x1 p7 c7),hB b4 (cAff x2 p8 c8),hB b2 (cAff x1 p7 c7),hB b zTwo])) ?_;obtain⟨⟨y22,y23⟩,hy11,N⟩:=zB hMc1;refine rC (xR x3 12 _ hy11 h21) rfl ?_;rintro I019 ax v2 k2 le19 - ⟨v016,kk5,rfl,rfl,rfl,h41⟩ -;have ⟨h38,h39,H⟩:=m3 le19 h38 h39 H;obtain⟨p18,c18,rfl,h42⟩:=yB h41;refine yC rfl<|wC<|yG [43] rfl<|zJ<|nO 4 rfl ?_;intro I020 le20 hl05;have ap:At I020 ⟨b4,0,none⟩ (cAff x2 p8 c8):=At.of_blk hl05;have ⟨h42,h38,h39,H⟩:=m4 le20 h42 h38 h39 H;refine nO 4 rfl ?_;intro I021 le21 hl06;have ar:At I021 ⟨b2,0,none⟩ (cAff x1 p7 c7):=At.of_blk hl06;have ⟨h42,h38,h39,H⟩:=m4 le21 h42 h38 h39 H;obtain⟨o03,ho03,hMc3⟩:=zB N;refine pZ (λI' ah m'=>∃(Lo:List zA) (Hi:List zA) (x6:zL) (p19:Option Addr) (c19:Nat) (cs6:List Value) (p20:Option Addr) (c20:Nat) (cs7:List Value) (p21:Option Addr) (c21:Nat),o03=(Lo,Hi,x6)/\I021.le I'/\(RL I' cs6 Lo)/\(RL I' cs7 Hi)/\(S4 I' p21 x6.b c21)/\ah=[hB aq (cRd x6 p21 c21),hB b7 [vS p19 Lo c19,vS p20 Hi c20],hO zA (vS p20 Hi c20) cs7,hO zA (vS p19 Lo c19) cs6,hB b zTwo]/\m'=[(4,vP b 0),(8,vP b7 0)]) ?_ ?_
 ·have H:=iS I021;refine yD ho03 ?_ ?_
  ·intro bI N;obtain⟨⟨y25,y26⟩,hy12,N⟩:=zB N;obtain⟨y27,hy13,N⟩:=zB N;obtain⟨l,hy14,N⟩:=zB N;refine wX [.p (vP b7 1) [],.p (vS (some ⟨b6,0,none⟩) ([x2]:List zA) 1) [0],.p (vP aq 0) [],.x (λI' v hx=>∃b8,v=vS (some ⟨b8,0,none⟩) ([3,2,4]:List Int) 3/\hx=[]/\(SL I' (vS (some ⟨b8,0,none⟩) ([3,2,4]:List Int) 3) ([3,2,4]:List Int))),.x (λI' v hx=>∃p22 c22,v=vI y25/\hx=[hB aq (cRd y26 p22 c22)]/\(S4 I' p22 y26.b c22)),.x (λI' v hx=>∃p23 c23 cs8,v=vA (cAff y27 p23 c23)/\hx=[hO Int (vS p23 y27.Coefs c23) cs8]/\(RL I' cs8 y27.Coefs)),.x (λI' v hx=>∃b9,v=vS (some ⟨b9,0,none⟩) ([y27]:List zA) 1/\hx=[]/\(SL I' (vS (some ⟨b9,0,none⟩) ([y27]:List zA) 1) ([y27]:List zA))),.x (λI' v hx=>∃p24 c24 cs9,v=vS p24 l c24/\hx=[hO zA (vS p24 l c24) cs9]/\(RL I' cs9 l))] [[],[(0,false)],[],[],[(2,false),(3,false),(10,true)],[(4,false)],[(5,true)],[(1,false),(6,false),(11,true)]] [hB b7 [vS (some ⟨b5,0,none⟩) ([x1]:List zA) 1,vS (some ⟨b6,0,none⟩) ([x2]:List zA) 1],hO zA (vS (some ⟨b5,0,none⟩) ([x1]:List zA) 1) (cAff x1 p7 c7),hB b zTwo] [[hB aq (cRd y23 p18 c18)],[hO zA (vS (some ⟨b6,0,none⟩) ([x2]:List zA) 1) (cAff x2 p8 c8)]] [(4,true),(7,true)] (zX [1,3,4,0,2]) ?_ ?_
   ·refine Op<|Op<|Op<|Ox ?_<|Ox ?_<|Ox ?_<|Ox ?_<|Ox ?_<|On
    ·intro I1 hf af;refine dE [] ?_;have H:=iS I1;refine nV (rI [3,2,4]) ?_;intro b8 I023 le22 h47;have H:=H.trans le22;exact yK [] H ⟨_,rfl,rfl,h47⟩
    ·rintro I1 hf af _ _ ⟨rfl,rfl⟩ _ _ ⟨b8,rfl,rfl,h47⟩ _ _ rfl;refine yP [47,48] rfl ?_;have H:=iS I1;have h42:=h42.mono af;refine rC (xJ y23 ([3,2,4]:List Int) _ hy12 h42 h47) rfl ?_;rintro I024 ax v2 k2 le23 - ⟨v018,kk6,rfl,rfl,rfl,h49⟩ -;have H:=H.trans le23;obtain⟨p22,c22,rfl,h50⟩:=yB h49;exact yK [hB aq (cRd y26 p22 c22)] H ⟨_,_,rfl,rfl,h50⟩
    ·rintro I1 hf af _ _ ⟨p22,c22,rfl,rfl,h50⟩;refine yP [49] rfl ?_;have H:=iS I1;refine xO (uF y25 _ hy13 ) ?_;rintro I025 ax v2 k2 le24 - ⟨p23,c23,cs8,rfl,rfl,h51⟩ -;have H:=H.trans le24;exact yK [hO Int (vS p23 y27.Coefs c23) cs8] H ⟨_,_,_,rfl,rfl,h51⟩
    ·rintro I1 hf af _ _ ⟨p23,c23,cs8,rfl,rfl,h51⟩;refine yP [50] rfl ?_;have H:=iS I1;refine xM 0 rfl ?_;intro I026 le25 hl08;have h52:=SL.of_frozen hl08 le25 h51;have H:=H.trans le25;refine nV (rc y27 (yL ⟨_,rfl,h52⟩) rN) ?_;intro b9 I027 le26 h54;have H:=H.trans le26;exact yK [] H ⟨_,rfl,rfl,h54⟩
    rintro I1 hf af _ _ ⟨rfl,rfl⟩ _ _ ⟨b9,rfl,rfl,h54⟩ _ _ rfl;refine yP [46,51] rfl ?_;have h39:=iM af h39;obtain⟨aL,k0,k01⟩:=h54;have h54:SL I1 (vS (some ⟨b9,0,none⟩) ([y27]:List zA) 1) ([y27]:List zA):=⟨_,k0,k01⟩;exact pC 78 2 0 rfl rfl rfl h39 (.inl k0) k01 hy14 λp24 c24 cs9 h55=>uW (ah:=(hO zA (vS p24 l c24) cs9::hB b7 [vS (some ⟨b5,0,none⟩) ([x1]:List zA) 1,vS (some ⟨b6,0,none⟩) ([x2]:List zA) 1]::hO zA (vS (some ⟨b5,0,none⟩) ([x1]:List zA) 1) (cAff x1 p7 c7)::hB b zTwo::hf)) rfl<|yK [hO zA (vS p24 l c24) cs9] iR ⟨_,_,_,rfl,rfl,h55⟩
   rintro I028 le27 _ _ ⟨p22,c22,rfl,rfl,h50⟩ _ _ ⟨p24,c24,cs9,rfl,rfl,h55⟩;refine yP [4,8,52] rfl ?_;have ⟨h38,H⟩:=m2 le27 h38 H;exact yF 9 [] [53] rfl<|xP 2 [vS (some ⟨b5,0,none⟩) ([x1]:List zA) 1,vS p24 l c24] rfl<|yC rfl<|xV (zW [1,2,0,3,4] rfl (by decide))<|yN<|zT ⟨_,_,_,_,_,_,_,_,_,_,_,(zC N).symm,H,h38,h55,h50,rfl,rfl⟩
  intro bI N;refine yG [54] rfl<|zJ ?_;obtain⟨o04,ho04,hMc4⟩:=zB N;refine pZ (λI' ah m'=>∃(Lo1:List zA) (x7:zL) (p25:Option Addr) (c25:Nat) (cs10:List Value) (p26:Option Addr) (c26:Nat),o04=(Lo1,x7)/\I021.le I'/\(RL I' cs10 Lo1)/\(S4 I' p26 x7.b c26)/\ah=[hB aq (cRd x7 p26 c26),hB b7 [vS p25 Lo1 c25,vS (some ⟨b6,0,none⟩) ([x2]:List zA) 1],hO zA (vS (some ⟨b6,0,none⟩) ([x2]:List zA) 1) (cAff x2 p8 c8),hO zA (vS p25 Lo1 c25) cs10,hB b zTwo]/\m'=[(4,vP b 0),(8,vP b7 0)]) ?_ ?_
  ·have H:=iS I021;refine yD ho04 ?_ ?_
   ·intro bN N;obtain⟨⟨y29,y30⟩,hy15,N⟩:=zB N;obtain⟨y31,hy16,N⟩:=zB N;obtain⟨l1,hy17,N⟩:=zB N;refine wX [.p (vP b7 0) [],.p (vS (some ⟨b5,0,none⟩) ([x1]:List zA) 1) [0],.p (vP aq 0) [],.x (λI' v hx=>∃b10,v=vS (some ⟨b10,0,none⟩) ([0,1]:List Int) 2/\hx=[]/\(SL I' (vS (some ⟨b10,0,none⟩) ([0,1]:List Int) 2) ([0,1]:List Int))),.x (λI' v hx=>∃p27 c27,v=vI y29/\hx=[hB aq (cRd y30 p27 c27)]/\(S4 I' p27 y30.b c27)),.x (λI' v hx=>∃p28 c28 cs11,v=vA (cAff y31 p28 c28)/\hx=[hO Int (vS p28 y31.Coefs c28) cs11]/\(RL I' cs11 y31.Coefs)),.x (λI' v hx=>∃b11,v=vS (some ⟨b11,0,none⟩) ([y31]:List zA) 1/\hx=[]/\(SL I' (vS (some ⟨b11,0,none⟩) ([y31]:List zA) 1) ([y31]:List zA))),.x (λI' v hx=>∃p29 c29 cs12,v=vS p29 l1 c29/\hx=[hO zA (vS p29 l1 c29) cs12]/\(RL I' cs12 l1))] [[],[(0,false)],[],[],[(2,false),(3,false),(10,true)],[(4,false)],[(5,true)],[(1,false),(6,false),(11,true)]] [hB b7 [vS (some ⟨b5,0,none⟩) ([x1]:List zA) 1,vS (some ⟨b6,0,none⟩) ([x2]:List zA) 1],hO zA (vS (some ⟨b6,0,none⟩) ([x2]:List zA) 1) (cAff x2 p8 c8),hB b zTwo] [[hB aq (cRd y23 p18 c18)],[hO zA (vS (some ⟨b5,0,none⟩) ([x1]:List zA) 1) (cAff x1 p7 c7)]] [(4,true),(7,true)] (zX [1,2,4,0,3]) ?_ ?_
    ·refine Op<|Op<|Op<|Ox ?_<|Ox ?_<|Ox ?_<|Ox ?_<|Ox ?_<|On
     ·intro I1 hf af;refine dE [] ?_;have H:=iS I1;refine nV (rI [0,1]) ?_;intro b10 I030 le28 h59;have H:=H.trans le28;exact yK [] H ⟨_,rfl,rfl,h59⟩
     ·rintro I1 hf af _ _ ⟨rfl,rfl⟩ _ _ ⟨b10,rfl,rfl,h59⟩ _ _ rfl;refine yP [58,59] rfl ?_;have H:=iS I1;have h42:=h42.mono af;refine rC (xJ y23 ([0,1]:List Int) _ hy15 h42 h59) rfl ?_;rintro I031 ax v2 k2 le29 - ⟨v020,kk7,rfl,rfl,rfl,h61⟩ -;have H:=H.trans le29;obtain⟨p27,c27,rfl,h62⟩:=yB h61;exact yK [hB aq (cRd y30 p27 c27)] H ⟨_,_,rfl,rfl,h62⟩
     ·rintro I1 hf af _ _ ⟨p27,c27,rfl,rfl,h62⟩;refine yP [60] rfl ?_;have H:=iS I1;refine xO (uF y29 _ hy16 ) ?_;rintro I032 ax v2 k2 le30 - ⟨p28,c28,cs11,rfl,rfl,h63⟩ -;have H:=H.trans le30;exact yK [hO Int (vS p28 y31.Coefs c28) cs11] H ⟨_,_,_,rfl,rfl,h63⟩
     ·rintro I1 hf af _ _ ⟨p28,c28,cs11,rfl,rfl,h63⟩;refine yP [61] rfl ?_;have H:=iS I1;refine xM 0 rfl ?_;intro I033 le31 hl011;have h64:=SL.of_frozen hl011 le31 h63;have H:=H.trans le31;refine nV (rc y31 (yL ⟨_,rfl,h64⟩) rN) ?_;intro b11 I034 le32 h66;have H:=H.trans le32;exact yK [] H ⟨_,rfl,rfl,h66⟩
     rintro I1 hf af _ _ ⟨rfl,rfl⟩ _ _ ⟨b11,rfl,rfl,h66⟩ _ _ rfl;refine yP [57,62] rfl ?_;have h38:=iM af h38;obtain⟨bv,k02,k03⟩:=h66;have h66:SL I1 (vS (some ⟨b11,0,none⟩) ([y31]:List zA) 1) ([y31]:List zA):=⟨_,k02,k03⟩;exact pC 78 2 0 rfl rfl rfl h38 (.inl k02) k03 hy17 λp29 c29 cs12 h67=>uW (ah:=(hO zA (vS p29 l1 c29) cs12::hB b7 [vS (some ⟨b5,0,none⟩) ([x1]:List zA) 1,vS (some ⟨b6,0,none⟩) ([x2]:List zA) 1]::hO zA (vS (some ⟨b6,0,none⟩) ([x2]:List zA) 1) (cAff x2 p8 c8)::hB b zTwo::hf)) rfl<|yK [hO zA (vS p29 l1 c29) cs12] iR ⟨_,_,_,rfl,rfl,h67⟩
    rintro I035 le33 _ _ ⟨p27,c27,rfl,rfl,h62⟩ _ _ ⟨p29,c29,cs12,rfl,rfl,h67⟩;refine yP [4,8,63] rfl ?_;have H:=H.trans le33;exact yF 9 [] [64] rfl<|xP 2 [vS p29 l1 c29,vS (some ⟨b6,0,none⟩) ([x2]:List zA) 1] rfl<|yC rfl<|xV (zW [1,2,3,0,4] rfl (by decide))<|yN<|zT ⟨_,_,_,_,_,_,_,(zC N).symm,H,h67,h62,rfl,rfl⟩
   intro bN N;exact zU<|yN<|zT ⟨_,_,_,_,_,_,_,(zC N).symm,H,h38,h42,rfl,rfl⟩
  rintro I029 ax m2 ⟨Lo1,x7,p25,c25,cs10,p26,c26,heq3,le34,h56,h57,rfl,rfl⟩;subst o04;have ⟨h39,H⟩:=m2 le34 h39 H;exact yN<|zT ⟨_,_,_,_,_,_,_,_,_,_,_,(zC hMc4).symm,H,h56,h39,h57,rfl,rfl⟩
 rintro I022 ax m2 ⟨Lo,Hi,x6,p19,c19,cs6,p20,c20,cs7,p21,c21,heq4,le35,h43,h44,h45,rfl,rfl⟩;subst o03;refine zP<|xA<|qA 1 [1] [(65,vA [vS p19 Lo c19,vS p20 Hi c20])]<|xP 4 [vS p19 Lo c19,vS p20 Hi c20] rfl<|yC rfl<|xF<|xB 3 rfl ?_;intro I036 le36 hl013;have h68:=SL.of_frozen hl013 le36 h43;have ⟨h45,h44⟩:=m2 le36 h45 h44;refine xB 2 rfl ?_;intro I037 le37 hl014;have h69:=SL.of_frozen hl014 le37 h44;have ⟨h45,h68⟩:=m2 le37 h45 h68;obtain rfl:=zC hMc3;exact xC ⟨_,_,(.cell 2 rfl rfl (by kernel_rfl) ResV.nil),(zW [0] rfl (by decide)),⟨_,_,rfl,rfl,⟨_,rfl,(nQ ⟨_,_,rfl,h68,h69⟩)⟩,(yU ⟨_,rfl,h45⟩)⟩⟩
def zE0(b0:Nat)(r:(List zE)×zL):KT:=λkk I' ah v=>
 ∃v0 k0,ah=[.blk b0 ⟨k0⟩]/\v=tupV [v0]/\SL I' v0 r.1/\Rp.rep I' k0 r.2
def pG(out:List zE)(i:Int)(x:zL):Option ((List zE×zL)):=do
 if(decide (i>0)) then
  let (y4,y5)<-gV x (out.length:Int)
  let am<-app 48 out ([y4]:List zE)
  pG am (W (i - 1)) y5
 else
  pure (out,x)
 partial_fixpoint
theorem zD7 :∀(out:List zE) (i:Int) (x:zL) (o:(List zE×zL)),pG out i x=some o->∀{B}{I0 I:Imm}{Q}  {aq:Nat}{p2 c2 cs p3 c3},I0.le I->(RL I cs out)->(S4 I p3 x.b c3)->NG Q->NO Q->(∀(I':Imm) (aj:List zE) (x1:zL) (p4:Option Addr) (c4:Nat) (aC:List Value) (p5:Option Addr) (c5:Nat),o=(aj,x1)->I0.le I'->(RL I' aC aj)->(S4 I' p5 x1.b c5)->T 21 B Q (.exit 0) I' [hB aq (cRd x1 p5 c5),hO zE (vS p4 aj c4) aC] [(3,vS p4 aj c4)])->J Tryz.prog 21 B (nav (bodyOf f112) [1,1,0,1,0]) Q I [hB aq (cRd x p3 c3),hO zE (vS p2 out c2) cs] [(0,vP aq 0),(3,vS p2 out c2),(4,vI i)]:=by
 refine pG.partial_correctness  _ λaI ih out i x o N B I0 I Q aq p2 c2 cs p3 c3 H h7 h8 hg ho hx=>yR hg ho<|yA<|yG [10] rfl<|zJ<|yD N ?_ ?_
 ·intro hc N;refine zU<|zZ<|yH<|zK<|yF 4 [] [13,14,16] rfl ?_;obtain⟨⟨y4,y5⟩,ay,N⟩:=zB N;refine rC (zFv x (out.length:Int) _ ay h8) rfl ?_;rintro aQ ax v2 k2 aE - ⟨v02,kk1,rfl,rfl,⟨aO,rfl,h11⟩,h12⟩ -;have ⟨h7,H⟩:=m2 aE h7 H;obtain⟨p6,c6,p7,c7,rfl,h13,h14⟩:=rG h11;obtain⟨p8,c8,rfl,h15⟩:=yB h12;refine tU (cLoop y4 p6 c6 p7 c7) zE ?_;intro b2 hb2;have h16:RL aQ (cLoop y4 p6 c6 p7 c7) ([y4]:List zE):=⟨(cLoop y4 p6 c6 p7 c7),_,rfl,rfl,(nQ ⟨_,_,rfl,h13,h14⟩),rfl⟩;obtain⟨am,aJ,N⟩:=zB N;exact pC 150 2 2 rfl rfl rfl h7 (.inr ⟨0,rfl⟩) h16 aJ λp9 c9 aT h17=>qE (zX [1,2] (ah:=[hB aq (cRd y5 p8 c8),hO zE (vS p9 am c9) aT]))<|yI [] [3] rfl<|zP<|zJ<|zK<|yI [] [4] rfl<|yS<|nU<|ih am (W (i - 1)) y5 _ N H h17 h15 hg ho hx
 intro hc N;exact wZ<|yN<|hx _ _ _ _ _ _ _ _ (zC N).symm H h7 h8
def gW(r0:zL):Option ((List zE)×zL):=do
 let (y1,y2)<-yV r0 ([2,1,2,3]:List Int)
 let (aj,x1)<-pG ([]:List zE) y1 y2
 pure (aj,x1)
theorem zFw:∀r0 r,gW r0=some r->∀{I:Imm}{aq:Nat}{p c},(S4 I p r0.b c)->RT 112 [vP aq 0] I [hB aq (cRd r0 p c)] (zE0 aq r):=by
 intro r0 r N I aq p c h;unfold gW at N;refine yJ func112 λB=>vK []<|xA<|tU [] zE ?_;intro b hb;have h1:RL I [] ([]:List zE):=rfl;refine yI [] [3] rfl<|zZ<|yE<|yF 1 [] [6] rfl<|nV (rI [2,1,2,3]) ?_;intro b1 I0 le h3;have ⟨h1,h⟩:=m2 le h1 h;refine qE (zX [1,0] (ah:=[hB aq (cRd r0 p c),hO zE (vS (some ⟨b,0,none⟩) ([]:List zE) 0) []])) ?_;obtain⟨⟨y1,y2⟩,hy,N⟩:=zB N;refine rC (xJ r0 ([2,1,2,3]:List Int) _ hy h h3) rfl ?_;rintro aU ax v2 k2 af - ⟨v0,kk,rfl,rfl,rfl,h5⟩ -;have h1:=iM af h1;obtain⟨p1,c1,rfl,h6⟩:=yB h5;refine yI [] [4] rfl<|wC<|oA [(0,vP aq 0),(3,vS (some ⟨b,0,none⟩) ([]:List zE) 0),(4,vI y1)] ?_;obtain⟨o0,aB,aH⟩:=zB N;refine zD7 ([]:List zE) y1 y2 o0 aB iR h1 h6 (λ_ _ _ h=>h) (λ_ _ h=>h) ?_;intro bz aj x1 p4 c4 aC p5 c5 heq aK h9 h10;subst o0;refine zR<|wW [2] rfl<|xF<|xB 1 rfl ?_;intro bK bi hl01;have h18:=SL.of_frozen hl01 bi h9;have h10:=h10.mono bi;obtain rfl:=zC aH;exact xC ⟨_,_,(.tmp rfl ResV.nil),(zW [0] rfl (by decide)),⟨_,_,rfl,rfl,h18,(yU ⟨_,rfl,h10⟩)⟩⟩
def zE1(b0:Nat)(r:zI×zL):KT:=λkk I' ah v=>
 ∃v0 k0,ah=[.blk b0 ⟨k0⟩]/\v=tupV [v0]/\(∃cs,v0=.agg ⟨cs⟩/\Rp.rep I' cs r.1)/\Rp.rep I' k0 r.2
def pH(aa:Int)(n0:Int)(i:Int)(Subs:List zA)(x:zL):Option ((List zA×zL)):=do
 if(decide (i<n0)) then
  let (y4,y5)<-yV x ([0,1,0,2]:List Int)
  let y6<-wM y4
  let (t32,x2)<-(do
   if(decide (aa>0)) then
    let (y8,y9)<-yW y5 5
    pure ((decide (y8>0)),y9)
   else
    pure (false,y5)
     : Option (Bool×zL))
  let (x3,x4)<-(do
   if t32 then
    let (y11,y12)<-yW x2 aa
    let y13<-nF y11
    let (y15,y16)<-yV y12 ([1,1,1,2,(-1)]:List Int)
    let (y18,y19)<-yV y16 ([0,1,0,0,2]:List Int)
    let y20<-wM y18
    let y21<-nL y13 y15 y20 1
    pure (y21,y19)
   else
    pure ((zA.mk y6.Coefs y6.Const),x2)
     : Option (zA×zL))
  let l<-app 32 Subs ([x3]:List zA)
  pH aa n0 (W (i+1)) l x4
 else
  pure (Subs,x)
 partial_fixpoint
theorem zD8(aa:Int)(n0:Int):∀(i:Int) (Subs:List zA) (x:zL) (o:(List zA×zL)),pH aa n0 i Subs x=some o->∀{B}{I0 I:Imm}{Q}{y1:Str}{aq:Nat}{b:Nat}{b2:Nat}{p2 c2 cs p3 c3},I0.le I->(RL I cs Subs)->(S4 I p3 x.b c3)->NG Q->NO Q->(∀(I':Imm) (Subs1:List zA) (x1:zL) (p4:Option Addr) (c4:Nat) (aC:List Value) (p5:Option Addr) (c5:Nat),o=(Subs1,x1)->I0.le I'->(RL I' aC Subs1)->(S4 I' p5 x1.b c5)->T 53 B Q (.exit 0) I' [hO zA (vS p4 Subs1 c4) aC,hB b2 [vT y1.l,vS p4 Subs1 c4],hB aq (cRd x1 p5 c5),hB b [vT ([]),z0]] [(4,vP b 0),(5,vP b2 0)])->J Tryz.prog 53 B (nav (bodyOf f147) [1,1,1,1,0,1,0]) Q I [hO zA (vS p2 Subs c2) cs,hB b2 [vT y1.l,vS p2 Subs c2],hB aq (cRd x p3 c3),hB b [vT ([]),z0]] [(0,vP aq 0),(1,vI aa),(4,vP b 0),(5,vP b2 0),(6,vI n0),(7,vI i)]:=by
 refine pH.partial_correctness aa n0 _ λaI ih i Subs x o N B I0 I Q y1 aq b b2 p2 c2 cs p3 c3 H h7 h8 hg ho hx=>yR hg ho<|yA<|yG [19] rfl<|zJ<|yD N ?_ ?_
 ·intro aF N;refine zU<|zZ<|yH<|yE<|yF 1 [] [22] rfl<|nV (rI [0,1,0,2]) ?_;intro b3 bz aK h12;have ⟨h7,h8,H⟩:=m3 aK h7 h8 H;refine qE (zX [2,0,1,3] (ah:=[hB aq (cRd x p3 c3),hO zA (vS p2 Subs c2) cs,hB b2 [vT y1.l,vS p2 Subs c2],hB b [vT ([]),z0]])) ?_;obtain⟨⟨y4,y5⟩,ay,N⟩:=zB N;refine rC (xJ x ([0,1,0,2]:List Int) _ ay h8 h12) rfl ?_;rintro bK ax v2 k2 bi - ⟨v02,kk1,rfl,rfl,rfl,h14⟩ -;have ⟨h7,H⟩:=m2 bi h7 H;obtain⟨p6,c6,rfl,h15⟩:=yB h14;obtain⟨y6,aJ,N⟩:=zB N;refine xO (uF y4 _ aJ ) ?_;rintro bO ax v2 k2 bw - ⟨p7,c7,aO,rfl,rfl,h16⟩ -;have ⟨h15,h7,H⟩:=m3 bw h15 h7 H;refine uB [z0,vI 0] ?_;intro b4 hb4;refine xP 0 (cAff y6 p7 c7) rfl<|yC rfl<|zZ<|yA ?_;obtain⟨aM,aA,hMc1⟩:=zB N;refine pZ (λI' ah m'=>∃(t32:Bool) (x2:zL) (p8:Option Addr) (c8:Nat),aM=(t32,x2)/\bO.le I'/\(S4 I' p8 x2.b c8)/\ah=[hB b4 (cAff y6 p7 c7),hO Int (vS p7 y6.Coefs c7) aO,hB aq (cRd x2 p8 c8),hO zA (vS p2 Subs c2) cs,hB b2 [vT y1.l,vS p2 Subs c2],hB b [vT ([]),z0]]/\m'=[(0,vP aq 0),(1,vI aa),(4,vP b 0),(5,vP b2 0),(6,vI n0),(7,vI i),(8,vP b4 0),(32,.bool t32)]) ?_ ?_
  ·have H:=iS bO;refine zK<|yF 3 [] [28] rfl<|xW [28] aA ?_ ?_
   ·intro bd N;refine yF 4 [] [29] rfl<|qE (zX [2,0,1,3,4,5] (ah:=[hB aq (cRd y5 p6 c6),hB b4 (cAff y6 p7 c7),hO Int (vS p7 y6.Coefs c7) aO,hO zA (vS p2 Subs c2) cs,hB b2 [vT y1.l,vS p2 Subs c2],hB b [vT ([]),z0]])) ?_;obtain⟨⟨y8,y9⟩,bb,N⟩:=zB N;refine rC (xR y5 5 _ bb h15) rfl ?_;rintro I07 ax v2 k2 bD - ⟨v04,kk2,rfl,rfl,rfl,h19⟩ -;have H:=H.trans bD;obtain⟨p9,c9,rfl,h20⟩:=yB h19;exact yI [] [32] rfl<|xV (zW [1,2,0,3,4,5] rfl (by decide))<|yN<|zT ⟨_,_,_,_,(zC N).symm,H,h20,rfl,rfl⟩
   intro bd N;exact wG [] [(32,vF)]<|yN<|zT ⟨_,_,_,_,(zC N).symm,H,h15,rfl,rfl⟩
  rintro I06 ax m2 ⟨t32,x2,p8,c8,heq1,le7,h17,rfl,rfl⟩;subst aM;have ⟨h16,h7,H⟩:=m3 le7 h16 h7 H;refine zJ<|nO 1 rfl ?_;intro I08 le8 hl02;have h21:=SL.of_frozen hl02 le8 h16;have ⟨h17,h7,H⟩:=m3 le8 h17 h7 H;obtain⟨o02,ho02,hMc2⟩:=zB hMc1;refine pZ (λI' ah m'=>∃(x3:zA) (x4:zL) (aZ:Option Addr) (bh:Nat) (aV:Option Addr) (bj:Nat),o02=(x3,x4)/\I08.le I'/\(S4 I' aZ x3.Coefs bh)/\(S4 I' aV x4.b bj)/\ah=[hB b4 (cAff x3 aZ bh),hB aq (cRd x4 aV bj),hO zA (vS p2 Subs c2) cs,hB b2 [vT y1.l,vS p2 Subs c2],hB b [vT ([]),z0]]/\m'=[(0,vP aq 0),(1,vI aa),(4,vP b 0),(5,vP b2 0),(6,vI n0),(7,vI i),(8,vP b4 0)]) ?_ ?_
  ·have H:=iS I08;refine yD ho02 ?_ ?_
   ·intro bI N;refine yE<|yF 2 [] [33,34] rfl<|qE (zX [1,0,2,3,4] (ah:=[hB aq (cRd x2 p8 c8),hB b4 (cAff y6 p7 c7),hO zA (vS p2 Subs c2) cs,hB b2 [vT y1.l,vS p2 Subs c2],hB b [vT ([]),z0]])) ?_;obtain⟨⟨y11,y12⟩,bt,N⟩:=zB N;refine rC (xR x2 aa _ bt h17) rfl ?_;rintro bR ax v2 k2 le9 - ⟨v06,kk3,rfl,rfl,rfl,h25⟩ -;have H:=H.trans le9;obtain⟨bB,bo,rfl,h26⟩:=yB h25;refine yI [] [9] rfl<|zJ<|zK<|yF 1 [] [36] rfl<|bE N λy13 bH N=>xO (gU y11 _ bH ) ?_;rintro bV ax v2 k2 le10 - ⟨v08,rfl,rfl,⟨aT,rfl,h27⟩⟩ -;have ⟨h26,H⟩:=m2 le10 h26 H;obtain⟨bm,bu,rfl,h28⟩:=yO h27;refine yF 3 [] [38] rfl<|nV (rI [1,1,1,2,(-1)]) ?_;intro b5 bU le11 h30;have ⟨h28,h26,H⟩:=m3 le11 h28 h26 H;obtain⟨⟨y15,y16⟩,hy6,N⟩:=zB N;refine rC (xJ y12 ([1,1,1,2,(-1)]:List Int) _ hy6 h26 h30) rfl ?_;rintro I013 ax v2 k2 le12 - ⟨v010,kk4,rfl,rfl,rfl,h32⟩ -;have ⟨h28,H⟩:=m2 le12 h28 H;obtain⟨p14,c14,rfl,h33⟩:=yB h32;refine yF 6 [] [41] rfl<|nV (rI [0,1,0,0,2]) ?_;intro b6 I014 le13 h35;have ⟨h28,h33,H⟩:=m3 le13 h28 h33 H;obtain⟨⟨y18,y19⟩,hy7,N⟩:=zB N;refine rC (xJ y16 ([0,1,0,0,2]:List Int) _ hy7 h33 h35) rfl ?_;rintro I015 ax v2 k2 le14 - ⟨v012,kk5,rfl,rfl,rfl,h37⟩ -;have ⟨h28,H⟩:=m2 le14 h28 H;obtain⟨p15,c15,rfl,h38⟩:=yB h37;obtain⟨y20,hy8,N⟩:=zB N;refine xO (uF y18 _ hy8 ) ?_;rintro I016 ax v2 k2 le15 - ⟨p16,c16,br,rfl,rfl,h39⟩ -;have ⟨h28,h38,H⟩:=m3 le15 h28 h38 H;refine xM 0 rfl ?_;intro I017 le16 hl05;have h40:=SL.of_frozen hl05 le16 h39;have ⟨h28,h38,H⟩:=m3 le16 h28 h38 H;obtain⟨y21,hy9,N⟩:=zB N;refine xO (zAX y13 y15 y20 1 _ hy9 h28 h40) ?_;rintro I018 ax v2 k2 le17 - ⟨v014,rfl,rfl,⟨bC,rfl,h41⟩⟩ -;have ⟨h38,H⟩:=m2 le17 h38 H;obtain⟨p17,c17,rfl,h42⟩:=yO h41;exact xP 1 (cAff y21 p17 c17) rfl<|yC rfl<|xV (zW [1,0,2,3,4] rfl (by decide))<|yN<|zT ⟨_,_,_,_,_,_,(zC N).symm,H,h42,h38,rfl,rfl⟩
   intro bI N;exact zU<|yN<|zT ⟨_,_,_,_,_,_,(zC N).symm,H,h21,h17,rfl,rfl⟩
  rintro I09 ax m2 ⟨x3,x4,aZ,bh,aV,bj,heq2,le18,h22,h23,rfl,rfl⟩;subst o02;have ⟨h7,H⟩:=m2 le18 h7 H;refine zJ<|zK<|qA 3 [3,0] [(47,vS p2 Subs c2),(48,vA (cAff x3 aZ bh))]<|tU (cAff x3 aZ bh) zA ?_;intro b7 hb7;have h43:RL I09 (cAff x3 aZ bh) ([x3]:List zA):=⟨(cAff x3 aZ bh),_,rfl,rfl,(yL ⟨_,rfl,h22⟩),rfl⟩;obtain⟨l,hy10,N⟩:=zB hMc2;refine pC 78 2 3 rfl rfl rfl h7 (.inr ⟨0,rfl⟩) h43 hy10 ?_;intro p18 c18 cs6 h44;exact qE (zX [1,2,3,4,5] (ah:=[hB b4 (cAff x3 aZ bh),hB aq (cRd x4 aV bj),hO zA (vS p18 l c18) cs6,hB b2 [vT y1.l,vS p2 Subs c2],hB b [vT ([]),z0]]))<|yF 6 [] [51] rfl<|xP 3 [vT y1.l,vS p18 l c18] rfl<|yC rfl<|zP<|zJ<|zK<|yI [] [7] rfl<|yS<|jU (zW [2,3,1,4] rfl (by decide))<|nU<|ih (W (i+1)) l x4 _ N H h44 h23 hg ho hx
 intro aF N;exact wZ<|yN<|hx _ _ _ _ _ _ _ _ (zC N).symm H h7 h8
def mU(r0:zL)(aa:Int):Option (zI×zL):=do
 let (y1,y2)<-oR r0 ([(⟨[65]⟩:Str),(⟨[66]⟩:Str),(⟨[65]⟩:Str),(⟨[67]⟩:Str)]:List Str)
 let n0<-(do
  if(y1.l==([66]:List UInt8)) then
   pure (id 2)
  else
   pure (id 1)
    : Option Int)
 let (Subs1,x1)<-pH aa n0 0 ([]:List zA) y2
 pure ((zI.mk y1 Subs1),x1)
theorem zBk:∀r0 aa r,mU r0 aa=some r->∀{I:Imm}{aq:Nat}{p c},(S4 I p r0.b c)->RT 147 [vP aq 0,vI aa] I [hB aq (cRd r0 p c)] (zE1 aq r):=by
 intro r0 aa r N I aq p c h;unfold mU at N;refine yJ func147 λB=>?_;have H:=iS I;refine yE<|uB [vT ([]),z0] ?_;intro b hb;refine yC rfl<|xA<|yF 1 [] [10] rfl<|nV (rT [(⟨[65]⟩:Str),(⟨[66]⟩:Str),(⟨[65]⟩:Str),(⟨[67]⟩:Str)]) ?_;intro b1 I0 le h2;have ⟨h,H⟩:=m2 le h H;refine qE (zX [1,0] (ah:=[hB aq (cRd r0 p c),hB b [vT ([]),z0]])) ?_;obtain⟨⟨y1,y2⟩,hy,N⟩:=zB N;refine rC (fY r0 ([(⟨[65]⟩:Str),(⟨[66]⟩:Str),(⟨[65]⟩:Str),(⟨[67]⟩:Str)]:List Str) _ hy h h2) rfl ?_;rintro aU ax v2 k2 af - ⟨v0,kk,rfl,rfl,rfl,h4⟩ -;have H:=H.trans af;obtain⟨p1,c1,rfl,h5⟩:=yB h4;refine yF 4 [] [13] rfl<|uB [vT ([]),z0] ?_;intro b2 hb2;refine xP 0 [vT y1.l,z0] rfl<|yC rfl<|wW [6] rfl<|zZ<|yE<|yI [0] [16] rfl<|zJ ?_;refine wE N [hB b2 [vT y1.l,z0],hB aq (cRd y2 p1 c1),hB b [vT ([]),z0]] (λn0=>[(0,vP aq 0),(1,vI aa),(4,vP b 0),(5,vP b2 0),(6,vI n0)]) (λo0 aB=>?_) ?_
 ·have H:=iS aU;refine yD aB ?_ ?_
  ·intro hc N;exact zK<|yI [] [6] rfl<|yN<|zT (ct N H)
  intro hc N;exact zU<|yN<|zT (ct N H)
 intro n0 aQ aE aN;have h5:=h5.mono aE;refine zZ<|yG [7] rfl<|wC<|oA [(0,vP aq 0),(1,vI aa),(4,vP b 0),(5,vP b2 0),(6,vI n0),(7,vI 0)]<|dW zA λh6=>?_;obtain⟨o03,ho03,aH⟩:=zB aN;refine zD8 aa n0 0 ([]:List zA) y2 o03 ho03 iR h6 h5 (λ_ _ _ h=>h) (λ_ _ h=>h) ?_;intro I019 Subs1 x1 p4 c4 aC p5 c5 heq3 le19 h9 h10;subst o03;refine zR<|xA<|qA 1 [1] [(52,vA [vT y1.l,vS p4 Subs1 c4])]<|xP 3 [vT y1.l,vS p4 Subs1 c4] rfl<|yC rfl<|xF<|xB 0 rfl ?_;intro I020 le20 hl06;have h45:=SL.of_frozen hl06 le20 h9;have h10:=h10.mono le20;obtain rfl:=zC aH;exact xC ⟨_,_,(.cell 2 rfl rfl (by kernel_rfl) ResV.nil),(zW [1] rfl (by decide)),⟨_,_,rfl,rfl,⟨_,rfl,(nK ⟨_,rfl,h45⟩)⟩,(yU ⟨_,rfl,h10⟩)⟩⟩
def zE2(b0:Nat)(r:zA×zL):KT:=λkk I' ah v=>
 ∃v0 k0,ah=[.blk b0 ⟨k0⟩]/\v=tupV [v0]/\(∃cs,v0=.agg ⟨cs⟩/\Rp.rep I' cs r.1)/\Rp.rep I' k0 r.2
def pI(aa:Int)(i:Int)(Coefs:List Int)(x:zL):Option ((List Int×zL)):=do
 if(decide (i<aa)) then
  let (y5,y6)<-yV x ([0,1,0,(-1),2,0,9]:List Int)
  let x2<-idx Coefs i
  let l<-pure (Coefs.set i.toNat y5)
  pI aa (W (i+1)) l y6
 else
  pure (Coefs,x)
 partial_fixpoint
theorem zD9(aa:Int):∀(i:Int) (Coefs:List Int) (x:zL) (o:(List Int×zL)),pI aa i Coefs x=some o->∀{B}{I0 I:Imm}{Q}{y3:zA}{aq:Nat}{b:Nat}{b2:Nat}{p3 c3 aC p4 c4},I0.le I->(RL I aC Coefs)->(S4 I p4 x.b c4)->NG Q->NO Q->(∀(I':Imm) (Coefs1:List Int) (x1:zL) (p5:Option Addr) (c5:Nat) (aO:List Value) (p6:Option Addr) (c6:Nat),o=(Coefs1,x1)->I0.le I'->(RL I' aO Coefs1)->(S4 I' p6 x1.b c6)->T 24 B Q (.exit 0) I' [hB b2 [vS p5 Coefs1 c5,vI y3.Const],hO Int (vS p5 Coefs1 c5) aO,hB aq (cRd x1 p6 c6),hB b [z0,vI 0]] [(4,vP b 0),(5,vP b2 0)])->J Tryz.prog 24 B (nav (bodyOf f178) [1,1,0,1,0]) Q I [hB b2 [vS p3 Coefs c3,vI y3.Const],hO Int (vS p3 Coefs c3) aC,hB aq (cRd x p4 c4),hB b [z0,vI 0]] [(0,vP aq 0),(1,vI aa),(4,vP b 0),(5,vP b2 0),(6,vI i)]:=by
 refine pI.partial_correctness aa _ λaI ih i Coefs x o N B I0 I Q y3 aq b b2 p3 c3 aC p4 c4 H h7 h8 hg ho hx=>yR hg ho<|yA<|yG [13] rfl<|zJ<|yD N ?_ ?_
 ·intro hc N;refine zU<|zZ<|yH ?_;obtain⟨⟨y5,y6⟩,aJ,N⟩:=zB N;refine wX [.p (vP b2 0) [],.p (vS p3 Coefs c3) [0],.p (vI i) [],.p (vP aq 0) [],.x (λI' v hx=>∃b3,v=vS (some ⟨b3,0,none⟩) ([0,1,0,(-1),2,0,9]:List Int) 7/\hx=[]/\(SL I' (vS (some ⟨b3,0,none⟩) ([0,1,0,(-1),2,0,9]:List Int) 7) ([0,1,0,(-1),2,0,9]:List Int))),.x (λI' v hx=>∃p7 c7,v=vI y5/\hx=[hB aq (cRd y6 p7 c7)]/\(S4 I' p7 y6.b c7))] [[],[(0,false)],[],[],[],[(3,false),(4,false),(8,true)]] [hB b2 [vS p3 Coefs c3,vI y3.Const],hO Int (vS p3 Coefs c3) aC,hB b [z0,vI 0]] [[hB aq (cRd x p4 c4)]] [(1,false),(2,false),(5,true)] (zX [0,1,3,2]) ?_ ?_
  ·refine Op<|Op<|Op<|Op<|Ox ?_<|Ox ?_<|On
   ·intro I1 hf af;refine dE [] ?_;have H:=iS I1;refine nV (rI [0,1,0,(-1),2,0,9]) ?_;intro b3 bz aK h12;have H:=H.trans aK;exact yK [] H ⟨_,rfl,rfl,h12⟩
   rintro I1 hf af _ _ ⟨rfl,rfl⟩ _ _ ⟨b3,rfl,rfl,h12⟩ _ _ rfl;refine yP [19,20] rfl ?_;have H:=iS I1;have h8:=h8.mono af;refine rC (xJ x ([0,1,0,(-1),2,0,9]:List Int) _ aJ h8 h12) rfl ?_;rintro bK ax v2 k2 bi - ⟨v02,kk1,rfl,rfl,rfl,h14⟩ -;have H:=H.trans bi;obtain⟨p7,c7,rfl,h15⟩:=yB h14;exact yK [hB aq (cRd y6 p7 c7)] H ⟨_,_,rfl,rfl,h15⟩
  rintro bO bw _ _ ⟨rfl,rfl⟩ _ _ ⟨rfl,rfl⟩ _ _ ⟨p7,c7,rfl,rfl,h15⟩;refine yP [0,1,4,5,6,17,18,21] rfl ?_;have ⟨h7,H⟩:=m2 bw h7 H;obtain⟨x2,bb,N⟩:=zB N;refine nA 2 rfl rfl rfl h7 bb ?_;intro ad aL ap bG al;obtain rfl:=al;obtain⟨l,bt,N⟩:=zB N;refine tW (c:=[vI y5]) (x':=y5) 2 0 rfl rfl rfl ap rfl rfl bG (by kernel_rfl) (by kernel_rfl) (by kernel_rfl) h7 bb (by kernel_rfl) rfl ?_;rw[show Coefs.set i.toNat y5=l from zC bt];intro aT h16 hl02;exact oZ (m':=[(0,vP aq 0),(1,vI aa),(4,vP b 0),(5,vP b2 0),(6,vI i),(17,vS p3 Coefs c3),(18,vI i),(21,vI y5)]) ⟨rfl,rfl,rfl,rfl,rfl,rfl,rfl,rfl,trivial⟩<|fX (ah:=[hB aq (cRd y6 p7 c7),hB b2 [vS p3 l c3,vI y3.Const],hO Int (vS p3 l c3) aT,hB b [z0,vI 0]]) (m':=[(0,vP aq 0),(1,vI aa),(4,vP b 0),(5,vP b2 0),(6,vI i),(17,vS p3 l c3),(18,vI i),(21,vI y5)]) (by first|rfl|simp only[vS,hl02,cr,cU,cW,cQ,cH,cI]) (by first|rfl|simp only[vS,hl02])<|yC rfl<|zP<|zJ<|zK<|yI [] [6] rfl<|yS<|jU (zW [1,2,0,3] rfl (by decide))<|nU<|ih (W (i+1)) l y6 _ N H h16 h15 hg ho hx
 intro hc N;exact wZ<|yN<|hx _ _ _ _ _ _ _ _ (zC N).symm H h7 h8
def jK(r0:zL)(aa:Int):Option (zA×zL):=do
 let (y1,y2)<-yV r0 ([0,1,(-1),2,0,5,(-9),99]:List Int)
 let y3<-wM y1
 let (Coefs1,x1)<-pI aa 0 y3.Coefs y2
 pure ((zA.mk Coefs1 y3.Const),x1)
theorem zFx:∀r0 aa r,jK r0 aa=some r->∀{I:Imm}{aq:Nat}{p c},(S4 I p r0.b c)->RT 178 [vP aq 0,vI aa] I [hB aq (cRd r0 p c)] (zE2 aq r):=by
 intro r0 aa r N I aq p c h;unfold jK at N;refine yJ func178 λB=>yE<|uB [z0,vI 0] ?_;intro b hb;refine yC rfl<|xA<|yF 1 [] [7] rfl<|nV (rI [0,1,(-1),2,0,5,(-9),99]) ?_;intro b1 I0 le h2;have h:=h.mono le;refine qE (zX [1,0] (ah:=[hB aq (cRd r0 p c),hB b [z0,vI 0]])) ?_;obtain⟨⟨y1,y2⟩,hy,N⟩:=zB N;refine rC (xJ r0 ([0,1,(-1),2,0,5,(-9),99]:List Int) _ hy h h2) rfl ?_;rintro aU ax v2 k2 af - ⟨v0,kk,rfl,rfl,rfl,h4⟩ -;obtain⟨p1,c1,rfl,h5⟩:=yB h4;obtain⟨y3,ay,N⟩:=zB N;refine xO (uF y1 _ ay ) ?_;rintro aQ ax v2 k2 aE - ⟨p2,c2,cs,rfl,rfl,h6⟩ -;have h5:=h5.mono aE;refine uB [z0,vI 0] ?_;intro b2 hb2;refine xP 0 (cAff y3 p2 c2) rfl<|yC rfl<|zZ<|yG [6] rfl<|wC<|oA [(0,vP aq 0),(1,vI aa),(4,vP b 0),(5,vP b2 0),(6,vI 0)] ?_;obtain⟨o0,aB,aH⟩:=zB N;refine zD9 aa 0 y3.Coefs y2 o0 aB iR h6 h5 (λ_ _ _ h=>h) (λ_ _ h=>h) ?_;intro I06 Coefs1 x1 p5 c5 aO p6 c6 heq bD h9 h10;subst o0;refine zR<|xA<|qA 1 [0] [(23,vA [vS p5 Coefs1 c5,vI y3.Const])]<|xP 3 [vS p5 Coefs1 c5,vI y3.Const] rfl<|yC rfl<|xF<|xB 1 rfl ?_;intro I07 le7 hl03;have h17:=SL.of_frozen hl03 le7 h9;have h10:=h10.mono le7;obtain rfl:=zC aH;exact xC ⟨_,_,(.cell 2 rfl rfl (by kernel_rfl) ResV.nil),(zW [1] rfl (by decide)),⟨_,_,rfl,rfl,⟨_,rfl,(yL ⟨_,rfl,h17⟩)⟩,(yU ⟨_,rfl,h10⟩)⟩⟩
def zAY(b0:Nat)(r:zF×zL):KT:=λkk I' ah v=>
 ∃v0 k0,ah=[.blk b0 ⟨k0⟩]/\v=tupV [v0]/\(∃cs,v0=.agg ⟨cs⟩/\Rp.rep I' cs r.1)/\Rp.rep I' k0 r.2
mutual
def qK(r0:zL)(aa:Int)(ai:Int):Option (zF×zL):=do
 let (t15,x)<-(do
  if(decide (ai<2)) then
   pure (true,r0)
  else
   let (y1,y2)<-yW r0 4
   pure ((y1==0),y2)
    : Option (Bool×zL))
 if t15 then
  let (y4,y5)<-yW x 4
  if(y4==0) then
   let (y7,y8)<-yV y5 ([1,2,0,99,3]:List Int)
   pure ((zF.mk 1 y7 (zA.mk ([]:List Int) 0) (zI.mk (⟨[]⟩:Str) ([]:List zA)) ([]:List zF)),y8)
  else
   if(y4==1) then
    let (y10,y11)<-jK y5 aa
    pure ((zF.mk 2 0 y10 (zI.mk (⟨[]⟩:Str) ([]:List zA)) ([]:List zF)),y11)
   else
    let (y13,y14)<-mU y5 aa
    pure ((zF.mk 3 0 (zA.mk ([]:List Int) 0) y13 ([]:List zF)),y14)
 else
  let (y16,y17)<-yV x ([4,6,5,4]:List Int)
  let (Kids1,x2)<-oL (same aa) (same ai) (same 0) ([]:List zF) (same y17)
  pure ((zF.mk y16 0 (zA.mk ([]:List Int) 0) (zI.mk (⟨[]⟩:Str) ([]:List zA)) Kids1),x2)
 partial_fixpoint
def oL(aa:Int)(ai:Int)(i:Int)(Kids:List zF)(x1:zL):Option ((List zF×zL)):=do
 if(decide (i<2)) then
  let (y19,y20)<-qK (same x1) (same aa) (W (ai - 1))
  let l<-app 112 Kids ([y19]:List zF)
  oL (same aa) (same ai) (W (i+1)) (same l) (same y20)
 else
  pure (Kids,x1)
 partial_fixpoint
end
theorem zE3:(∀(r0:zL) (aa:Int) (ai:Int) r,qK r0 aa ai=some r->∀{I:Imm}{aq:Nat}{p c},(S4 I p r0.b c)->RT 148 [vP aq 0,vI aa,vI ai] I [hB aq (cRd r0 p c)] (zAY aq r))/\(∀(aa:Int) (ai:Int) (i:Int) (Kids:List zF) (x1:zL) o,oL aa ai i Kids x1=some o->∀{B}{I0 I:Imm}{Q}{y16:Int}{aq:Nat}{b:Nat}{b3:Nat}{aZ bh aO aV bj},I0.le I->(RL I aO Kids)->(S4 I aV x1.b bj)->NG Q->NO Q->(∀(I':Imm) (Kids1:List zF) (x2:zL) (bB:Option Addr) (bo:Nat) (aT:List Value) (bm:Option Addr) (bu:Nat),o=(Kids1,x2)->I0.le I'->(RL I' aT Kids1)->(S4 I' bm x2.b bu)->T 53 B Q (.exit 1) I' [hO zF (vS bB Kids1 bo) aT,hB b3 [vI y16,vI 0,z0,vI 0,vT ([]),z0,vS bB Kids1 bo],hB aq (cRd x2 bm bu),hB b zExpr] [(6,vP b 0),(7,vP b3 0)])->J Tryz.prog 53 B (nav (bodyOf f148) [1,1,1,0,1,0]) Q I [hO zF (vS aZ Kids bh) aO,hB b3 [vI y16,vI 0,z0,vI 0,vT ([]),z0,vS aZ Kids bh],hB aq (cRd x1 aV bj),hB b zExpr] [(0,vP aq 0),(1,vI aa),(2,vI ai),(6,vP b 0),(7,vP b3 0),(8,vI i)]):=by
 refine qK.mutual_partial_correctness _ _ ?_ ?_
 ·intro F_spec_l3Value_l1 ih_spec_l3Value_l1 r0 aa ai r N I aq p c h;refine yJ func148 λB=>?_;have H:=iS I;refine yE<|uB zExpr ?_;intro b hb;refine yC rfl<|zZ<|yA ?_;obtain⟨o0,aB,aN⟩:=zB N;refine pZ (λI' ah m'=>∃(t15:Bool) (x:zL) (p1:Option Addr) (c1:Nat),o0=(t15,x)/\I.le I'/\(S4 I' p1 x.b c1)/\ah=[hB b zExpr,hB aq (cRd x p1 c1)]/\m'=[(0,vP aq 0),(1,vI aa),(2,vI ai),(6,vP b 0),(15,.bool t15)]) ?_ ?_
  ·have H:=iS I;refine zK<|yF 3 [] [11] rfl<|xW [11] aB ?_ ?_
   ·intro hc N;exact wG [] [(15,vY)]<|yN<|zT ⟨_,_,_,_,(zC N).symm,H,h,rfl,rfl⟩
   intro hc N;refine yF 4 [] [12] rfl<|qE (zX [1,0] (ah:=[hB aq (cRd r0 p c),hB b zExpr])) ?_;obtain⟨⟨y1,y2⟩,hy,N⟩:=zB N;refine rC (xR r0 4 _ hy h) rfl ?_;rintro aU ax v2 k2 le - ⟨v0,kk,rfl,rfl,rfl,h3⟩ -;have H:=H.trans le;obtain⟨p2,c2,rfl,h4⟩:=yB h3;exact yI [] [15] rfl<|xV (zW [1,0] rfl (by decide))<|yN<|zT ⟨_,_,_,_,(zC N).symm,H,h4,rfl,rfl⟩
  rintro I0 ax m2 ⟨t15,x,p1,c1,heq,af,h1,rfl,rfl⟩;subst o0;refine zJ<|yD aN ?_ ?_
  ·intro aF N;refine yA<|yE<|yF 1 [] [16] rfl<|qE (zX [1,0] (ah:=[hB aq (cRd x p1 c1),hB b zExpr])) ?_;obtain⟨⟨y4,y5⟩,ay,N⟩:=zB N;refine rC (xR x 4 _ ay h1) rfl ?_;rintro aQ ax v2 k2 aE - ⟨v02,kk1,rfl,rfl,rfl,h6⟩ -;obtain⟨p3,c3,rfl,h7⟩:=yB h6;refine yC rfl<|wC<|yG [18] rfl<|zJ<|yD N ?_ ?_
   ·intro bd N;refine yE<|yF 1 [] [20] rfl<|nV (rI [1,2,0,99,3]) ?_;intro b1 bz aK h9;have h7:=h7.mono aK;obtain⟨⟨y7,y8⟩,aJ,N⟩:=zB N;refine rC (xJ y5 ([1,2,0,99,3]:List Int) _ aJ h7 h9) rfl ?_;rintro bK ax v2 k2 bi - ⟨v04,kk2,rfl,rfl,rfl,h11⟩ -;obtain⟨p4,c4,rfl,h12⟩:=yB h11;refine yF 4 [] [23] rfl<|xP 1 [vI 1,vI y7,z0,vI 0,vT ([]),z0,z0] rfl<|yC rfl<|xF<|zV<|zH<|zH ?_;obtain rfl:=zC N;exact xC ⟨_,_,(.cell 1 rfl rfl (by kernel_rfl) ResV.nil),(zW [0] rfl (by decide)),⟨_,_,rfl,rfl,⟨_,rfl,(xT ⟨_,_,_,rfl,(SL.nil _),(SL.nil _),(SL.nil _)⟩)⟩,(yU ⟨_,rfl,h12⟩)⟩⟩
   intro bd N;refine yG [24] rfl<|zJ<|yD N ?_ ?_
   ·intro bI N;refine yE<|yF 2 [] [26,27] rfl ?_;obtain⟨⟨y10,y11⟩,bb,N⟩:=zB N;refine rC (zFx y5 aa _ bb h7) rfl ?_;rintro bO ax v2 k2 bw - ⟨v06,kk3,rfl,rfl,⟨cs,rfl,h13⟩,h14⟩ -;obtain⟨p5,c5,rfl,h15⟩:=yO h13;obtain⟨p6,c6,rfl,h16⟩:=yB h14;refine yF 4 [] [29] rfl<|xP 1 [vI 2,vI 0,vS p5 y10.Coefs c5,vI y10.Const,vT ([]),z0,z0] rfl<|yC rfl<|xF<|zV<|zH<|zH ?_;obtain rfl:=zC N;exact xC ⟨_,_,(.cell 1 rfl rfl (by kernel_rfl) ResV.nil),(zW [0] rfl (by decide)),⟨_,_,rfl,rfl,⟨_,rfl,(xT ⟨_,_,_,rfl,h15,(SL.nil _),(SL.nil _)⟩)⟩,(yU ⟨_,rfl,h16⟩)⟩⟩
   intro bI N;refine zU<|zP<|xA<|yF 2 [] [30,31] rfl ?_;obtain⟨⟨y13,y14⟩,bt,N⟩:=zB N;refine rC (zBk y5 aa _ bt h7) rfl ?_;rintro I06 ax v2 k2 bD - ⟨v09,kk4,rfl,rfl,⟨aC,rfl,h17⟩,h18⟩ -;obtain⟨p7,c7,rfl,h19⟩:=oH h17;obtain⟨p8,c8,rfl,h20⟩:=yB h18;refine yF 4 [] [33] rfl<|xP 1 [vI 3,vI 0,z0,vI 0,vT y13.Array.l,vS p7 y13.Subs c7,z0] rfl<|yC rfl<|xF<|zH ?_;obtain rfl:=zC N;exact xC ⟨_,_,(.cell 1 rfl rfl (by kernel_rfl) ResV.nil),(zW [0] rfl (by decide)),⟨_,_,rfl,rfl,⟨_,rfl,(xT ⟨_,_,_,rfl,(SL.nil _),h19,(SL.nil _)⟩)⟩,(yU ⟨_,rfl,h20⟩)⟩⟩
  intro aF N;refine zU<|xA<|yF 1 [] [34] rfl<|nV (rI [4,6,5,4]) ?_;intro b2 I07 le7 h22;have h1:=h1.mono le7;refine qE (zX [1,0] (ah:=[hB aq (cRd x p1 c1),hB b zExpr])) ?_;obtain⟨⟨y16,y17⟩,bH,N⟩:=zB N;refine rC (xJ x ([4,6,5,4]:List Int) _ bH h1 h22) rfl ?_;rintro I08 ax v2 k2 le8 - ⟨v012,kk5,rfl,rfl,rfl,h24⟩ -;obtain⟨p9,c9,rfl,h25⟩:=yB h24;refine yF 4 [] [37] rfl<|uB zExpr ?_;intro b3 hb3;refine xP 0 [vI y16,vI 0,z0,vI 0,vT ([]),z0,z0] rfl<|yC rfl<|zZ<|yG [8] rfl<|wC<|oA [(0,vP aq 0),(1,vI aa),(2,vI ai),(6,vP b 0),(7,vP b3 0),(8,vI 0)]<|dW zF λh26=>?_;obtain⟨aM,aA,aH⟩:=zB N;refine ih_spec_l3Value_l1 aa ai 0 ([]:List zF) y17 aM aA iR h26 h25 (λ_ _ _ h=>h) (λ_ _ h=>h) ?_;intro bU Kids1 x2 bB bo aT bm bu heq1 le12 h29 h30;subst aM;refine zR<|xA<|qA 1 [1] [(52,vA [vI y16,vI 0,z0,vI 0,vT ([]),z0,vS bB Kids1 bo])]<|xP 3 [vI y16,vI 0,z0,vI 0,vT ([]),z0,vS bB Kids1 bo] rfl<|yC rfl<|xF<|xB 0 rfl ?_;intro I013 le13 hl03;have h40:=SL.of_frozen hl03 le13 h29;have h30:=h30.mono le13;obtain rfl:=zC aH;exact xC ⟨_,_,(.cell 2 rfl rfl (by kernel_rfl) ResV.nil),(zW [1] rfl (by decide)),⟨_,_,rfl,rfl,⟨_,rfl,(xT ⟨_,_,_,rfl,(SL.nil _),(SL.nil _),h40⟩)⟩,(yU ⟨_,rfl,h30⟩)⟩⟩
 intro F_spec_l3Value F_spec_l3Value_l1 ih_spec_l3Value ih_spec_l3Value_l1 aa ai i Kids x1 o N B I0 I Q y16 aq b b3 aZ bh aO aV bj H h27 h28 hg ho hx;refine yR hg ho<|yA<|yG [39] rfl<|zJ<|yD N ?_ ?_
 ·intro bN N;refine zU<|zZ<|yH ?_;obtain⟨⟨y19,y20⟩,hy6,N⟩:=zB N;obtain⟨l,hy7,N⟩:=zB N;refine wX [.p (vP b3 6) [],.p (vS aZ Kids bh) [0],.p (vP aq 0) [],.p (vI aa) [],.p (vI ai) [],.p (vI (W (ai - 1))) [],.x (λI' v hx=>∃p14 c14 p15 c15 p16 c16 p17 c17,v=vA (cExpr y19 p14 c14 p15 c15 p16 c16)/\hx=[hB aq (cRd y20 p17 c17)]/\(S4 I' p14 y19.Index.Coefs c14)/\(S4 I' p15 y19.Read.Subs c15)/\(S4 I' p16 y19.Kids c16)/\(S4 I' p17 y20.b c17)),.x (λI' v hx=>∃b4,v=vS (some ⟨b4,0,none⟩) ([y19]:List zF) 1/\hx=[]/\(SL I' (vS (some ⟨b4,0,none⟩) ([y19]:List zF) 1) ([y19]:List zF))),.x (λI' v hx=>∃p18 c18 bC,v=vS p18 l c18/\hx=[hO zF (vS p18 l c18) bC]/\(RL I' bC l))] [[],[(0,false)],[],[],[],[(4,false)],[(2,false),(3,false),(5,false),(11,true)],[(6,false)],[(1,false),(7,false),(12,true)]] [hB b3 [vI y16,vI 0,z0,vI 0,vT ([]),z0,vS aZ Kids bh],hB b zExpr] [[hB aq (cRd x1 aV bj)],[hO zF (vS aZ Kids bh) aO]] [(6,true),(8,true)] (zX [1,3,2,0]) ?_ ?_
  ·refine Op<|Op<|Op<|Op<|Op<|Op<|Ox ?_<|Ox ?_<|Ox ?_<|On
   ·rintro I1 hf af _ _ ⟨rfl,rfl⟩ _ _ ⟨rfl,rfl⟩ _ _ ⟨rfl,rfl⟩ _ _ rfl;refine yP [44,45,47] rfl ?_;have H:=iS I1;have h28:=h28.mono af;refine rC (ih_spec_l3Value x1 aa (W (ai - 1)) _ hy6 h28) rfl ?_;rintro I09 ax v2 k2 le9 - ⟨v014,kk6,rfl,rfl,⟨br,rfl,h31⟩,h32⟩ -;have H:=H.trans le9;obtain⟨p14,c14,p15,c15,p16,c16,rfl,h33,h34,h35⟩:=tA h31;obtain⟨p17,c17,rfl,h36⟩:=yB h32;exact yK [hB aq (cRd y20 p17 c17)] H ⟨_,_,_,_,_,_,_,_,rfl,rfl,h33,h34,h35,h36⟩
   ·rintro I1 hf af _ _ ⟨p14,c14,p15,c15,p16,c16,p17,c17,rfl,rfl,h33,h34,h35,h36⟩;refine yP [48] rfl ?_;have H:=iS I1;refine nV (rc y19 (xT ⟨_,_,_,rfl,h33,h34,h35⟩) rN) ?_;intro b4 bR le10 h38;have H:=H.trans le10;exact yK [] H ⟨_,rfl,rfl,h38⟩
   rintro I1 hf af _ _ ⟨rfl,rfl⟩ _ _ ⟨b4,rfl,rfl,h38⟩ _ _ rfl;refine yP [43,49] rfl ?_;have h27:=iM af h27;obtain⟨aL,k0,k01⟩:=h38;have h38:SL I1 (vS (some ⟨b4,0,none⟩) ([y19]:List zF) 1) ([y19]:List zF):=⟨_,k0,k01⟩;exact pC 81 7 0 rfl rfl rfl h27 (.inl k0) k01 hy7 λp18 c18 bC h39=>uW (ah:=(hO zF (vS p18 l c18) bC::hB b3 [vI y16,vI 0,z0,vI 0,vT ([]),z0,vS aZ Kids bh]::hB b zExpr::hf)) rfl<|yK [hO zF (vS p18 l c18) bC] iR ⟨_,_,_,rfl,rfl,h39⟩
  rintro bV le11 _ _ ⟨p14,c14,p15,c15,p16,c16,p17,c17,rfl,rfl,h33,h34,h35,h36⟩ _ _ ⟨p18,c18,bC,rfl,rfl,h39⟩;refine yP [0,1,2,6,7,8,50] rfl ?_;have H:=H.trans le11;exact yF 10 [] [51] rfl<|xP 2 [vI y16,vI 0,z0,vI 0,vT ([]),z0,vS p18 l c18] rfl<|yC rfl<|zP<|zJ<|zK<|yI [] [8] rfl<|yS<|jU (zW [0,2,1,3] rfl (by decide))<|nU<|ih_spec_l3Value_l1 aa ai (W (i+1)) l y20 _ N H h39 h36 hg ho hx
 intro bN N;exact wZ<|yN<|hx _ _ _ _ _ _ _ _ (zC N).symm H h27 h28
theorem zFF:∀r0 aa ai r,qK r0 aa ai=some r->∀{I:Imm}{aq:Nat}{p c},(S4 I p r0.b c)->RT 148 [vP aq 0,vI aa,vI ai] I [hB aq (cRd r0 p c)] (zAY aq r):=zE3.1
def zE4(b0:Nat)(r:zQ×zL):KT:=λkk I' ah v=>
 ∃v0 k0,ah=[.blk b0 ⟨k0⟩]/\v=tupV [v0]/\(∃cs,v0=.agg ⟨cs⟩/\Rp.rep I' cs r.1)/\Rp.rep I' k0 r.2
def gX(r0:zL)(aa:Int):Option (zQ×zL):=do
 let (y1,y2)<-mU r0 aa
 let (y4,y5)<-yV y2 ([2,3,1,2]:List Int)
 let (y7,y8)<-qK y5 aa y4
 let y9<-sO (zQ.mk y1 y7) aa
 if y9 then
  pure ((zQ.mk y1 y7),y8)
 else
  let y10<-oE
  pure ((zQ.mk (zI.mk (⟨[65]⟩:Str) ([y10]:List zA)) (zF.mk 1 1 (zA.mk ([]:List Int) 0) (zI.mk (⟨[]⟩:Str) ([]:List zA)) ([]:List zF))),y8)
theorem zFy:∀r0 aa r,gX r0 aa=some r->∀{I:Imm}{aq:Nat}{p c},(S4 I p r0.b c)->RT 113 [vP aq 0,vI aa] I [hB aq (cRd r0 p c)] (zE4 aq r):=by
 intro r0 aa r N I aq p c h;unfold gX at N;refine yJ func113 λB=>yE<|uB [vT ([]),z0,vI 0,vI 0,z0,vI 0,vT ([]),z0,z0] ?_;intro b hb;refine yC rfl<|xA<|yF 2 [] [6,7] rfl<|qE (zX [1,0] (ah:=[hB aq (cRd r0 p c),hB b [vT ([]),z0,vI 0,vI 0,z0,vI 0,vT ([]),z0,z0]])) ?_;obtain⟨⟨y1,y2⟩,hy,N⟩:=zB N;refine rC (zBk r0 aa _ hy h) rfl ?_;rintro I0 ax v2 k2 le - ⟨v0,kk,rfl,rfl,⟨cs,rfl,h1⟩,h2⟩ -;obtain⟨p1,c1,rfl,h3⟩:=oH h1;obtain⟨p2,c2,rfl,h4⟩:=yB h2;refine yF 6 [] [9,10,11] rfl<|nV (rI [2,3,1,2]) ?_;intro b1 aU af h6;have ⟨h3,h4⟩:=m2 af h3 h4;obtain⟨⟨y4,y5⟩,ay,N⟩:=zB N;refine rC (xJ y2 ([2,3,1,2]:List Int) _ ay h4 h6) rfl ?_;rintro aQ ax v2 k2 aE - ⟨v03,kk1,rfl,rfl,rfl,h8⟩ -;have h3:=h3.mono aE;obtain⟨p3,c3,rfl,h9⟩:=yB h8;obtain⟨⟨y7,y8⟩,aJ,N⟩:=zB N;refine rC (zFF y5 aa y4 _ aJ h9) rfl ?_;rintro bz ax v2 k2 aK - ⟨v05,kk2,rfl,rfl,⟨aC,rfl,h10⟩,h11⟩ -;have h3:=h3.mono aK;obtain⟨p4,c4,p5,c5,p6,c6,rfl,h12,h13,h14⟩:=tA h10;obtain⟨p7,c7,rfl,h15⟩:=yB h11;refine yF 10 [] [15] rfl<|uB [vT ([]),z0,vI 0,vI 0,z0,vI 0,vT ([]),z0,z0] ?_;intro b2 hb2;refine xP 0 [vT y1.Array.l,vS p1 y1.Subs c1,vI y7.Kind,vI y7.Num,vS p4 y7.Index.Coefs c4,vI y7.Index.Const,vT y7.Read.Array.l,vS p5 y7.Read.Subs c5,vS p6 y7.Kids c6] rfl<|yC rfl<|zZ<|yE<|qA 2 [0] [(16,vA [vT y1.Array.l,vS p1 y1.Subs c1,vI y7.Kind,vI y7.Num,vS p4 y7.Index.Coefs c4,vI y7.Index.Const,vT y7.Read.Array.l,vS p5 y7.Read.Subs c5,vS p6 y7.Kids c6]),(17,vI aa)]<|bE N λy9 bb N=>vV (fO (zQ.mk y1 y7) aa _ bb h3 h12 h13 h14) ?_;intro bK bi;have ⟨h3,h12,h13,h14,h15⟩:=m5 bi h3 h12 h13 h14 h15;refine yC rfl<|zJ<|yD N ?_ ?_
 ·intro hc N;refine yE<|qA 1 [0] [(19,vA [vT y1.Array.l,vS p1 y1.Subs c1,vI y7.Kind,vI y7.Num,vS p4 y7.Index.Coefs c4,vI y7.Index.Const,vT y7.Read.Array.l,vS p5 y7.Read.Subs c5,vS p6 y7.Kids c6])]<|xP 2 [vT y1.Array.l,vS p1 y1.Subs c1,vI y7.Kind,vI y7.Num,vS p4 y7.Index.Coefs c4,vI y7.Index.Const,vT y7.Read.Array.l,vS p5 y7.Read.Subs c5,vS p6 y7.Kids c6] rfl<|yC rfl<|xF<|zH ?_;obtain rfl:=zC N;exact xC ⟨_,_,(.cell 2 rfl rfl (by kernel_rfl) ResV.nil),(zW [1] rfl (by decide)),⟨_,_,rfl,rfl,⟨_,rfl,(wY ⟨_,_,_,_,rfl,h3,h12,h13,h14⟩)⟩,(yU ⟨_,rfl,h15⟩)⟩⟩
 intro hc N;refine zU<|xA<|bE N λy10 bt N=>xO (kH  _ bt ) ?_;rintro bO ax v2 k2 bw - ⟨p8,c8,aO,rfl,rfl,h17⟩ -;have h15:=h15.mono bw;refine xM 0 rfl ?_;intro I06 bD hl01;have h18:=SL.of_frozen hl01 bD h17;have h15:=h15.mono bD;refine tU (cAff y10 p8 c8) zA ?_;intro b3 hb3;have h19:RL I06 (cAff y10 p8 c8) ([y10]:List zA):=⟨(cAff y10 p8 c8),_,rfl,rfl,(yL ⟨_,rfl,h18⟩),rfl⟩;refine yF 5 [] [24] rfl<|xP 3 [vT ([65]),vS (some ⟨b3,0,none⟩) ([y10]:List zA) 1,vI 1,vI 1,z0,vI 0,vT ([]),z0,z0] rfl<|yC rfl<|xF<|xB 0 rfl ?_;intro I07 le7 hl02;have h20:=SL.of_frozen hl02 le7 h19;have h15:=h15.mono le7;obtain rfl:=zC N;exact xC ⟨_,_,(.cell 2 rfl rfl (by kernel_rfl) ResV.nil),(zW [1] rfl (by decide)),⟨_,_,rfl,rfl,⟨_,rfl,(wY ⟨_,_,_,_,rfl,h20,(SL.nil _),(SL.nil _),(SL.nil _)⟩)⟩,(yU ⟨_,rfl,h15⟩)⟩⟩
def qL(s:Str)(end0:UInt8)(i:Int):Option (Out Unit (Int)):=do
 if(decide (i<(s.l.length:Int))) then
  let b<-sidx s i
  if((b.toNat:Int)==(end0.toNat:Int)) then
   pure (.ret i)
  else
   qL s end0 (W (i+1))
 else
  pure (.done ())
 partial_fixpoint
theorem zCr(s:Str)(end0:UInt8):∀(i:Int) (o:Out Unit (Int)),qL s end0 i=some o->∀{B}{I0 I:Imm}{Q}  ,I0.le I->NG Q->NO Q->(∀(I':Imm) ,o=(.done ())->I0.le I'->T 21 B Q (.exit 0) I' [] [])->(∀r I' ah m',o=(.ret r)->I0.le I'->RS Tryz.prog f179 B (yQ  r) I' ah m'->T 21 B Q .ret I' ah m')->J Tryz.prog 21 B (nav (bodyOf f179) [1,0,1,0]) Q I [] [(0,vT s.l),(2,.int .u8 (end0.toNat:Int)),(7,vI i)]:=by
 refine qL.partial_correctness s end0 _ λaI ih i o N B I0 I Q H hg ho hx hr=>yR hg ho<|yA<|yG [12] rfl<|zJ<|yD N ?_ ?_
 ·intro hc N;refine zU<|zZ<|yH<|yE<|yF 2 [] [15,16] rfl<|bE N λb hy N=>zAJ rfl rfl hy<|yI [] [19] rfl<|zJ<|yD N ?_ ?_
  ·intro aF N;exact yG [6] rfl<|xF<|zV<|zH<|zH<|hr _ _ _ _ (zC N).symm H ⟨_,_,(.tmp rfl ResV.nil),zO,⟨_,rfl,rfl,rfl⟩⟩
  intro aF N;exact zU<|zP<|zJ<|zK<|yI [] [7] rfl<|yS<|nU<|ih (W (i+1)) _ N H  hg ho hx hr
 intro hc N;exact wZ<|yN<|hx _  (zC N).symm H
def kJ(s:Str)(at0:Int)(end0:UInt8):Option (Int):=do
 match<-qL s end0 at0 with
 | .ret r0=>pure r0
 | .done _=>
  pure (-1)
theorem zBU:∀s at0 end0 r,kJ s at0 end0=some r->∀{I:Imm} ,RT 179 [vT s.l,vI at0,.int .u8 (end0.toNat:Int)] I [] (yQ  r):=by
 intro s at0 end0 r N I;unfold kJ at N;refine yJ func179 λB=>vK []<|zZ<|yG [7] rfl<|wC<|oA [(0,vT s.l),(2,.int .u8 (end0.toNat:Int)),(7,vI at0)] ?_;obtain⟨o0,aB,aH⟩:=zB N;refine zCr s end0 at0 o0 aB iR  (λ_ _ _ h=>h) (λ_ _ h=>h) ?_ ?_
 ·intro I0  heq le;subst o0;refine zR<|wW [6] rfl<|zJ<|yZ ?_;obtain rfl:=zC aH;exact wV
 intro r0 I9 hs9 m9 aR le9 aS;subst aR;refine zV<|zH ?_;obtain rfl:=zC aH;exact xC aS
def zE5(r:(List Str)):KT:=λkk I' ah v=>
 ∃v0,ah=[]/\v=tupV [v0]/\SL I' v0 r
def pJ(s:Str)(c:UInt8)(out:List Str)(from0:Int)(i:Int):Option (List Str):=do
 if(decide (i<=(s.l.length:Int))) then
  let t25<-(do
   if(i==(s.l.length:Int)) then
    pure true
   else
    let b1<-sidx s i
    pure ((b1.toNat:Int)==(c.toNat:Int))
     : Option Bool)
  let (am,from01)<-(do
   if t25 then
    let s1<-sslc s from0 i
    let aD<-app 16 out ([s1]:List Str)
    pure (aD,(W (i+1)))
   else
    pure (out,from0)
     : Option (List Str×Int))
  pJ s c am from01 (W (i+1))
 else
  pure (id out)
 partial_fixpoint
theorem zDa(s:Str)(c:UInt8):∀(out:List Str) (from0:Int) (i:Int) (o:List Str),pJ s c out from0 i=some o->∀{B}{I0 I:Imm}{Q p c1 cs},I0.le I->(RL I cs out)->NG Q->NO Q->(∀(I':Imm) (aj:List Str) (p1:Option Addr) (c2:Nat) (aC:List Value),o=aj->I0.le I'->(RL I' aC aj)->T 36 B Q (.exit 0) I' [hO Str (vS p1 aj c2) aC] [(5,vS p1 aj c2)])->J Tryz.prog 36 B (nav (bodyOf f135) [1,1,1,0,1,0]) Q I [hO Str (vS p out c1) cs] [(0,vT s.l),(1,.int .u8 (c.toNat:Int)),(5,vS p out c1),(6,vI from0),(7,vI i)]:=by
 refine pJ.partial_correctness s c _ λaI ih out from0 i o N B I0 I Q p c1 cs H h1 hg ho hx=>yR hg ho<|yA<|yG [12] rfl<|zJ<|yD N ?_ ?_
 ·intro hc N;refine zU<|zZ<|yH<|yA ?_;refine wE N [hO Str (vS p out c1) cs] (λt25=>[(0,vT s.l),(1,.int .u8 (c.toNat:Int)),(5,vS p out c1),(6,vI from0),(7,vI i),(25,.bool t25)]) (λo0 aB=>?_) ?_
  ·have H:=iS I;refine zK<|yF 5 [] [19] rfl<|xW [19] aB ?_ ?_
   ·intro aF N;exact wG [] [(25,vY)]<|yN<|zT (ct N H)
   intro aF N;exact yF 7 [] [20,21] rfl<|bE N λb1 hy N=>zAJ rfl rfl hy<|yI [] [25] rfl<|yN<|zT (ct N H)
  intro t25 I0 le aN;have ⟨h1,H⟩:=m2 le h1 H;refine zJ ?_;obtain⟨aM,aA,hMc1⟩:=zB aN;refine pZ (λI' ah m'=>∃(am:List Str) (from01:Int) (p2:Option Addr) (c3:Nat) (aO:List Value),aM=(am,from01)/\I0.le I'/\(RL I' aO am)/\ah=[hO Str (vS p2 am c3) aO]/\m'=[(0,vT s.l),(1,.int .u8 (c.toNat:Int)),(5,vS p2 am c3),(6,vI from01),(7,vI i)]) ?_ ?_
  ·have H:=iS I0;refine yD aA ?_ ?_
   ·intro bd N;refine yE<|yF 4 [] [26,27,28,29] rfl<|bE N λs1 ay N=>zGg rfl ay<|tU [vT s1.l] Str ?_;intro b2 hb1;have h4:RL I0 [vT s1.l] ([s1]:List Str):=rT [s1];obtain⟨aD,aJ,N⟩:=zB N;exact pC 9 1 1 rfl rfl rfl h1 (.inr ⟨0,rfl⟩) h4 aJ λp3 c4 aT h5=>qE (zX [1] (ah:=[hO Str (vS p3 aD c4) aT]))<|yI [] [5] rfl<|zJ<|zK<|yI [] [6] rfl<|yN<|zT ⟨_,_,_,_,_,(zC N).symm,H,h5,rfl,rfl⟩
   intro bd N;exact zU<|yN<|zT ⟨_,_,_,_,_,(zC N).symm,H,h1,rfl,rfl⟩
  rintro aU ax m2 ⟨am,from01,p2,c3,aO,heq1,af,h3,rfl,rfl⟩;subst aM;have H:=H.trans af;exact zP<|zJ<|zK<|yI [] [7] rfl<|yS<|nU<|ih am from01 (W (i+1)) _ hMc1 H h3 hg ho hx
 intro hc N;exact wZ<|yN<|hx _ _ _ _ _ (zC N).symm H h1
def gY(s:Str)(c:UInt8):Option ((List Str)):=do
 let aj<-pJ s c ([]:List Str) 0 0
 pure (id aj)
theorem zFz:∀s c r,gY s c=some r->∀{I:Imm} ,RT 135 [vT s.l,.int .u8 (c.toNat:Int)] I [] (zE5  r):=by
 intro s c r N I;unfold gY at N;refine yJ func135 λB=>vK []<|xA<|tU [] Str ?_;intro b hb;have h:RL I [] ([]:List Str):=rfl;refine yI [] [5] rfl<|wW [6] rfl<|zZ<|yG [7] rfl<|wC<|oA [(0,vT s.l),(1,.int .u8 (c.toNat:Int)),(5,vS (some ⟨b,0,none⟩) ([]:List Str) 0),(6,vI 0),(7,vI 0)] ?_;obtain⟨o02,ho02,aH⟩:=zB N;refine zDa s c ([]:List Str) 0 0 o02 ho02 iR h (λ_ _ _ h=>h) (λ_ _ h=>h) ?_;intro aQ aj p1 c2 aC heq2 aE h2;subst o02;refine zR<|wW [4] rfl<|xF<|xB 0 rfl ?_;intro bz aK hl0;have h6:=SL.of_frozen hl0 aK h2;obtain rfl:=zC aH;exact xC ⟨_,_,(.tmp rfl ResV.nil),zO,⟨_,rfl,rfl,h6⟩⟩
def pK(s1:Str)(n0:Int)(i:Int):Option (Out Int (Int×Bool)):=do
 if(decide (i<(s1.l.length:Int))) then
  let t54<-(do
   let b2<-sidx s1 i
   if(decide ((b2.toNat:Int)<48)) then
    pure true
   else
    let b3<-sidx s1 i
    pure (decide ((b3.toNat:Int)>57))
     : Option Bool)
  if t54 then
   pure (.ret (0,false))
  else
   let b4<-sidx s1 i
   pK s1 (W ((W (n0*10))+(W (IntKind.u8.wrap ((b4.toNat:Int) - 48))))) (W (i+1))
 else
  pure (.done n0)
 partial_fixpoint
theorem zDb(s1:Str):∀(n0:Int) (i:Int) (o:Out Int (Int×Bool)),pK s1 n0 i=some o->∀{B}{I0 I:Imm}{Q}{neg:Bool} ,I0.le I->NG Q->NO Q->(∀(I':Imm) (n01:Int),o=(.done n01)->I0.le I'->T 67 B Q (.exit 0) I' [] [(4,.bool neg),(5,vI n01)])->(∀r I' ah m',o=(.ret r)->I0.le I'->RS Tryz.prog f191 B (kI  r) I' ah m'->T 67 B Q .ret I' ah m')->J Tryz.prog 67 B (nav (bodyOf f191) [1,1,1,1,1,0,1,0]) Q I [] [(0,vT s1.l),(4,.bool neg),(5,vI n0),(6,vI i)]:=by
 refine pK.partial_correctness s1 _ λaI ih n0 i o N B I0 I Q neg H hg ho hx hr=>yR hg ho<|yA<|yG [42] rfl<|zJ<|yD N ?_ ?_
 ·intro hc7 N;refine zU<|zZ<|yH<|yA<|yA ?_;refine wE N [] (λt54=>[(0,vT s1.l),(4,.bool neg),(5,vI n0),(6,vI i),(54,.bool t54)]) (λo03 ho03=>?_) ?_
  ·have H:=iS I;refine zK<|yF 2 [] [45,46] rfl ?_;obtain⟨b2,bb,N⟩:=zB ho03;refine zAJ rfl rfl bb<|yF 5 [] [49] rfl<|xW [49] N ?_ ?_
   ·intro hc8 N;exact wG [] [(54,vY)]<|yN<|zT (ct N H)
   intro hc8 N;exact yF 7 [] [50,51] rfl<|bE N λb3 bt N=>zAJ rfl rfl bt<|yI [] [54] rfl<|yN<|zT (ct N H)
  intro t54 bz aK hMc3;have H:=H.trans aK;refine zJ<|yD hMc3 ?_ ?_
  ·intro hc9 N;exact yG [2,3] rfl<|xF<|zH<|zV<|zH<|zH<|hr _ _ _ _ (zC N).symm H ⟨_,_,(.tmp rfl (.tmp rfl ResV.nil)),zO,⟨_,_,rfl,rfl,rfl,rfl⟩⟩
  intro hc9 N;exact zU<|zJ<|zK<|yF 4 [] [56,57,58] rfl<|bE N λb4 bH N=>zAJ rfl rfl bH<|yI [] [5] rfl<|zP<|zJ<|zK<|yI [] [6] rfl<|yS<|nU<|ih (W ((W (n0*10))+(W (IntKind.u8.wrap ((b4.toNat:Int) - 48))))) (W (i+1)) _ N H  hg ho hx hr
 intro hc7 N;exact wZ<|yN<|hx _ _ (zC N).symm H
def gZ(s:Str):Option (Int×Bool):=do
 let neg<-(do
  if(decide ((s.l.length:Int)>0)) then
   let b<-sidx s 0
   pure ((b.toNat:Int)==45)
  else
   pure false
    : Option Bool)
 let s1<-(do
  if neg then
   let s2<-sslc s 1 (s.l.length:Int)
   pure (id s2)
  else
   pure (id s)
    : Option Str)
 let t38<-(do
  if((s1.l.length:Int)==0) then
   pure true
  else
   if(decide ((s1.l.length:Int)>17)) then
    pure true
   else
    let b1<-sidx s1 0
    if((b1.toNat:Int)==48) then
     if(decide ((s1.l.length:Int)>1)) then
      pure true
     else
      pure (id neg)
    else
     pure false
    : Option Bool)
 if t38 then
  pure (0,false)
 else
  match<-pK s1 0 0 with
  | .ret r0=>pure r0
  | .done n01=>
   let n02<-(do
    if neg then
     pure (W (0 - n01))
    else
     pure (id n01)
      : Option Int)
   pure (n02,true)
theorem zGA:∀s r,gZ s=some r->∀{I:Imm} ,RT 191 [vT s.l] I [] (kI  r):=by
 intro s r N I;unfold gZ at N;refine yJ func191 λB=>?_;have H:=iS I;refine vK []<|zJ<|yA ?_;refine wE N [] (λneg=>[(0,vT s.l),(4,.bool neg)]) (λo0 aB=>?_) ?_
 ·have H:=iS I;refine zK<|yF 4 [] [10] rfl<|xW [10] aB ?_ ?_
  ·intro hc N;exact yF 5 [] [11] rfl<|bE N λb hy N=>zAJ rfl rfl hy<|yI [] [4] rfl<|yN<|zT (ct N H)
  intro hc N;exact wG [] [(4,vF)]<|yN<|zT (ct N H)
 intro neg I0 le aN;have H:=H.trans le;refine zZ<|yG [15] rfl<|zJ ?_;refine wE aN [] (λs1=>[(0,vT s1.l),(4,.bool neg)]) (λaM aA=>?_) ?_
 ·have H:=iS I0;refine yD aA ?_ ?_
  ·intro aF N;exact zK<|yF 1 [] [16] rfl<|bE N λs2 ay N=>zGg rfl ay<|yI [] [0] rfl<|yN<|zT (ct N H)
  intro aF N;exact zU<|yN<|zT (ct N H)
 intro s1 aU af hMc1;have H:=H.trans af;refine zZ<|yA ?_;refine wE hMc1 [] (λt38=>[(0,vT s1.l),(4,.bool neg),(38,.bool t38)]) (λo02 ho02=>?_) ?_
 ·have H:=iS aU;refine zK<|yF 4 [] [21] rfl<|xW [21] ho02 ?_ ?_
  ·intro bd N;exact wG [] [(38,vY)]<|yN<|zT (ct N H)
  intro bd N;refine yF 9 [] [26] rfl<|xW [26] N ?_ ?_
  ·intro bI N;exact wG [] [(38,vY)]<|yN<|zT (ct N H)
  intro bI N;refine yF 10 [] [27] rfl<|bE N λb1 aJ N=>zAJ rfl rfl aJ<|yF 13 [] [30] rfl<|xW [30] N ?_ ?_
  ·intro bN N;refine yF 17 [] [34] rfl<|xW [34] N ?_ ?_
   ·intro hc5 N;exact wG [] [(38,vY)]<|yN<|zT (ct N H)
   intro hc5 N;exact yI [] [38] rfl<|yN<|zT (ct N H)
  intro bN N;exact wG [] [(38,vF)]<|yN<|zT (ct N H)
 intro t38 aQ aE hMc2;have H:=H.trans aE;refine zJ<|yD hMc2 ?_ ?_
 ·intro hc6 N;refine yG [2,3] rfl<|xF<|zH ?_;obtain rfl:=zC N;exact xC ⟨_,_,(.tmp rfl (.tmp rfl ResV.nil)),zO,⟨_,_,rfl,rfl,rfl,rfl⟩⟩
 intro hc6 N;refine zU<|wW [5] rfl<|zZ<|yG [6] rfl<|wC<|oA [(0,vT s1.l),(4,.bool neg),(5,vI 0),(6,vI 0)] ?_;obtain⟨o04,ho04,aH⟩:=zB N;refine zDb s1 0 0 o04 ho04 iR  (λ_ _ _ h=>h) (λ_ _ h=>h) ?_ ?_
 ·intro bK n01 heq4 bi;subst o04;have H:=H.trans bi;refine zR<|zZ<|yG [63] rfl<|zJ ?_;refine wE aH [] (λn02=>[(5,vI n02)]) (λo05 ho05=>?_) ?_
  ·have H:=iS bK;refine yD ho05 ?_ ?_
   ·intro hc10 N;exact zK<|yI [] [5] rfl<|yN<|zT (ct N H)
   intro hc10 N;exact zU<|yN<|zT (ct N H)
  intro n02 bO bw hMc4;refine wW [2,3] rfl<|zJ<|yZ ?_;obtain rfl:=zC hMc4;exact xC ⟨_,_,(.tmp rfl (.tmp rfl ResV.nil)),zO,⟨_,_,rfl,rfl,rfl,rfl⟩⟩
 intro r0 I9 hs9 m9 aR le9 aS;subst aR;refine zV<|zH ?_;obtain rfl:=zC aH;exact xC aS
def rM(s:Str)(at0:Int)(end0:Int):Option (Int):=do
 let t31<-(do
  if(decide (end0<(s.l.length:Int))) then
   if(decide (end0<(W (at0+2)))) then
    let b<-sidx s end0
    if(decide ((b.toNat:Int)>=48)) then
     let b1<-sidx s end0
     pure (decide ((b1.toNat:Int)<=57))
    else
     pure false
   else
    pure false
  else
   pure false
    : Option Bool)
 if t31 then
  rM s at0 (W (end0+1))
 else
  pure (id end0)
 partial_fixpoint
theorem zCR(s:Str)(at0:Int):∀(end0:Int) (o:Int),rM s at0 end0=some o->∀{B}{I0 I:Imm}{Q}  ,I0.le I->NG Q->NO Q->(∀(I':Imm) (end01:Int),o=end01->I0.le I'->T 47 B Q (.exit 0) I' [] [(0,vT s.l),(1,vI at0),(6,vI end01)])->J Tryz.prog 47 B (nav (bodyOf f183) [1,1,0,0]) Q I [] [(0,vT s.l),(1,vI at0),(6,vI end0)]:=by
 refine rM.partial_correctness s at0 _ λaI ih end0 o N B I0 I Q H hg ho hx=>yR hg ho<|yA<|yA ?_;refine wE N [] (λt31=>[(0,vT s.l),(1,vI at0),(6,vI end0),(31,.bool t31)]) (λo0 aB=>?_) ?_
 ·have H:=iS I;refine zK<|yF 5 [] [14] rfl<|xW [14] aB ?_ ?_
  ·intro hc N;refine yF 11 [] [20] rfl<|xW [20] N ?_ ?_
   ·intro aF N;refine yF 13 [] [21,22] rfl<|bE N λb hy N=>zAJ rfl rfl hy<|yF 17 [] [26] rfl<|xW [26] N ?_ ?_
    ·intro bd N;exact yF 19 [] [27,28] rfl<|bE N λb1 ay N=>zAJ rfl rfl ay<|yI [] [31] rfl<|yN<|zT (ct N H)
    intro bd N;exact wG [] [(31,vF)]<|yN<|zT (ct N H)
   intro aF N;exact wG [] [(31,vF)]<|yN<|zT (ct N H)
  intro hc N;exact wG [] [(31,vF)]<|yN<|zT (ct N H)
 intro t31 I0 le aN;have H:=H.trans le;refine zJ<|yD aN ?_ ?_
 ·intro bI N;exact zU<|wC<|zK<|yI [] [6] rfl<|zP<|yS<|nU<|ih (W (end0+1)) _ N H  hg ho hx
 intro bI N;exact wZ<|yN<|hx _ _ (zC N).symm H
def nY(s:Str)(at0:Int):Option (Int×Int):=do
 let end01<-rM s at0 at0
 let s1<-sslc s at0 end01
 let (y1,y2)<-gZ s1
 if(!y2) then
  pure (1,at0)
 else
  pure (y1,end01)
theorem zAi:∀s at0 r,nY s at0=some r->∀{I:Imm} ,RT 183 [vT s.l,vI at0] I [] (fN  r):=by
 intro s at0 r N I;unfold nY at N;refine yJ func183 λB=>vK []<|wW [6] rfl<|zZ<|yH<|oA [(0,vT s.l),(1,vI at0),(6,vI at0)] ?_;obtain⟨aM,aA,aH⟩:=zB N;refine zCR s at0 at0 aM aA iR  (λ_ _ _ h=>h) (λ_ _ h=>h) ?_;intro aU end01 heq1 af;subst aM;refine zR<|xA<|yF 3 [] [35,36,37] rfl ?_;obtain⟨s1,aJ,N⟩:=zB aH;refine zGg rfl aJ ?_;obtain⟨⟨y1,y2⟩,bb,N⟩:=zB N;refine xO (zGA s1 _ bb ) ?_;rintro aQ ax v2 k2 aE - ⟨v0,v01,rfl,rfl,rfl,rfl⟩ -;refine yI [] [7,8] rfl<|zZ<|yG [43] rfl<|zJ<|yD N ?_ ?_
 ·intro bN N;refine yG [4,5] rfl<|xF<|zH ?_;obtain rfl:=zC N;exact xC ⟨_,_,(.tmp rfl (.tmp rfl ResV.nil)),zO,⟨_,_,rfl,rfl,rfl,rfl⟩⟩
 intro bN N;refine zU<|wW [4,5] rfl<|zJ<|yZ ?_;obtain rfl:=zC N;exact xC ⟨_,_,(.tmp rfl (.tmp rfl ResV.nil)),zO,⟨_,_,rfl,rfl,rfl,rfl⟩⟩
def fA(s:Str)(at0:Int):Option (Int):=do
 let t20<-(do
  if(decide (at0>=(s.l.length:Int))) then
   pure true
  else
   let b<-sidx s at0
   if(decide ((b.toNat:Int)<105)) then
    pure true
   else
    let b1<-sidx s at0
    pure (decide ((b1.toNat:Int)>108))
    : Option Bool)
 if t20 then
  pure (-1)
 else
  let b2<-sidx s at0
  pure (W ((W (b2.toNat:Int)) - 105))
theorem zGB:∀s at0 r,fA s at0=some r->∀{I:Imm} ,RT 205 [vT s.l,vI at0] I [] (yQ  r):=by
 intro s at0 r N I;unfold fA at N;refine yJ func205 λB=>?_;have H:=iS I;refine vK []<|zZ<|yA ?_;refine wE N [] (λt20=>[(0,vT s.l),(1,vI at0),(20,.bool t20)]) (λo0 aB=>?_) ?_
 ·have H:=iS I;refine zK<|yF 5 [] [9] rfl<|xW [9] aB ?_ ?_
  ·intro hc N;exact wG [] [(20,vY)]<|yN<|zT (ct N H)
  intro hc N;refine yF 7 [] [10,11] rfl<|bE N λb hy N=>zAJ rfl rfl hy<|yF 11 [] [15] rfl<|xW [15] N ?_ ?_
  ·intro aF N;exact wG [] [(20,vY)]<|yN<|zT (ct N H)
  intro aF N;exact yF 13 [] [16,17] rfl<|bE N λb1 ay N=>zAJ rfl rfl ay<|yI [] [20] rfl<|yN<|zT (ct N H)
 intro t20 I0 le aN;refine zJ<|yD aN ?_ ?_
 ·intro bd N;refine yG [4] rfl<|xF<|zH ?_;obtain rfl:=zC N;exact wV
 intro bd N;refine zU<|xA<|yF 2 [] [21,22] rfl<|bE N λb2 aJ N=>zAJ rfl rfl aJ<|yI [] [4] rfl<|zJ<|yZ ?_;obtain rfl:=zC N;exact wV
def zDc(r:zA×Int):KT:=λkk I' ah v=>
 ∃v0 v1,ah=[]/\v=tupV [v0,v1]/\(∃cs,v0=.agg ⟨cs⟩/\Rp.rep I' cs r.1)/\v1=.int .i64 r.2
def jZ(a0:zA)(s:Str)(at0:Int):Option (zA×Int):=do
 let b2<-sidx s at0
 let sign<-(do
  if((b2.toNat:Int)==45) then
   pure (-1)
  else
   pure (id 1)
    : Option Int)
 let t27<-(do
  let b3<-sidx s at0
  if((b3.toNat:Int)==45) then
   pure true
  else
   let b4<-sidx s at0
   pure ((b4.toNat:Int)==43)
    : Option Bool)
 let at01<-(do
  if t27 then
   pure (W (at0+1))
  else
   pure (id at0)
    : Option Int)
 let (y1,y2)<-nY s at01
 let t51<-(do
  if(decide (y2>at01)) then
   if(decide (y2<(s.l.length:Int))) then
    let b5<-sidx s y2
    pure ((b5.toNat:Int)==42)
   else
    pure false
  else
   pure false
    : Option Bool)
 let star<-(do
  if t51 then
   pure (W (y2+1))
  else
   pure (id y2)
    : Option Int)
 let y3<-fA s star
 let l<-app 8 ([]:List Int) a0.Coefs
 let t75<-(do
  if(decide (y3>=0)) then
   if(decide (star>y2)) then
    pure true
   else
    pure (y2==at01)
  else
   pure false
    : Option Bool)
 if t75 then
  let x<-idx l y3
  let x1<-idx l y3
  let l1<-pure (l.set y3.toNat (W (x+(W (sign*y1)))))
  pure ((zA.mk l1 a0.Const),(W (star+1)))
 else
  if(y2==at01) then
   pure (a0,(-1))
  else
   pure ((zA.mk l (W (a0.Const+(W (sign*y1))))),y2)
theorem zFG:∀a0 s at0 r,jZ a0 s at0=some r->∀{I:Imm}{p c},(S4 I p a0.Coefs c)->RT 195 [vA (cAff a0 p c),vT s.l,vI at0] I [] (zDc  r):=by
 intro a0 s at0 r N I p c h;unfold jZ at N;refine yJ func195 λB=>?_;have H:=iS I;refine yE<|uH (cAff a0 p c) ?_;intro b hb;refine uB [z0,vI 0] ?_;intro b1 hb1;refine wG [] []<|wW [8] rfl<|zZ<|yE<|yF 2 [] [14,15] rfl<|bE N λb2 hy N=>zAJ rfl rfl hy<|yI [] [17] rfl<|zJ ?_;refine wE N [hB b1 [z0,vI 0],hB b (cAff a0 p c)] (λsign=>[(1,vT s.l),(2,vI at0),(3,vP b 0),(6,vP b1 0),(8,vI sign)]) (λo0 aB=>?_) ?_
 ·have H:=iS I;refine yD aB ?_ ?_
  ·intro hc N;exact zK<|yI [] [8] rfl<|yN<|zT (ct N H)
  intro hc N;exact zU<|yN<|zT (ct N H)
 intro sign I0 le aN;have ⟨h,H⟩:=m2 le h H;refine zZ<|yA ?_;refine wE aN [hB b1 [z0,vI 0],hB b (cAff a0 p c)] (λt27=>[(1,vT s.l),(2,vI at0),(3,vP b 0),(6,vP b1 0),(8,vI sign),(27,.bool t27)]) (λaM aA=>?_) ?_
 ·have H:=iS I0;refine zK<|yF 2 [] [18,19] rfl ?_;obtain⟨b3,ay,N⟩:=zB aA;refine zAJ rfl rfl ay<|yF 5 [] [22] rfl<|xW [22] N ?_ ?_
  ·intro aF N;exact wG [] [(27,vY)]<|yN<|zT (ct N H)
  intro aF N;exact yF 7 [] [23,24] rfl<|bE N λb4 aJ N=>zAJ rfl rfl aJ<|yI [] [27] rfl<|yN<|zT (ct N H)
 intro t27 aU af hMc1;have ⟨h,H⟩:=m2 af h H;refine zJ ?_;refine wE hMc1 [hB b1 [z0,vI 0],hB b (cAff a0 p c)] (λat01=>[(1,vT s.l),(2,vI at01),(3,vP b 0),(6,vP b1 0),(8,vI sign)]) (λo02 ho02=>?_) ?_
 ·have H:=iS aU;refine yD ho02 ?_ ?_
  ·intro bd N;exact zK<|yI [] [2] rfl<|yN<|zT (ct N H)
  intro bd N;exact zU<|yN<|zT (ct N H)
 intro at01 aQ aE hMc2;have ⟨h,H⟩:=m2 aE h H;refine xA<|yF 2 [] [31,32] rfl ?_;obtain⟨⟨y1,y2⟩,bb,N⟩:=zB hMc2;refine xO (zAi s at01 _ bb ) ?_;rintro bz ax v2 k2 aK - ⟨v0,v01,rfl,rfl,rfl,rfl⟩ -;have ⟨h,H⟩:=m2 aK h H;refine yI [] [9,10] rfl<|wW [11] rfl<|zZ<|yA ?_;refine wE N [hB b1 [z0,vI 0],hB b (cAff a0 p c)] (λt51=>[(1,vT s.l),(2,vI at01),(3,vP b 0),(6,vP b1 0),(8,vI sign),(9,vI y1),(10,vI y2),(11,vI y2),(51,.bool t51)]) (λo03 ho03=>?_) ?_
 ·have H:=iS bz;refine zK<|yF 4 [] [40] rfl<|xW [40] ho03 ?_ ?_
  ·intro bI N;refine yF 10 [] [46] rfl<|xW [46] N ?_ ?_
   ·intro bN N;exact yF 12 [] [47,48] rfl<|bE N λb5 bt N=>zAJ rfl rfl bt<|yI [] [51] rfl<|yN<|zT (ct N H)
   intro bN N;exact wG [] [(51,vF)]<|yN<|zT (ct N H)
  intro bI N;exact wG [] [(51,vF)]<|yN<|zT (ct N H)
 intro t51 bK bi hMc3;have ⟨h,H⟩:=m2 bi h H;refine zJ ?_;refine wE hMc3 [hB b1 [z0,vI 0],hB b (cAff a0 p c)] (λstar=>[(1,vT s.l),(2,vI at01),(3,vP b 0),(6,vP b1 0),(8,vI sign),(9,vI y1),(10,vI y2),(11,vI star)]) (λo04 ho04=>?_) ?_
 ·have H:=iS bK;refine yD ho04 ?_ ?_
  ·intro hc5 N;exact zK<|yI [] [11] rfl<|yN<|zT (ct N H)
  intro hc5 N;exact zU<|yN<|zT (ct N H)
 intro star bO bw hMc4;have ⟨h,H⟩:=m2 bw h H;refine xA<|yF 2 [] [54,55] rfl ?_;obtain⟨y3,bH,N⟩:=zB hMc4;refine jE (zGB s star _ bH ) ?_;intro I06 bD;have ⟨h,H⟩:=m2 bD h H;refine yI [] [12] rfl<|zZ<|bE N λl hy6 N=>wX [.x (λI' v hx=>∃b6,v=vS (some ⟨b6,0,none⟩) ([]:List Int) 0/\hx=[hO Int (vS (some ⟨b6,0,none⟩) ([]:List Int) 0) []]/\(RL I' [] ([]:List Int))),.p (vP b 0) [],.p (vS p a0.Coefs c) [1],.x (λI' v hx=>∃p1 c1 cs,v=vS p1 l c1/\hx=[hO Int (vS p1 l c1) cs]/\(RL I' cs l)),.p (vP b 1) [],.p (vI a0.Const) [1],.x (λI' v hx=>∃aV bj aC,v=vA [vS aV l bj,vI a0.Const]/\hx=[hO Int (vS aV l bj) aC]/\(RL I' aC l)),.x (λI' v hx=>∃b7,v=vP b7 0/\hx=[hB b7 [z0,vI 0]])] [[],[],[(1,false)],[(0,true),(2,false)],[],[(4,false)],[(3,true),(5,false)],[]] [hB b1 [z0,vI 0],hB b (cAff a0 p c)] [] [(6,true),(7,true)] (zX [0,1]) ?_ ?_
 ·refine Ox ?_<|Op<|Op<|Ox ?_<|Op<|Op<|Ox ?_<|Ox ?_<|On
  ·intro I1 hf af;refine dE []<|tU [] Int ?_;intro b6 hb2;have h4:RL I1 [] ([]:List Int):=rfl;exact yK [hO Int (vS (some ⟨b6,0,none⟩) ([]:List Int) 0) []] iR ⟨_,rfl,rfl,h4⟩
  ·rintro I1 hf af _ _ ⟨b6,rfl,rfl,h4⟩;refine yP [57,59] rfl ?_;have h:=h.mono af;obtain⟨aL,k0,k01⟩:=h;have h:SL I1 (vS p a0.Coefs c) a0.Coefs:=⟨_,k0,k01⟩;exact pC 3 1 0 rfl rfl rfl h4 (.inl k0) k01 hy6 λp1 c1 cs h5=>uW (ah:=(hO Int (vS p1 l c1) cs::hB b1 [z0,vI 0]::hB b (cAff a0 p c)::hf)) rfl<|yK [hO Int (vS p1 l c1) cs] iR ⟨_,_,_,rfl,rfl,h5⟩
  ·rintro I1 hf af _ _ ⟨p1,c1,cs,rfl,rfl,h5⟩;exact yP [60,62] rfl<|rS 7 [(63,vA [vS p1 l c1,vI a0.Const])]<|yK [hO Int (vS p1 l c1) cs] iR ⟨_,_,_,rfl,rfl,h5⟩
  intro I1 hf af;refine dE []<|uB [z0,vI 0] ?_;intro b7 hb3;exact yK [hB b7 [z0,vI 0]] iR ⟨_,rfl,rfl⟩
 rintro I07 le7 _ _ ⟨aV,bj,aC,rfl,rfl,h51⟩ _ _ ⟨b7,rfl,rfl⟩;refine yP [2,3,6,8,9,10,11,12,13,63] rfl ?_;have ⟨h,H⟩:=m2 le7 h H;refine xP 0 [vS aV l bj,vI a0.Const] rfl<|yC rfl<|zZ<|yA ?_;refine wE N [hB b7 [vS aV l bj,vI a0.Const],hO Int (vS aV l bj) aC,hB b1 [z0,vI 0],hB b (cAff a0 p c)] (λt75=>[(2,vI at01),(3,vP b 0),(6,vP b1 0),(8,vI sign),(9,vI y1),(10,vI y2),(11,vI star),(12,vI y3),(13,vP b7 0),(75,.bool t75)]) (λo05 ho05=>?_) ?_
 ·have H:=iS I07;refine zK<|yF 3 [] [66] rfl<|xW [66] ho05 ?_ ?_
  ·intro hc6 N;refine yF 7 [] [70] rfl<|xW [70] N ?_ ?_
   ·intro hc7 N;exact wG [] [(75,vY)]<|yN<|zT (ct N H)
   intro hc7 N;exact yI [] [75] rfl<|yN<|zT (ct N H)
  intro hc6 N;exact wG [] [(75,vF)]<|yN<|zT (ct N H)
 intro t75 I08 le8 hMc5;have ⟨h51,h⟩:=m2 le8 h51 h;refine zJ<|yD hMc5 ?_ ?_
 ·intro hc8 N;refine yA<|bE N λx hy7 N=>wX [.p (vP b7 0) [],.p (vS aV l bj) [0],.p (vI y3) [],.p (vP b7 0) [],.p (vS aV l bj) [0],.p (vI y3) [],.x (λI' v hx=>∃ad,v=.pointer (some ad)/\hx=[]/\(AtO (vS aV l bj) (Rp.sz Int) y3.toNat ad)/\((aC.drop (y3.toNat*Rp.sz Int)).take (Rp.sz Int)=[vI x])),.q (vI x),.p (vI sign) [],.p (vI y1) [],.p (vI (W (sign*y1))) [],.p (vI (W (x+(W (sign*y1))))) []] [[],[(0,false)],[],[],[(3,false)],[],[(4,false),(5,false)],[(6,false)],[],[],[(8,false),(9,false)],[(7,false),(10,false)]] [hB b7 [vS aV l bj,vI a0.Const],hO Int (vS aV l bj) aC,hB b1 [z0,vI 0],hB b (cAff a0 p c)] [] [(1,false),(2,false),(11,false)] (zX [0,1,2,3]) ?_ ?_
  ·refine Op<|Op<|Op<|Op<|Op<|Op<|Ox ?_<|Oq ?_<|Op<|Op<|Op<|Op<|On
   ·intro I1 hf af;refine yP [80,81] rfl ?_;have h51:=iM af h51;refine nA 1 rfl rfl rfl h51 hy7 ?_;intro ad bv ap bG al;obtain rfl:=al;exact yK [] iR ⟨_,rfl,rfl,ap,bG⟩
   rintro I1 hf af _ _ ⟨ad,rfl,rfl,ap,bG⟩;exact yP [82] rfl<|zCJ 1 0 ap bG [vI x] (vI x) rfl rfl<|yT iR
  intro I09 le9;refine yP [6,11,13,77,78,87] rfl ?_;have h51:=iM le9 h51;obtain⟨x1,hy8,N⟩:=zB N;refine nA 1 rfl rfl rfl h51 hy8 ?_;intro ad1 bM ar hcc1 az;obtain rfl:=az;obtain⟨l1,hy9,N⟩:=zB N;refine tW (c:=[vI (W (x+(W (sign*y1))))]) (x':=(W (x+(W (sign*y1))))) 1 0 rfl rfl rfl ar rfl rfl hcc1 (by kernel_rfl) (by kernel_rfl) (by kernel_rfl) h51 hy8 (by kernel_rfl) rfl ?_;rw[show l.set y3.toNat (W (x+(W (sign*y1))))=l1 from zC hy9];intro aO h6 hl0;refine oZ (m':=[(6,vP b1 0),(11,vI star),(13,vP b7 0),(77,vS aV l bj),(78,vI y3),(87,vI (W (x+(W (sign*y1)))))]) ⟨rfl,rfl,rfl,rfl,rfl,rfl,trivial⟩<|fX (ah:=[hB b7 [vS aV l1 bj,vI a0.Const],hO Int (vS aV l1 bj) aO,hB b1 [z0,vI 0],hB b (cAff a0 p c)]) (m':=[(6,vP b1 0),(11,vI star),(13,vP b7 0),(77,vS aV l1 bj),(78,vI y3),(87,vI (W (x+(W (sign*y1)))))]) (by first|rfl|simp only[vS,hl0,cr,cU,cW,cQ,cH,cI]) (by first|rfl|simp only[vS,hl0])<|yC rfl<|xA<|qA 3 [0] [(89,vA [vS aV l1 bj,vI a0.Const]),(91,vI (W (star+1)))]<|xP 2 [vS aV l1 bj,vI a0.Const] rfl<|yI [] [7] rfl<|xF<|zH<|xB 1 rfl ?_;intro bR le10 hl01;have h7:=SL.of_frozen hl01 le10 h6;obtain rfl:=zC N;exact xC ⟨_,_,(.cell 1 rfl rfl (by kernel_rfl) (.tmp rfl ResV.nil)),zO,⟨_,_,rfl,rfl,⟨_,rfl,(yL ⟨_,rfl,h7⟩)⟩,rfl⟩⟩
 intro hc8 N;refine zU<|zZ<|yG [94] rfl<|zJ<|yD N ?_ ?_
 ·intro hc9 N;refine yE<|qA 1 [3] [(95,vA (cAff a0 p c))]<|xP 2 (cAff a0 p c) rfl<|yI [] [7] rfl<|xF<|zH ?_;obtain rfl:=zC N;exact xC ⟨_,_,(.cell 2 rfl rfl (by kernel_rfl) (.tmp rfl ResV.nil)),zO,⟨_,_,rfl,rfl,⟨_,rfl,(yL ⟨_,rfl,h⟩)⟩,rfl⟩⟩
 intro hc9 N;refine zU<|xA<|yF 7 [0] [101,102] rfl<|xP 0 [vS aV l bj,vI (W (a0.Const+(W (sign*y1))))] rfl<|yC rfl<|xA<|qA 2 [0] [(103,vA [vS aV l bj,vI (W (a0.Const+(W (sign*y1))))]),(104,vI y2)]<|xP 2 [vS aV l bj,vI (W (a0.Const+(W (sign*y1))))] rfl<|yI [] [7] rfl<|xF<|xB 1 rfl ?_;intro bV le11 hl02;have h8:=SL.of_frozen hl02 le11 h51;obtain rfl:=zC N;exact xC ⟨_,_,(.cell 1 rfl rfl (by kernel_rfl) (.tmp rfl ResV.nil)),zO,⟨_,_,rfl,rfl,⟨_,rfl,(yL ⟨_,rfl,h8⟩)⟩,rfl⟩⟩
end Go.LN
