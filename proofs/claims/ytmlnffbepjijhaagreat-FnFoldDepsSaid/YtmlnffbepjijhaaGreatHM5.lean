/- Helper of the proof (see the last text). -/
import Derived.Test.YtmlnffbepjijhaaGreatHM4
set_option linter.unusedVariables false
set_option linter.unusedSimpArgs false
namespace Go.LN
open Go.Proofs Go.Proofs.Tryz
set_option maxRecDepth 20000
def sB (list:(List zD)) (a0:zJ) (ag:(List Int)) (i:Int) (n0:Int) (k0:Int):Option (Out Int (Int)):=do
 if (decide (k0<(a0.Subs.length:Int))) then
  let x2<-idx list i;if ((a0.Subs.length:Int) != (x2.Dims.length:Int)) then pure (.ret (-1))
  else
   let x3<-idx a0.Subs k0;let y1<-pS x3 ag;let t70<-(do
     if (decide (y1<0)) then pure true
     else
      let x4<-idx list i;let x5<-idx x4.Dims k0;pure (decide (y1>=x5))
       : Option Bool)
   if t70 then pure (.ret (-1))
   else
    let x6<-idx list i;let x7<-idx x6.Dims k0;sB list a0 ag i (W ((W (n0*x7))+y1)) (W (k0+1))
 else pure (.done n0)
 partial_fixpoint
theorem zFw (list:(List zD)) (a0:zJ) (ag:(List Int)) (i:Int):∀ (n0:Int) (k0:Int) (o:Out Int (Int)),sB list a0 ag i n0 k0=some o->∀ {B}{I0 I:Imm}{Q}{base:Int}{p c p1 c1 p2 c2}{b},I0.le I->(S4 I p list c)->(S4 I p2 ag c2)->(S4 I p1 a0.Subs c1)->NG Q->NO Q->(∀ I' n01,o=(.done n01)->I0.le I'->T 86 B Q (.exit 2) I' [] [(7,vI base),(9,vI n01)])->(∀ r I' ah m',o=(.ret r)->I0.le I'->RS Tryz.prog f151 B (yR  r) I' ah m'->T 86 B Q .ret I' ah m')->J Tryz.prog 86 B (nav (bodyOf f151) [1,1,0,1,0,0,1,0,0,1,1,0,1,0]) Q I [hB b (cAccess a0 p1 c1)] [(0,vS p list c),(2,vS p2 ag c2),(4,vP b 0),(7,vI base),(8,vI i),(9,vI n0),(10,vI k0)]:=by
 refine sB.partial_correctness list a0 ag i _ fun aJ ih n0 k0 o N B I0 I Q base p c p1 c1 p2 c2 b H h h2 h1 hg ho hx hr=>yZ hg ho<|yC<|yA<|yL [0] [37] rfl<|zK<|yE N ?_ ?_
 · intro bf N;refine zS<|zZ<|yH<|yC<|yC<|dV (by kernel_rfl) (by kernel_rfl)<|zAp 5 [0] [42,43,44] rfl<|bE N fun x2 bj N=>zCY rfl rfl h bj ?_;intro ad2 bR bq bu;obtain ⟨p5,c5,rfl,h6⟩:=wK bu;refine zAp 7 [] [46] rfl<|zB3 1 bq [vS p5 x2.Dims c5] (vS p5 x2.Dims c5) rfl<|zJk [] [49] rfl<|zK<|yE N ?_ ?_
   · intro bG N;exact yI [6] rfl<|xL<|zI<|zV<|zI<|zI<|hr _ _ _ _ (zE N).symm H ⟨_,_,(resT rfl),zN,⟨_,rfl,rfl,rfl⟩⟩
   intro bG N;refine zS<|yT<|yD 3 [0] [51,52] rfl<|bE N fun x3 bt N=>wA rfl rfl h1 bt ?_;intro ad3 ccs3 hat3 bI;obtain ⟨p6,c6,rfl,h7⟩:=yG bI;refine xP 0 hat3 (cAff x3 p6 c6) (vA (cAff x3 p6 c6)) rfl<|yD 6 [] [55] rfl<|bE N fun y1 bD N=>dL (zAB x3 ag _ bD h7 h2) ?_;intro aR ae;have ⟨h,h2,h1,H⟩:=m4 ae h h2 h1 H;refine yL [] [11] rfl<|zZ<|yC ?_;refine wU N [hB b (cAccess a0 p1 c1)] (fun t70=>[(0,vS p list c),(2,vS p2 ag c2),(4,vP b 0),(7,vI base),(8,vI i),(9,vI n0),(10,vI k0),(11,vI y1),(70,.bool t70)]) (fun o0 az=>?_) ?_
   · have H:=iS aR;refine zM<|yD 3 [] [59] rfl<|wD [59] az ?_ ?_
     · intro bN N;exact wT [] [(70,vY)]<|yQ<|zT (ct N H)
     intro bN N;refine yD 6 [] [60,61,62] rfl<|bE N fun x4 hy6 N=>wA rfl rfl h hy6 ?_;intro ad4 ccs4 hat4 hrep4;obtain ⟨p7,c7,rfl,h9⟩:=wK hrep4;refine yD 8 [] [64] rfl<|xP 1 hat4 [vS p7 x4.Dims c7] (vS p7 x4.Dims c7) rfl<|yD 10 [] [66] rfl<|bE N fun x5 hy7 N=>wA rfl rfl h9 hy7 ?_;intro ad5 ccs5 hat5 hrep5;obtain rfl:=hrep5;exact xP 0 hat5 [vI x5] (vI x5) rfl<|yL [] [70] rfl<|yQ<|zT (ct N H)
   intro t70 aV aB aT;have ⟨h,h2,h1,H⟩:=m4 aB h h2 h1 H;refine zK<|yE aT ?_ ?_
   · intro hc5 N;exact yI [6] rfl<|xL<|zI<|zV<|zI<|zI<|hr _ _ _ _ (zE N).symm H ⟨_,_,(resT rfl),zN,⟨_,rfl,rfl,rfl⟩⟩
   intro hc5 N;refine zS<|zK<|zM<|yD 3 [] [71,72,73] rfl<|bE N fun x6 hy8 N=>wA rfl rfl h hy8 ?_;intro ad6 ccs6 hat6 hrep6;obtain ⟨p8,c8,rfl,h10⟩:=wK hrep6;refine yD 5 [] [75] rfl<|xP 1 hat6 [vS p8 x6.Dims c8] (vS p8 x6.Dims c8) rfl<|yD 7 [] [77] rfl<|bE N fun x7 hy9 N=>wA rfl rfl h10 hy9 ?_;intro ad7 ccs7 hat7 hrep7;obtain rfl:=hrep7;exact xP 0 hat7 [vI x7] (vI x7) rfl<|yL [] [9] rfl<|zP<|zK<|zM<|yL [] [10] rfl<|yX<|mC<|ih (W ((W (n0*x7))+y1)) (W (k0+1)) _ N H h h2 h1 hg ho hx hr
 intro bf N;exact vC<|wH zN<|yQ<|hx _ _ (zE N).symm H
def sC (list:(List zD)) (a0:zJ) (ag:(List Int)) (base:Int) (i:Int):Option (Out Unit (Int)):=do
 if (decide (i<(list.length:Int))) then
  let x<-idx list i;if (!(x.Name.l==a0.Array.l)) then
   let x1<-idx list i;let y<-fK x1;sC list a0 ag (W (base+y)) (W (i+1))
  else
   match<-sB list a0 ag i 0 0 with
   | .ret r0=>pure (.ret r0)
   | .done n01 =>
    pure (.ret (W (base+n01)))
 else pure (.done ())
 partial_fixpoint
theorem zFx (list:(List zD)) (a0:zJ) (ag:(List Int)):∀ (base:Int) (i:Int) (o:Out Unit (Int)),sC list a0 ag base i=some o->∀ {B}{I0 I:Imm}{Q p c p1 c1 p2 c2}{b},I0.le I->(S4 I p list c)->(S4 I p2 ag c2)->(S4 I p1 a0.Subs c1)->NG Q->NO Q->(∀ I',o=(.done ())->I0.le I'->T 86 B Q (.exit 0) I' [] [])->(∀ r I' ah m',o=(.ret r)->I0.le I'->RS Tryz.prog f151 B (yR  r) I' ah m'->T 86 B Q .ret I' ah m')->J Tryz.prog 86 B (nav (bodyOf f151) [1,1,0,1,0]) Q I [hB b (cAccess a0 p1 c1)] [(0,vS p list c),(2,vS p2 ag c2),(4,vP b 0),(7,vI base),(8,vI i)]:=by
 refine sC.partial_correctness list a0 ag _ fun aJ ih base i o N B I0 I Q p c p1 c1 p2 c2 b H h h2 h1 hg ho hx hr=>yZ hg ho<|yC<|yI [15] rfl<|zK<|yE N ?_ ?_
 · intro hc N;refine zS<|zZ<|yH<|yC<|yC<|dV (by kernel_rfl) (by kernel_rfl)<|zAp 2 [] [18,19] rfl<|bE N fun x hy N=>zCY rfl rfl h hy ?_;intro ad aK ap al;obtain ⟨p3,c3,rfl,h3⟩:=wK al;refine zAp 4 [] [21] rfl<|zB3 0 ap [vT x.Name.l] (vT x.Name.l) rfl<|zJk [0] [25] rfl<|zK<|yE N ?_ ?_
   · intro aH N;refine yA<|yD 3 [] [26,27,28] rfl<|bE N fun x1 ax N=>wA rfl rfl h ax ?_;intro ad1 bo ay aA;obtain ⟨p4,c4,rfl,h4⟩:=wK aA;refine xP 0 ay (cArr x1 p4 c4) (vA (cArr x1 p4 c4)) rfl<|bE N fun y aE N=>dL (zIM x1 _ aE h4) ?_;intro I0 le;have ⟨h,h2,h1,H⟩:=m4 le h h2 h1 H;exact yL [] [7] rfl<|zK<|zHq<|dU<|zR<|zK<|zM<|yL [] [8] rfl<|yX<|mC<|ih (W (base+y)) (W (i+1)) _ N H h h2 h1 hg ho hx hr
   intro aH N;refine zS<|uJ [9] rfl<|zZ<|yI [10] rfl<|wQ<|pM [(0,vS p list c),(2,vS p2 ag c2),(4,vP b 0),(7,vI base),(8,vI i),(9,vI 0),(10,vI 0)] ?_;obtain ⟨aL,aC,aG⟩:=zB N;refine zFw list a0 ag i 0 0 aL aC iR h h2 h1 (fun _ _ _ h=>hg _ _ _ h) (fun _ _ h=>ho _ _ h) ?_ ?_
   · intro bv n01 heq1 aF;subst aL;have H:=H.trans aF;exact zR<|uJ [6] rfl<|xL<|zV<|zI<|zI<|hr _ _ _ _ (zE aG).symm H ⟨_,_,(resT rfl),zN,⟨_,rfl,rfl,rfl⟩⟩
   intro r0 I9 hs9 m9 aY le9 aZ;subst aY;exact zV<|zI<|zV<|zI<|zI<|hr _ _ _ _ (zE aG).symm (H.trans le9) aZ
 intro hc N;exact vC<|wH zN<|yQ<|hx _  (zE N).symm H
def jL (list:(List zD)) (a0:zJ) (ag:(List Int)):Option (Int):=do
 match<-sC list a0 ag 0 0 with
 | .ret r0=>pure r0
 | .done _ =>
  pure (-1)
theorem zDq:∀ list a0 ag r,jL list a0 ag=some r->∀ {I:Imm}{p c p1 c1 p2 c2},(S4 I p list c)->(S4 I p1 a0.Subs c1)->(S4 I p2 ag c2)->RT 151 [vS p list c,vA (cAccess a0 p1 c1),vS p2 ag c2] I [] (yR  r):=by
 intro list a0 ag r N I p c p1 c1 p2 c2 h h1 h2;unfold jL at N;refine yJ func151 fun B=>yA<|vD (cAccess a0 p1 c1) ?_;intro b hb;refine wT [] []<|uJ [7] rfl<|zZ<|yI [8] rfl<|wQ<|pM [(0,vS p list c),(2,vS p2 ag c2),(4,vP b 0),(7,vI 0),(8,vI 0)] ?_;obtain ⟨o02,ho02,hMl1⟩:=zB N;refine zFx list a0 ag 0 0 o02 ho02 iR h h2 h1 nG nO ?_ ?_
 · intro bH  heq2 aX;subst o02;refine zR<|uJ [6] rfl<|zK<|xF ?_;obtain rfl:=zE hMl1;exact vZ
 intro r0 I9 hs9 m9 aY le9 aZ;subst aY;refine zV<|zI ?_;obtain rfl:=zE hMl1;exact dB aZ
def zCB (r:(List Int)×Int×Bool):KT:=fun kk I' ah v=>
  ∃ v0 v1 v2,ah=[]/\v=tupV [v0,v1,v2]/\SL I' v0 r.1/\v1=.int .i64 r.2.1/\v2=.bool r.2.2
def sQ (list:(List zD)) (ag:(List Int)) (y:(List zJ)) (out:List Int) (i:Int):Option (Out (List Int) ((List Int)×Int×Bool)):=do
 if (decide (i<(y.length:Int))) then
  let x<-idx y i;let y1<-jL list x ag;if (decide (y1<0)) then pure (.ret (([]:List Int),0,false))
  else
   let au<-app 8 out ([y1]:List Int);sQ list ag y au (W (i+1))
 else pure (.done out)
 partial_fixpoint
theorem zFL (list:(List zD)) (ag:(List Int)) (y:(List zJ)):∀ (out:List Int) (i:Int) (o:Out (List Int) ((List Int)×Int×Bool)),sQ list ag y out i=some o->∀ {B}{I0 I:Imm}{Q}{s:zG}{p c p1 c1 p2 c2 p3 c3 p4 c4 p5 c5}{b}{p6 c6 cs p7 c7 aw},I0.le I->(S4 I p list c)->(S4 I p5 ag c5)->(RL I cs y)->(S4 I p1 s.Write.Subs c1)->(S4 I p2 s.Value.Index.Coefs c2)->(S4 I p3 s.Value.Read.Subs c3)->(S4 I p4 s.Value.Kids c4)->(RL I aw out)->NG Q->NO Q->(∀ I' am p8 c8 aU,o=(.done am)->I0.le I'->(RL I' aU am)->T 49 B Q (.exit 0) I' [hO Int (vS p8 am c8) aU,hB b (cStmt s p1 c1 p2 c2 p3 c3 p4 c4)] [(0,vS p list c),(2,vS p5 ag c5),(4,vP b 0),(9,vS p8 am c8)])->(∀ r I' ah m',o=(.ret r)->I0.le I'->RS Tryz.prog f110 B (zCB  r) I' ah m'->T 49 B Q .ret I' ah m')->J Tryz.prog 49 B (nav (bodyOf f110) [1,1,1,0,1,0]) Q I [hO zJ (vS p6 y c6) cs,hO Int (vS p7 out c7) aw,hB b (cStmt s p1 c1 p2 c2 p3 c3 p4 c4)] [(0,vS p list c),(2,vS p5 ag c5),(4,vP b 0),(9,vS p7 out c7),(10,vS p6 y c6),(11,vI i)]:=by
 refine sQ.partial_correctness list ag y _ fun aJ ih out i o N B I0 I Q s p c p1 c1 p2 c2 p3 c3 p4 c4 p5 c5 b p6 c6 cs p7 c7 aw H h h5 h8 h1 h2 h3 h4 h9 hg ho hx hr=>yZ hg ho<|yC<|yI [22] rfl<|zK<|yE N ?_ ?_
 · intro hc N;refine zS<|zZ<|yH<|yA<|yD 3 [] [25,26,27] rfl<|bE N fun x ax N=>jH 0 rfl rfl rfl h8 ax ?_;intro ad aK ap bJ al;obtain ⟨p9,c9,rfl,h11⟩:=tY al;refine zEV 0 0 ap bJ (cAccess x p9 c9) (vA (cAccess x p9 c9)) rfl rfl<|yD 6 [] [30] rfl<|bE N fun y1 aE N=>dL (zDq list x ag _ aE h h11 h5) ?_;intro aR ae;have ⟨h,h5,h9,h8,h1,h2⟩:=m6 ae h h5 h9 h8 h1 h2;have ⟨h3,h4,H⟩:=m3 ae h3 h4 H;refine yL [] [12] rfl<|zZ<|yI [33] rfl<|zK<|yE N ?_ ?_
   · intro aH N;refine yA<|tK [] Int ?_;intro b3 hb3;have h13:RL aR [] ([]:List Int):=rfl;refine yL [] [6,7,8] rfl<|xL<|zI<|zV<|zI<|zI<|xA 0 rfl ?_;intro aV aB hl0;have h14:=SL.of_frozen hl0 aB h13;have H:=H.trans aB;exact hr _ _ _ _ (zE N).symm H ⟨_,_,(.tmp rfl (resU rfl rfl)),zN,⟨_,_,_,rfl,rfl,h14,rfl,rfl⟩⟩
   intro aH N;refine zS<|zK<|zM<|yD 2 [] [35,36] rfl<|tK [vI y1] Int ?_;intro b4 hb4;have h15:RL aR [vI y1] ([y1]:List Int):=rI [y1];obtain ⟨au,bj,N⟩:=zB N;exact qA 3 1 2 rfl rfl rfl h9 (.inr ⟨0,rfl⟩) h15 bj fun aM aP aO h16=>tU (zY [1,2,3] (ah:=[hO zJ (vS p6 y c6) cs,hO Int (vS aM au aP) aO,hB b (cStmt s p1 c1 p2 c2 p3 c3 p4 c4)]))<|yL [] [9] rfl<|zP<|zK<|zM<|yL [] [11] rfl<|yX<|mC<|ih au (W (i+1)) _ N H h h5 h8 h1 h2 h3 h4 h16 hg ho hx hr
 intro hc N;exact vC<|wH (zW [1,2] rfl (by decide))<|yQ<|hx _ _ _ _ _ (zE N).symm H h9
def jU (list:(List zD)) (s:zG) (ag:(List Int)):Option ((List Int)×Int×Bool):=do
 let y<-qH ([]:List zJ) s.Value
 match<-sQ list ag y ([]:List Int) 0 with
 | .ret r0=>pure r0
 | .done am =>
  let y2<-jL list s.Write ag;if (decide (y2<0)) then pure (([]:List Int),0,false)
  else pure (am,y2,true)
theorem zHZ:∀ list s ag r,jU list s ag=some r->∀ {I:Imm}{p c p1 c1 p2 c2 p3 c3 p4 c4 p5 c5},(S4 I p list c)->(S4 I p1 s.Write.Subs c1)->(S4 I p2 s.Value.Index.Coefs c2)->(S4 I p3 s.Value.Read.Subs c3)->(S4 I p4 s.Value.Kids c4)->(S4 I p5 ag c5)->RT 110 [vS p list c,vA (cStmt s p1 c1 p2 c2 p3 c3 p4 c4),vS p5 ag c5] I [] (zCB  r):=by
 intro list s ag r N I p c p1 c1 p2 c2 p3 c3 p4 c4 p5 c5 h h1 h2 h3 h4 h5;unfold jU at N;refine yJ func110 fun B=>yA<|vD (cStmt s p1 c1 p2 c2 p3 c3 p4 c4) ?_;intro b hb;refine wT [] []<|yT<|tK [] Int ?_;intro b1 hb1;have h6:RL I [] ([]:List Int):=rfl;refine yL [] [9] rfl<|yT<|tK [] zJ ?_;intro b2 hb2;have h7:RL I [] ([]:List zJ):=rfl;refine vU 3 [2] [(17,vA (cExpr s.Value p2 c2 p3 c3 p4 c4))]<|bE N fun y hy N=>rC (zHY ([]:List zJ) s.Value _ hy h7 h2 h3 h4) rfl ?_;rintro I0 av v2 k2 le - ⟨p6,c6,cs,rfl,rfl,h8⟩ -;have ⟨h,h5,h6,h1,h2,h3⟩:=m6 le h h5 h6 h1 h2 h3;have h4:=h4.mono le;refine yL [] [10] rfl<|zZ<|yI [11] rfl<|wQ<|pM [(0,vS p list c),(2,vS p5 ag c5),(4,vP b 0),(9,vS (some ⟨b1,0,none⟩) ([]:List Int) 0),(10,vS p6 y c6),(11,vI 0)] ?_;obtain ⟨o0,az,aG⟩:=zB N;refine zFL list ag y ([]:List Int) 0 o0 az iR h h5 h8 h1 h2 h3 h4 h6 nG nO ?_ ?_
 · intro bv am p8 c8 aU heq aF h10;subst o0;have ⟨h,h5,h1⟩:=m3 aF h h5 h1;refine zR<|yT<|vU 4 [1] [(39,vS p list c),(41,vA (cAccess s.Write p1 c1)),(42,vS p5 ag c5)] ?_;obtain ⟨y2,bt,N⟩:=zB aG;refine dL (zDq list s.Write ag _ bt h h1 h5) ?_;intro bH aX;have h10:=iM aX h10;refine yL [] [13] rfl<|zZ<|yI [45] rfl<|zK<|yE N ?_ ?_
   · intro bf N;refine yA<|tK [] Int ?_;intro b5 hb5;have h18:RL bH [] ([]:List Int):=rfl;refine yL [] [6,7,8] rfl<|xL<|zI<|xA 0 rfl ?_;intro bO bi hl01;have h19:=SL.of_frozen hl01 bi h18;exact xO N (.tmp rfl (resU rfl rfl)) zN ⟨_,_,_,rfl,rfl,h19,rfl,rfl⟩
   intro bf N;refine zS<|uJ [6,7,8] rfl<|xL<|xA 0 rfl ?_;intro I06 bB hl02;have h20:=SL.of_frozen hl02 bB h10;exact xO N (.tmp rfl (resU rfl rfl)) zN ⟨_,_,_,rfl,rfl,h20,rfl,rfl⟩
 intro r0 I9 hs9 m9 aY le9 aZ;subst aY;refine zV<|zI ?_;obtain rfl:=zE aG;exact dB aZ
def sR (p:(List Int)) (i:Int):Option (Out Unit (Bool)):=do
 if (decide (i<(p.length:Int))) then
  let x<-idx p i;let y<-uX x 9999;if (!y) then pure (.ret false)
  else sR p (W (i+1))
 else pure (.done ())
 partial_fixpoint
theorem zFM (p:(List Int)):∀ (i:Int) (o:Out Unit (Bool)),sR p i=some o->∀ {B}{I0 I:Imm}{Q p1 c},I0.le I->(S4 I p1 p c)->NG Q->NO Q->(∀ I',o=(.done ())->I0.le I'->T 19 B Q (.exit 0) I' [] [(0,vS p1 p c)])->(∀ r I' ah m',o=(.ret r)->I0.le I'->RS Tryz.prog f111 B (zQ  r) I' ah m'->T 19 B Q .ret I' ah m')->J Tryz.prog 19 B (nav (bodyOf f111) [1,0,1,0]) Q I [] [(0,vS p1 p c),(3,vI i)]:=by
 refine sR.partial_correctness p _ fun aJ ih i o N B I0 I Q p1 c H h hg ho hx hr=>yZ hg ho<|yC<|yI [7] rfl<|zK<|yE N ?_ ?_
 · intro hc N;refine zS<|zZ<|yH<|yA<|yD 2 [] [10,11] rfl<|bE N fun x hy N=>wA rfl rfl h hy ?_;intro ad aK ap al;obtain rfl:=al;refine xP 0 ap [vI x] (vI x) rfl<|bE N fun y ax N=>vR (zAx x 9999 _ ax ) ?_;intro I0 le;have ⟨h,H⟩:=m2 le h H;refine yL [] [15] rfl<|zK<|yE N ?_ ?_
   · intro aH N;exact vK [(2,vF)]<|xL<|zV<|zI<|zI<|hr _ _ _ _ (zE N).symm H ⟨_,_,(resT rfl),zN,⟨_,rfl,rfl,rfl⟩⟩
   intro aH N;exact zS<|zP<|zK<|zM<|yL [] [3] rfl<|yX<|mC<|ih (W (i+1)) _ N H h hg ho hx hr
 intro hc N;exact vC<|yQ<|hx _  (zE N).symm H
def jV (p:(List Int)):Option (Bool):=do
 match<-sR p 0 with
 | .ret r0=>pure r0
 | .done _ =>
  pure (decide ((p.length:Int)<=4))
theorem zH0:∀ p r,jV p=some r->∀ {I:Imm}{p1 c},(S4 I p1 p c)->RT 111 [vS p1 p c] I [] (zQ  r):=by
 intro p r N I p1 c h;unfold jV at N;refine yJ func111 fun B=>vK []<|zZ<|yI [3] rfl<|wQ<|pM [(0,vS p1 p c),(3,vI 0)] ?_;obtain ⟨o0,az,aG⟩:=zB N;refine zFM p 0 o0 az iR h nG nO ?_ ?_
 · intro aR  heq ae;subst o0;refine zR<|uJ [2] rfl<|zK<|xF ?_;obtain rfl:=zE aG;exact vZ
 intro r0 I9 hs9 m9 aY le9 aZ;subst aY;refine zV<|zI ?_;obtain rfl:=zE aG;exact dB aZ
def fZ (r:Int×Bool):KT:=fun kk I' ah v=>
  ∃ v0 v1,ah=[]/\v=tupV [v0,v1]/\v0=.int .i64 r.1/\v1=.bool r.2
def sD (list:(List zD)) (part:zL) (y1:(List (List Int))) (i:Int) (k0:Int):Option (Out Unit (Int×Bool)):=do
 if (decide (k0<(y1.length:Int))) then
  let x1<-idx part.Body i;let x2<-idx y1 k0;let (y5,y6,y7)<-jU list x1 x2;let t80<-(do
    if (!y7) then pure true
    else
     let x3<-idx y1 k0;let y8<-jV x3;pure (!y8)
      : Option Bool)
  if t80 then pure (.ret (0,false))
  else sD list part y1 i (W (k0+1))
 else pure (.done ())
 partial_fixpoint
theorem zFy (list:(List zD)) (part:zL) (y1:(List (List Int))) (i:Int):∀ (k0:Int) (o:Out Unit (Int×Bool)),sD list part y1 i k0=some o->∀ {B}{I0 I:Imm}{Q p c p1 c1 p2 c2}{b}{p3 c3},I0.le I->(S4 I p list c)->(S4 I p3 y1 c3)->(S4 I p1 part.Nest c1)->(S4 I p2 part.Body c2)->NG Q->NO Q->(∀ I',o=(.done ())->I0.le I'->T 87 B Q (.exit 2) I' [hB b (cPart part p1 c1 p2 c2)] [(0,vS p list c),(3,vP b 0),(6,vS p3 y1 c3),(8,vI i)])->(∀ r I' ah m',o=(.ret r)->I0.le I'->RS Tryz.prog f69 B (fZ  r) I' ah m'->T 87 B Q .ret I' ah m')->J Tryz.prog 87 B (nav (bodyOf f69) [1,1,1,0,1,0,0,1,0,0,1,1,0]) Q I [hB b (cPart part p1 c1 p2 c2)] [(0,vS p list c),(3,vP b 0),(6,vS p3 y1 c3),(8,vI i),(9,vI k0)]:=by
 refine sD.partial_correctness list part y1 i _ fun aJ ih k0 o N B I0 I Q p c p1 c1 p2 c2 b p3 c3 H h h3 h1 h2 hg ho hx hr=>yZ hg ho<|yC<|yI [53] rfl<|zK<|yE N ?_ ?_
 · intro hc5 N;refine zS<|zZ<|yH<|yC ?_;obtain ⟨x1,bj,N⟩:=zB N;obtain ⟨x2,bt,N⟩:=zB N;obtain ⟨⟨y5,y6,y7⟩,bD,N⟩:=zB N;refine wV [.p (vS p list c) [],.p (vP b 1) [],.p (vS p2 part.Body c2) [0],.p (vI i) [],.x (ePStmt x1),.x (eVStmt x1),.p (vS p3 y1 c3) [],.p (vI k0) [],.x (fun I' v hx=>∃ ad2 bm aW,v=.pointer (some ad2)/\hx=[]/\(At I' ad2 [vS bm x2 aW])/\(S4 I' bm x2 aW)),.x (eS x2),.x (fun I' v hx=>∃ aS bc,v=.tuple ⟨[vS aS y5 bc,vI y6,.bool y7]⟩/\hx=[]/\(S4 I' aS y5 bc)),.x (fun I' v hx=>∃ p131 c131,v=.tuple ⟨[vS p131 y5 c131,vI y6,.bool y7]⟩/\hx=[]/\(S4 I' p131 y5 c131)),.x (eS y5),.q (vI y6),.q (.bool y7),.x (eS y5),.p (vI y6) []] [[],[],[(1,false)],[],[(2,false),(3,false)],[(4,false)],[],[],[(6,false),(7,false)],[(8,false)],[(0,false),(5,false),(9,false)],[(10,false)],[(11,false)],[(11,false)],[(11,false)],[(12,false)],[(13,false)]] [hB b (cPart part p1 c1 p2 c2)] [] [(14,false)] (zY [0]) ?_ ?_
   · refine O4<|Ox ?_<|Ox ?_<|O2<|Ox ?_<|Ox ?_<|Ox ?_<|Ox ?_<|Ox ?_<|Oq ?_<|Oq ?_<|Ox ?_<|Op<|On
     · intro I1 hf ae;refine xD [59,60] rfl ?_;have h2:=h2.mono ae;refine wA rfl rfl h2 bj ?_;intro ad1 bo ay aA;obtain ⟨p8,c8,p9,c9,aM,aP,aI,aQ,rfl,h10,h11,h12,h13⟩:=wI aA;exact yM [] iR ⟨_,_,_,_,_,_,_,_,_,rfl,rfl,ay,h10,h11,h12,h13⟩
     · rintro I1 hf ae _ _ ⟨ad1,p8,c8,p9,c9,aM,aP,aI,aQ,rfl,rfl,ay,h10,h11,h12,h13⟩;exact xD [61] rfl<|xP 0 ay (cStmt x1 p8 c8 p9 c9 aM aP aI aQ) (vA (cStmt x1 p8 c8 p9 c9 aM aP aI aQ)) rfl<|yM [] iR ⟨_,_,_,_,_,_,_,_,rfl,rfl,h10,h11,h12,h13⟩
     · intro I1 hf ae;refine xD [63,64] rfl ?_;have h3:=h3.mono ae;refine wA rfl rfl h3 bt ?_;intro ad2 bR bq bu;obtain ⟨v011,rfl,h14⟩:=bu;obtain ⟨bm,aW,rfl⟩:=h14.form;exact yM [] iR ⟨_,_,_,rfl,rfl,bq,h14⟩
     · rintro I1 hf ae _ _ ⟨ad2,bm,aW,rfl,rfl,bq,h14⟩;exact xD [65] rfl<|xP 0 bq [vS bm x2 aW] (vS bm x2 aW) rfl<|yM [] iR ⟨_,_,rfl,rfl,h14⟩
     · rintro I1 hf ae _ _ ⟨rfl,rfl⟩ _ _ ⟨p81,c81,p91,c91,p101,c101,p111,c111,rfl,rfl,h101,h111,h121,h131⟩ _ _ ⟨p121,c121,rfl,rfl,h141⟩;refine xD [57,62,66] rfl ?_;have H:=iS I1;have h:=h.mono ae;refine xJ (zHZ list x1 x2 _ bD h h101 h111 h121 h131 h141) ?_;rintro bH av v2 k2 aX - ⟨v012,v013,v014,rfl,rfl,h15,rfl,rfl⟩ -;have H:=H.trans aX;obtain ⟨aS,bc,rfl⟩:=h15.form;exact yM [] H ⟨_,_,rfl,rfl,h15⟩
     · rintro I1 hf ae _ _ ⟨aS,bc,rfl,rfl,h15⟩;exact xD [67] rfl<|mD 12 [(56,.tuple ⟨[vS aS y5 bc,vI y6,.bool y7]⟩)]<|yM [] iR ⟨_,_,rfl,rfl,h15⟩
     · rintro I1 hf ae _ _ ⟨p131,c131,rfl,rfl,h151⟩;exact xD [56] rfl<|mD 13 [(68,vS p131 y5 c131)]<|yM [] iR ⟨_,_,rfl,rfl,h151⟩
     · rintro I1 hf ae _ _ ⟨p131,c131,rfl,rfl,h151⟩;exact xD [56] rfl<|mD 14 [(69,vI y6)]<|xY iR
     · rintro I1 hf ae _ _ ⟨p131,c131,rfl,rfl,h151⟩;exact xD [56] rfl<|mD 15 [(70,.bool y7)]<|xY iR
     rintro I1 hf ae _ _ ⟨p1311,c1311,rfl,rfl,h1511⟩;exact xD [68] rfl<|mD 16 [(10,vS p1311 y5 c1311)]<|yM [] iR ⟨_,_,rfl,rfl,h1511⟩
   intro bO bi;refine xD [0,3,6,8,9,70] rfl ?_;have ⟨h,h3,h1,h2,H⟩:=m5 bi h h3 h1 h2 H;refine yL [] [12] rfl<|zK<|yC ?_;refine wU N [hB b (cPart part p1 c1 p2 c2)] (fun t80=>[(0,vS p list c),(3,vP b 0),(6,vS p3 y1 c3),(8,vI i),(9,vI k0),(80,.bool t80)]) (fun aL aC=>?_) ?_
   · have H:=iS bO;refine zM<|yD 3 [] [73] rfl<|wD [73] aC ?_ ?_
     · intro hc6 N;exact wT [] [(80,vY)]<|yQ<|zT (ct N H)
     intro hc6 N;refine yD 5 [] [74,75] rfl<|bE N fun x3 hy6 N=>wA rfl rfl h3 hy6 ?_;intro ad3 ccs3 hat3 bI;obtain ⟨v015,rfl,h18⟩:=bI;obtain ⟨p14,c14,rfl⟩:=h18.form;refine xP 0 hat3 [vS p14 x3 c14] (vS p14 x3 c14) rfl<|bE N fun y8 hy7 N=>vR (zH0 x3 _ hy7 h18) ?_;intro I07 bB;have H:=H.trans bB;exact yL [] [80] rfl<|yQ<|zT (ct N H)
   intro t80 I06 le7 hMc1;have ⟨h,h3,h1,h2,H⟩:=m5 le7 h h3 h1 h2 H;refine zK<|yE hMc1 ?_ ?_
   · intro hc7 N;exact yI [4,5] rfl<|xL<|zV<|zI<|zI<|hr _ _ _ _ (zE N).symm H ⟨_,_,(resU rfl rfl),zN,⟨_,_,rfl,rfl,rfl,rfl⟩⟩
   intro hc7 N;exact zS<|zP<|zK<|zM<|yL [] [9] rfl<|yX<|mC<|ih (W (k0+1)) _ N H h h3 h1 h2 hg ho hx hr
 intro hc5 N;exact vC<|yQ<|hx _  (zE N).symm H
def sE (list:(List zD)) (part:zL) (y1:(List (List Int))) (i:Int):Option (Out Unit (Int×Bool)):=do
 if (decide (i<(part.Body.length:Int))) then
  let x<-idx part.Body i;let y3<-rF x (part.Nest.length:Int);if (!y3) then pure (.ret (0,false))
  else
   match<-sD list part y1 i 0 with
   | .ret r0=>pure (.ret r0)
   | .done _ =>
    sE list part y1 (W (i+1))
 else pure (.done ())
 partial_fixpoint
theorem zFz (list:(List zD)) (part:zL) (y1:(List (List Int))):∀ (i:Int) (o:Out Unit (Int×Bool)),sE list part y1 i=some o->∀ {B}{I0 I:Imm}{Q p c p1 c1 p2 c2}{b}{p3 c3},I0.le I->(S4 I p list c)->(S4 I p3 y1 c3)->(S4 I p1 part.Nest c1)->(S4 I p2 part.Body c2)->NG Q->NO Q->(∀ I',o=(.done ())->I0.le I'->T 87 B Q (.exit 0) I' [hB b (cPart part p1 c1 p2 c2)] [(3,vP b 0),(6,vS p3 y1 c3)])->(∀ r I' ah m',o=(.ret r)->I0.le I'->RS Tryz.prog f69 B (fZ  r) I' ah m'->T 87 B Q .ret I' ah m')->J Tryz.prog 87 B (nav (bodyOf f69) [1,1,1,0,1,0]) Q I [hB b (cPart part p1 c1 p2 c2)] [(0,vS p list c),(3,vP b 0),(6,vS p3 y1 c3),(8,vI i)]:=by
 refine sE.partial_correctness list part y1 _ fun aJ ih i o N B I0 I Q p c p1 c1 p2 c2 b p3 c3 H h h3 h1 h2 hg ho hx hr=>yZ hg ho<|yC<|yA<|yL [0] [37] rfl<|zK<|yE N ?_ ?_
 · intro bG N;refine zS<|zZ<|yH<|yC<|yC ?_;obtain ⟨x,ax,N⟩:=zB N;obtain ⟨y3,aE,N⟩:=zB N;refine wV [.p (vP b 1) [],.p (vS p2 part.Body c2) [0],.p (vI i) [],.x (ePStmt x),.x (eVStmt x),.p (vP b 0) [],.p (vS p1 part.Nest c1) [0],.p (vI (part.Nest.length:Int)) [],.q (.bool y3),.p (.bool (!y3)) []] [[],[(0,false)],[],[(1,false),(2,false)],[(3,false)],[],[(5,false)],[(6,false)],[(4,false),(7,false)],[(8,false)]] [hB b (cPart part p1 c1 p2 c2)] [] [(9,false)] (zY [0]) ?_ ?_
   · refine O3<|Ox ?_<|Ox ?_<|O3<|Oq ?_<|Op<|On
     · intro I1 hf ae;refine xD [41,42] rfl ?_;have h2:=h2.mono ae;refine wA rfl rfl h2 ax ?_;intro ad aK ap al;obtain ⟨p4,c4,p5,c5,p6,c6,p7,c7,rfl,h5,h6,h7,h8⟩:=wI al;exact yM [] iR ⟨_,_,_,_,_,_,_,_,_,rfl,rfl,ap,h5,h6,h7,h8⟩
     · rintro I1 hf ae _ _ ⟨ad,p4,c4,p5,c5,p6,c6,p7,c7,rfl,rfl,ap,h5,h6,h7,h8⟩;exact xD [43] rfl<|xP 0 ap (cStmt x p4 c4 p5 c5 p6 c6 p7 c7) (vA (cStmt x p4 c4 p5 c5 p6 c6 p7 c7)) rfl<|yM [] iR ⟨_,_,_,_,_,_,_,_,rfl,rfl,h5,h6,h7,h8⟩
     rintro I1 hf ae _ _ ⟨p41,c41,p51,c51,p61,c61,p71,c71,rfl,rfl,h51,h61,h71,h81⟩;refine xD [44,47] rfl ?_;have H:=iS I1;refine vR (dP x (part.Nest.length:Int) _ aE h51 h61 h71 h81) ?_;intro aV aB;have H:=H.trans aB;exact xY H
   intro bv aF;refine xD [0,3,6,8,49] rfl ?_;have ⟨h,h3,h1,h2,H⟩:=m5 aF h h3 h1 h2 H;refine zU rfl<|zK<|yE N ?_ ?_
   · intro bN N;exact yI [4,5] rfl<|xL<|zI<|zV<|zI<|zI<|hr _ _ _ _ (zE N).symm H ⟨_,_,(resU rfl rfl),zN,⟨_,_,rfl,rfl,rfl,rfl⟩⟩
   intro bN N;refine zS<|uJ [9] rfl<|wQ<|pM [(0,vS p list c),(3,vP b 0),(6,vS p3 y1 c3),(8,vI i),(9,vI 0)] ?_;obtain ⟨o02,ho02,aG⟩:=zB N;refine zFy list part y1 i 0 o02 ho02 iR h h3 h1 h2 (fun _ _ _ h=>hg _ _ _ h) (fun _ _ h=>ho _ _ h) ?_ ?_
   · intro I08  heq2 le8;subst o02;have ⟨h,h3,h1,h2,H⟩:=m5 le8 h h3 h1 h2 H;exact zR<|zP<|zK<|zM<|yL [] [8] rfl<|yX<|mC<|ih (W (i+1)) _ aG H h h3 h1 h2 hg ho hx hr
   intro r0 I9 hs9 m9 aY le9 aZ;subst aY;exact zV<|zV<|zI<|zI<|hr _ _ _ _ (zE aG).symm (H.trans le9) aZ
 intro bG N;exact vC<|yQ<|hx _  (zE N).symm H
def kG (list:(List zD)) (part:zL):Option (Int×Bool):=do
 let (y1,y2)<-nD part.Nest;let t32<-(do
   if (!y2) then pure true
   else
    if (decide ((part.Body.length:Int)<1)) then pure true
    else
     pure (decide ((part.Body.length:Int)>4))
     : Option Bool)
 if t32 then pure (0,false)
 else
  match<-sE list part y1 0 with
  | .ret r0=>pure r0
  | .done _ =>
   pure ((W ((y1.length:Int)*(part.Body.length:Int))),true)
theorem zBf:∀ list part r,kG list part=some r->∀ {I:Imm}{p c p1 c1 p2 c2},(S4 I p list c)->(S4 I p1 part.Nest c1)->(S4 I p2 part.Body c2)->RT 69 [vS p list c,vA (cPart part p1 c1 p2 c2)] I [] (fZ  r):=by
 intro list part r N I p c p1 c1 p2 c2 h h1 h2;unfold kG at N;refine yJ func69 fun B=>?_;have H:=iS I;refine yA<|vD (cPart part p1 c1 p2 c2) ?_;intro b hb;refine wT [] []<|yT<|yD 2 [0] [15] rfl ?_;obtain ⟨⟨y1,y2⟩,hy,N⟩:=zB N;refine xJ (zFK part.Nest _ hy h1) ?_;rintro I0 av v2 k2 le - ⟨v0,v01,rfl,rfl,h3,rfl⟩ -;have ⟨h,h1,h2,H⟩:=m4 le h h1 h2 H;obtain ⟨p3,c3,rfl⟩:=h3.form;refine yL [] [6,7] rfl<|zZ<|yC ?_;refine wU N [hB b (cPart part p1 c1 p2 c2)] (fun t32=>[(0,vS p list c),(3,vP b 0),(6,vS p3 y1 c3),(32,.bool t32)]) (fun o0 az=>?_) ?_
 · have H:=iS I0;refine zM<|yD 3 [] [21] rfl<|wD [21] az ?_ ?_
   · intro hc N;exact wT [] [(32,vY)]<|yQ<|zT (ct N H)
   intro hc N;refine yD 9 [0] [27] rfl<|wD [27] N ?_ ?_
   · intro aH N;exact wT [] [(32,vY)]<|yQ<|zT (ct N H)
   intro aH N;exact yL [0] [32] rfl<|yQ<|zT (ct N H)
 intro t32 aR ae aT;have ⟨h,h3,h1,h2⟩:=m4 ae h h3 h1 h2;refine zK<|yE aT ?_ ?_
 · intro bf N;refine yI [4,5] rfl<|xL<|zI ?_;exact xO N (resU rfl rfl) zN ⟨_,_,rfl,rfl,rfl,rfl⟩
 intro bf N;refine zS<|zZ<|yI [8] rfl<|wQ<|pM [(0,vS p list c),(3,vP b 0),(6,vS p3 y1 c3),(8,vI 0)] ?_;obtain ⟨o03,ho03,hMl1⟩:=zB N;refine zFz list part y1 0 o03 ho03 iR h h3 h1 h2 nG nO ?_ ?_
 · intro I09  heq3 le9;subst o03;refine zR<|yT<|yL [0] [4,5] rfl<|zK<|xF ?_;exact xO hMl1 (resU rfl rfl) zN ⟨_,_,rfl,rfl,rfl,rfl⟩
 intro r0 I9 hs9 m9 aY le9 aZ;subst aY;refine zV<|zI ?_;obtain rfl:=zE hMl1;exact dB aZ
def vM (p:zH) (total:Int) (i:Int):Option (Out Int (Bool)):=do
 if (decide (i<(p.Parts.length:Int))) then
  let x<-idx p.Parts i;let (y2,y3)<-kG p.Arrays x;if (!y3) then pure (.ret false)
  else vM p (W (total+y2)) (W (i+1))
 else pure (.done total)
 partial_fixpoint
theorem zCc (p:zH):∀ (total:Int) (i:Int) (o:Out Int (Bool)),vM p total i=some o->∀ {B}{I0 I:Imm}{Q p1 c p2 c1}{b},I0.le I->(S4 I p1 p.Arrays c)->(S4 I p2 p.Parts c1)->NG Q->NO Q->(∀ I' total1,o=(.done total1)->I0.le I'->T 42 B Q (.exit 0) I' [] [(3,vI total1)])->(∀ r I' ah m',o=(.ret r)->I0.le I'->RS Tryz.prog f33 B (zQ  r) I' ah m'->T 42 B Q .ret I' ah m')->J Tryz.prog 42 B (nav (bodyOf f33) [1,1,1,0,1,0]) Q I [hB b (cProg p p1 c p2 c1)] [(1,vP b 0),(3,vI total),(4,vI i)]:=by
 refine vM.partial_correctness p _ fun aJ ih total i o N B I0 I Q p1 c p2 c1 b H h h1 hg ho hx hr=>yZ hg ho<|yC<|yA<|yL [0] [21] rfl<|zK<|yE N ?_ ?_
 · intro bf N;refine zS<|zZ<|yH<|yC ?_;obtain ⟨x,ax,N⟩:=zB N;obtain ⟨⟨y2,y3⟩,aE,N⟩:=zB N;refine wV [.p (vP b 0) [],.p (vS p1 p.Arrays c) [0],.p (vP b 1) [],.p (vS p2 p.Parts c1) [0],.p (vI i) [],.x (ePPart x),.x (eVPart x),.q (.tuple ⟨[vI y2,.bool y3]⟩),.p (.tuple ⟨[vI y2,.bool y3]⟩) [],.p (vI y2) [],.p (.bool y3) [],.p (vI y2) []] [[],[(0,false)],[],[(2,false)],[],[(3,false),(4,false)],[(5,false)],[(1,false),(6,false)],[(7,false)],[(8,false)],[(8,false)],[(9,false)]] [hB b (cProg p p1 c p2 c1)] [] [(10,false),(11,false)] (zY [0]) ?_ ?_
   · refine O4<|Op<|Ox ?_<|Ox ?_<|Oq ?_<|O4<|On
     · intro I1 hf ae;refine xD [28,29] rfl ?_;have h1:=h1.mono ae;refine wA rfl rfl h1 ax ?_;intro ad aK ap al;obtain ⟨p3,c2,p4,c3,rfl,h3,h4⟩:=wX al;exact yM [] iR ⟨_,_,_,_,_,rfl,rfl,ap,h3,h4⟩
     · rintro I1 hf ae _ _ ⟨ad,p3,c2,p4,c3,rfl,rfl,ap,h3,h4⟩;exact xD [30] rfl<|xP 0 ap (cPart x p3 c2 p4 c3) (vA (cPart x p3 c2 p4 c3)) rfl<|yM [] iR ⟨_,_,_,_,rfl,rfl,h3,h4⟩
     rintro I1 hf ae _ _ ⟨rfl,rfl⟩ _ _ ⟨p31,c21,p41,c31,rfl,rfl,h31,h41⟩;refine xD [26,31] rfl ?_;have H:=iS I1;have h:=h.mono ae;refine xJ (zBf p.Arrays x _ aE h h31 h41) ?_;rintro aV av v2 k2 aB - ⟨v03,v04,rfl,rfl,rfl,rfl⟩ -;have H:=H.trans aB;exact xY H
   intro bv aF;refine xD [1,3,4,5,34] rfl ?_;have ⟨h,h1,H⟩:=m3 aF h h1 H;refine yL [] [6] rfl<|zZ<|yI [36] rfl<|zK<|yE N ?_ ?_
   · intro bG N;exact vK [(2,vF)]<|xL<|zI<|zV<|zI<|zI<|hr _ _ _ _ (zE N).symm H ⟨_,_,(resT rfl),zN,⟨_,rfl,rfl,rfl⟩⟩
   intro bG N;exact zS<|zK<|zM<|yL [] [3] rfl<|zP<|zK<|zM<|yL [] [4] rfl<|yX<|mC<|ih (W (total+y2)) (W (i+1)) _ N H h h1 hg ho hx hr
 intro bf N;exact vC<|wH zN<|yQ<|hx _ _ (zE N).symm H
def uR (p:zH):Option (Bool):=do
 let t16<-(do
   let y<-kX p.Arrays;if (!y) then pure true
   else
    pure (decide ((p.Parts.length:Int)>4))
     : Option Bool)
 if t16 then pure false
 else
  match<-vM p 0 0 with
  | .ret r0=>pure r0
  | .done total1 =>
   pure (decide (total1<=120))
theorem gY:∀ p r,uR p=some r->∀ {I:Imm}{p1 c p2 c1},(S4 I p1 p.Arrays c)->(S4 I p2 p.Parts c1)->RT 33 [vA (cProg p p1 c p2 c1)] I [] (zQ  r):=by
 intro p r N I p1 c p2 c1 h h1;unfold uR at N;refine yJ func33 fun B=>?_;have H:=iS I;refine yA<|vD (cProg p p1 c p2 c1) ?_;intro b hb;refine wT [] []<|zZ<|yC ?_;refine wU N [hB b (cProg p p1 c p2 c1)] (fun t16=>[(1,vP b 0),(16,.bool t16)]) (fun o0 az=>?_) ?_
 · have H:=iS I;refine zM<|yD 2 [0] [8] rfl ?_;obtain ⟨y,hy,N⟩:=zB az;refine vR (zGl p.Arrays _ hy h) ?_;intro aR le;have H:=H.trans le;refine yD 5 [] [11] rfl<|wD [11] N ?_ ?_
   · intro hc N;exact wT [] [(16,vY)]<|yQ<|zT (ct N H)
   intro hc N;exact yL [0] [16] rfl<|yQ<|zT (ct N H)
 intro t16 I0 ae aT;have ⟨h,h1⟩:=m2 ae h h1;refine zK<|yE aT ?_ ?_
 · intro aH N;refine vK [(2,vF)]<|xL<|zI ?_;obtain rfl:=zE N;exact vZ
 intro aH N;refine zS<|uJ [3] rfl<|zZ<|yI [4] rfl<|wQ<|pM [(1,vP b 0),(3,vI 0),(4,vI 0)] ?_;obtain ⟨aL,aC,aG⟩:=zB N;refine zCc p 0 0 aL aC iR h h1 nG nO ?_ ?_
 · intro bH total1 heq1 aX;subst aL;refine zR<|uJ [2] rfl<|zK<|xF ?_;obtain rfl:=zE aG;exact vZ
 intro r0 I9 hs9 m9 aY le9 aZ;subst aY;refine zV<|zI ?_;obtain rfl:=zE aG;exact dB aZ
def zCd (r:(List Str)):KT:=fun kk I' ah v=>
  ∃ v0,ah=[]/\v=tupV [v0]/\SL I' v0 r
def mO (s:Str) (c:UInt8) (out:List Str) (from0:Int) (i:Int):Option (List Str):=do
 if (decide (i<=(s.l.length:Int))) then
  let t25<-(do
    if (i==(s.l.length:Int)) then pure true
    else
     let b1<-sidx s i;pure ((b1.toNat:Int)==(c.toNat:Int))
      : Option Bool)
  let (au,from01)<-(do
    if t25 then
     let s1<-sslc s from0 i;let bx<-app 16 out ([s1]:List Str);pure (bx,(W (i+1)))
    else
     pure (out,from0)
      : Option (List Str×Int))
  mO s c au from01 (W (i+1))
 else pure (id out)
 partial_fixpoint
theorem zGA (s:Str) (c:UInt8):∀ (out:List Str) (from0:Int) (i:Int) (o:List Str),mO s c out from0 i=some o->∀ {B}{I0 I:Imm}{Q p c1 cs},I0.le I->(RL I cs out)->NG Q->NO Q->(∀ I' am p1 c2 aw,o=am->I0.le I'->(RL I' aw am)->T 36 B Q (.exit 0) I' [hO Str (vS p1 am c2) aw] [(5,vS p1 am c2)])->J Tryz.prog 36 B (nav (bodyOf f133) [1,1,1,0,1,0]) Q I [hO Str (vS p out c1) cs] [(0,vT s.l),(1,.int .u8 (c.toNat:Int)),(5,vS p out c1),(6,vI from0),(7,vI i)]:=by
 refine mO.partial_correctness s c _ fun aJ ih out from0 i o N B I0 I Q p c1 cs H h1 hg ho hx=>yZ hg ho<|yC<|yI [12] rfl<|zK<|yE N ?_ ?_
 · intro hc N;refine zS<|zZ<|yH<|yC ?_;refine wU N [hO Str (vS p out c1) cs] (fun t25=>[(0,vT s.l),(1,.int .u8 (c.toNat:Int)),(5,vS p out c1),(6,vI from0),(7,vI i),(25,.bool t25)]) (fun o0 az=>?_) ?_
   · have H:=iS I;refine zM<|yD 5 [] [19] rfl<|wD [19] az ?_ ?_
     · intro aH N;exact wT [] [(25,vY)]<|yQ<|zT (ct N H)
     intro aH N;exact yD 7 [] [20,21] rfl<|bE N fun b1 hy N=>zBo rfl rfl hy<|yL [] [25] rfl<|yQ<|zT (ct N H)
   intro t25 I0 le aT;have ⟨h1,H⟩:=m2 le h1 H;refine zK ?_;obtain ⟨aL,aC,hMc1⟩:=zB aT;refine nT (fun I' ah m'=>∃ (au:List Str) (from01:Int) (p2:Option Addr) (c3:Nat) (aU:List Value),aL=(au,from01)/\I0.le I'/\(RL I' aU au)/\ah=[hO Str (vS p2 au c3) aU]/\m'=[(0,vT s.l),(1,.int .u8 (c.toNat:Int)),(5,vS p2 au c3),(6,vI from01),(7,vI i)]) ?_ ?_
   · have H:=iS I0;refine yE aC ?_ ?_
     · intro bf N;refine yA<|yD 4 [] [26,27,28,29] rfl<|bE N fun s1 ax N=>zIq rfl ax<|tK [vT s1.l] Str ?_;intro b2 hb1;have h4:RL I0 [vT s1.l] ([s1]:List Str):=rT [s1];obtain ⟨bx,aE,N⟩:=zB N;exact qA 9 1 1 rfl rfl rfl h1 (.inr ⟨0,rfl⟩) h4 aE fun p3 c4 aO h5=>tU (zY [1] (ah:=[hO Str (vS p3 bx c4) aO]))<|yL [] [5] rfl<|zK<|zM<|yL [] [6] rfl<|yQ<|zT ⟨_,_,_,_,_,(zE N).symm,H,h5,rfl,rfl⟩
     intro bf N;exact zS<|yQ<|zT ⟨_,_,_,_,_,(zE N).symm,H,h1,rfl,rfl⟩
   rintro aR av m2 ⟨au,from01,p2,c3,aU,heq1,ae,h3,rfl,rfl⟩;subst aL;have H:=H.trans ae;exact zP<|zK<|zM<|yL [] [7] rfl<|yX<|mC<|ih au from01 (W (i+1)) _ hMc1 H h3 hg ho hx
 intro hc N;exact vC<|yQ<|hx _ _ _ _ _ (zE N).symm H h1
def fL (s:Str) (c:UInt8):Option ((List Str)):=do
 let am<-mO s c ([]:List Str) 0 0;pure (id am)
theorem zBg:∀ s c r,fL s c=some r->∀ {I:Imm} ,RT 133 [vT s.l,.int .u8 (c.toNat:Int)] I [] (zCd  r):=by
 intro s c r N I;unfold fL at N;refine yJ func133 fun B=>vK []<|yT<|tK [] Str ?_;intro b hb;have h:RL I [] ([]:List Str):=rfl;refine yL [] [5] rfl<|uJ [6] rfl<|zZ<|yI [7] rfl<|wQ<|pM [(0,vT s.l),(1,.int .u8 (c.toNat:Int)),(5,vS (some ⟨b,0,none⟩) ([]:List Str) 0),(6,vI 0),(7,vI 0)] ?_;obtain ⟨o02,ho02,aG⟩:=zB N;refine zGA s c ([]:List Str) 0 0 o02 ho02 iR h nG nO ?_;intro aV am p1 c2 aw heq2 aB h2;subst o02;refine zR<|uJ [4] rfl<|xL<|xA 0 rfl ?_;intro bv aF hl0;have h6:=SL.of_frozen hl0 aF h2;exact xO aG (resT rfl) zN ⟨_,rfl,rfl,h6⟩
def oG (y:(List Str)) (out:List Str) (i:Int):Option (List Str):=do
 if (decide (i<(y.length:Int))) then
  let x<-idx y i;let au<-(do
    if (!(x.l==([]:List UInt8))) then
     let x1<-idx y i;let bx<-app 16 out ([x1]:List Str);pure (id bx)
    else
     pure (id out)
      : Option (List Str))
  oG y au (W (i+1))
 else pure (id out)
 partial_fixpoint
theorem zE6 (y:(List Str)):∀ (out:List Str) (i:Int) (o:List Str),oG y out i=some o->∀ {B}{I0 I:Imm}{Q p c p1 c1 cs},I0.le I->(S4 I p y c)->(RL I cs out)->NG Q->NO Q->(∀ I' am p2 c2 aw,o=am->I0.le I'->(RL I' aw am)->T 28 B Q (.exit 0) I' [hO Str (vS p2 am c2) aw] [(4,vS p2 am c2)])->J Tryz.prog 28 B (nav (bodyOf f165) [1,1,1,0,1,0]) Q I [hO Str (vS p1 out c1) cs] [(3,vS p y c),(4,vS p1 out c1),(5,vI i)]:=by
 refine oG.partial_correctness y _ fun aJ ih out i o N B I0 I Q p c p1 c1 cs H h h2 hg ho hx=>yZ hg ho<|yC<|yI [12] rfl<|zK<|yE N ?_ ?_
 · intro hc N;refine zS<|zZ<|yH<|yA<|yD 2 [] [15,16] rfl<|bE N fun x ax N=>wA rfl rfl h ax ?_;intro ad aK ap al;obtain rfl:=al;refine xP 0 ap [vT x.l] (vT x.l) rfl<|yL [] [19] rfl<|zK ?_;obtain ⟨o0,az,aT⟩:=zB N;refine nT (fun I' ah m'=>∃ (au:List Str) (p3:Option Addr) (c3:Nat) (aU:List Value),o0=au/\I.le I'/\(RL I' aU au)/\ah=[hO Str (vS p3 au c3) aU]/\m'=[(3,vS p y c),(4,vS p3 au c3),(5,vI i)]) ?_ ?_
   · have H:=iS I;refine yE az ?_ ?_
     · intro aH N;refine zM<|yD 3 [] [20,21,22] rfl<|bE N fun x1 aE N=>wA rfl rfl h aE ?_;intro ad1 bo ay aA;obtain rfl:=aA;refine xP 0 ay [vT x1.l] (vT x1.l) rfl<|tK [vT x1.l] Str ?_;intro b1 hb1;have h5:RL I [vT x1.l] ([x1]:List Str):=rT [x1];obtain ⟨bx,bj,N⟩:=zB N;exact qA 9 1 1 rfl rfl rfl h2 (.inr ⟨0,rfl⟩) h5 bj fun p4 c4 aO h6=>tU (zY [1] (ah:=[hO Str (vS p4 bx c4) aO]))<|yL [] [4] rfl<|yQ<|zT ⟨_,_,_,_,(zE N).symm,H,h6,rfl,rfl⟩
     intro aH N;exact zS<|yQ<|zT ⟨_,_,_,_,(zE N).symm,H,h2,rfl,rfl⟩
   rintro aR av m2 ⟨au,p3,c3,aU,heq,ae,h4,rfl,rfl⟩;subst o0;have ⟨h,H⟩:=m2 ae h H;exact zP<|zK<|zM<|yL [] [5] rfl<|yX<|mC<|ih au (W (i+1)) _ aT H h h4 hg ho hx
 intro hc N;exact vC<|yQ<|hx _ _ _ _ _ (zE N).symm H h2
def gO (s:Str):Option ((List Str)):=do
 let y<-fL s (32:UInt8);let am<-oG y ([]:List Str) 0;pure (id am)
theorem zCe:∀ s r,gO s=some r->∀ {I:Imm} ,RT 165 [vT s.l] I [] (zCd  r):=by
 intro s r N I;unfold gO at N;refine yJ func165 fun B=>vK []<|yT<|yD 1 [] [6] rfl<|bE N fun y hy N=>xJ (zBg s (32:UInt8) _ hy ) ?_;rintro I0 av v2 k2 le - ⟨v0,rfl,rfl,h⟩ -;obtain ⟨p,c,rfl⟩:=h.form;refine yL [] [3] rfl<|yT<|tK [] Str ?_;intro b hb;have h1:RL I0 [] ([]:List Str):=rfl;refine yL [] [4] rfl<|zZ<|yI [5] rfl<|wQ<|pM [(3,vS p y c),(4,vS (some ⟨b,0,none⟩) ([]:List Str) 0),(5,vI 0)] ?_;obtain ⟨aL,aC,aG⟩:=zB N;refine zE6 y ([]:List Str) 0 aL aC iR h h1 nG nO ?_;intro aV am p2 c2 aw heq1 aB h3;subst aL;refine zR<|uJ [2] rfl<|xL<|xA 0 rfl ?_;intro bv aF hl0;have h7:=SL.of_frozen hl0 aF h3;exact xO aG (resT rfl) zN ⟨_,rfl,rfl,h7⟩
def mP (s1:Str) (n0:Int) (i:Int):Option (Out Int (Int×Bool)):=do
 if (decide (i<(s1.l.length:Int))) then
  let t54<-(do
    let b2<-sidx s1 i;if (decide ((b2.toNat:Int)<48)) then pure true
    else
     let b3<-sidx s1 i;pure (decide ((b3.toNat:Int)>57))
      : Option Bool)
  if t54 then pure (.ret (0,false))
  else
   let b4<-sidx s1 i;mP s1 (W ((W (n0*10))+(W (IntKind.u8.wrap ((b4.toNat:Int) - 48))))) (W (i+1))
 else pure (.done n0)
 partial_fixpoint
theorem zGB (s1:Str):∀ (n0:Int) (i:Int) (o:Out Int (Int×Bool)),mP s1 n0 i=some o->∀ {B}{I0 I:Imm}{Q}{neg:Bool} ,I0.le I->NG Q->NO Q->(∀ I' n01,o=(.done n01)->I0.le I'->T 67 B Q (.exit 0) I' [] [(4,.bool neg),(5,vI n01)])->(∀ r I' ah m',o=(.ret r)->I0.le I'->RS Tryz.prog f187 B (fZ  r) I' ah m'->T 67 B Q .ret I' ah m')->J Tryz.prog 67 B (nav (bodyOf f187) [1,1,1,1,1,0,1,0]) Q I [] [(0,vT s1.l),(4,.bool neg),(5,vI n0),(6,vI i)]:=by
 refine mP.partial_correctness s1 _ fun aJ ih n0 i o N B I0 I Q neg H hg ho hx hr=>yZ hg ho<|yC<|yI [42] rfl<|zK<|yE N ?_ ?_
 · intro hc7 N;refine zS<|zZ<|yH<|yC<|yC ?_;refine wU N [] (fun t54=>[(0,vT s1.l),(4,.bool neg),(5,vI n0),(6,vI i),(54,.bool t54)]) (fun o03 ho03=>?_) ?_
   · have H:=iS I;refine zM<|yD 2 [] [45,46] rfl ?_;obtain ⟨b2,bj,N⟩:=zB ho03;refine zBo rfl rfl bj<|yD 5 [] [49] rfl<|wD [49] N ?_ ?_
     · intro hc8 N;exact wT [] [(54,vY)]<|yQ<|zT (ct N H)
     intro hc8 N;exact yD 7 [] [50,51] rfl<|bE N fun b3 bt N=>zBo rfl rfl bt<|yL [] [54] rfl<|yQ<|zT (ct N H)
   intro t54 bv aF hMc3;have H:=H.trans aF;refine zK<|yE hMc3 ?_ ?_
   · intro hc9 N;exact yI [2,3] rfl<|xL<|zI<|zV<|zI<|zI<|hr _ _ _ _ (zE N).symm H ⟨_,_,(resU rfl rfl),zN,⟨_,_,rfl,rfl,rfl,rfl⟩⟩
   intro hc9 N;exact zS<|zK<|zM<|yD 4 [] [56,57,58] rfl<|bE N fun b4 bD N=>zBo rfl rfl bD<|yL [] [5] rfl<|zP<|zK<|zM<|yL [] [6] rfl<|yX<|mC<|ih (W ((W (n0*10))+(W (IntKind.u8.wrap ((b4.toNat:Int) - 48))))) (W (i+1)) _ N H  hg ho hx hr
 intro hc7 N;exact vC<|yQ<|hx _ _ (zE N).symm H
def dH (s:Str):Option (Int×Bool):=do
 let neg<-(do
   if (decide ((s.l.length:Int)>0)) then
    let b<-sidx s 0;pure ((b.toNat:Int)==45)
   else
    pure false
     : Option Bool)
 let s1<-(do
   if neg then
    let s2<-sslc s 1 (s.l.length:Int);pure (id s2)
   else
    pure (id s)
     : Option Str)
 let t38<-(do
   if ((s1.l.length:Int)==0) then pure true
   else
    if (decide ((s1.l.length:Int)>17)) then pure true
    else
     let b1<-sidx s1 0;if ((b1.toNat:Int)==48) then
      if (decide ((s1.l.length:Int)>1)) then pure true
      else pure (id neg)
     else pure false
     : Option Bool)
 if t38 then pure (0,false)
 else
  match<-mP s1 0 0 with
  | .ret r0=>pure r0
  | .done n01 =>
   let n02<-(do
     if neg then pure (W (0 - n01))
     else
      pure (id n01)
       : Option Int)
   pure (n02,true)
theorem zDr:∀ s r,dH s=some r->∀ {I:Imm} ,RT 187 [vT s.l] I [] (fZ  r):=by
 intro s r N I;unfold dH at N;refine yJ func187 fun B=>?_;have H:=iS I;refine vK []<|zK<|yC ?_;refine wU N [] (fun neg=>[(0,vT s.l),(4,.bool neg)]) (fun o0 az=>?_) ?_
 · have H:=iS I;refine zM<|yD 4 [] [10] rfl<|wD [10] az ?_ ?_
   · intro hc N;exact yD 5 [] [11] rfl<|bE N fun b hy N=>zBo rfl rfl hy<|yL [] [4] rfl<|yQ<|zT (ct N H)
   intro hc N;exact wT [] [(4,vF)]<|yQ<|zT (ct N H)
 intro neg I0 le aT;have H:=H.trans le;refine zZ<|yI [15] rfl<|zK ?_;refine wU aT [] (fun s1=>[(0,vT s1.l),(4,.bool neg)]) (fun aL aC=>?_) ?_
 · have H:=iS I0;refine yE aC ?_ ?_
   · intro aH N;exact zM<|yD 1 [] [16] rfl<|bE N fun s2 ax N=>zIq rfl ax<|yL [] [0] rfl<|yQ<|zT (ct N H)
   intro aH N;exact zS<|yQ<|zT (ct N H)
 intro s1 aR ae hMc1;have H:=H.trans ae;refine zZ<|yC ?_;refine wU hMc1 [] (fun t38=>[(0,vT s1.l),(4,.bool neg),(38,.bool t38)]) (fun o02 ho02=>?_) ?_
 · have H:=iS aR;refine zM<|yD 4 [] [21] rfl<|wD [21] ho02 ?_ ?_
   · intro bf N;exact wT [] [(38,vY)]<|yQ<|zT (ct N H)
   intro bf N;refine yD 9 [] [26] rfl<|wD [26] N ?_ ?_
   · intro bG N;exact wT [] [(38,vY)]<|yQ<|zT (ct N H)
   intro bG N;refine yD 10 [] [27] rfl<|bE N fun b1 aE N=>zBo rfl rfl aE<|yD 13 [] [30] rfl<|wD [30] N ?_ ?_
   · intro bN N;refine yD 17 [] [34] rfl<|wD [34] N ?_ ?_
     · intro hc5 N;exact wT [] [(38,vY)]<|yQ<|zT (ct N H)
     intro hc5 N;exact yL [] [38] rfl<|yQ<|zT (ct N H)
   intro bN N;exact wT [] [(38,vF)]<|yQ<|zT (ct N H)
 intro t38 aV aB hMc2;have H:=H.trans aB;refine zK<|yE hMc2 ?_ ?_
 · intro hc6 N;refine yI [2,3] rfl<|xL<|zI ?_;exact xO N (resU rfl rfl) zN ⟨_,_,rfl,rfl,rfl,rfl⟩
 intro hc6 N;refine zS<|uJ [5] rfl<|zZ<|yI [6] rfl<|wQ<|pM [(0,vT s1.l),(4,.bool neg),(5,vI 0),(6,vI 0)] ?_;obtain ⟨o04,ho04,aG⟩:=zB N;refine zGB s1 0 0 o04 ho04 iR  nG nO ?_ ?_
 · intro bH n01 heq4 aX;subst o04;have H:=H.trans aX;refine zR<|zZ<|yI [63] rfl<|zK ?_;refine wU aG [] (fun n02=>[(5,vI n02)]) (fun o05 ho05=>?_) ?_
   · have H:=iS bH;refine yE ho05 ?_ ?_
     · intro hc10 N;exact zM<|yL [] [5] rfl<|yQ<|zT (ct N H)
     intro hc10 N;exact zS<|yQ<|zT (ct N H)
   intro n02 bO bi hMc4;refine uJ [2,3] rfl<|zK<|xF ?_;exact xO hMc4 (resU rfl rfl) zN ⟨_,_,rfl,rfl,rfl,rfl⟩
 intro r0 I9 hs9 m9 aY le9 aZ;subst aY;refine zV<|zI ?_;obtain rfl:=zE aG;exact dB aZ
def zCC (r:zD):KT:=fun kk I' ah v=>
  ∃ v0,ah=[]/\v=tupV [v0]/\(∃ cs,v0=.agg ⟨cs⟩/\Rp.rep I' cs r)
def pJ (w0:(List Str)) (i:Int) (Name:Str) (Dims:List Int):Option ((Str×List Int)):=do
 let t15<-(do
   if (decide (i<(w0.length:Int))) then pure (decide (i<=4))
   else
    pure false
     : Option Bool)
 if t15 then
  if (i==1) then
   let x<-idx w0 1;pJ w0 (W (i+1)) x Dims
  else
   let x1<-idx w0 i;let (y1,y2)<-dH x1;let l<-app 8 Dims ([y1]:List Int);pJ w0 (W (i+1)) Name l
 else pure (Name,Dims)
 partial_fixpoint
theorem zFN (w0:(List Str)):∀ (i:Int) (Name:Str) (Dims:List Int) (o:(Str×List Int)),pJ w0 i Name Dims=some o->∀ {B}{I0 I:Imm}{Q p c}{b b1}{p1 c1 cs},I0.le I->(S4 I p w0 c)->(RL I cs Dims)->NG Q->NO Q->(∀ I' Name1 Dims1 p2 c2 aw,o=(Name1,Dims1)->I0.le I'->(RL I' aw Dims1)->T 39 B Q (.exit 0) I' [hO Int (vS p2 Dims1 c2) aw,hB b1 [vT Name1.l,vS p2 Dims1 c2],hB b [vT ([]),z0]] [(2,vP b 0),(3,vP b1 0)])->J Tryz.prog 39 B (nav (bodyOf f166) [1,1,0,1,0]) Q I [hO Int (vS p1 Dims c1) cs,hB b1 [vT Name.l,vS p1 Dims c1],hB b [vT ([]),z0]] [(0,vS p w0 c),(2,vP b 0),(3,vP b1 0),(4,vI i)]:=by
 refine pJ.partial_correctness w0 _ fun aJ ih i Name Dims o N B I0 I Q p c b b1 p1 c1 cs H h h2 hg ho hx=>yZ hg ho<|yC<|yC ?_;refine wU N [hO Int (vS p1 Dims c1) cs,hB b1 [vT Name.l,vS p1 Dims c1],hB b [vT ([]),z0]] (fun t15=>[(0,vS p w0 c),(2,vP b 0),(3,vP b1 0),(4,vI i),(15,.bool t15)]) (fun o0 az=>?_) ?_
 · have H:=iS I;refine zM<|yD 5 [] [12] rfl<|wD [12] az ?_ ?_
   · intro hc N;exact yL [] [15] rfl<|yQ<|zT (ct N H)
   intro hc N;exact wT [] [(15,vF)]<|yQ<|zT (ct N H)
 intro t15 I0 le aT;have ⟨h,h2,H⟩:=m3 le h h2 H;refine zK<|yE aT ?_ ?_
 · intro aH N;refine zS<|zZ<|yH<|yC<|yI [19] rfl<|zK<|yE N ?_ ?_
   · intro bf N;refine yA<|yD 1 [] [20] rfl<|bE N fun x hy N=>wA rfl rfl h hy ?_;intro ad aK ap al;obtain rfl:=al;exact xP 0 ap [vT x.l] (vT x.l) rfl<|yD 4 [] [23] rfl<|yS 1 [vT x.l,vS p1 Dims c1] rfl<|zU rfl<|zK<|zHq<|dU<|zR<|zK<|zM<|yL [] [4] rfl<|yX<|mC<|ih (W (i+1)) x Dims _ N H h h2 hg ho hx
   intro bf N;refine zS<|yT<|yD 2 [] [25,26] rfl<|bE N fun x1 ax N=>wA rfl rfl h ax ?_;intro ad1 bo ay aA;obtain rfl:=aA;refine xP 0 ay [vT x1.l] (vT x1.l) rfl ?_;obtain ⟨⟨y1,y2⟩,aE,N⟩:=zB N;refine xJ (zDr x1 _ aE ) ?_;rintro aR av v2 k2 ae - ⟨v0,v01,rfl,rfl,rfl,rfl⟩ -;have ⟨h,h2,H⟩:=m3 ae h h2 H;refine yL [] [5] rfl<|zK<|zM<|yD 3 [1] [33,34] rfl<|tK [vI y1] Int ?_;intro b2 hb2;have h6:RL aR [vI y1] ([y1]:List Int):=rI [y1];obtain ⟨l,bj,N⟩:=zB N;refine qA 3 1 1 rfl rfl rfl h2 (.inr ⟨0,rfl⟩) h6 bj ?_;intro p3 c3 aU h7;exact tU (zY [1,2,3] (ah:=[hO Int (vS p3 l c3) aU,hB b1 [vT Name.l,vS p1 Dims c1],hB b [vT ([]),z0]]))<|yD 6 [] [37] rfl<|yS 1 [vT Name.l,vS p3 l c3] rfl<|zU rfl<|zP<|zK<|zM<|yL [] [4] rfl<|yX<|mC<|ih (W (i+1)) Name l _ N H h h7 hg ho hx
 intro aH N;exact vC<|yQ<|hx _ _ _ _ _ _ (zE N).symm H h2
def zAC (w0:(List Str)):Option (zD):=do
 let (Name1,Dims1)<-pJ w0 1 (⟨[]⟩:Str) ([]:List Int);pure (zD.mk Name1 Dims1)
theorem zH1:∀ w0 r,zAC w0=some r->∀ {I:Imm}{p c},(S4 I p w0 c)->RT 166 [vS p w0 c] I [] (zCC  r):=by
 intro w0 r N I p c h;unfold zAC at N;refine yJ func166 fun B=>yA<|xU [vT ([]),z0] ?_;intro b hb;refine zU rfl<|yT<|yD 1 [] [7] rfl<|xU [vT ([]),z0] ?_;intro b1 hb1;refine yS 0 [vT ([]),z0] rfl<|zU rfl<|zZ<|yI [4] rfl<|wQ<|pM [(0,vS p w0 c),(2,vP b 0),(3,vP b1 0),(4,vI 1)]<|zAP Int fun h1=>?_;obtain ⟨aL,aC,aG⟩:=zB N;refine zFN w0 1 (⟨[]⟩:Str) ([]:List Int) aL aC iR h h1 nG nO ?_;intro aV Name1 Dims1 p2 c2 aw heq1 aB h3;subst aL;refine zR<|yT<|vU 1 [1] [(38,vA [vT Name1.l,vS p2 Dims1 c2])]<|yS 2 [vT Name1.l,vS p2 Dims1 c2] rfl<|zU rfl<|xL<|xA 0 rfl ?_;intro bv aF hl0;have h8:=SL.of_frozen hl0 aF h3;exact xO aG (resC 1 rfl rfl) zN ⟨_,rfl,rfl,⟨_,rfl,(uL ⟨_,rfl,h8⟩)⟩⟩
def oH (s:Str) (at0:Int) (end0:Int):Option (Int):=do
 let t31<-(do
   if (decide (end0<(s.l.length:Int))) then
    if (decide (end0<(W (at0+2)))) then
     let b<-sidx s end0;if (decide ((b.toNat:Int)>=48)) then
      let b1<-sidx s end0;pure (decide ((b1.toNat:Int)<=57))
     else pure false
    else pure false
   else
    pure false
     : Option Bool)
 if t31 then oH s at0 (W (end0+1))
 else pure (id end0)
 partial_fixpoint
theorem zE7 (s:Str) (at0:Int):∀ (end0:Int) (o:Int),oH s at0 end0=some o->∀ {B}{I0 I:Imm}{Q}  ,I0.le I->NG Q->NO Q->(∀ I' end01,o=end01->I0.le I'->T 47 B Q (.exit 0) I' [] [(0,vT s.l),(1,vI at0),(6,vI end01)])->J Tryz.prog 47 B (nav (bodyOf f203) [1,1,0,0]) Q I [] [(0,vT s.l),(1,vI at0),(6,vI end0)]:=by
 refine oH.partial_correctness s at0 _ fun aJ ih end0 o N B I0 I Q H hg ho hx=>yZ hg ho<|yC<|yC ?_;refine wU N [] (fun t31=>[(0,vT s.l),(1,vI at0),(6,vI end0),(31,.bool t31)]) (fun o0 az=>?_) ?_
 · have H:=iS I;refine zM<|yD 5 [] [14] rfl<|wD [14] az ?_ ?_
   · intro hc N;refine yD 11 [] [20] rfl<|wD [20] N ?_ ?_
     · intro aH N;refine yD 13 [] [21,22] rfl<|bE N fun b hy N=>zBo rfl rfl hy<|yD 17 [] [26] rfl<|wD [26] N ?_ ?_
       · intro bf N;exact yD 19 [] [27,28] rfl<|bE N fun b1 ax N=>zBo rfl rfl ax<|yL [] [31] rfl<|yQ<|zT (ct N H)
       intro bf N;exact wT [] [(31,vF)]<|yQ<|zT (ct N H)
     intro aH N;exact wT [] [(31,vF)]<|yQ<|zT (ct N H)
   intro hc N;exact wT [] [(31,vF)]<|yQ<|zT (ct N H)
 intro t31 I0 le aT;have H:=H.trans le;refine zK<|yE aT ?_ ?_
 · intro bG N;exact zS<|wQ<|zM<|yL [] [6] rfl<|zP<|yX<|mC<|ih (W (end0+1)) _ N H  hg ho hx
 intro bG N;exact vC<|yQ<|hx _ _ (zE N).symm H
def gQ (s:Str) (at0:Int):Option (Int×Int):=do
 let end01<-oH s at0 at0;let s1<-sslc s at0 end01;let (y1,y2)<-dH s1;if (!y2) then pure (1,at0)
 else pure (y1,end01)
theorem zCf:∀ s at0 r,gQ s at0=some r->∀ {I:Imm} ,RT 203 [vT s.l,vI at0] I [] (zAQ  r):=by
 intro s at0 r N I;unfold gQ at N;refine yJ func203 fun B=>vK []<|uJ [6] rfl<|zZ<|yH<|pM [(0,vT s.l),(1,vI at0),(6,vI at0)] ?_;obtain ⟨aL,aC,aG⟩:=zB N;refine zE7 s at0 at0 aL aC iR  nG nO ?_;intro aR end01 heq1 ae;subst aL;refine zR<|yT<|yD 3 [] [35,36,37] rfl ?_;obtain ⟨s1,aE,N⟩:=zB aG;refine zIq rfl aE ?_;obtain ⟨⟨y1,y2⟩,bj,N⟩:=zB N;refine xJ (zDr s1 _ bj ) ?_;rintro aV av v2 k2 aB - ⟨v0,v01,rfl,rfl,rfl,rfl⟩ -;refine yL [] [7,8] rfl<|zZ<|yI [43] rfl<|zK<|yE N ?_ ?_
 · intro bN N;refine yI [4,5] rfl<|xL<|zI ?_;exact xO N (resU rfl rfl) zN ⟨_,_,rfl,rfl,rfl,rfl⟩
 intro bN N;refine zS<|uJ [4,5] rfl<|zK<|xF ?_;exact xO N (resU rfl rfl) zN ⟨_,_,rfl,rfl,rfl,rfl⟩
def zAU (s:Str) (at0:Int):Option (Int):=do
 let t20<-(do
   if (decide (at0>=(s.l.length:Int))) then pure true
   else
    let b<-sidx s at0;if (decide ((b.toNat:Int)<105)) then pure true
    else
     let b1<-sidx s at0;pure (decide ((b1.toNat:Int)>108))
     : Option Bool)
 if t20 then pure (-1)
 else
  let b2<-sidx s at0;pure (W ((W (b2.toNat:Int)) - 105))
theorem zIN:∀ s at0 r,zAU s at0=some r->∀ {I:Imm} ,RT 216 [vT s.l,vI at0] I [] (yR  r):=by
 intro s at0 r N I;unfold zAU at N;refine yJ func216 fun B=>?_;have H:=iS I;refine vK []<|zZ<|yC ?_;refine wU N [] (fun t20=>[(0,vT s.l),(1,vI at0),(20,.bool t20)]) (fun o0 az=>?_) ?_
 · have H:=iS I;refine zM<|yD 5 [] [9] rfl<|wD [9] az ?_ ?_
   · intro hc N;exact wT [] [(20,vY)]<|yQ<|zT (ct N H)
   intro hc N;refine yD 7 [] [10,11] rfl<|bE N fun b hy N=>zBo rfl rfl hy<|yD 11 [] [15] rfl<|wD [15] N ?_ ?_
   · intro aH N;exact wT [] [(20,vY)]<|yQ<|zT (ct N H)
   intro aH N;exact yD 13 [] [16,17] rfl<|bE N fun b1 ax N=>zBo rfl rfl ax<|yL [] [20] rfl<|yQ<|zT (ct N H)
 intro t20 I0 le aT;refine zK<|yE aT ?_ ?_
 · intro bf N;refine yI [4] rfl<|xL<|zI ?_;obtain rfl:=zE N;exact vZ
 intro bf N;refine zS<|yT<|yD 2 [] [21,22] rfl<|bE N fun b2 aE N=>zBo rfl rfl aE<|yL [] [4] rfl<|zK<|xF ?_;obtain rfl:=zE N;exact vZ
def zGC (r:zA×Int):KT:=fun kk I' ah v=>
  ∃ v0 v1,ah=[]/\v=tupV [v0,v1]/\(∃ cs,v0=.agg ⟨cs⟩/\Rp.rep I' cs r.1)/\v1=.int .i64 r.2
def zAD (a0:zA) (s:Str) (at0:Int):Option (zA×Int):=do
 let b2<-sidx s at0;let sign<-(do
   if ((b2.toNat:Int)==45) then pure (-1)
   else
    pure (id 1)
     : Option Int)
 let t27<-(do
   let b3<-sidx s at0;if ((b3.toNat:Int)==45) then pure true
   else
    let b4<-sidx s at0;pure ((b4.toNat:Int)==43)
     : Option Bool)
 let at01<-(do
   if t27 then pure (W (at0+1))
   else
    pure (id at0)
     : Option Int)
 let (y1,y2)<-gQ s at01;let t51<-(do
   if (decide (y2>at01)) then
    if (decide (y2<(s.l.length:Int))) then
     let b5<-sidx s y2;pure ((b5.toNat:Int)==42)
    else pure false
   else
    pure false
     : Option Bool)
 let star<-(do
   if t51 then pure (W (y2+1))
   else
    pure (id y2)
     : Option Int)
 let y3<-zAU s star;let l<-app 8 ([]:List Int) a0.Coefs;let t75<-(do
   if (decide (y3>=0)) then
    if (decide (star>y2)) then pure true
    else pure (y2==at01)
   else
    pure false
     : Option Bool)
 if t75 then
  let x<-idx l y3;let x1<-idx l y3;let l1<-pure (l.set y3.toNat (W (x+(W (sign*y1)))));pure ((zA.mk l1 a0.Const),(W (star+1)))
 else
  if (y2==at01) then pure (a0,(-1))
  else pure ((zA.mk l (W (a0.Const+(W (sign*y1))))),y2)
theorem zH2:∀ a0 s at0 r,zAD a0 s at0=some r->∀ {I:Imm}{p c},(S4 I p a0.Coefs c)->RT 212 [vA (cAff a0 p c),vT s.l,vI at0] I [] (zGC  r):=by
 intro a0 s at0 r N I p c h;unfold zAD at N;refine yJ func212 fun B=>?_;have H:=iS I;refine yA<|vD (cAff a0 p c) ?_;intro b hb;refine xU [z0,vI 0] ?_;intro b1 hb1;refine wT [] []<|uJ [8] rfl<|zZ<|yA<|yD 2 [] [14,15] rfl<|bE N fun b2 hy N=>zBo rfl rfl hy<|yL [] [17] rfl<|zK ?_;refine wU N [hB b1 [z0,vI 0],hB b (cAff a0 p c)] (fun sign=>[(1,vT s.l),(2,vI at0),(3,vP b 0),(6,vP b1 0),(8,vI sign)]) (fun o0 az=>?_) ?_
 · have H:=iS I;refine yE az ?_ ?_
   · intro hc N;exact zM<|yL [] [8] rfl<|yQ<|zT (ct N H)
   intro hc N;exact zS<|yQ<|zT (ct N H)
 intro sign I0 le aT;have ⟨h,H⟩:=m2 le h H;refine zZ<|yC ?_;refine wU aT [hB b1 [z0,vI 0],hB b (cAff a0 p c)] (fun t27=>[(1,vT s.l),(2,vI at0),(3,vP b 0),(6,vP b1 0),(8,vI sign),(27,.bool t27)]) (fun aL aC=>?_) ?_
 · have H:=iS I0;refine zM<|yD 2 [] [18,19] rfl ?_;obtain ⟨b3,ax,N⟩:=zB aC;refine zBo rfl rfl ax<|yD 5 [] [22] rfl<|wD [22] N ?_ ?_
   · intro aH N;exact wT [] [(27,vY)]<|yQ<|zT (ct N H)
   intro aH N;exact yD 7 [] [23,24] rfl<|bE N fun b4 aE N=>zBo rfl rfl aE<|yL [] [27] rfl<|yQ<|zT (ct N H)
 intro t27 aR ae hMc1;have ⟨h,H⟩:=m2 ae h H;refine zK ?_;refine wU hMc1 [hB b1 [z0,vI 0],hB b (cAff a0 p c)] (fun at01=>[(1,vT s.l),(2,vI at01),(3,vP b 0),(6,vP b1 0),(8,vI sign)]) (fun o02 ho02=>?_) ?_
 · have H:=iS aR;refine yE ho02 ?_ ?_
   · intro bf N;exact zM<|yL [] [2] rfl<|yQ<|zT (ct N H)
   intro bf N;exact zS<|yQ<|zT (ct N H)
 intro at01 aV aB hMc2;have ⟨h,H⟩:=m2 aB h H;refine yT<|yD 2 [] [31,32] rfl ?_;obtain ⟨⟨y1,y2⟩,bj,N⟩:=zB hMc2;refine xJ (zCf s at01 _ bj ) ?_;rintro bv av v2 k2 aF - ⟨v0,v01,rfl,rfl,rfl,rfl⟩ -;have ⟨h,H⟩:=m2 aF h H;refine yL [] [9,10] rfl<|uJ [11] rfl<|zZ<|yC ?_;refine wU N [hB b1 [z0,vI 0],hB b (cAff a0 p c)] (fun t51=>[(1,vT s.l),(2,vI at01),(3,vP b 0),(6,vP b1 0),(8,vI sign),(9,vI y1),(10,vI y2),(11,vI y2),(51,.bool t51)]) (fun o03 ho03=>?_) ?_
 · have H:=iS bv;refine zM<|yD 4 [] [40] rfl<|wD [40] ho03 ?_ ?_
   · intro bG N;refine yD 10 [] [46] rfl<|wD [46] N ?_ ?_
     · intro bN N;exact yD 12 [] [47,48] rfl<|bE N fun b5 bt N=>zBo rfl rfl bt<|yL [] [51] rfl<|yQ<|zT (ct N H)
     intro bN N;exact wT [] [(51,vF)]<|yQ<|zT (ct N H)
   intro bG N;exact wT [] [(51,vF)]<|yQ<|zT (ct N H)
 intro t51 bH aX hMc3;have ⟨h,H⟩:=m2 aX h H;refine zK ?_;refine wU hMc3 [hB b1 [z0,vI 0],hB b (cAff a0 p c)] (fun star=>[(1,vT s.l),(2,vI at01),(3,vP b 0),(6,vP b1 0),(8,vI sign),(9,vI y1),(10,vI y2),(11,vI star)]) (fun o04 ho04=>?_) ?_
 · have H:=iS bH;refine yE ho04 ?_ ?_
   · intro hc5 N;exact zM<|yL [] [11] rfl<|yQ<|zT (ct N H)
   intro hc5 N;exact zS<|yQ<|zT (ct N H)
 intro star bO bi hMc4;have ⟨h,H⟩:=m2 bi h H;refine yT<|yD 2 [] [54,55] rfl ?_;obtain ⟨y3,bD,N⟩:=zB hMc4;refine dL (zIN s star _ bD ) ?_;intro I06 bB;have ⟨h,H⟩:=m2 bB h H;refine yL [] [12] rfl<|zZ<|bE N fun l hy6 N=>wV [.x (fun I' v hx=>∃ b6,v=vS (some ⟨b6,0,none⟩) ([]:List Int) 0/\hx=[hO Int (vS (some ⟨b6,0,none⟩) ([]:List Int) 0) []]/\(RL I' [] ([]:List Int))),.p (vP b 0) [],.p (vS p a0.Coefs c) [1],.x (fun I' v hx=>∃ p1 c1 cs,v=vS p1 l c1/\hx=[hO Int (vS p1 l c1) cs]/\(RL I' cs l)),.p (vP b 1) [],.p (vI a0.Const) [1],.x (fun I' v hx=>∃ aI aQ aw,v=vA [vS aI l aQ,vI a0.Const]/\hx=[hO Int (vS aI l aQ) aw]/\(RL I' aw l)),.x (fun I' v hx=>∃ b7,v=vP b7 0/\hx=[hB b7 [z0,vI 0]])] [[],[],[(1,false)],[(0,true),(2,false)],[],[(4,false)],[(3,true),(5,false)],[]] [hB b1 [z0,vI 0],hB b (cAff a0 p c)] [] [(6,true),(7,true)] (zY [0,1]) ?_ ?_
 · refine Ox ?_<|O2<|Ox ?_<|O2<|Ox ?_<|Ox ?_<|On
   · intro I1 hf ae;refine I_h []<|tK [] Int ?_;intro b6 hb2;have h4:RL I1 [] ([]:List Int):=rfl;exact yM [hO Int (vS (some ⟨b6,0,none⟩) ([]:List Int) 0) []] iR ⟨_,rfl,rfl,h4⟩
   · rintro I1 hf ae _ _ ⟨b6,rfl,rfl,h4⟩;refine xD [57,59] rfl ?_;have h:=h.mono ae;obtain ⟨aK,k0,k01⟩:=h;have h:SL I1 (vS p a0.Coefs c) a0.Coefs:=⟨_,k0,k01⟩;exact qA 3 1 0 rfl rfl rfl h4 (.inl k0) k01 hy6 fun p1 c1 cs h5=>vQ (ah:=(hO Int (vS p1 l c1) cs::hB b1 [z0,vI 0]::hB b (cAff a0 p c)::hf)) rfl<|yM [hO Int (vS p1 l c1) cs] iR ⟨_,_,_,rfl,rfl,h5⟩
   · rintro I1 hf ae _ _ ⟨p1,c1,cs,rfl,rfl,h5⟩;exact xD [60,62] rfl<|mD 7 [(63,vA [vS p1 l c1,vI a0.Const])]<|yM [hO Int (vS p1 l c1) cs] iR ⟨_,_,_,rfl,rfl,h5⟩
   intro I1 hf ae;refine I_h []<|xU [z0,vI 0] ?_;intro b7 hb3;exact yM [hB b7 [z0,vI 0]] iR ⟨_,rfl,rfl⟩
 rintro I07 le7 _ _ ⟨aI,aQ,aw,rfl,rfl,h51⟩ _ _ ⟨b7,rfl,rfl⟩;refine xD [2,3,6,8,9,10,11,12,13,63] rfl ?_;have ⟨h,H⟩:=m2 le7 h H;refine yS 0 [vS aI l aQ,vI a0.Const] rfl<|zU rfl<|zZ<|yC ?_;refine wU N [hB b7 [vS aI l aQ,vI a0.Const],hO Int (vS aI l aQ) aw,hB b1 [z0,vI 0],hB b (cAff a0 p c)] (fun t75=>[(2,vI at01),(3,vP b 0),(6,vP b1 0),(8,vI sign),(9,vI y1),(10,vI y2),(11,vI star),(12,vI y3),(13,vP b7 0),(75,.bool t75)]) (fun o05 ho05=>?_) ?_
 · have H:=iS I07;refine zM<|yD 3 [] [66] rfl<|wD [66] ho05 ?_ ?_
   · intro hc6 N;refine yD 7 [] [70] rfl<|wD [70] N ?_ ?_
     · intro hc7 N;exact wT [] [(75,vY)]<|yQ<|zT (ct N H)
     intro hc7 N;exact yL [] [75] rfl<|yQ<|zT (ct N H)
   intro hc6 N;exact wT [] [(75,vF)]<|yQ<|zT (ct N H)
 intro t75 I08 le8 hMc5;have ⟨h51,h⟩:=m2 le8 h51 h;refine zK<|yE hMc5 ?_ ?_
 · intro hc8 N;refine yC<|bE N fun x hy7 N=>wV [.p (vP b7 0) [],.p (vS aI l aQ) [0],.p (vI y3) [],.p (vP b7 0) [],.p (vS aI l aQ) [0],.p (vI y3) [],.x (fun I' v hx=>∃ ad,v=.pointer (some ad)/\hx=[]/\(AtO (vS aI l aQ) (Rp.sz Int) y3.toNat ad)/\((aw.drop (y3.toNat*Rp.sz Int)).take (Rp.sz Int)=[vI x])),.q (vI x),.p (vI sign) [],.p (vI y1) [],.p (vI (W (sign*y1))) [],.p (vI (W (x+(W (sign*y1))))) []] [[],[(0,false)],[],[],[(3,false)],[],[(4,false),(5,false)],[(6,false)],[],[],[(8,false),(9,false)],[(7,false),(10,false)]] [hB b7 [vS aI l aQ,vI a0.Const],hO Int (vS aI l aQ) aw,hB b1 [z0,vI 0],hB b (cAff a0 p c)] [] [(1,false),(2,false),(11,false)] (zY [0,1,2,3]) ?_ ?_
   · refine O4<|O2<|Ox ?_<|Oq ?_<|O4<|On
     · intro I1 hf ae;refine xD [80,81] rfl ?_;have h51:=iM ae h51;refine jH 1 rfl rfl rfl h51 hy7 ?_;intro ad bo ap bJ al;obtain rfl:=al;exact yM [] iR ⟨_,rfl,rfl,ap,bJ⟩
     rintro I1 hf ae _ _ ⟨ad,rfl,rfl,ap,bJ⟩;exact xD [82] rfl<|zEV 1 0 ap bJ [vI x] (vI x) rfl rfl<|xY iR
   intro I09 le9;refine xD [6,11,13,77,78,87] rfl ?_;have h51:=iM le9 h51;obtain ⟨x1,hy8,N⟩:=zB N;refine jH 1 rfl rfl rfl h51 hy8 ?_;intro ad1 bR ay hcc1 aA;obtain rfl:=aA;obtain ⟨l1,hy9,N⟩:=zB N;refine kS (c:=[vI (W (x+(W (sign*y1))))]) (x':=(W (x+(W (sign*y1))))) 1 0 rfl rfl rfl ay rfl rfl hcc1 (by kernel_rfl) (by kernel_rfl) (by kernel_rfl) h51 hy8 (by kernel_rfl) rfl ?_;rw [show l.set y3.toNat (W (x+(W (sign*y1))))=l1 from zE hy9];intro aU h6 hl0;rw [vE hl0];refine zU rfl<|yT<|vU 3 [0] [(89,vA [vS aI l1 aQ,vI a0.Const]),(91,vI (W (star+1)))]<|yS 2 [vS aI l1 aQ,vI a0.Const] rfl<|yL [] [7] rfl<|xL<|zI<|xA 1 rfl ?_;intro bL le10 hl01;have h7:=SL.of_frozen hl01 le10 h6;exact xO N (resE 1 rfl rfl rfl) zN ⟨_,_,rfl,rfl,⟨_,rfl,(yK ⟨_,rfl,h7⟩)⟩,rfl⟩
 intro hc8 N;refine zS<|zZ<|yI [94] rfl<|zK<|yE N ?_ ?_
 · intro hc9 N;refine yA<|vU 1 [3] [(95,vA (cAff a0 p c))]<|yS 2 (cAff a0 p c) rfl<|yL [] [7] rfl<|xL<|zI ?_;exact xO N (resE 2 rfl rfl rfl) zN ⟨_,_,rfl,rfl,⟨_,rfl,(yK ⟨_,rfl,h⟩)⟩,rfl⟩
 intro hc9 N;refine zS<|yT<|yD 7 [0] [101,102] rfl<|yS 0 [vS aI l aQ,vI (W (a0.Const+(W (sign*y1))))] rfl<|zU rfl<|yT<|vU 2 [0] [(103,vA [vS aI l aQ,vI (W (a0.Const+(W (sign*y1))))]),(104,vI y2)]<|yS 2 [vS aI l aQ,vI (W (a0.Const+(W (sign*y1))))] rfl<|yL [] [7] rfl<|xL<|xA 1 rfl ?_;intro bW le11 hl02;have h8:=SL.of_frozen hl02 le11 h51;exact xO N (resE 1 rfl rfl rfl) zN ⟨_,_,rfl,rfl,⟨_,rfl,(yK ⟨_,rfl,h8⟩)⟩,rfl⟩
def rK (r:Str):KT:=fun kk I' ah v=>
  ∃ v0,ah=[]/\v=tupV [v0]/\v0=.string ⟨⟨r.l⟩⟩
def mQ (n01:Int) (out:Str):Option ((Int×Str)):=do
 if (decide (n01>9)) then
  let s1<-cat (⟨([(u8 (W (48+(n01.tmod 10))))]:List UInt8)⟩:Str) out;mQ (W (n01.tdiv 10)) s1
 else pure (n01,out)
 partial_fixpoint
theorem zGD :∀ (n01:Int) (out:Str) (o:(Int×Str)),mQ n01 out=some o->∀ {B}{I0 I:Imm}{Q}  ,I0.le I->NG Q->NO Q->(∀ I' n02 am,o=(n02,am)->I0.le I'->T 31 B Q (.exit 0) I' [] [(0,vI n02),(3,vT am.l)])->J Tryz.prog 31 B (nav (bodyOf f169) [1,1,1,1,0,0]) Q I [] [(0,vI n01),(3,vT out.l)]:=by
 refine mQ.partial_correctness  _ fun aJ ih n01 out o N B I0 I Q H hg ho hx=>yZ hg ho<|yC<|yI [13] rfl<|zK<|yE N ?_ ?_
 · intro bf N;refine zS<|wQ<|yA<|yD 3 [] [16] rfl<|zOz (d:=17) (i:=(W (48+(n01.tmod 10)))) rfl (by kernel_rfl)<|tK [.int .u8 ((u8 (W (48+(n01.tmod 10)))).toNat:Int)] UInt8 ?_;intro b hb;have h1:RL I [.int .u8 ((u8 (W (48+(n01.tmod 10)))).toNat:Int)] ([(u8 (W (48+(n01.tmod 10))))]:List UInt8):=⟨[.int .u8 ((u8 (W (48+(n01.tmod 10)))).toNat:Int)],_,rfl,rfl,rfl,rfl⟩;exact zLh (l:=([(u8 (W (48+(n01.tmod 10))))]:List UInt8)) rfl rfl rfl rfl (by kernel_rfl) (by kernel_rfl) (.inr ⟨0,rfl⟩) h1<|yD 7 [] [20] rfl<|bE N fun s1 aE N=>eF rfl aE<|yL [] [3] rfl<|zK<|zM<|yL [] [0] rfl<|zP<|yX<|qY zN<|mC<|ih (W (n01.tdiv 10)) s1 _ N H  hg ho hx
 intro bf N;exact vC<|yQ<|hx _ _ _ (zE N).symm H
def pT (n0:Int):Option (Str):=do
 if (decide (n0<(-9223372036854775807))) then pure (⟨[45,57,50,50,51,51,55,50,48,51,54,56,53,52,55,55,53,56,48,56]⟩:Str)
 else
  if (decide (n0<0)) then
   let y<-pT (W (0 - n0));let s<-cat (⟨[45]⟩:Str) y;pure (id s)
  else
   let (n02,am)<-mQ n0 (⟨[]⟩:Str);let s2<-cat (⟨([(u8 (W (48+n02)))]:List UInt8)⟩:Str) am;pure (id s2)
 partial_fixpoint
theorem zAj:∀ n0 r,pT n0=some r->∀ {I:Imm} ,RT 169 [vI n0] I [] (rK  r):=by
 refine pT.partial_correctness _ fun F_spec_l16Dec ih_spec_l16Dec n0 r N I=>yJ func169 fun B=>vK []<|zZ<|yI [5] rfl<|zK<|yE N ?_ ?_
 · intro hc N;refine yI [2] rfl<|xL<|zI ?_;obtain rfl:=zE N;exact vZ
 intro hc N;refine zS<|zZ<|yI [7] rfl<|zK<|yE N ?_ ?_
 · intro aH N;refine yA<|yD 2 [] [9] rfl<|bE N fun y hy N=>xJ (ih_spec_l16Dec (W (0 - n0)) _ hy ) ?_;rintro I0 av v2 k2 le - ⟨v0,rfl,rfl,rfl⟩ -;obtain ⟨s,ax,N⟩:=zB N;refine eF rfl ax<|yL [] [2] rfl<|xL<|zI ?_;obtain rfl:=zE N;exact vZ
 intro aH N;refine zS<|uJ [3] rfl<|zZ<|yH<|pM [(0,vI n0),(3,vT ([]))] ?_;obtain ⟨o0,az,aG⟩:=zB N;refine zGD n0 (⟨[]⟩:Str) o0 az iR  nG nO ?_;intro aR n02 am heq ae;subst o0;refine zR<|yT<|yD 2 [] [25] rfl<|zOz (d:=26) (i:=(W (48+n02))) rfl (by kernel_rfl)<|tK [.int .u8 ((u8 (W (48+n02))).toNat:Int)] UInt8 ?_;intro b1 hb1;have h2:RL aR [.int .u8 ((u8 (W (48+n02))).toNat:Int)] ([(u8 (W (48+n02)))]:List UInt8):=⟨[.int .u8 ((u8 (W (48+n02))).toNat:Int)],_,rfl,rfl,rfl,rfl⟩;refine zLh (l:=([(u8 (W (48+n02)))]:List UInt8)) rfl rfl rfl rfl (by kernel_rfl) (by kernel_rfl) (.inr ⟨0,rfl⟩) h2<|yD 6 [] [29] rfl ?_;obtain ⟨s2,bj,N⟩:=zB aG;refine eF rfl bj<|yL [] [2] rfl<|zK<|xF ?_;obtain rfl:=zE N;exact vZ
def dI (n0:Int) (name:Str):Option (Str):=do
 let (n01,sign)<-(do
   if (decide (n0<0)) then pure ((W (0 - n0)),(⟨[45]⟩:Str))
   else
    pure (n0,(⟨[43]⟩:Str))
     : Option (Int×Str))
 if (name.l==([]:List UInt8)) then
  let y<-pT n01;let s<-cat sign y;pure (id s)
 else
  if (n01==1) then
   let s1<-cat sign name;pure (id s1)
  else
   let y1<-pT n01;let s2<-cat sign y1;let s3<-cat s2 (⟨[42]⟩:Str);let s4<-cat s3 name;pure (id s4)
theorem zDs:∀ n0 name r,dI n0 name=some r->∀ {I:Imm} ,RT 204 [vI n0,vT name.l] I [] (rK  r):=by
 intro n0 name r N I;unfold dI at N;refine yJ func204 fun B=>?_;have H:=iS I;refine vK []<|uJ [5] rfl<|zZ<|yI [7] rfl<|zK ?_;obtain ⟨o0,az,aT⟩:=zB N;refine nT (fun I' ah m'=>∃ (n01:Int) (sign:Str),o0=(n01,sign)/\I.le I'/\ah=[]/\m'=[(0,vI n01),(1,vT name.l),(5,vT sign.l)]) ?_ ?_
 · have H:=iS I;refine yE az ?_ ?_
   · intro hc N;exact yI [5] rfl<|zK<|zM<|yL [] [0] rfl<|yQ<|zT ⟨_,_,(zE N).symm,H,rfl,rfl⟩
   intro hc N;exact zS<|yQ<|zT ⟨_,_,(zE N).symm,H,rfl,rfl⟩
 rintro I0 av m2 ⟨n01,sign,heq,le,rfl,rfl⟩;subst o0;refine zZ<|yI [11] rfl<|zK<|yE aT ?_ ?_
 · intro aH N;refine yA<|yD 2 [] [12,13] rfl<|bE N fun y hy N=>xJ (zAj n01 _ hy ) ?_;rintro aR av v2 k2 ae - ⟨v0,rfl,rfl,rfl⟩ -;obtain ⟨s,ax,N⟩:=zB N;refine eF rfl ax<|yL [] [4] rfl<|xL<|zI ?_;obtain rfl:=zE N;exact vZ
 intro aH N;refine zS<|zZ<|yI [17] rfl<|zK<|yE N ?_ ?_
 · intro bf N;refine yA<|yD 2 [] [18,19] rfl<|bE N fun s1 aE N=>eF rfl aE<|yL [] [4] rfl<|xL<|zI ?_;obtain rfl:=zE N;exact vZ
 intro bf N;refine zS<|yT<|yD 2 [] [21,22] rfl<|bE N fun y1 bj N=>xJ (zAj n01 _ bj ) ?_;rintro aV av v2 k2 aB - ⟨v01,rfl,rfl,rfl⟩ -;obtain ⟨s2,bt,N⟩:=zB N;refine eF rfl bt<|bE N fun s3 bD N=>eF rfl bD<|yD 6 [] [26] rfl<|bE N fun s4 hy6 N=>eF rfl hy6<|yL [] [4] rfl<|zK<|xF ?_;obtain rfl:=zE N;exact vZ
def mR (a0:zA) (out:Str) (i:Int):Option (Str):=do
 if (decide (i<(a0.Coefs.length:Int))) then
  let x<-idx a0.Coefs i;let au<-(do
    if (x != 0) then
     let x1<-idx a0.Coefs i;let s<-sslc (⟨[105,106,107,108]⟩:Str) i (W (i+1));let y<-dI x1 s;let s1<-cat out y;pure (id s1)
    else
     pure (id out)
      : Option Str)
  mR a0 au (W (i+1))
 else pure (id out)
 partial_fixpoint
theorem zGE (a0:zA):∀ (out:Str) (i:Int) (o:Str),mR a0 out i=some o->∀ {B}{I0 I:Imm}{Q p c}{b},I0.le I->(S4 I p a0.Coefs c)->NG Q->NO Q->(∀ I' am,o=am->I0.le I'->T 46 B Q (.exit 0) I' [hB b (cAff a0 p c)] [(1,vP b 0),(3,vT am.l)])->J Tryz.prog 46 B (nav (bodyOf f193) [1,1,0,1,0]) Q I [hB b (cAff a0 p c)] [(1,vP b 0),(3,vT out.l),(4,vI i)]:=by
 refine mR.partial_correctness a0 _ fun aJ ih out i o N B I0 I Q p c b H h hg ho hx=>yZ hg ho<|yC<|yA<|yL [0] [9] rfl<|zK<|yE N ?_ ?_
 · intro hc N;refine zS<|zZ<|yH<|yA<|yD 3 [0] [13,14] rfl<|bE N fun x hy N=>wA rfl rfl h hy ?_;intro ad aK ap al;obtain rfl:=al;refine xP 0 ap [vI x] (vI x) rfl<|yL [] [17] rfl<|zK ?_;refine wU N [hB b (cAff a0 p c)] (fun au=>[(1,vP b 0),(3,vT au.l),(4,vI i)]) (fun o0 az=>?_) ?_
   · have H:=iS I;refine yE az ?_ ?_
     · intro aH N;obtain ⟨x1,ax,N⟩:=zB N;obtain ⟨s,aE,N⟩:=zB N;obtain ⟨y,bj,N⟩:=zB N;obtain ⟨s1,bt,N⟩:=zB N;refine wV [.p (vT out.l) [],.p (vP b 0) [],.p (vS p a0.Coefs c) [0],.p (vI i) [],.x (fun I' v hx=>∃ ad1,v=.pointer (some ad1)/\hx=[]/\(At I' ad1 [vI x1])),.q (vI x1),.p (vI i) [],.p (vI i) [],.p (vI (W (i+1))) [],.q (vT s.l),.q (vT y.l),.q (vT s1.l)] [[],[],[(1,false)],[],[(2,false),(3,false)],[(4,false)],[],[],[(7,false)],[(6,false),(8,false)],[(5,false),(9,false)],[(0,false),(10,false)]] [hB b (cAff a0 p c)] [] [(11,false)] (zY [0]) ?_ ?_
       · refine O4<|Ox ?_<|Oq ?_<|O3<|Oq ?_<|Oq ?_<|Oq ?_<|On
         · intro I1 hf ae;refine xD [20,21] rfl ?_;have h:=h.mono ae;refine wA rfl rfl h ax ?_;intro ad1 bo ay aA;obtain rfl:=aA;exact yM [] iR ⟨_,rfl,rfl,ay⟩
         · rintro I1 hf ae _ _ ⟨ad1,rfl,rfl,ay⟩;exact xD [22] rfl<|xP 0 ay [vI x1] (vI x1) rfl<|xY iR
         · intro I1 hf ae;exact xD [24,26] rfl<|zIq rfl aE<|xY iR
         · intro I1 hf ae;refine xD [23,27] rfl ?_;have H:=iS I1;refine xJ (zDs x1 s _ bj ) ?_;rintro aR av v2 k2 le - ⟨v0,rfl,rfl,rfl⟩ -;have H:=H.trans le;exact xY H
         intro I1 hf ae;exact xD [18,28] rfl<|eF rfl bt<|xY iR
       intro aV ae;refine xD [1,4,29] rfl ?_;have H:=H.trans ae;exact yL [] [3] rfl<|yQ<|zT (ct N H)
     intro aH N;exact zS<|yQ<|zT (ct N H)
   intro au I0 aB aT;have ⟨h,H⟩:=m2 aB h H;exact zP<|zK<|zM<|yL [] [4] rfl<|yX<|mC<|ih au (W (i+1)) _ aT H h hg ho hx
 intro hc N;exact vC<|yQ<|hx _ _ (zE N).symm H
def fM (a0:zA):Option (Str):=do
 let am<-mR a0 (⟨[]⟩:Str) 0;let bx<-(do
   if (a0.Const != 0) then
    let y1<-dI a0.Const (⟨[]⟩:Str);let s2<-cat am y1;pure (id s2)
   else
    pure (id am)
     : Option Str)
 if (bx.l==([]:List UInt8)) then pure (⟨[48]⟩:Str)
 else
  let s3<-sslc bx 0 1;if (s3.l==([43]:List UInt8)) then
   let s4<-sslc bx 1 (bx.l.length:Int);pure (id s4)
  else pure (id bx)
theorem zBh:∀ a0 r,fM a0=some r->∀ {I:Imm}{p c},(S4 I p a0.Coefs c)->RT 193 [vA (cAff a0 p c)] I [] (rK  r):=by
 intro a0 r N I p c h;unfold fM at N;refine yJ func193 fun B=>?_;have H:=iS I;refine yA<|vD (cAff a0 p c) ?_;intro b hb;refine wT [] []<|uJ [3] rfl<|zZ<|yI [4] rfl<|wQ<|pM [(1,vP b 0),(3,vT ([])),(4,vI 0)] ?_;obtain ⟨aL,aC,aG⟩:=zB N;refine zGE a0 (⟨[]⟩:Str) 0 aL aC iR h nG nO ?_;intro bv am heq1 aF;subst aL;have H:=H.trans aF;refine zR<|zZ<|yA<|yL [0] [32] rfl<|zK ?_;refine wU aG [] (fun bx=>[(3,vT bx.l)]) (fun o02 ho02=>?_) ?_
 · have H:=iS bv;refine yE ho02 ?_ ?_
   · intro bf N;refine zM<|yD 3 [0] [33,35] rfl<|bE N fun y1 bD N=>xJ (zDs a0.Const (⟨[]⟩:Str) _ bD ) ?_;rintro bO av v2 k2 aX - ⟨v01,rfl,rfl,rfl⟩ -;have H:=H.trans aX;obtain ⟨s2,hy6,N⟩:=zB N;exact eF rfl hy6<|yL [] [3] rfl<|wH zN<|yQ<|zT (ct N H)
   intro bf N;exact zS<|wH zN<|yQ<|zT (ct N H)
 intro bx bH bi hMc1;refine zZ<|yI [39] rfl<|zK<|yE hMc1 ?_ ?_
 · intro bG N;refine yI [2] rfl<|xL<|zI ?_;obtain rfl:=zE N;exact vZ
 intro bG N;refine zS<|zZ<|yA<|yD 1 [] [40] rfl<|bE N fun s3 hy7 N=>zIq rfl hy7<|yL [] [42] rfl<|zK<|yE N ?_ ?_
 · intro bN N;refine yA<|yD 1 [] [43] rfl<|bE N fun s4 hy8 N=>zIq rfl hy8<|yL [] [2] rfl<|xL<|zI ?_;obtain rfl:=zE N;exact vZ
 intro bN N;refine zS<|uJ [2] rfl<|zK<|xF ?_;obtain rfl:=zE N;exact vZ
def jB (a0:zA):Option (Str):=do
 let y<-tN a0;if (!y) then pure (⟨[]⟩:Str)
 else
  let y1<-fM a0;pure (id y1)
theorem zDt:∀ a0 r,jB a0=some r->∀ {I:Imm}{p c},(S4 I p a0.Coefs c)->RT 213 [vA (cAff a0 p c)] I [] (rK  r):=by
 intro a0 r N I p c h;unfold jB at N;refine yJ func213 fun B=>yA<|vD (cAff a0 p c) ?_;intro b hb;refine wT [] []<|zZ<|yA<|vU 1 [0] [(3,vA (cAff a0 p c))]<|bE N fun y hy N=>vR (fR a0 _ hy h) ?_;intro I0 le;have h:=h.mono le;refine yL [] [5] rfl<|zK<|yE N ?_ ?_
 · intro hc N;refine yI [2] rfl<|xL<|zI ?_;obtain rfl:=zE N;exact vZ
 intro hc N;refine zS<|yT<|vU 1 [0] [(6,vA (cAff a0 p c))]<|bE N fun y1 ax N=>xJ (zBh a0 _ ax h) ?_;rintro aR av v2 k2 ae - ⟨v01,rfl,rfl,rfl⟩ -;refine yL [] [2] rfl<|zK<|xF ?_;obtain rfl:=zE N;exact vZ
def zD2 (r:zA×Bool):KT:=fun kk I' ah v=>
  ∃ v0 v1,ah=[]/\v=tupV [v0,v1]/\(∃ cs,v0=.agg ⟨cs⟩/\Rp.rep I' cs r.1)/\v1=.bool r.2
def pP (bk:Str) (at0:Int) (x:zA):Option (zA):=do
 let t18<-(do
   if (decide (at0>=0)) then pure (decide (at0<(bk.l.length:Int)))
   else
    pure false
     : Option Bool)
 if t18 then
  let (y2,y3)<-zAD x bk at0;pP bk y3 y2
 else pure (id x)
 partial_fixpoint
theorem zDA (bk:Str):∀ (at0:Int) (x:zA) (o:zA),pP bk at0 x=some o->∀ {B}{I0 I:Imm}{Q}  {b b1}{p1 c1},I0.le I->(S4 I p1 x.Coefs c1)->NG Q->NO Q->(∀ I' x1 p2 c2,o=x1->I0.le I'->(S4 I' p2 x1.Coefs c2)->T 32 B Q (.exit 0) I' [hB b1 (cAff x1 p2 c2),hB b [z0,vI 0]] [(0,vT bk.l),(2,vP b 0),(4,vP b1 0)])->J Tryz.prog 32 B (nav (bodyOf f200) [1,1,1,1,0,0]) Q I [hB b1 (cAff x p1 c1),hB b [z0,vI 0]] [(0,vT bk.l),(2,vP b 0),(4,vP b1 0),(5,vI at0)]:=by
 refine pP.partial_correctness bk _ fun aJ ih at0 x o N B I0 I Q b b1 p1 c1 H h2 hg ho hx=>yZ hg ho<|yC<|yC ?_;refine wU N [hB b1 (cAff x p1 c1),hB b [z0,vI 0]] (fun t18=>[(0,vT bk.l),(2,vP b 0),(4,vP b1 0),(5,vI at0),(18,.bool t18)]) (fun o0 az=>?_) ?_
 · have H:=iS I;refine zM<|yD 3 [] [13] rfl<|wD [13] az ?_ ?_
   · intro aH N;exact yL [] [18] rfl<|yQ<|zT (ct N H)
   intro aH N;exact wT [] [(18,vF)]<|yQ<|zT (ct N H)
 intro t18 aV aB aT;have ⟨h2,H⟩:=m2 aB h2 H;refine zK<|yE aT ?_ ?_
 · intro bf N;refine zS<|wQ<|zM<|vU 3 [0] [(20,vA (cAff x p1 c1)),(21,vT bk.l),(22,vI at0)] ?_;obtain ⟨⟨y2,y3⟩,ax,N⟩:=zB N;refine xJ (zH2 x bk at0 _ ax h2) ?_;rintro bv av v2 k2 aF - ⟨v0,v01,rfl,rfl,⟨aw,rfl,h4⟩,rfl⟩ -;have H:=H.trans aF;obtain ⟨p3,c3,rfl,h6⟩:=yG h4;exact yD 7 [] [24,25] rfl<|yS 0 (cAff y2 p3 c3) rfl<|yL [] [5] rfl<|zP<|yX<|mC<|ih y3 y2 _ N H h6 hg ho hx
 intro bf N;exact vC<|yQ<|hx _ _ _ _ (zE N).symm H h2
def mS (bk:Str):Option (zA×Bool):=do
 let y<-kE;if (decide ((bk.l.length:Int)>40)) then pure ((zA.mk ([]:List Int) 0),false)
 else
  let x1<-pP bk 0 (zA.mk y.Coefs y.Const);let y4<-jB x1;if (!(y4.l==bk.l)) then pure ((zA.mk ([]:List Int) 0),false)
  else pure (x1,true)
theorem zBS:∀ bk r,mS bk=some r->∀ {I:Imm} ,RT 200 [vT bk.l] I [] (zD2  r):=by
 intro bk r N I;unfold mS at N;refine yJ func200 fun B=>yA<|xU [z0,vI 0] ?_;intro b hb;refine wT [] []<|yT<|bE N fun y hy N=>xJ (fY  _ hy ) ?_;rintro I0 av v2 k2 le - ⟨p,c,cs,rfl,rfl,h⟩ -;refine xU [z0,vI 0] ?_;intro b1 hb1;refine yS 0 (cAff y p c) rfl<|zU rfl<|zZ<|yI [9] rfl<|zK<|yE N ?_ ?_
 · intro hc N;refine yA<|yD 1 [] [10] rfl<|yS 2 [z0,vI 0] rfl<|wT [] [(3,vF)]<|xL<|zI ?_;exact xO N (resE 2 rfl rfl rfl) zN ⟨_,_,rfl,rfl,⟨_,rfl,(yK ⟨_,rfl,(SL.nil _)⟩)⟩,rfl⟩
 intro hc N;refine zS<|uJ [5] rfl<|zZ<|yH<|oJ 1 rfl ?_;intro aR ae hl0;have h1:=SL.of_frozen hl0 ae h;refine pM [(0,vT bk.l),(2,vP b 0),(4,vP b1 0),(5,vI 0)] ?_;obtain ⟨aL,aC,aG⟩:=zB N;refine zDA bk 0 (zA.mk y.Coefs y.Const) aL aC iR h1 nG nO ?_;intro bH x1 p2 c2 heq1 aX h3;subst aL;refine zR<|zZ<|yA<|vU 1 [0] [(26,vA (cAff x1 p2 c2))] ?_;obtain ⟨y4,aE,N⟩:=zB aG;refine xJ (zDt x1 _ aE h3) ?_;rintro bO av v2 k2 bi - ⟨v03,rfl,rfl,rfl⟩ -;have h3:=h3.mono bi;refine yL [] [29] rfl<|zK<|yE N ?_ ?_
 · intro bG N;refine yA<|yD 1 [] [30] rfl<|yS 1 [z0,vI 0] rfl<|wT [] [(3,vF)]<|xL<|zI ?_;exact xO N (resE 1 rfl rfl rfl) zN ⟨_,_,rfl,rfl,⟨_,rfl,(yK ⟨_,rfl,(SL.nil _)⟩)⟩,rfl⟩
 intro bG N;refine zS<|yT<|vU 1 [0] [(31,vA (cAff x1 p2 c2))]<|yS 1 (cAff x1 p2 c2) rfl<|wT [] [(3,vY)]<|zK<|xF ?_;exact xO N (resE 1 rfl rfl rfl) zN ⟨_,_,rfl,rfl,⟨_,rfl,(yK ⟨_,rfl,h3⟩)⟩,rfl⟩
def dM (r:(List zA)):KT:=fun kk I' ah v=>
  ∃ v0,ah=[]/\v=tupV [v0]/\SL I' v0 r
def rU (y:(List Str)) (out:List zA) (i:Int):Option (List zA):=do
 let t18<-(do
   if (decide (i<(y.length:Int))) then pure (decide (i<=2))
   else
    pure false
     : Option Bool)
 if t18 then
  let x<-idx y i;let (y2,y3)<-mS x;let au<-app 32 out ([y2]:List zA);rU y au (W (i+1))
 else pure (id out)
 partial_fixpoint
theorem zDB (y:(List Str)):∀ (out:List zA) (i:Int) (o:List zA),rU y out i=some o->∀ {B}{I0 I:Imm}{Q p c p1 c1 cs},I0.le I->(S4 I p y c)->(RL I cs out)->NG Q->NO Q->(∀ I' am p2 c2 aw,o=am->I0.le I'->(RL I' aw am)->T 34 B Q (.exit 0) I' [hO zA (vS p2 am c2) aw] [(3,vS p2 am c2)])->J Tryz.prog 34 B (nav (bodyOf f188) [1,1,1,0,1,0]) Q I [hO zA (vS p1 out c1) cs] [(3,vS p1 out c1),(4,vS p y c),(5,vI i)]:=by
 refine rU.partial_correctness y _ fun aJ ih out i o N B I0 I Q p c p1 c1 cs H h1 h2 hg ho hx=>yZ hg ho<|yC<|yC ?_;refine wU N [hO zA (vS p1 out c1) cs] (fun t18=>[(3,vS p1 out c1),(4,vS p y c),(5,vI i),(18,.bool t18)]) (fun o0 az=>?_) ?_
 · have H:=iS I;refine zM<|yD 5 [] [15] rfl<|wD [15] az ?_ ?_
   · intro hc N;exact yL [] [18] rfl<|yQ<|zT (ct N H)
   intro hc N;exact wT [] [(18,vF)]<|yQ<|zT (ct N H)
 intro t18 aR ae aT;have ⟨h2,h1,H⟩:=m3 ae h2 h1 H;refine zK<|yE aT ?_ ?_
 · intro aH N;refine zS<|zZ<|yH<|yA<|yD 2 [] [22,23] rfl<|bE N fun x ax N=>wA rfl rfl h1 ax ?_;intro ad aK ap al;obtain rfl:=al;refine xP 0 ap [vT x.l] (vT x.l) rfl ?_;obtain ⟨⟨y2,y3⟩,aE,N⟩:=zB N;refine xJ (zBS x _ aE ) ?_;rintro aV av v2 k2 aB - ⟨v01,v02,rfl,rfl,⟨aU,rfl,h4⟩,rfl⟩ -;have ⟨h2,h1,H⟩:=m3 aB h2 h1 H;obtain ⟨p3,c3,rfl,h6⟩:=yG h4;refine yD 8 [] [27,28] rfl<|xU [z0,vI 0] ?_;intro b1 hb1;refine yS 0 (cAff y2 p3 c3) rfl<|wT [] []<|zK<|zM<|vU 2 [0] [(29,vS p1 out c1),(30,vA (cAff y2 p3 c3))]<|tK (cAff y2 p3 c3) zA ?_;intro b2 hb2;have h7:RL aV (cAff y2 p3 c3) ([y2]:List zA):=⟨(cAff y2 p3 c3),_,rfl,rfl,(yK ⟨_,rfl,h6⟩),rfl⟩;obtain ⟨au,bj,N⟩:=zB N;exact qA 69 2 2 rfl rfl rfl h2 (.inr ⟨0,rfl⟩) h7 bj fun p4 c4 aO h8=>tU (zY [1,2] (ah:=[hB b1 (cAff y2 p3 c3),hO zA (vS p4 au c4) aO]))<|yL [] [3] rfl<|zP<|zK<|zM<|yL [] [5] rfl<|yX<|qY (zW [1] rfl (by decide))<|mC<|ih au (W (i+1)) _ N H h1 h8 hg ho hx
 intro aH N;exact vC<|yQ<|hx _ _ _ _ _ (zE N).symm H h2
def oI (bk:Str):Option ((List zA)):=do
 let y<-fL bk (44:UInt8);let am<-rU y ([]:List zA) 0;pure (id am)
theorem zAR:∀ bk r,oI bk=some r->∀ {I:Imm} ,RT 188 [vT bk.l] I [] (dM  r):=by
 intro bk r N I;unfold oI at N;refine yJ func188 fun B=>vK []<|yT<|tK [] zA ?_;intro b hb;have h:RL I [] ([]:List zA):=rfl;refine yL [] [3] rfl<|yT<|yD 1 [] [9] rfl<|bE N fun y hy N=>xJ (zBg bk (44:UInt8) _ hy ) ?_;rintro I0 av v2 k2 le - ⟨v0,rfl,rfl,h1⟩ -;have h:=iM le h;obtain ⟨p,c,rfl⟩:=h1.form;refine yL [] [4] rfl<|zZ<|yI [5] rfl<|wQ<|pM [(3,vS (some ⟨b,0,none⟩) ([]:List zA) 0),(4,vS p y c),(5,vI 0)] ?_;obtain ⟨aL,aC,aG⟩:=zB N;refine zDB y ([]:List zA) 0 aL aC iR h1 h nG nO ?_;intro bv am p2 c2 aw heq1 aF h3;subst aL;refine zR<|uJ [2] rfl<|xL<|xA 0 rfl ?_;intro bH aX hl0;have h9:=SL.of_frozen hl0 aX h3;exact xO aG (resT rfl) zN ⟨_,rfl,rfl,h9⟩
def zCg (r:zF):KT:=fun kk I' ah v=>
  ∃ v0,ah=[]/\v=tupV [v0]/\(∃ cs,v0=.agg ⟨cs⟩/\Rp.rep I' cs r)
def zAV (line:Str):Option (zF):=do
 let y<-gO line;if ((y.length:Int) != 3) then pure (zF.mk ([]:List zA) ([]:List zA))
 else
  let x<-idx y 1;let y1<-oI x;let x1<-idx y 2;let y2<-oI x1;pure (zF.mk y1 y2)
theorem zIO:∀ line r,zAV line=some r->∀ {I:Imm} ,RT 167 [vT line.l] I [] (zCg  r):=by
 intro line r N I;unfold zAV at N;refine yJ func167 fun B=>?_;have H:=iS I;refine yA<|xU zTwo ?_;intro b hb;refine zU rfl<|yT<|yD 1 [] [4] rfl<|bE N fun y hy N=>xJ (zCe line _ hy ) ?_;rintro I0 av v2 k2 le - ⟨v0,rfl,rfl,h⟩ -;have H:=H.trans le;obtain ⟨p,c,rfl⟩:=h.form;refine yL [] [3] rfl<|zZ<|yI [8] rfl<|zK<|yE N ?_ ?_
 · intro hc N;refine yA<|yD 1 [] [9] rfl<|eK 0 zTwo [hB b zTwo] rfl rfl rfl rfl<|zU rfl<|xL<|zI ?_;exact xO N (resC 0 rfl rfl) zN ⟨_,rfl,rfl,⟨_,rfl,(uM ⟨_,_,rfl,(SL.nil _),(SL.nil _)⟩)⟩⟩
 intro hc N;refine zS<|zK<|yC ?_;obtain ⟨x,ax,N⟩:=zB N;obtain ⟨y1,aE,N⟩:=zB N;obtain ⟨x1,bj,N⟩:=zB N;obtain ⟨y2,bt,N⟩:=zB N;refine wV [.p (vS p y c) [],.x (fun I' v hx=>∃ ad,v=.pointer (some ad)/\hx=[]/\(At I' ad [vT x.l])),.q (vT x.l),.x (eS y1),.p (vS p y c) [],.x (fun I' v hx=>∃ ad1,v=.pointer (some ad1)/\hx=[]/\(At I' ad1 [vT x1.l])),.q (vT x1.l),.x (eS y2),.x (fun I' v hx=>∃ aI aQ p21 c21,v=vA [vS aI y1 aQ,vS p21 y2 c21]/\hx=[]/\(S4 I' aI y1 aQ)/\(S4 I' p21 y2 c21))] [[],[(0,false)],[(1,false)],[(2,false)],[],[(4,false)],[(5,false)],[(6,false)],[(3,false),(7,false)]] [hB b zTwo] [] [(8,false)] (zY [0]) ?_ ?_
 · refine Op<|Ox ?_<|Oq ?_<|Ox ?_<|Op<|Ox ?_<|Oq ?_<|Ox ?_<|Ox ?_<|On
   · intro I1 hf ae;refine xD [10] rfl ?_;have h:=h.mono ae;refine wA rfl rfl h ax ?_;intro ad aK ap al;obtain rfl:=al;exact yM [] iR ⟨_,rfl,rfl,ap⟩
   · rintro I1 hf ae _ _ ⟨ad,rfl,rfl,ap⟩;exact xD [11] rfl<|xP 0 ap [vT x.l] (vT x.l) rfl<|xY iR
   · intro I1 hf ae;refine xD [12] rfl ?_;have H:=iS I1;refine xJ (zAR x _ aE ) ?_;rintro aR av v2 k2 ae - ⟨v01,rfl,rfl,h1⟩ -;have H:=H.trans ae;obtain ⟨p1,c1,rfl⟩:=h1.form;exact yM [] H ⟨_,_,rfl,rfl,h1⟩
   · intro I1 hf ae;refine xD [14] rfl ?_;have h:=h.mono ae;refine wA rfl rfl h bj ?_;intro ad1 bo ay aA;obtain rfl:=aA;exact yM [] iR ⟨_,rfl,rfl,ay⟩
   · rintro I1 hf ae _ _ ⟨ad1,rfl,rfl,ay⟩;exact xD [15] rfl<|xP 0 ay [vT x1.l] (vT x1.l) rfl<|xY iR
   · intro I1 hf ae;refine xD [16] rfl ?_;have H:=iS I1;refine xJ (zAR x1 _ bt ) ?_;rintro aV av v2 k2 aB - ⟨v02,rfl,rfl,h2⟩ -;have H:=H.trans aB;obtain ⟨p2,c2,rfl⟩:=h2.form;exact yM [] H ⟨_,_,rfl,rfl,h2⟩
   rintro I1 hf ae _ _ ⟨p1,c1,rfl,rfl,h1⟩ _ _ ⟨p2,c2,rfl,rfl,h2⟩;exact xD [13,17] rfl<|mD 9 [(18,vA [vS p1 y1 c1,vS p2 y2 c2])]<|yM [] iR ⟨_,_,_,_,rfl,rfl,h1,h2⟩
 rintro bv aF _ _ ⟨aI,aQ,p21,c21,rfl,rfl,h11,h21⟩;refine xD [2,18] rfl ?_;refine yS 0 [vS aI y1 aQ,vS p21 y2 c21] rfl<|zU rfl<|zK<|xF ?_;exact xO N (resC 0 rfl rfl) zN ⟨_,rfl,rfl,⟨_,rfl,(uM ⟨_,_,rfl,h11,h21⟩)⟩⟩
def nE (s:Str) (end0:UInt8) (i:Int):Option (Out Unit (Int)):=do
 if (decide (i<(s.l.length:Int))) then
  let b<-sidx s i;if ((b.toNat:Int)==(end0.toNat:Int)) then pure (.ret i)
  else nE s end0 (W (i+1))
 else pure (.done ())
 partial_fixpoint
theorem zFO (s:Str) (end0:UInt8):∀ (i:Int) (o:Out Unit (Int)),nE s end0 i=some o->∀ {B}{I0 I:Imm}{Q}  ,I0.le I->NG Q->NO Q->(∀ I',o=(.done ())->I0.le I'->T 21 B Q (.exit 0) I' [] [])->(∀ r I' ah m',o=(.ret r)->I0.le I'->RS Tryz.prog f201 B (yR  r) I' ah m'->T 21 B Q .ret I' ah m')->J Tryz.prog 21 B (nav (bodyOf f201) [1,0,1,0]) Q I [] [(0,vT s.l),(2,.int .u8 (end0.toNat:Int)),(7,vI i)]:=by
 refine nE.partial_correctness s end0 _ fun aJ ih i o N B I0 I Q H hg ho hx hr=>yZ hg ho<|yC<|yI [12] rfl<|zK<|yE N ?_ ?_
 · intro hc N;refine zS<|zZ<|yH<|yA<|yD 2 [] [15,16] rfl<|bE N fun b hy N=>zBo rfl rfl hy<|yL [] [19] rfl<|zK<|yE N ?_ ?_
   · intro aH N;exact yI [6] rfl<|xL<|zV<|zI<|zI<|hr _ _ _ _ (zE N).symm H ⟨_,_,(resT rfl),zN,⟨_,rfl,rfl,rfl⟩⟩
   intro aH N;exact zS<|zP<|zK<|zM<|yL [] [7] rfl<|yX<|mC<|ih (W (i+1)) _ N H  hg ho hx hr
 intro hc N;exact vC<|yQ<|hx _  (zE N).symm H
def eA (s:Str) (at0:Int) (end0:UInt8):Option (Int):=do
 match<-nE s end0 at0 with
 | .ret r0=>pure r0
 | .done _ =>
  pure (-1)
theorem zDV:∀ s at0 end0 r,eA s at0 end0=some r->∀ {I:Imm} ,RT 201 [vT s.l,vI at0,.int .u8 (end0.toNat:Int)] I [] (yR  r):=by
 intro s at0 end0 r N I;unfold eA at N;refine yJ func201 fun B=>vK []<|zZ<|yI [7] rfl<|wQ<|pM [(0,vT s.l),(2,.int .u8 (end0.toNat:Int)),(7,vI at0)] ?_;obtain ⟨o0,az,aG⟩:=zB N;refine zFO s end0 at0 o0 az iR  nG nO ?_ ?_
 · intro I0  heq le;subst o0;refine zR<|uJ [6] rfl<|zK<|xF ?_;obtain rfl:=zE aG;exact vZ
 intro r0 I9 hs9 m9 aY le9 aZ;subst aY;refine zV<|zI ?_;obtain rfl:=zE aG;exact dB aZ
def zCh (r:zJ×Int):KT:=fun kk I' ah v=>
  ∃ v0 v1,ah=[]/\v=tupV [v0,v1]/\(∃ cs,v0=.agg ⟨cs⟩/\Rp.rep I' cs r.1)/\v1=.int .i64 r.2
def oM (s:Str) (at0:Int):Option (zJ×Int):=do
 let y<-eA s at0 (93:UInt8);let t20<-(do
   if (decide (y<(W (at0+2)))) then pure true
   else
    let b1<-sidx s (W (at0+1));pure ((b1.toNat:Int) != 91)
     : Option Bool)
 if t20 then pure ((zJ.mk (⟨[]⟩:Str) ([]:List zA)),(-1))
 else
  let s1<-sslc s at0 (W (at0+1));let s2<-sslc s (W (at0+2)) y;let y1<-oI s2;pure ((zJ.mk s1 y1),(W (y+1)))
theorem zAr:∀ s at0 r,oM s at0=some r->∀ {I:Imm} ,RT 189 [vT s.l,vI at0] I [] (zCh  r):=by
 intro s at0 r N I;unfold oM at N;refine yJ func189 fun B=>?_;have H:=iS I;refine yA<|xU [vT ([]),z0] ?_;intro b hb;refine wT [] []<|yT<|yD 2 [] [7,8] rfl<|bE N fun y hy N=>dL (zDV s at0 (93:UInt8) _ hy ) ?_;intro I0 le;have H:=H.trans le;refine yL [] [6] rfl<|zZ<|yC ?_;refine wU N [hB b [vT ([]),z0]] (fun t20=>[(0,vT s.l),(1,vI at0),(4,vP b 0),(6,vI y),(20,.bool t20)]) (fun o0 az=>?_) ?_
 · have H:=iS I0;refine zM<|yD 5 [] [14] rfl<|wD [14] az ?_ ?_
   · intro hc N;exact wT [] [(20,vY)]<|yQ<|zT (ct N H)
   intro hc N;exact yD 8 [] [15,17] rfl<|bE N fun b1 ax N=>zBo rfl rfl ax<|yL [] [20] rfl<|yQ<|zT (ct N H)
 intro t20 aR ae aT;have H:=H.trans ae;refine zK<|yE aT ?_ ?_
 · intro aH N;refine yA<|yD 1 [] [21] rfl<|yS 0 [vT ([]),z0] rfl<|yL [] [5] rfl<|xL<|zI ?_;exact xO N (resE 0 rfl rfl rfl) zN ⟨_,_,rfl,rfl,⟨_,rfl,(oK ⟨_,rfl,(SL.nil _)⟩)⟩,rfl⟩
 intro aH N;refine zS<|zK<|yC ?_;obtain ⟨s1,aE,N⟩:=zB N;obtain ⟨s2,bj,N⟩:=zB N;obtain ⟨y1,bt,N⟩:=zB N;refine wV [.p (vT s.l) [],.p (vI at0) [],.p (vI at0) [],.p (vI (W (at0+1))) [],.q (vT s1.l),.p (vT s.l) [],.p (vI at0) [],.p (vI (W (at0+2))) [],.p (vI y) [],.q (vT s2.l),.x (eS y1),.x (fun I' v hx=>∃ p1 c1,v=vA [vT s1.l,vS p1 y1 c1]/\hx=[]/\(S4 I' p1 y1 c1)),.p (vI y) [],.p (vI (W (y+1))) [],.x (fun I' v hx=>∃ aI aQ,hx=[hB b [vT s1.l,vS aI y1 aQ]]/\(S4 I' aI y1 aQ))] [[],[],[],[(2,false)],[(0,false),(1,false),(3,false)],[],[],[(6,false)],[],[(5,false),(7,false),(8,false)],[(9,false)],[(4,false),(10,false)],[],[(12,false)],[(11,false),(16,true)]] [] [[hB b [vT ([]),z0]]] [(13,false),(14,true)] (zY [0]) ?_ ?_
 · refine O4<|Oq ?_<|O4<|Oq ?_<|Ox ?_<|Ox ?_<|O2<|Ox ?_<|On
   · intro I1 hf ae;exact xD [22,23,25] rfl<|zIq rfl aE<|xY iR
   · intro I1 hf ae;exact xD [27,29,30] rfl<|zIq rfl bj<|xY iR
   · intro I1 hf ae;refine xD [31] rfl ?_;have H:=iS I1;refine xJ (zAR s2 _ bt ) ?_;rintro aV av v2 k2 aB - ⟨v01,rfl,rfl,h1⟩ -;have H:=H.trans aB;obtain ⟨p,c,rfl⟩:=h1.form;exact yM [] H ⟨_,_,rfl,rfl,h1⟩
   · rintro I1 hf ae _ _ ⟨rfl,rfl⟩ _ _ ⟨p,c,rfl,rfl,h1⟩;exact xD [26,32] rfl<|mD 12 [(33,vA [vT s1.l,vS p y1 c])]<|yM [] iR ⟨_,_,rfl,rfl,h1⟩
   rintro I1 hf ae _ _ ⟨p1,c1,rfl,rfl,h11⟩ _ _ rfl;refine xD [4,33] rfl ?_;have H:=iS I1;exact eK 0 [vT s1.l,vS p1 y1 c1] (hB b [vT s1.l,vS p1 y1 c1]::hf) rfl rfl rfl rfl<|zHw (hx:=[hB b [vT s1.l,vS p1 y1 c1]]) rfl H rfl (zKO (v:=undef)) ⟨_,_,rfl,h11⟩
 rintro bv aF _ _ ⟨rfl,rfl⟩ _ _ ⟨aI,aQ,rfl,h111⟩;refine xD [4,35] rfl ?_;refine yL [] [5] rfl<|zK<|xF ?_;exact xO N (resE 0 rfl rfl rfl) zN ⟨_,_,rfl,rfl,⟨_,rfl,(oK ⟨_,rfl,h111⟩)⟩,rfl⟩
def zAk (r:zC×Int):KT:=fun kk I' ah v=>
  ∃ v0 v1,ah=[]/\v=tupV [v0,v1]/\(∃ cs,v0=.agg ⟨cs⟩/\Rp.rep I' cs r.1)/\v1=.int .i64 r.2
mutual
def zAE (s:Str) (at0:Int) (ak:Int):Option (zC×Int):=do
 let (y1,y2)<-nF (same s) (same at0) (same ak);let t27<-(do
   if (decide (y2<0)) then pure true
   else
    pure (decide (y2>=(s.l.length:Int)))
     : Option Bool)
 if t27 then pure ((zC.mk 0 0 (zA.mk ([]:List Int) 0) (zJ.mk (⟨[]⟩:Str) ([]:List zA)) ([]:List zC)),(-1))
 else
  let b2<-sidx s y2;let kind<-(do
    if ((b2.toNat:Int)==45) then pure (id 5)
    else
     let kind1<-(do
       if ((b2.toNat:Int)==42) then pure (id 6)
       else
        pure (id 4)
         : Option Int)
     pure (id kind1)
      : Option Int)
  let (y4,y5)<-nF (same s) (W (y2+1)) (same ak);let t51<-(do
    if (decide (y5<0)) then pure true
    else
     pure (decide (y5>=(s.l.length:Int)))
      : Option Bool)
  if t51 then pure ((zC.mk 0 0 (zA.mk ([]:List Int) 0) (zJ.mk (⟨[]⟩:Str) ([]:List zA)) ([]:List zC)),(-1))
  else pure ((zC.mk kind 0 (zA.mk ([]:List Int) 0) (zJ.mk (⟨[]⟩:Str) ([]:List zA)) ([y1,y4]:List zC)),(W (y5+1)))
 partial_fixpoint
def nF (s:Str) (at0:Int) (ak:Int):Option (zC×Int):=do
 let t26<-(do
   if (decide (ak<1)) then pure true
   else
    if (decide (at0<0)) then pure true
    else
     pure (decide (at0>=(s.l.length:Int)))
     : Option Bool)
 if t26 then pure ((zC.mk 0 0 (zA.mk ([]:List Int) 0) (zJ.mk (⟨[]⟩:Str) ([]:List zA)) ([]:List zC)),(-1))
 else
  let b1<-sidx s at0;if ((b1.toNat:Int)==123) then
   let y<-eA s at0 (125:UInt8);if (decide (y<0)) then pure ((zC.mk 0 0 (zA.mk ([]:List Int) 0) (zJ.mk (⟨[]⟩:Str) ([]:List zA)) ([]:List zC)),(-1))
   else
    let s1<-sslc s (W (at0+1)) y;let (y2,y3)<-mS s1;pure ((zC.mk 2 0 y2 (zJ.mk (⟨[]⟩:Str) ([]:List zA)) ([]:List zC)),(W (y+1)))
  else
   let t52<-(do
     let b3<-sidx s at0;if (decide ((b3.toNat:Int)>=65)) then
      let b4<-sidx s at0;pure (decide ((b4.toNat:Int)<=68))
     else
      pure false
       : Option Bool)
   if t52 then
    let (y5,y6)<-oM s at0;pure ((zC.mk 3 0 (zA.mk ([]:List Int) 0) y5 ([]:List zC)),y6)
   else
    let b6<-sidx s at0;if ((b6.toNat:Int)==40) then
     let (y8,y9)<-zAE (same s) (W (at0+1)) (W (ak - 1));pure (y8,y9)
    else
     let (y11,y12)<-gQ s at0;if (y12==at0) then pure ((zC.mk 0 0 (zA.mk ([]:List Int) 0) (zJ.mk (⟨[]⟩:Str) ([]:List zA)) ([]:List zC)),(-1))
     else pure ((zC.mk 1 y11 (zA.mk ([]:List Int) 0) (zJ.mk (⟨[]⟩:Str) ([]:List zA)) ([]:List zC)),y12)
 partial_fixpoint
end
theorem zGq:(∀ (s:Str) (at0:Int) (ak:Int) r,zAE s at0 ak=some r->∀ {I:Imm} ,RT 202 [vT s.l,vI at0,vI ak] I [] (zAk  r))/\(∀ (s:Str) (at0:Int) (ak:Int) r,nF s at0 ak=some r->∀ {I:Imm} ,RT 190 [vT s.l,vI at0,vI ak] I [] (zAk  r)):=by
  refine zAE.mutual_partial_correctness _ _ ?_ ?_
  · intro F_spec_l3Parse ih_spec_l3Parse s at0 ak r N I;refine yJ func202 fun B=>?_;have H:=iS I;refine yA<|xU zExpr ?_;intro b hb;refine wT [] []<|yT<|yD 3 [] [14,15,16] rfl ?_;obtain ⟨⟨y1,y2⟩,hy,N⟩:=zB N;refine xJ (ih_spec_l3Parse s at0 ak _ hy ) ?_;rintro I0 av v2 k2 le - ⟨v0,v01,rfl,rfl,⟨cs,rfl,h⟩,rfl⟩ -;have H:=H.trans le;obtain ⟨p,c,p1,c1,p2,c2,rfl,h2,h3,h4⟩:=xB h;refine yD 7 [] [18,19] rfl<|xU zExpr ?_;intro b1 hb1;refine yS 0 (cExpr y1 p c p1 c1 p2 c2) rfl<|yL [] [9] rfl<|zZ<|yC ?_;refine wU N [hB b1 (cExpr y1 p c p1 c1 p2 c2),hB b zExpr] (fun t27=>[(0,vT s.l),(2,vI ak),(6,vP b 0),(8,vP b1 0),(9,vI y2),(27,.bool t27)]) (fun o0 az=>?_) ?_
    · have H:=iS I0;refine zM<|yD 3 [] [22] rfl<|wD [22] az ?_ ?_
      · intro hc N;exact wT [] [(27,vY)]<|yQ<|zT (ct N H)
      intro hc N;exact yL [] [27] rfl<|yQ<|zT (ct N H)
    intro t27 aR ae aT;have ⟨h2,h3,h4,H⟩:=m4 ae h2 h3 h4 H;refine zK<|yE aT ?_ ?_
    · intro aH N;refine yA<|yD 1 [] [28] rfl<|eK 1 zExpr [hB b1 (cExpr y1 p c p1 c1 p2 c2),hB b zExpr] rfl rfl rfl rfl<|yL [] [7] rfl<|xL<|zI ?_;exact xO N (resE 1 rfl rfl rfl) zN ⟨_,_,rfl,rfl,⟨_,rfl,(yF ⟨_,_,_,rfl,(SL.nil _),(SL.nil _),(SL.nil _)⟩)⟩,rfl⟩
    intro aH N;refine zS<|uJ [10] rfl<|zZ<|yA<|yD 2 [] [29,30] rfl<|bE N fun b2 ax N=>zBo rfl rfl ax<|zU rfl<|wQ<|yI [32] rfl<|zK ?_;refine wU N [hB b1 (cExpr y1 p c p1 c1 p2 c2),hB b zExpr] (fun kind=>[(0,vT s.l),(2,vI ak),(6,vP b 0),(8,vP b1 0),(9,vI y2),(10,vI kind)]) (fun aL aC=>?_) ?_
    · have H:=iS aR;refine yE aC ?_ ?_
      · intro bf N;exact zM<|yL [] [10] rfl<|yQ<|zT (ct N H)
      intro bf N;refine yI [34] rfl<|zK ?_;refine wU N [hB b1 (cExpr y1 p c p1 c1 p2 c2),hB b zExpr] (fun kind1=>[(0,vT s.l),(2,vI ak),(6,vP b 0),(8,vP b1 0),(9,vI y2),(10,vI kind1)]) (fun o02 ho02=>?_) ?_
      · have H:=iS aR;refine yE ho02 ?_ ?_
        · intro bG N;exact zM<|yL [] [10] rfl<|yQ<|zT (ct N H)
        intro bG N;exact zS<|yQ<|zT (ct N H)
      intro kind1 bv aB hMc2;have H:=H.trans aB;exact yQ<|zT (ct hMc2 H)
    intro kind aV aF hMc1;have ⟨h2,h3,h4,H⟩:=m4 aF h2 h3 h4 H;refine zP<|yT<|yD 4 [] [37,39,40] rfl ?_;obtain ⟨⟨y4,y5⟩,aE,N⟩:=zB hMc1;refine xJ (ih_spec_l3Parse s (W (y2+1)) ak _ aE ) ?_;rintro bH av v2 k2 aX - ⟨v05,v06,rfl,rfl,⟨aw,rfl,h5⟩,rfl⟩ -;have ⟨h2,h3,h4,H⟩:=m4 aX h2 h3 h4 H;obtain ⟨p3,c3,p4,c4,p5,c5,rfl,h7,h8,h9⟩:=xB h5;refine yD 8 [] [42,43] rfl<|xU zExpr ?_;intro b3 hb2;refine yS 0 (cExpr y4 p3 c3 p4 c4 p5 c5) rfl<|yL [] [12] rfl<|zZ<|yC ?_;refine wU N [hB b3 (cExpr y4 p3 c3 p4 c4 p5 c5),hB b1 (cExpr y1 p c p1 c1 p2 c2),hB b zExpr] (fun t51=>[(6,vP b 0),(8,vP b1 0),(10,vI kind),(11,vP b3 0),(12,vI y5),(51,.bool t51)]) (fun o03 ho03=>?_) ?_
    · have H:=iS bH;refine zM<|yD 3 [] [46] rfl<|wD [46] ho03 ?_ ?_
      · intro bN N;exact wT [] [(51,vY)]<|yQ<|zT (ct N H)
      intro bN N;exact yL [] [51] rfl<|yQ<|zT (ct N H)
    intro t51 bO bi hMc3;have ⟨h7,h8,h9,h2,h3,h4⟩:=m6 bi h7 h8 h9 h2 h3 h4;refine zK<|yE hMc3 ?_ ?_
    · intro hc5 N;refine yA<|yD 1 [] [52] rfl<|eK 2 zExpr [hB b3 (cExpr y4 p3 c3 p4 c4 p5 c5),hB b1 (cExpr y1 p c p1 c1 p2 c2),hB b zExpr] rfl rfl rfl rfl<|yL [] [7] rfl<|xL<|zI ?_;exact xO N (resE 2 rfl rfl rfl) zN ⟨_,_,rfl,rfl,⟨_,rfl,(yF ⟨_,_,_,rfl,(SL.nil _),(SL.nil _),(SL.nil _)⟩)⟩,rfl⟩
    intro hc5 N;refine zS<|yT<|vU 3 [1,0] [(53,vI kind),(54,vA (cExpr y1 p c p1 c1 p2 c2)),(55,vA (cExpr y4 p3 c3 p4 c4 p5 c5))]<|tK [vI y1.Kind,vI y1.Num,vS p y1.Index.Coefs c,vI y1.Index.Const,vT y1.Read.Array.l,vS p1 y1.Read.Subs c1,vS p2 y1.Kids c2,vI y4.Kind,vI y4.Num,vS p3 y4.Index.Coefs c3,vI y4.Index.Const,vT y4.Read.Array.l,vS p4 y4.Read.Subs c4,vS p5 y4.Kids c5] zC ?_;intro b4 hb3;have h10:RL bO [vI y1.Kind,vI y1.Num,vS p y1.Index.Coefs c,vI y1.Index.Const,vT y1.Read.Array.l,vS p1 y1.Read.Subs c1,vS p2 y1.Kids c2,vI y4.Kind,vI y4.Num,vS p3 y4.Index.Coefs c3,vI y4.Index.Const,vT y4.Read.Array.l,vS p4 y4.Read.Subs c4,vS p5 y4.Kids c5] ([y1,y4]:List zC):=⟨(cExpr y1 p c p1 c1 p2 c2),_,rfl,rfl,(yF ⟨_,_,_,rfl,h2,h3,h4⟩),⟨(cExpr y4 p3 c3 p4 c4 p5 c5),_,rfl,rfl,(yF ⟨_,_,_,rfl,h7,h8,h9⟩),rfl⟩⟩;refine yD 7 [] [57,59] rfl<|yS 3 [vI kind,vI 0,z0,vI 0,vT ([]),z0,vS (some ⟨b4,0,none⟩) ([y1,y4]:List zC) 2] rfl<|yL [] [7] rfl<|xL<|xA 0 rfl ?_;intro I06 bB hl0;have h11:=SL.of_frozen hl0 bB h10;exact xO N (resE 2 rfl rfl rfl) zN ⟨_,_,rfl,rfl,⟨_,rfl,(yF ⟨_,_,_,rfl,(SL.nil _),(SL.nil _),h11⟩)⟩,rfl⟩
  intro F_spec_l3Round ih_spec_l3Round s at0 ak r N I;refine yJ func190 fun B=>?_;have H:=iS I;refine yA<|xU zExpr ?_;intro b hb;refine wT [] []<|zZ<|yC ?_;refine wU N [hB b zExpr] (fun t26=>[(0,vT s.l),(1,vI at0),(2,vI ak),(6,vP b 0),(26,.bool t26)]) (fun o0 az=>?_) ?_
  · have H:=iS I;refine zM<|yD 3 [] [17] rfl<|wD [17] az ?_ ?_
    · intro hc N;exact wT [] [(26,vY)]<|yQ<|zT (ct N H)
    intro hc N;refine yD 7 [] [21] rfl<|wD [21] N ?_ ?_
    · intro aH N;exact wT [] [(26,vY)]<|yQ<|zT (ct N H)
    intro aH N;exact yL [] [26] rfl<|yQ<|zT (ct N H)
  intro t26 I0 le aT;have H:=H.trans le;refine zK<|yE aT ?_ ?_
  · intro bf N;refine yA<|yD 1 [] [27] rfl<|eK 0 zExpr [hB b zExpr] rfl rfl rfl rfl<|yL [] [7] rfl<|xL<|zI ?_;exact xO N (resE 0 rfl rfl rfl) zN ⟨_,_,rfl,rfl,⟨_,rfl,(yF ⟨_,_,_,rfl,(SL.nil _),(SL.nil _),(SL.nil _)⟩)⟩,rfl⟩
  intro bf N;refine zS<|zZ<|yH<|yA<|yD 2 [] [29,30] rfl<|bE N fun b1 hy N=>zBo rfl rfl hy<|yL [] [28] rfl<|zK<|yE N ?_ ?_
  · intro bG N;refine yA<|yD 2 [] [33,34] rfl<|bE N fun y ax N=>dL (zDV s at0 (125:UInt8) _ ax ) fun aR ae=>wT [] [(8,vI y)]<|zZ<|vK [(37,.bool (decide (y<0)))]<|zK<|yE N ?_ ?_
    · intro bN N;refine yA<|yD 1 [] [38] rfl<|eK 0 zExpr [hB b zExpr] rfl rfl rfl rfl<|yL [] [7] rfl<|xL<|zI<|zV<|zI ?_;exact xO N (resE 0 rfl rfl rfl) zN ⟨_,_,rfl,rfl,⟨_,rfl,(yF ⟨_,_,_,rfl,(SL.nil _),(SL.nil _),(SL.nil _)⟩)⟩,rfl⟩
    intro bN N;refine zS<|yT<|yD 4 [] [40,42,43] rfl<|bE N fun s1 aE N=>zIq rfl aE ?_;obtain ⟨⟨y2,y3⟩,bj,N⟩:=zB N;refine xJ (zBS s1 _ bj ) ?_;rintro aV av v2 k2 aB - ⟨v01,v02,rfl,rfl,⟨cs,rfl,h1⟩,rfl⟩ -;obtain ⟨p,c,rfl,h3⟩:=yG h1;refine yD 9 [] [46,47] rfl<|xU [z0,vI 0] ?_;intro b2 hb1;refine yS 0 (cAff y2 p c) rfl<|wT [] []<|yT<|vU 4 [0] [(49,vA [vI 2,vI 0,vS p y2.Coefs c,vI y2.Const,vT ([]),z0,z0]),(51,vI (W (y+1)))]<|yS 1 [vI 2,vI 0,vS p y2.Coefs c,vI y2.Const,vT ([]),z0,z0] rfl<|yL [] [7] rfl<|xL<|zV<|zI ?_;exact xO N (resE 1 rfl rfl rfl) zN ⟨_,_,rfl,rfl,⟨_,rfl,(yF ⟨_,_,_,rfl,h3,(SL.nil _),(SL.nil _)⟩)⟩,rfl⟩
  intro bG N;refine yC ?_;refine wU N [hB b zExpr] (fun t52=>[(0,vT s.l),(1,vI at0),(2,vI ak),(6,vP b 0),(52,.bool t52)]) (fun aL aC=>?_) ?_
  · have H:=iS I0;refine zM<|yD 2 [] [53,54] rfl ?_;obtain ⟨b3,bt,N⟩:=zB aC;refine zBo rfl rfl bt<|yD 5 [] [57] rfl<|wD [57] N ?_ ?_
    · intro hc5 N;exact yD 7 [] [58,59] rfl<|bE N fun b4 bD N=>zBo rfl rfl bD<|yL [] [52] rfl<|yQ<|zT (ct N H)
    intro hc5 N;exact wT [] [(52,vF)]<|yQ<|zT (ct N H)
  intro t52 bv aF hMc1;refine zK<|yE hMc1 ?_ ?_
  · intro hc6 N;refine yA<|yD 2 [] [64,65] rfl ?_;obtain ⟨⟨y5,y6⟩,hy6,N⟩:=zB N;refine xJ (zAr s at0 _ hy6 ) ?_;rintro bH av v2 k2 aX - ⟨v04,v05,rfl,rfl,⟨aw,rfl,h4⟩,rfl⟩ -;obtain ⟨p1,c1,rfl,h6⟩:=tY h4;refine yD 6 [] [67,68] rfl<|xU [vT ([]),z0] ?_;intro b5 hb2;refine yS 0 (cAccess y5 p1 c1) rfl<|yL [] [12] rfl<|yT<|vU 3 [0] [(70,vA [vI 3,vI 0,z0,vI 0,vT y5.Array.l,vS p1 y5.Subs c1,z0]),(71,vI y6)]<|yS 1 [vI 3,vI 0,z0,vI 0,vT y5.Array.l,vS p1 y5.Subs c1,z0] rfl<|yL [] [7] rfl<|xL<|zV<|zI ?_;exact xO N (resE 1 rfl rfl rfl) zN ⟨_,_,rfl,rfl,⟨_,rfl,(yF ⟨_,_,_,rfl,(SL.nil _),h6,(SL.nil _)⟩)⟩,rfl⟩
  intro hc6 N;refine yA<|yD 2 [] [73,74] rfl<|bE N fun b6 hy7 N=>zBo rfl rfl hy7<|yL [] [72] rfl<|zK<|yE N ?_ ?_
  · intro hc7 N;refine yA<|yD 5 [] [77,79,81] rfl ?_;obtain ⟨⟨y8,y9⟩,hy8,N⟩:=zB N;refine xJ (ih_spec_l3Round s (W (at0+1)) (W (ak - 1)) _ hy8 ) ?_;rintro bO av v2 k2 bi - ⟨v07,v08,rfl,rfl,⟨aU,rfl,h7⟩,rfl⟩ -;obtain ⟨p2,c2,p3,c3,p4,c4,rfl,h9,h10,h11⟩:=xB h7;refine yD 8 [] [83,84] rfl<|yS 0 (cExpr y8 p2 c2 p3 c3 p4 c4) rfl<|yL [] [7] rfl<|xL<|zV<|zI ?_;exact xO N (resE 0 rfl rfl rfl) zN ⟨_,_,rfl,rfl,⟨_,rfl,(yF ⟨_,_,_,rfl,h9,h10,h11⟩)⟩,rfl⟩
  intro hc7 N;refine zS<|zP<|yT<|yD 2 [] [86,87] rfl ?_;obtain ⟨⟨y11,y12⟩,hy9,N⟩:=zB N;refine xJ (zCf s at0 _ hy9 ) ?_;rintro I06 av v2 k2 bB - ⟨v012,v013,rfl,rfl,rfl,rfl⟩ -;refine yL [] [13,14] rfl<|zZ<|yI [93] rfl<|zK<|yE N ?_ ?_
  · intro hc8 N;refine yA<|yD 1 [] [94] rfl<|eK 0 zExpr [hB b zExpr] rfl rfl rfl rfl<|yL [] [7] rfl<|xL<|zI ?_;exact xO N (resE 0 rfl rfl rfl) zN ⟨_,_,rfl,rfl,⟨_,rfl,(yF ⟨_,_,_,rfl,(SL.nil _),(SL.nil _),(SL.nil _)⟩)⟩,rfl⟩
  intro hc8 N;refine zS<|yT<|yD 3 [] [96,97] rfl<|yS 0 [vI 1,vI y11,z0,vI 0,vT ([]),z0,z0] rfl<|yL [] [7] rfl<|zK<|xF ?_;exact xO N (resE 0 rfl rfl rfl) zN ⟨_,_,rfl,rfl,⟨_,rfl,(yF ⟨_,_,_,rfl,(SL.nil _),(SL.nil _),(SL.nil _)⟩)⟩,rfl⟩
theorem zH3:∀ s at0 ak r,nF s at0 ak=some r->∀ {I:Imm} ,RT 190 [vT s.l,vI at0,vI ak] I [] (zAk  r):=zGq.2
def qI (list:(List zA)) (out:Str) (i:Int):Option (Str):=do
 if (decide (i<(list.length:Int))) then
  let au<-(do
    if (decide (i>0)) then
     let s<-cat out (⟨[44]⟩:Str);pure (id s)
    else
     pure (id out)
      : Option Str)
  let x<-idx list i;let y<-fM x;let s1<-cat au y;qI list s1 (W (i+1))
 else pure (id out)
 partial_fixpoint
theorem zD3 (list:(List zA)):∀ (out:Str) (i:Int) (o:Str),qI list out i=some o->∀ {B}{I0 I:Imm}{Q p c},I0.le I->(S4 I p list c)->NG Q->NO Q->(∀ I' am,o=am->I0.le I'->T 23 B Q (.exit 0) I' [] [(3,vT am.l)])->J Tryz.prog 23 B (nav (bodyOf f192) [1,1,0,1,0]) Q I [] [(0,vS p list c),(3,vT out.l),(4,vI i)]:=by
 refine qI.partial_correctness list _ fun aJ ih out i o N B I0 I Q p c H h hg ho hx=>yZ hg ho<|yC<|yI [8] rfl<|zK<|yE N ?_ ?_
 · intro hc N;refine zS<|zZ<|yH<|yC<|yI [12] rfl<|zK ?_;refine wU N [] (fun au=>[(0,vS p list c),(3,vT au.l),(4,vI i)]) (fun o0 az=>?_) ?_
   · have H:=iS I;refine yE az ?_ ?_
     · intro aH N;exact zM<|yD 1 [] [13] rfl<|bE N fun s hy N=>eF rfl hy<|yL [] [3] rfl<|yQ<|zT (ct N H)
     intro aH N;exact zS<|yQ<|zT (ct N H)
   intro au I0 le aT;have ⟨h,H⟩:=m2 le h H;refine zK<|zM<|yD 3 [] [15,16,17] rfl ?_;obtain ⟨x,ax,N⟩:=zB aT;refine wA rfl rfl h ax ?_;intro ad aK ap al;obtain ⟨p1,c1,rfl,h1⟩:=yG al;refine xP 0 ap (cAff x p1 c1) (vA (cAff x p1 c1)) rfl<|bE N fun y aE N=>xJ (zBh x _ aE h1) ?_;rintro aR av v2 k2 ae - ⟨v01,rfl,rfl,rfl⟩ -;have ⟨h,H⟩:=m2 ae h H;obtain ⟨s1,bj,N⟩:=zB N;exact eF rfl bj<|yL [] [3] rfl<|zP<|zK<|zM<|yL [] [4] rfl<|yX<|mC<|ih s1 (W (i+1)) _ N H h hg ho hx
 intro hc N;exact vC<|yQ<|hx _ _ (zE N).symm H
def nH (list:(List zA)):Option (Str):=do
 let am<-qI list (⟨[]⟩:Str) 0;pure (id am)
theorem zA9:∀ list r,nH list=some r->∀ {I:Imm}{p c},(S4 I p list c)->RT 192 [vS p list c] I [] (rK  r):=by
 intro list r N I p c h;unfold nH at N;refine yJ func192 fun B=>vK []<|uJ [3] rfl<|zZ<|yI [4] rfl<|wQ<|pM [(0,vS p list c),(3,vT ([])),(4,vI 0)] ?_;obtain ⟨aL,aC,aG⟩:=zB N;refine zD3 list (⟨[]⟩:Str) 0 aL aC iR h nG nO ?_;intro aV am heq1 aB;subst aL;refine zR<|uJ [2] rfl<|zK<|xF ?_;obtain rfl:=zE aG;exact vZ
def pE (a0:zJ):Option (Str):=do
 let s<-cat a0.Array (⟨[91]⟩:Str);let y<-nH a0.Subs;let s1<-cat s y;let s2<-cat s1 (⟨[93]⟩:Str);pure (id s2)
theorem zAF:∀ a0 r,pE a0=some r->∀ {I:Imm}{p c},(S4 I p a0.Subs c)->RT 171 [vA (cAccess a0 p c)] I [] (rK  r):=by
 intro a0 r N I p c h;unfold pE at N;refine yJ func171 fun B=>?_;have H:=iS I;refine yA<|vD (cAccess a0 p c) ?_;intro b hb;refine wT [] []<|zK<|yC ?_;obtain ⟨s,hy,N⟩:=zB N;obtain ⟨y,ax,N⟩:=zB N;obtain ⟨s1,aE,N⟩:=zB N;obtain ⟨s2,bj,N⟩:=zB N;refine wV [.p (vP b 0) [],.p (vT a0.Array.l) [0],.q (vT s.l),.p (vP b 1) [],.p (vS p a0.Subs c) [0],.q (vT y.l),.q (vT s1.l),.q (vT s2.l)] [[],[(0,false)],[(1,false)],[],[(3,false)],[(4,false)],[(2,false),(5,false)],[(6,false)]] [hB b (cAccess a0 p c)] [] [(7,false)] (zY [0]) ?_ ?_
 · refine O2<|Oq ?_<|O2<|Oq ?_<|Oq ?_<|Oq ?_<|On
   · intro I1 hf ae;exact xD [4] rfl<|eF rfl hy<|xY iR
   · intro I1 hf ae;refine xD [7] rfl ?_;have H:=iS I1;have h:=h.mono ae;refine xJ (zA9 a0.Subs _ ax h) ?_;rintro I0 av v2 k2 le - ⟨v0,rfl,rfl,rfl⟩ -;have H:=H.trans le;exact xY H
   · intro I1 hf ae;exact xD [5,8] rfl<|eF rfl aE<|xY iR
   intro I1 hf ae;exact xD [9] rfl<|eF rfl bj<|xY iR
 intro aR ae;refine xD [10] rfl ?_;refine yL [] [2] rfl<|zK<|xF ?_;obtain rfl:=zE N;exact vZ
def pU (e0:zC):Option (Str):=do
 if (e0.Kind==1) then
  let y<-pT e0.Num;pure (id y)
 else
  if (e0.Kind==2) then
   let y1<-fM e0.Index;let s<-cat (⟨[123]⟩:Str) y1;let s1<-cat s (⟨[125]⟩:Str);pure (id s1)
  else
   if (e0.Kind==3) then
    let y2<-pE e0.Read;pure (id y2)
   else
    let x<-idx e0.Kids 0;let y3<-pU (same x);let s2<-cat (⟨[40]⟩:Str) y3;let s3<-sslc (⟨[43,45,42]⟩:Str) (W (e0.Kind - 4)) (W ((W (e0.Kind - 4))+1));let s4<-cat s2 s3;let x1<-idx e0.Kids 1;let y4<-pU (same x1);let s5<-cat s4 y4;let s6<-cat s5 (⟨[41]⟩:Str);pure (id s6)
 partial_fixpoint
theorem zDu:∀ e0 r,pU e0=some r->∀ {I:Imm}{p c p1 c1 p2 c2},(S4 I p e0.Index.Coefs c)->(S4 I p1 e0.Read.Subs c1)->(S4 I p2 e0.Kids c2)->RT 172 [vA (cExpr e0 p c p1 c1 p2 c2)] I [] (rK  r):=by
 refine pU.partial_correctness _ fun F_spec_l3Text ih_spec_l3Text e0 r N I p c p1 c1 p2 c2 h h1 h2=>yJ func172 fun B=>?_;have H:=iS I;refine yA<|vD (cExpr e0 p c p1 c1 p2 c2) ?_;intro b hb;refine wT [] []<|zZ<|yA<|yL [0] [4] rfl<|wQ<|yI [5] rfl<|zK<|yE N ?_ ?_
 · intro hc N;refine yA<|yD 2 [0] [8] rfl<|bE N fun y hy N=>xJ (zAj e0.Num _ hy ) ?_;rintro I0 av v2 k2 le - ⟨v0,rfl,rfl,rfl⟩ -;refine yL [] [2] rfl<|xL<|zV<|zI ?_;obtain rfl:=zE N;exact vZ
 intro hc N;refine yI [10] rfl<|zK<|yE N ?_ ?_
 · intro aH N;refine yA<|vU 2 [0] [(13,vA (cAff e0.Index p c))]<|bE N fun y1 ax N=>xJ (zBh e0.Index _ ax h) ?_;rintro aR av v2 k2 ae - ⟨v01,rfl,rfl,rfl⟩ -;obtain ⟨s,aE,N⟩:=zB N;refine eF rfl aE<|bE N fun s1 bj N=>eF rfl bj<|yL [] [2] rfl<|xL<|zV<|zI ?_;obtain rfl:=zE N;exact vZ
 intro aH N;refine yI [17] rfl<|zK<|yE N ?_ ?_
 · intro bf N;refine yA<|vU 2 [0] [(20,vA (cAccess e0.Read p1 c1))]<|bE N fun y2 bt N=>xJ (zAF e0.Read _ bt h1) ?_;rintro aV av v2 k2 aB - ⟨v02,rfl,rfl,rfl⟩ -;refine yL [] [2] rfl<|xL<|zV<|zI ?_;obtain rfl:=zE N;exact vZ
 intro bf N;refine zS<|zP<|zK<|yC ?_;obtain ⟨x,bD,N⟩:=zB N;obtain ⟨y3,hy6,N⟩:=zB N;obtain ⟨s2,hy7,N⟩:=zB N;obtain ⟨s3,hy8,N⟩:=zB N;obtain ⟨s4,hy9,N⟩:=zB N;obtain ⟨x1,hy10,N⟩:=zB N;obtain ⟨y4,hy11,N⟩:=zB N;obtain ⟨s5,hy12,N⟩:=zB N;obtain ⟨s6,hy13,N⟩:=zB N;refine wV [.p (vP b 6) [],.p (vS p2 e0.Kids c2) [0],.x (ePExpr x),.x (eVExpr x),.q (vT y3.l),.q (vT s2.l),.p (vP b 0) [],.p (vI e0.Kind) [0],.p (vI (W (e0.Kind - 4))) [],.p (vP b 0) [],.p (vI e0.Kind) [0],.p (vI (W (e0.Kind - 4))) [],.p (vI (W ((W (e0.Kind - 4))+1))) [],.q (vT s3.l),.q (vT s4.l),.p (vP b 6) [],.p (vS p2 e0.Kids c2) [0],.x (ePExpr x1),.x (eVExpr x1),.q (vT y4.l),.q (vT s5.l),.q (vT s6.l)] [[],[(0,false)],[(1,false)],[(2,false)],[(3,false)],[(4,false)],[],[(6,false)],[(7,false)],[],[(9,false)],[(10,false)],[(11,false)],[(8,false),(12,false)],[(5,false),(13,false)],[],[(15,false)],[(16,false)],[(17,false)],[(18,false)],[(14,false),(19,false)],[(20,false)]] [hB b (cExpr e0 p c p1 c1 p2 c2)] [] [(21,false)] (zY [0]) ?_ ?_
 · refine O2<|Ox ?_<|Ox ?_<|Oq ?_<|Oq ?_<|O4<|O3<|Oq ?_<|Oq ?_<|O2<|Ox ?_<|Ox ?_<|Oq ?_<|Oq ?_<|Oq ?_<|On
   · intro I1 hf ae;refine xD [23] rfl ?_;have h2:=h2.mono ae;refine wA rfl rfl h2 bD ?_;intro ad aK ap al;obtain ⟨p3,c3,p4,c4,p5,c5,rfl,h6,h7,h8⟩:=xB al;exact yM [] iR ⟨_,_,_,_,_,_,_,rfl,rfl,ap,h6,h7,h8⟩
   · rintro I1 hf ae _ _ ⟨ad,p3,c3,p4,c4,p5,c5,rfl,rfl,ap,h6,h7,h8⟩;exact xD [24] rfl<|xP 0 ap (cExpr x p3 c3 p4 c4 p5 c5) (vA (cExpr x p3 c3 p4 c4 p5 c5)) rfl<|yM [] iR ⟨_,_,_,_,_,_,rfl,rfl,h6,h7,h8⟩
   · rintro I1 hf ae _ _ ⟨p31,c31,p41,c41,p51,c51,rfl,rfl,h61,h71,h81⟩;refine xD [25] rfl ?_;have H:=iS I1;refine xJ (ih_spec_l3Text x _ hy6 h61 h71 h81) ?_;rintro bv av v2 k2 aF - ⟨v06,rfl,rfl,rfl⟩ -;have H:=H.trans aF;exact xY H
   · intro I1 hf ae;exact xD [26] rfl<|eF rfl hy7<|xY iR
   · intro I1 hf ae;exact xD [30,34] rfl<|zIq rfl hy8<|xY iR
   · intro I1 hf ae;exact xD [27,35] rfl<|eF rfl hy9<|xY iR
   · intro I1 hf ae;refine xD [38] rfl ?_;have h2:=h2.mono ae;refine wA rfl rfl h2 hy10 ?_;intro ad1 bo ay aA;obtain ⟨p6,c6,p7,c7,p8,c8,rfl,h10,h11,h12⟩:=xB aA;exact yM [] iR ⟨_,_,_,_,_,_,_,rfl,rfl,ay,h10,h11,h12⟩
   · rintro I1 hf ae _ _ ⟨ad1,p6,c6,p7,c7,p8,c8,rfl,rfl,ay,h10,h11,h12⟩;exact xD [39] rfl<|xP 0 ay (cExpr x1 p6 c6 p7 c7 p8 c8) (vA (cExpr x1 p6 c6 p7 c7 p8 c8)) rfl<|yM [] iR ⟨_,_,_,_,_,_,rfl,rfl,h10,h11,h12⟩
   · rintro I1 hf ae _ _ ⟨p61,c61,p71,c71,p81,c81,rfl,rfl,h101,h111,h121⟩;refine xD [40] rfl ?_;have H:=iS I1;refine xJ (ih_spec_l3Text x1 _ hy11 h101 h111 h121) ?_;rintro bH av v2 k2 aX - ⟨v010,rfl,rfl,rfl⟩ -;have H:=H.trans aX;exact xY H
   · intro I1 hf ae;exact xD [36,41] rfl<|eF rfl hy12<|xY iR
   intro I1 hf ae;exact xD [42] rfl<|eF rfl hy13<|xY iR
 intro bO bi;refine xD [43] rfl ?_;refine yL [] [2] rfl<|zK<|xF ?_;obtain rfl:=zE N;exact vZ
def gZ (s:zG):Option (Str):=do
 let y<-rF s 4;if (!y) then pure (⟨[]⟩:Str)
 else
  let y1<-pE s.Write;let s1<-cat y1 (⟨[61]⟩:Str);let y2<-pU s.Value;let s2<-cat s1 y2;pure (id s2)
theorem zFP:∀ s r,gZ s=some r->∀ {I:Imm}{p c p1 c1 p2 c2 p3 c3},(S4 I p s.Write.Subs c)->(S4 I p1 s.Value.Index.Coefs c1)->(S4 I p2 s.Value.Read.Subs c2)->(S4 I p3 s.Value.Kids c3)->RT 191 [vA (cStmt s p c p1 c1 p2 c2 p3 c3)] I [] (rK  r):=by
 intro s r N I p c p1 c1 p2 c2 p3 c3 h h1 h2 h3;unfold gZ at N;refine yJ func191 fun B=>?_;have H:=iS I;refine yA<|vD (cStmt s p c p1 c1 p2 c2 p3 c3) ?_;intro b hb;refine wT [] []<|zZ<|yA<|vU 1 [0] [(3,vA (cStmt s p c p1 c1 p2 c2 p3 c3))]<|bE N fun y hy N=>vR (dP s 4 _ hy h h1 h2 h3) ?_;intro I0 le;have ⟨h,h1,h2,h3,H⟩:=m5 le h h1 h2 h3 H;refine yL [] [5] rfl<|zK<|yE N ?_ ?_
 · intro hc N;refine yI [2] rfl<|xL<|zI ?_;obtain rfl:=zE N;exact vZ
 intro hc N;refine zS<|zK<|yC ?_;obtain ⟨y1,ax,N⟩:=zB N;obtain ⟨s1,aE,N⟩:=zB N;obtain ⟨y2,bj,N⟩:=zB N;obtain ⟨s2,bt,N⟩:=zB N;refine wV [.p (vP b 0) [],.p (vA (cAccess s.Write p c)) [0],.q (vT y1.l),.q (vT s1.l),.p (vP b 2) [],.p (vA (cExpr s.Value p1 c1 p2 c2 p3 c3)) [0],.q (vT y2.l),.q (vT s2.l)] [[],[(0,false)],[(1,false)],[(2,false)],[],[(4,false)],[(5,false)],[(3,false),(6,false)]] [hB b (cStmt s p c p1 c1 p2 c2 p3 c3)] [] [(7,false)] (zY [0]) ?_ ?_
 · refine O2<|Oq ?_<|Oq ?_<|O2<|Oq ?_<|Oq ?_<|On
   · intro I1 hf ae;refine xD [7] rfl ?_;have H:=iS I1;have h:=h.mono ae;refine xJ (zAF s.Write _ ax h) ?_;rintro aR av v2 k2 ae - ⟨v01,rfl,rfl,rfl⟩ -;have H:=H.trans ae;exact xY H
   · intro I1 hf ae;exact xD [8] rfl<|eF rfl aE<|xY iR
   · intro I1 hf ae;refine xD [11] rfl ?_;have H:=iS I1;have ⟨h1,h2,h3⟩:=m3 ae h1 h2 h3;refine xJ (zDu s.Value _ bj h1 h2 h3) ?_;rintro aV av v2 k2 aB - ⟨v02,rfl,rfl,rfl⟩ -;have H:=H.trans aB;exact xY H
   intro I1 hf ae;exact xD [9,12] rfl<|eF rfl bt<|xY iR
 intro bv aF;refine xD [13] rfl ?_;refine yL [] [2] rfl<|zK<|xF ?_;obtain rfl:=zE N;exact vZ
def zBT (r:zG×Bool):KT:=fun kk I' ah v=>
  ∃ v0 v1,ah=[]/\v=tupV [v0,v1]/\(∃ cs,v0=.agg ⟨cs⟩/\Rp.rep I' cs r.1)/\v1=.bool r.2
def jP (bk:Str):Option (zG×Bool):=do
 if (decide ((bk.l.length:Int)<4)) then pure ((zG.mk (zJ.mk (⟨[]⟩:Str) ([]:List zA)) (zC.mk 0 0 (zA.mk ([]:List Int) 0) (zJ.mk (⟨[]⟩:Str) ([]:List zA)) ([]:List zC))),false)
 else
  let (y1,y2)<-oM bk 0;let t25<-(do
    if (decide (y2<0)) then pure true
    else
     pure (decide (y2>=(bk.l.length:Int)))
      : Option Bool)
  if t25 then pure ((zG.mk (zJ.mk (⟨[]⟩:Str) ([]:List zA)) (zC.mk 0 0 (zA.mk ([]:List Int) 0) (zJ.mk (⟨[]⟩:Str) ([]:List zA)) ([]:List zC))),false)
  else
   let (y4,y5)<-nF bk (W (y2+1)) 5;let y6<-gZ (zG.mk y1 y4);if (!(y6.l==bk.l)) then pure ((zG.mk (zJ.mk (⟨[]⟩:Str) ([]:List zA)) (zC.mk 0 0 (zA.mk ([]:List Int) 0) (zJ.mk (⟨[]⟩:Str) ([]:List zA)) ([]:List zC))),false)
   else pure ((zG.mk y1 y4),true)
theorem zCD:∀ bk r,jP bk=some r->∀ {I:Imm} ,RT 168 [vT bk.l] I [] (zBT  r):=by
 intro bk r N I;unfold jP at N;refine yJ func168 fun B=>?_;have H:=iS I;refine yA<|xU [vT ([]),z0,vI 0,vI 0,z0,vI 0,vT ([]),z0,z0] ?_;intro b hb;refine wT [] []<|zZ<|yI [11] rfl<|zK<|yE N ?_ ?_
 · intro hc N;refine yA<|yD 1 [] [12] rfl<|yS 0 [vT ([]),z0,vI 0,vI 0,z0,vI 0,vT ([]),z0,z0] rfl<|wT [] [(3,vF)]<|xL<|zI ?_;exact xO N (resE 0 rfl rfl rfl) zN ⟨_,_,rfl,rfl,⟨_,rfl,(xV ⟨_,_,_,_,rfl,(SL.nil _),(SL.nil _),(SL.nil _),(SL.nil _)⟩)⟩,rfl⟩
 intro hc N;refine zS<|yT<|yD 1 [] [14] rfl ?_;obtain ⟨⟨y1,y2⟩,hy,N⟩:=zB N;refine xJ (zAr bk 0 _ hy ) ?_;rintro I0 av v2 k2 le - ⟨v0,v01,rfl,rfl,⟨cs,rfl,h⟩,rfl⟩ -;have H:=H.trans le;obtain ⟨p,c,rfl,h2⟩:=tY h;refine yD 5 [] [16,17] rfl<|xU [vT ([]),z0] ?_;intro b1 hb1;refine yS 0 (cAccess y1 p c) rfl<|yL [] [5] rfl<|zZ<|yC ?_;refine wU N [hB b1 (cAccess y1 p c),hB b [vT ([]),z0,vI 0,vI 0,z0,vI 0,vT ([]),z0,z0]] (fun t25=>[(0,vT bk.l),(2,vP b 0),(4,vP b1 0),(5,vI y2),(25,.bool t25)]) (fun o0 az=>?_) ?_
 · have H:=iS I0;refine zM<|yD 3 [] [20] rfl<|wD [20] az ?_ ?_
   · intro aH N;exact wT [] [(25,vY)]<|yQ<|zT (ct N H)
   intro aH N;exact yL [] [25] rfl<|yQ<|zT (ct N H)
 intro t25 aR ae aT;have h2:=h2.mono ae;refine zK<|yE aT ?_ ?_
 · intro bf N;refine yA<|yD 1 [] [26] rfl<|yS 1 [vT ([]),z0,vI 0,vI 0,z0,vI 0,vT ([]),z0,z0] rfl<|wT [] [(3,vF)]<|xL<|zI ?_;exact xO N (resE 1 rfl rfl rfl) zN ⟨_,_,rfl,rfl,⟨_,rfl,(xV ⟨_,_,_,_,rfl,(SL.nil _),(SL.nil _),(SL.nil _),(SL.nil _)⟩)⟩,rfl⟩
 intro bf N;refine zS<|yT<|yD 3 [] [28,30] rfl ?_;obtain ⟨⟨y4,y5⟩,ax,N⟩:=zB N;refine xJ (zH3 bk (W (y2+1)) 5 _ ax ) ?_;rintro aV av v2 k2 aB - ⟨v03,v04,rfl,rfl,⟨aw,rfl,h3⟩,rfl⟩ -;have h2:=h2.mono aB;obtain ⟨p1,c1,p2,c2,p3,c3,rfl,h5,h6,h7⟩:=xB h3;refine yD 7 [] [32,33] rfl<|xU zExpr ?_;intro b2 hb2;refine yS 0 (cExpr y4 p1 c1 p2 c2 p3 c3) rfl<|wT [] []<|yT<|vU 3 [1,0] [(36,vA [vT y1.Array.l,vS p y1.Subs c,vI y4.Kind,vI y4.Num,vS p1 y4.Index.Coefs c1,vI y4.Index.Const,vT y4.Read.Array.l,vS p2 y4.Read.Subs c2,vS p3 y4.Kids c3])]<|xU [vT ([]),z0,vI 0,vI 0,z0,vI 0,vT ([]),z0,z0] ?_;intro b3 hb3;refine yS 0 [vT y1.Array.l,vS p y1.Subs c,vI y4.Kind,vI y4.Num,vS p1 y4.Index.Coefs c1,vI y4.Index.Const,vT y4.Read.Array.l,vS p2 y4.Read.Subs c2,vS p3 y4.Kids c3] rfl<|zU rfl<|zZ<|yA<|vU 1 [0] [(37,vA [vT y1.Array.l,vS p y1.Subs c,vI y4.Kind,vI y4.Num,vS p1 y4.Index.Coefs c1,vI y4.Index.Const,vT y4.Read.Array.l,vS p2 y4.Read.Subs c2,vS p3 y4.Kids c3])]<|bE N fun y6 aE N=>xJ (zFP (zG.mk y1 y4) _ aE h2 h5 h6 h7) ?_;rintro bv av v2 k2 aF - ⟨v08,rfl,rfl,rfl⟩ -;have ⟨h2,h5,h6,h7⟩:=m4 aF h2 h5 h6 h7;refine yL [] [40] rfl<|zK<|yE N ?_ ?_
 · intro bG N;refine yA<|yD 1 [] [41] rfl<|yS 3 [vT ([]),z0,vI 0,vI 0,z0,vI 0,vT ([]),z0,z0] rfl<|wT [] [(3,vF)]<|xL<|zI ?_;exact xO N (resE 3 rfl rfl rfl) zN ⟨_,_,rfl,rfl,⟨_,rfl,(xV ⟨_,_,_,_,rfl,(SL.nil _),(SL.nil _),(SL.nil _),(SL.nil _)⟩)⟩,rfl⟩
 intro bG N;refine zS<|yT<|vU 1 [0] [(42,vA [vT y1.Array.l,vS p y1.Subs c,vI y4.Kind,vI y4.Num,vS p1 y4.Index.Coefs c1,vI y4.Index.Const,vT y4.Read.Array.l,vS p2 y4.Read.Subs c2,vS p3 y4.Kids c3])]<|yS 3 [vT y1.Array.l,vS p y1.Subs c,vI y4.Kind,vI y4.Num,vS p1 y4.Index.Coefs c1,vI y4.Index.Const,vT y4.Read.Array.l,vS p2 y4.Read.Subs c2,vS p3 y4.Kids c3] rfl<|wT [] [(3,vY)]<|zK<|xF ?_;exact xO N (resE 3 rfl rfl rfl) zN ⟨_,_,rfl,rfl,⟨_,rfl,(xV ⟨_,_,_,_,rfl,h2,h5,h6,h7⟩)⟩,rfl⟩
end Go.LN
