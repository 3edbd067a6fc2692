/- Helper of the proof (see the last text). -/
import Derived.Test.YtcmjkmdecmabaaaGreatHM4
set_option linter.unusedVariables false
set_option linter.unusedSimpArgs false
namespace Go.LN
open Go.Proofs Go.Proofs.Tryz
set_option maxRecDepth 20000
def zCF (b0:Nat) (r:zO×zM):KT:=fun kk I' ah v=>
  ∃ v0 k0,ah=[.blk b0 ⟨k0⟩]/\v=tupV [v0]/\(∃ cs,v0=.agg ⟨cs⟩/\Rp.rep I' cs r.1)/\Rp.rep I' k0 r.2
def nJ (y1:(List zE)) (Body2:List zP) (n0:Int) (x6:zM):Option ((List zP×zM)):=do
 if (decide (n0<5)) then
  let (y7,y8)<-dD x6 (y1.length:Int)
  let y9<-jO
  let (y11,y12)<-nW y9 (zO.mk y1 ([y7]:List zP))
  if y12 then
   let l<-app 152 Body2 ([y7]:List zP)
   pure (l,y8)
  else
   nJ y1 Body2 (W (n0+1)) y8
 else
  pure (Body2,x6)
 partial_fixpoint
theorem zF3 (y1:(List zE)) (Body2:List zP):∀ (n0:Int) (x6:zM) (o:(List zP×zM)),nJ y1 Body2 n0 x6=some o->∀ {B}{I0 I:Imm}{Q}{i:Int}{x:zO}{k0:Int}{aw:Nat}{b:Nat}{p1 c1 p2 c2 p7 c7}{b1:Nat}{p14 c14 aR p15 c15},I0.le I->(S4 I p7 y1 c7)->(S4 I p1 x.Nest c1)->(S4 I p2 x.Body c2)->(RL I aR Body2)->(S4 I p15 x6.b c15)->NG Q->NO Q->(∀ (I':Imm) (Body3:List zP) (x7:zM) (p16:Option Addr) (c16:Nat) (aS:List Value) (p17:Option Addr) (c17:Nat),o=(Body3,x7)->I0.le I'->(RL I' aS Body3)->(S4 I' p17 x7.b c17)->T 81 B Q (.exit 4) I' [hO zP (vS p16 Body3 c16) aS,hB aw (cRd x7 p17 c17),hB b1 [vS p7 y1 c7,vS p16 Body3 c16],hB b (cPart x p1 c1 p2 c2)] [(0,vP aw 0),(2,vP b 0),(3,vI i),(4,vP b1 0),(5,vI k0)])->J Tryz.prog 81 B (nav (bodyOf f178) [1,0,1,0,0,1,0,0,1,0,1,0,0,1,0,0,1,0]) Q I [hO zP (vS p14 Body2 c14) aR,hB aw (cRd x6 p15 c15),hB b1 [vS p7 y1 c7,vS p14 Body2 c14],hB b (cPart x p1 c1 p2 c2)] [(0,vP aw 0),(2,vP b 0),(3,vI i),(4,vP b1 0),(5,vI k0),(6,vI n0)]:=by
 refine nJ.partial_correctness y1 Body2 _ fun aI ih n0 x6 o N B I0 I Q i x k0 aw b p1 c1 p2 c2 p7 c7 b1 p14 c14 aR p15 c15 H h7 h1 h2 h20 h21 hg ho hx=>yO hg ho<|yB<|yG [31] rfl<|zH<|yE N ?_ ?_
 · intro aZ N;refine zT<|zZ<|yH<|yF<|yC 4 [2] [34,37] rfl<|sE (zY [1,0,2,3] (ah:=[hB aw (cRd x6 p15 c15),hO zP (vS p14 Body2 c14) aR,hB b1 [vS p7 y1 c7,vS p14 Body2 c14],hB b (cPart x p1 c1 p2 c2)])) ?_;obtain ⟨⟨y7,y8⟩,aK,N⟩:=zB N;refine tY (zHu x6 (y1.length:Int) _ aK h21) rfl ?_;rintro bG ay v2 k2 aJ - ⟨v04,kk2,rfl,rfl,⟨bB,rfl,h24⟩,h25⟩ -;have ⟨h20,h7,h1,h2,H⟩:=m5 aJ h20 h7 h1 h2 H;obtain ⟨p18,c18,p19,c19,p20,c20,p21,c21,rfl,h26,h27,h28,h29⟩:=pQ h24;obtain ⟨p22,c22,rfl,h30⟩:=yA h25;refine wS [vT ([]),z0,vI 0,vI 0,z0,vI 0,vT ([]),z0,z0] ?_;intro b3 hb3;refine xJ 0 (cStmt y7 p18 c18 p19 c19 p20 c20 p21 c21) rfl<|yD rfl<|zH<|yB ?_;obtain ⟨y9,bi,N⟩:=zB N;obtain ⟨⟨y11,y12⟩,bu,N⟩:=zB N;refine wT [.x (eS y9),.p (vP b1 0) [],.p (vS p7 y1 c7) [3],.p (vA (cStmt y7 p18 c18 p19 c19 p20 c20 p21 c21)) [0],.x (fun I' v hx=>∃ b4,v=vS (some ⟨b4,0,none⟩) ([y7]:List zP) 1/\hx=[]/\(SL I' (vS (some ⟨b4,0,none⟩) ([y7]:List zP) 1) ([y7]:List zP))),.x (fun I' v hx=>∃ b41,v=vA [vS p7 y1 c7,vS (some ⟨b41,0,none⟩) ([y7]:List zP) 1]/\hx=[]/\(SL I' (vS (some ⟨b41,0,none⟩) ([y7]:List zP) 1) ([y7]:List zP))),.q (.tuple ⟨[vI y11,.bool y12]⟩),.p (.tuple ⟨[vI y11,.bool y12]⟩) [],.p (vI y11) [],.p (.bool y12) [],.p (vI y11) []] [[],[],[(1,false)],[],[(3,false)],[(2,false),(4,false)],[(0,false),(5,false)],[(6,false)],[(7,false)],[(7,false)],[(8,false)]] [hB b3 (cStmt y7 p18 c18 p19 c19 p20 c20 p21 c21),hB aw (cRd y8 p22 c22),hO zP (vS p14 Body2 c14) aR,hB b1 [vS p7 y1 c7,vS p14 Body2 c14],hB b (cPart x p1 c1 p2 c2)] [] [(9,false)] (zY [0,1,2,3,4]) ?_ ?_
   · refine Ox ?_<|Op<|Op<|Op<|Ox ?_<|Ox ?_<|Oq ?_<|Op<|Op<|Op<|Op<|On
     · intro I1 hf ae;refine I_h [] ?_;have H:=iS I1;refine xM (zAC  _ bi ) ?_;rintro bL ay v2 k2 bd - ⟨v010,rfl,rfl,h31⟩ -;have H:=H.trans bd;obtain ⟨p23,c23,rfl⟩:=h31.form;exact yL [] H ⟨_,_,rfl,rfl,h31⟩
     · intro I1 hf ae;refine yW [43] rfl ?_;have H:=iS I1;have ⟨h26,h27,h28,h29⟩:=m4 ae h26 h27 h28 h29;refine mG (rc y7 (vD ⟨_,_,_,_,rfl,h26,h27,h28,h29⟩) rN) ?_;intro b4 bR bw h33;have H:=H.trans bw;exact yL [] H ⟨_,rfl,rfl,h33⟩
     · rintro I1 hf ae _ _ ⟨rfl,rfl⟩ _ _ ⟨b4,rfl,rfl,h33⟩;refine yW [42,44] rfl ?_;exact mF 6 [(45,vA [vS p7 y1 c7,vS (some ⟨b4,0,none⟩) ([y7]:List zP) 1])]<|yL [] iR ⟨_,rfl,rfl,h33⟩
     rintro I1 hf ae _ _ ⟨p23,c23,rfl,rfl,h31⟩ _ _ ⟨b41,rfl,rfl,h331⟩;refine yW [40,45] rfl ?_;have H:=iS I1;have h7:=h7.mono ae;refine xM (zBB y9 (zO.mk y1 ([y7]:List zP)) _ bu h31 h7 h331) ?_;rintro I06 ay v2 k2 bC - ⟨v011,v012,rfl,rfl,rfl,rfl⟩ -;have H:=H.trans bC;exact xF H
   intro I07 le7;refine yW [0,2,3,4,5,6,7,48] rfl ?_;have ⟨h26,h27,h28,h29,h30,h20⟩:=m6 le7 h26 h27 h28 h29 h30 h20;have ⟨h7,h1,h2,H⟩:=m4 le7 h7 h1 h2 H;refine yI [] [9] rfl<|wP [49] rfl<|zH<|yE N ?_ ?_
   · intro bK N;refine yF<|rH 3 [3,0] [(51,vS p14 Body2 c14),(52,vA (cStmt y7 p18 c18 p19 c19 p20 c20 p21 c21))]<|uO (cStmt y7 p18 c18 p19 c19 p20 c20 p21 c21) zP ?_;intro b5 hb5;have h36:RL I07 (cStmt y7 p18 c18 p19 c19 p20 c20 p21 c21) ([y7]:List zP):=⟨(cStmt y7 p18 c18 p19 c19 p20 c20 p21 c21),_,rfl,rfl,(vD ⟨_,_,_,_,rfl,h26,h27,h28,h29⟩),rfl⟩;obtain ⟨l,bJ,N⟩:=zB N;refine sO 100 9 3 rfl rfl rfl h20 (.inr ⟨0,rfl⟩) h36 bJ ?_;intro p24 c24 bI h37;exact sE (zY [1,2,3,4,5] (ah:=[hB b3 (cStmt y7 p18 c18 p19 c19 p20 c20 p21 c21),hB aw (cRd y8 p22 c22),hO zP (vS p24 l c24) bI,hB b1 [vS p7 y1 c7,vS p14 Body2 c14],hB b (cPart x p1 c1 p2 c2)]))<|yC 6 [] [55] rfl<|xJ 3 [vS p7 y1 c7,vS p24 l c24] rfl<|yD rfl<|zH<|zEM<|zIc rfl<|jA<|jA<|xR (zX [2,1,3,4] rfl (by decide))<|yN<|hx _ _ _ _ _ _ _ _ (zC N).symm H h37 h30
   intro bK N;exact zT<|zN<|zH<|zJ<|yI [] [6] rfl<|yM<|kC (zX [2,1,3,4] rfl (by decide))<|nT<|ih (W (n0+1)) y8 _ N H h7 h1 h2 h20 h30 hg ho hx
 intro aZ N;exact wL<|yN<|hx _ _ _ _ _ _ _ _ (zC N).symm H h20 h21
def nK (y1:(List zE)) (k0:Int) (Body:List zP) (x4:zM):Option ((List zP×zM)):=do
 if (decide (k0>0)) then
  let (Body3,x7)<-nJ y1 Body 0 x4
  nK y1 (W (k0 - 1)) Body3 x7
 else
  pure (Body,x4)
 partial_fixpoint
theorem zF4 (y1:(List zE)):∀ (k0:Int) (Body:List zP) (x4:zM) (o:(List zP×zM)),nK y1 k0 Body x4=some o->∀ {B}{I0 I:Imm}{Q}{i:Int}{x:zO}{aw:Nat}{b:Nat}{p1 c1 p2 c2 p7 c7}{b1:Nat}{bc bj cs aT bf},I0.le I->(S4 I p7 y1 c7)->(S4 I p1 x.Nest c1)->(S4 I p2 x.Body c2)->(RL I cs Body)->(S4 I aT x4.b bf)->NG Q->NO Q->(∀ (I':Imm) (bx:List zP) (x5:zM) (bD:Option Addr) (br:Nat) (az:List Value) (bt:Option Addr) (bz:Nat),o=(bx,x5)->I0.le I'->(RL I' az bx)->(S4 I' bt x5.b bz)->T 81 B Q (.exit 2) I' [hO zP (vS bD bx br) az,hB aw (cRd x5 bt bz),hB b1 [vS p7 y1 c7,vS bD bx br],hB b (cPart x p1 c1 p2 c2)] [(0,vP aw 0),(2,vP b 0),(3,vI i),(4,vP b1 0)])->J Tryz.prog 81 B (nav (bodyOf f178) [1,0,1,0,0,1,0,0,1,0,1,0]) Q I [hO zP (vS bc Body bj) cs,hB aw (cRd x4 aT bf),hB b1 [vS p7 y1 c7,vS bc Body bj],hB b (cPart x p1 c1 p2 c2)] [(0,vP aw 0),(2,vP b 0),(3,vI i),(4,vP b1 0),(5,vI k0)]:=by
 refine nK.partial_correctness y1 _ fun aI ih k0 Body x4 o N B I0 I Q i x aw b p1 c1 p2 c2 p7 c7 b1 bc bj cs aT bf H h7 h1 h2 h16 h17 hg ho hx=>yO hg ho<|yB<|yG [27] rfl<|zH<|yE N ?_ ?_
 · intro aH N;refine zT<|zZ<|yH<|yG [6] rfl<|xY<|qI [(0,vP aw 0),(2,vP b 0),(3,vI i),(4,vP b1 0),(5,vI k0),(6,vI 0)] ?_;obtain ⟨o0,aD,aM⟩:=zB N;refine zF3 y1 Body 0 x4 o0 aD iR h7 h1 h2 h16 h17 (fun _ _ _ h=>hg _ _ _ h) (fun _ _ h=>ho _ _ h) ?_;intro I08 Body3 x7 p16 c16 aS p17 c17 heq le8 h22 h23;subst o0;have ⟨h7,h1,h2,H⟩:=m4 le8 h7 h1 h2 H;exact zS<|zN<|zH<|zJ<|yI [] [5] rfl<|yM<|nT<|ih (W (k0 - 1)) Body3 x7 _ aM H h7 h1 h2 h22 h23 hg ho hx
 intro aH N;exact wL<|yN<|hx _ _ _ _ _ _ _ _ (zC N).symm H h16 h17
def nL (x:zO) (i:Int) (x1:zM):Option (Out (zO×zM) (zO×zM)):=do
 if (decide (i<4)) then
  let (y1,y2)<-dC x1
  let (y4,y5)<-yT y2 ([1,2,1,3]:List Int)
  let (bx,x5)<-nK y1 y4 ([]:List zP) y5
  let y13<-jO
  let (y15,y16)<-nW y13 (zO.mk y1 bx)
  let t66<-(do
    if y16 then
     pure (decide (y15<=40))
    else
     pure false
      : Option Bool)
  if t66 then
   pure (.ret ((zO.mk y1 bx),x5))
  else
   nL x (W (i+1)) x5
 else
  pure (.done (x,x1))
 partial_fixpoint
theorem zF5 (x:zO):∀ (i:Int) (x1:zM) (o:Out (zO×zM) (zO×zM)),nL x i x1=some o->∀ {B}{I0 I:Imm}{Q}  {aw:Nat}{b:Nat}{p1 c1 p2 c2 p3 c3},I0.le I->(S4 I p1 x.Nest c1)->(S4 I p2 x.Body c2)->(S4 I p3 x1.b c3)->NG Q->NO Q->(∀ (I':Imm) (x2:zO) (x3:zM) (p4:Option Addr) (c4:Nat) (p5:Option Addr) (c5:Nat) (p6:Option Addr) (c6:Nat),o=(.done (x2,x3))->I0.le I'->(S4 I' p4 x2.Nest c4)->(S4 I' p5 x2.Body c5)->(S4 I' p6 x3.b c6)->T 81 B Q (.exit 0) I' [hB b (cPart x2 p4 c4 p5 c5),hB aw (cRd x3 p6 c6)] [(2,vP b 0)])->(∀ r I' ah m',o=(.ret r)->I0.le I'->RS Tryz.prog f178 B (zCF aw r) I' ah m'->T 81 B Q .ret I' ah m')->J Tryz.prog 81 B (nav (bodyOf f178) [1,0,1,0]) Q I [hB b (cPart x p1 c1 p2 c2),hB aw (cRd x1 p3 c3)] [(0,vP aw 0),(2,vP b 0),(3,vI i)]:=by
 refine nL.partial_correctness x _ fun aI ih i x1 o N B I0 I Q aw b p1 c1 p2 c2 p3 c3 H h1 h2 h3 hg ho hx hr=>yO hg ho<|yB<|yG [17] rfl<|zH<|yE N ?_ ?_
 · intro hc N;refine zT<|zZ<|yH<|yF<|yC 1 [] [20] rfl<|sE (zY [1,0] (ah:=[hB aw (cRd x1 p3 c3),hB b (cPart x p1 c1 p2 c2)])) ?_;obtain ⟨⟨y1,y2⟩,hy,N⟩:=zB N;refine tY (zHs x1 _ hy h3) rfl ?_;rintro I0 ay v2 k2 le - ⟨v0,kk,rfl,rfl,h7,h8⟩ -;have ⟨h1,h2,H⟩:=m3 le h1 h2 H;obtain ⟨p7,c7,rfl⟩:=h7.form;obtain ⟨p8,c8,rfl,h9⟩:=yA h8;refine yC 3 [] [22] rfl<|wS zTwo ?_;intro b1 hb1;refine xJ 0 [vS p7 y1 c7,z0] rfl<|yD rfl<|zZ<|yF<|yC 1 [] [23] rfl<|mG (rI [1,2,1,3]) ?_;intro b2 aW ae h11;have ⟨h7,h9,h1,h2,H⟩:=m5 ae h7 h9 h1 h2 H;refine sE (zY [1,0,2] (ah:=[hB aw (cRd y2 p8 c8),hB b1 [vS p7 y1 c7,z0],hB b (cPart x p1 c1 p2 c2)])) ?_;obtain ⟨⟨y4,y5⟩,aA,N⟩:=zB N;refine tY (yZ y2 ([1,2,1,3]:List Int) _ aA h9 h11) rfl ?_;rintro aX ay v2 k2 aF - ⟨v02,kk1,rfl,rfl,rfl,h13⟩ -;have ⟨h7,h1,h2,H⟩:=m4 aF h7 h1 h2 H;obtain ⟨p9,c9,rfl,h14⟩:=yA h13;refine yI [] [5] rfl<|xY<|qI [(0,vP aw 0),(2,vP b 0),(3,vI i),(4,vP b1 0),(5,vI y4)]<|zAM zP fun h15=>?_;obtain ⟨aQ,aB,hMl1⟩:=zB N;refine zF4 y1 y4 ([]:List zP) y5 aQ aB iR h7 h1 h2 h15 h14 (fun _ _ _ h=>hg _ _ _ h) (fun _ _ h=>ho _ _ h) ?_;intro I09 bx x5 bD br az bt bz heq1 le9 h18 h19;subst aQ;have ⟨h7,h1,h2,H⟩:=m4 le9 h7 h1 h2 H;refine zS<|zZ<|qK 0 rfl ?_;intro bS le10 hl02;have h38:=SL.of_frozen hl02 le10 h18;have ⟨h19,h7,h1,h2,H⟩:=m5 le10 h19 h7 h1 h2 H;obtain ⟨y13,hy6,N⟩:=zB hMl1;obtain ⟨⟨y15,y16⟩,hy7,N⟩:=zB N;refine wT [.x (eS y13),.p (vA [vS p7 y1 c7,vS bD bx br]) [1],.q (.tuple ⟨[vI y15,.bool y16]⟩),.p (.tuple ⟨[vI y15,.bool y16]⟩) [],.p (vI y15) [],.p (.bool y16) [],.p (vI y15) []] [[],[],[(0,false),(1,false)],[(2,false)],[(3,false)],[(3,false)],[(4,false)]] [hB aw (cRd x5 bt bz),hB b1 [vS p7 y1 c7,vS bD bx br],hB b (cPart x p1 c1 p2 c2)] [] [(5,false),(6,false)] (zY [0,1,2]) ?_ ?_
   · refine Ox ?_<|Op<|Oq ?_<|Op<|Op<|Op<|Op<|On
     · intro I1 hf ae;refine I_h [] ?_;have H:=iS I1;refine xM (zAC  _ hy6 ) ?_;rintro bY ay v2 k2 le11 - ⟨v013,rfl,rfl,h39⟩ -;have H:=H.trans le11;obtain ⟨p25,c25,rfl⟩:=h39.form;exact yL [] H ⟨_,_,rfl,rfl,h39⟩
     rintro I1 hf ae _ _ ⟨p25,c25,rfl,rfl,h39⟩;refine yW [57,58] rfl ?_;have H:=iS I1;have ⟨h7,h38⟩:=m2 ae h7 h38;refine xM (zBB y13 (zO.mk y1 bx) _ hy7 h39 h7 h38) ?_;rintro bX ay v2 k2 le12 - ⟨v014,v015,rfl,rfl,rfl,rfl⟩ -;have H:=H.trans le12;exact xF H
   intro I013 le13;refine yW [0,2,3,4,10,61] rfl ?_;have ⟨h19,h7,h38,h1,h2,H⟩:=m6 le13 h19 h7 h38 h1 h2 H;refine yI [] [11] rfl<|zH<|yB ?_;refine wR N [hB aw (cRd x5 bt bz),hB b1 [vS p7 y1 c7,vS bD bx br],hB b (cPart x p1 c1 p2 c2)] (fun t66=>[(0,vP aw 0),(2,vP b 0),(3,vI i),(4,vP b1 0),(66,.bool t66)]) (fun o02 ho02=>?_) ?_
   · have H:=iS I013;refine zJ<|yC 2 [] [63] rfl<|xW [63] ho02 ?_ ?_
     · intro bO N;exact yI [] [66] rfl<|yN<|zV (ct N H)
     intro bO N;exact wI [] [(66,vF)]<|yN<|zV (ct N H)
   intro t66 I014 le14 aV;have ⟨h19,h7,h38,h1,h2,H⟩:=m6 le14 h19 h7 h38 h1 h2 H;refine zH<|yE aV ?_ ?_
   · intro hc5 N;exact yF<|rH 1 [1] [(67,vA [vS p7 y1 c7,vS bD bx br])]<|xJ 2 [vS p7 y1 c7,vS bD bx br] rfl<|yD rfl<|xD<|zW<|zG<|zG<|hr _ _ _ _ (zC N).symm H ⟨_,_,(.cell 2 rfl rfl (by kernel_rfl) ResV.nil),(zX [0] rfl (by decide)),⟨_,_,rfl,rfl,⟨_,rfl,(qM ⟨_,_,rfl,h7,h38⟩)⟩,(yU ⟨_,rfl,h19⟩)⟩⟩
   intro hc5 N;exact zT<|zN<|zH<|zJ<|yI [] [3] rfl<|yM<|kC (zX [2,0] rfl (by decide))<|nT<|ih (W (i+1)) x5 _ N H h1 h2 h19 hg ho hx hr
 intro hc N;exact wL<|yN<|hx _ _ _ _ _ _ _ _ _ (zC N).symm H h1 h2 h3
def dE (r0:zM):Option (zO×zM):=do
 match<-nL (zO.mk ([]:List zE) ([]:List zP)) 0 r0 with
 | .ret r0=>pure r0
 | .done (x2,x3) =>
  let (y18,y19)<-kE (⟨[65,91,105,93,61,40,65,91,105,93,43,123,105,125,41]⟩:Str)
  let (y21,y22)<-eE ([4]:List Int)
  pure ((zO.mk y21 ([y18]:List zP)),x3)
theorem zHv:∀ r0 r,dE r0=some r->∀ {I:Imm}{aw:Nat}{p c},(S4 I p r0.b c)->RT 178 [vP aw 0] I [hB aw (cRd r0 p c)] (zCF aw r):=by
 intro r0 r N I aw p c h;unfold dE at N;refine yK func178 fun B=>yF<|wS zTwo ?_;intro b hb;refine yD rfl<|zZ<|yG [3] rfl<|xY<|qI [(0,vP aw 0),(2,vP b 0),(3,vI 0)] ?_;obtain ⟨o03,ho03,hMl2⟩:=zB N;refine zF5 (zO.mk ([]:List zE) ([]:List zP)) 0 r0 o03 ho03 iR (SL.nil _) (SL.nil _) h (fun _ _ _ h=>h) (fun _ _ h=>h) ?_ ?_
 · intro I015 x2 x3 p4 c4 p5 c5 p6 c6 heq3 le15 h4 h5 h6;subst o03;refine zS<|zZ<|zJ ?_;obtain ⟨⟨y18,y19⟩,hy8,N⟩:=zB hMl2;refine xM (zB2 (⟨[65,91,105,93,61,40,65,91,105,93,43,123,105,125,41]⟩:Str) _ hy8 ) ?_;rintro I016 ay v2 k2 le16 - ⟨v016,v017,rfl,rfl,⟨cs6,rfl,h42⟩,rfl⟩ -;have h6:=h6.mono le16;obtain ⟨p26,c26,p27,c27,p28,c28,p29,c29,rfl,h44,h45,h46,h47⟩:=pQ h42;refine yC 4 [] [70,71] rfl<|wS [vT ([]),z0,vI 0,vI 0,z0,vI 0,vT ([]),z0,z0] ?_;intro b6 hb6;refine xJ 0 (cStmt y18 p26 c26 p27 c27 p28 c28 p29 c29) rfl<|wI [] []<|yV<|mG (rI [4]) ?_;intro b7 I017 le17 h49;have ⟨h44,h45,h46,h47,h6⟩:=m5 le17 h44 h45 h46 h47 h6;obtain ⟨⟨y21,y22⟩,hy9,N⟩:=zB N;refine xM (zHF ([4]:List Int) _ hy9 h49) ?_;rintro I018 ay v2 k2 le18 - ⟨v022,v023,rfl,rfl,h50,rfl⟩ -;have ⟨h44,h45,h46,h47,h6⟩:=m5 le18 h44 h45 h46 h47 h6;obtain ⟨p30,c30,rfl⟩:=h50.form;refine yI [] [14] rfl<|yV<|rH 2 [0] [(77,vS p30 y21 c30),(78,vA (cStmt y18 p26 c26 p27 c27 p28 c28 p29 c29))]<|uO (cStmt y18 p26 c26 p27 c27 p28 c28 p29 c29) zP ?_;intro b8 hb8;have h52:RL I018 (cStmt y18 p26 c26 p27 c27 p28 c28 p29 c29) ([y18]:List zP):=⟨(cStmt y18 p26 c26 p27 c27 p28 c28 p29 c29),_,rfl,rfl,(vD ⟨_,_,_,_,rfl,h44,h45,h46,h47⟩),rfl⟩;refine yC 4 [] [80] rfl<|xJ 2 [vS p30 y21 c30,vS (some ⟨b8,0,none⟩) ([y18]:List zP) 1] rfl<|yD rfl<|xD<|yX 0 rfl ?_;intro I019 le19 hl04;have h53:=SL.of_frozen hl04 le19 h52;have ⟨h50,h6⟩:=m2 le19 h50 h6;obtain rfl:=zC N;exact xA ⟨_,_,(.cell 1 rfl rfl (by kernel_rfl) ResV.nil),(zX [2] rfl (by decide)),⟨_,_,rfl,rfl,⟨_,rfl,(qM ⟨_,_,rfl,h50,h53⟩)⟩,(yU ⟨_,rfl,h6⟩)⟩⟩
 intro r0 I9 hs9 m9 aY le9 ba;subst aY;refine zW<|zG ?_;obtain rfl:=zC hMl2;exact xA ba
def zGZ (b0:Nat) (r:zD×zM):KT:=fun kk I' ah v=>
  ∃ v0 k0,ah=[.blk b0 ⟨k0⟩]/\v=tupV [v0]/\(∃ cs,v0=.agg ⟨cs⟩/\Rp.rep I' cs r.1)/\Rp.rep I' k0 r.2
def nM (i:Int) (Parts:List zO) (x:zM):Option ((List zO×zM)):=do
 if (decide (i>0)) then
  let (y5,y6)<-dE x
  let l<-app 48 Parts ([y5]:List zO)
  nM (W (i - 1)) l y6
 else
  pure (Parts,x)
 partial_fixpoint
theorem zF6 :∀ (i:Int) (Parts:List zO) (x:zM) (o:(List zO×zM)),nM i Parts x=some o->∀ {B}{I0 I:Imm}{Q}{y:(List zF)}{aw:Nat}{b:Nat}{p1 c1}{b1:Nat}{p3 c3 cs p4 c4},I0.le I->(S4 I p1 y c1)->(RL I cs Parts)->(S4 I p4 x.b c4)->NG Q->NO Q->(∀ (I':Imm) (bm:List zO) (x1:zM) (p5:Option Addr) (c5:Nat) (az:List Value) (p6:Option Addr) (c6:Nat),o=(bm,x1)->I0.le I'->(RL I' az bm)->(S4 I' p6 x1.b c6)->T 29 B Q (.exit 0) I' [hO zO (vS p5 bm c5) az,hB aw (cRd x1 p6 c6),hB b1 [vS p1 y c1,vS p5 bm c5],hB b zTwo] [(2,vP b 0),(3,vP b1 0)])->J Tryz.prog 29 B (nav (bodyOf f138) [1,1,0,1,0]) Q I [hO zO (vS p3 Parts c3) cs,hB aw (cRd x p4 c4),hB b1 [vS p1 y c1,vS p3 Parts c3],hB b zTwo] [(0,vP aw 0),(2,vP b 0),(3,vP b1 0),(4,vI i)]:=by
 refine nM.partial_correctness  _ fun aI ih i Parts x o N B I0 I Q y aw b p1 c1 b1 p3 c3 cs p4 c4 H h1 h8 h9 hg ho hx=>yO hg ho<|yB<|yG [11] rfl<|zH<|yE N ?_ ?_
 · intro hc N;refine zT<|zZ<|yH ?_;obtain ⟨⟨y5,y6⟩,aK,N⟩:=zB N;obtain ⟨l,bi,N⟩:=zB N;refine wT [.p (vP b1 1) [],.p (vS p3 Parts c3) [0],.p (vP aw 0) [],.x (fun I' v hx=>∃ p7 c7 p8 c8 p9 c9,v=vA (cPart y5 p7 c7 p8 c8)/\hx=[hB aw (cRd y6 p9 c9)]/\(S4 I' p7 y5.Nest c7)/\(S4 I' p8 y5.Body c8)/\(S4 I' p9 y6.b c9)),.x (fun I' v hx=>∃ b3,v=vS (some ⟨b3,0,none⟩) ([y5]:List zO) 1/\hx=[]/\(SL I' (vS (some ⟨b3,0,none⟩) ([y5]:List zO) 1) ([y5]:List zO))),.x (fun I' v hx=>∃ bc bj aS,v=vS bc l bj/\hx=[hO zO (vS bc l bj) aS]/\(RL I' aS l))] [[],[(0,false)],[],[(2,false),(8,true)],[(3,false)],[(1,false),(4,false),(9,true)]] [hB b1 [vS p1 y c1,vS p3 Parts c3],hB b zTwo] [[hB aw (cRd x p4 c4)],[hO zO (vS p3 Parts c3) cs]] [(3,true),(5,true)] (zY [2,3,1,0]) ?_ ?_
   · refine Op<|Op<|Op<|Ox ?_<|Ox ?_<|Ox ?_<|On
     · rintro I1 hf ae _ _ ⟨rfl,rfl⟩ _ _ rfl;refine yW [16] rfl ?_;have H:=iS I1;have h9:=h9.mono ae;refine tY (zHv x _ aK h9) rfl ?_;rintro bG ay v2 k2 aJ - ⟨v03,kk1,rfl,rfl,⟨aR,rfl,h12⟩,h13⟩ -;have H:=H.trans aJ;obtain ⟨p7,c7,p8,c8,rfl,h14,h15⟩:=wU h12;obtain ⟨p9,c9,rfl,h16⟩:=yA h13;exact yL [hB aw (cRd y6 p9 c9)] H ⟨_,_,_,_,_,_,rfl,rfl,h14,h15,h16⟩
     · rintro I1 hf ae _ _ ⟨p7,c7,p8,c8,p9,c9,rfl,rfl,h14,h15,h16⟩;refine yW [17] rfl ?_;have H:=iS I1;refine mG (rc y5 (qM ⟨_,_,rfl,h14,h15⟩) rN) ?_;intro b3 bL bd h18;have H:=H.trans bd;exact yL [] H ⟨_,rfl,rfl,h18⟩
     rintro I1 hf ae _ _ ⟨rfl,rfl⟩ _ _ ⟨b3,rfl,rfl,h18⟩ _ _ rfl;refine yW [15,18] rfl ?_;have h8:=iM ae h8;obtain ⟨aP,k0,k01⟩:=h18;have h18:SL I1 (vS (some ⟨b3,0,none⟩) ([y5]:List zO) 1) ([y5]:List zO):=⟨_,k0,k01⟩;exact sO 47 2 0 rfl rfl rfl h8 (.inl k0) k01 bi fun bc bj aS h19=>wK (ah:=(hO zO (vS bc l bj) aS::hB b1 [vS p1 y c1,vS p3 Parts c3]::hB b zTwo::hf)) rfl<|yL [hO zO (vS bc l bj) aS] iR ⟨_,_,_,rfl,rfl,h19⟩
   rintro bR bw _ _ ⟨p7,c7,p8,c8,p9,c9,rfl,rfl,h14,h15,h16⟩ _ _ ⟨bc,bj,aS,rfl,rfl,h19⟩;refine yW [0,2,3,4,19] rfl ?_;have ⟨h1,H⟩:=m2 bw h1 H;exact yC 7 [] [20] rfl<|xJ 2 [vS p1 y c1,vS bc l bj] rfl<|yD rfl<|zN<|zH<|zJ<|yI [] [4] rfl<|yM<|nT<|ih (W (i - 1)) l y6 _ N H h1 h19 h16 hg ho hx
 intro hc N;exact wL<|yN<|hx _ _ _ _ _ _ _ _ (zC N).symm H h8 h9
def dG (r0:zM):Option (zD×zM):=do
 let y<-jO
 let (y2,y3)<-yT r0 ([1,2,1,3]:List Int)
 let (bm,x1)<-nM y2 ([]:List zO) y3
 let y7<-uV (zD.mk y bm)
 if y7 then
  pure ((zD.mk y bm),x1)
 else
  let y8<-jO
  let l1<-slc bm 0 1
  pure ((zD.mk y8 l1),x1)
theorem zHw:∀ r0 r,dG r0=some r->∀ {I:Imm}{aw:Nat}{p c},(S4 I p r0.b c)->RT 138 [vP aw 0] I [hB aw (cRd r0 p c)] (zGZ aw r):=by
 intro r0 r N I aw p c h;unfold dG at N;refine yK func138 fun B=>?_;have H:=iS I;refine yF<|wS zTwo ?_;intro b hb;refine yD rfl<|yV<|bE N fun y hy N=>xM (zAC  _ hy ) ?_;rintro I0 ay v2 k2 le - ⟨v0,rfl,rfl,h1⟩ -;have ⟨h,H⟩:=m2 le h H;obtain ⟨p1,c1,rfl⟩:=h1.form;refine yC 2 [] [6] rfl<|wS zTwo ?_;intro b1 hb1;refine xJ 0 [vS p1 y c1,z0] rfl<|yD rfl<|zZ<|yF<|yC 1 [] [7] rfl<|mG (rI [1,2,1,3]) ?_;intro b2 aW ae h3;have ⟨h1,h,H⟩:=m3 ae h1 h H;refine sE (zY [2,0,1] (ah:=[hB aw (cRd r0 p c),hB b1 [vS p1 y c1,z0],hB b zTwo])) ?_;obtain ⟨⟨y2,y3⟩,aA,N⟩:=zB N;refine tY (yZ r0 ([1,2,1,3]:List Int) _ aA h h3) rfl ?_;rintro aX ay v2 k2 aF - ⟨v01,kk,rfl,rfl,rfl,h5⟩ -;have ⟨h1,H⟩:=m2 aF h1 H;obtain ⟨p2,c2,rfl,h6⟩:=yA h5;refine yI [] [4] rfl<|xY<|qI [(0,vP aw 0),(2,vP b 0),(3,vP b1 0),(4,vI y2)]<|zAM zO fun h7=>?_;obtain ⟨o0,aD,aM⟩:=zB N;refine zF6 y2 ([]:List zO) y3 o0 aD iR h1 h7 h6 (fun _ _ _ h=>h) (fun _ _ h=>h) ?_;intro I06 bm x1 p5 c5 az p6 c6 heq bC h10 h11;subst o0;have ⟨h1,H⟩:=m2 bC h1 H;refine zS<|zZ<|yF<|rH 1 [2] [(21,vA [vS p1 y c1,vS p5 bm c5])]<|xI 0 rfl ?_;intro I07 le7 hl02;have h20:=SL.of_frozen hl02 le7 h10;have ⟨h1,h11,H⟩:=m3 le7 h1 h11 H;obtain ⟨y7,bu,N⟩:=zB aM;refine vU (eC (zD.mk y bm) _ bu h1 h20) ?_;intro I08 le8;have ⟨h11,h1,h20,H⟩:=m4 le8 h11 h1 h20 H;refine yD rfl<|zH<|yE N ?_ ?_
 · intro aH N;refine yF<|rH 1 [1] [(23,vA [vS p1 y c1,vS p5 bm c5])]<|xJ 2 [vS p1 y c1,vS p5 bm c5] rfl<|yD rfl<|xD<|zG ?_;obtain rfl:=zC N;exact xA ⟨_,_,(.cell 2 rfl rfl (by kernel_rfl) ResV.nil),(zX [0] rfl (by decide)),⟨_,_,rfl,rfl,⟨_,rfl,(vV ⟨_,_,rfl,h1,h20⟩)⟩,(yU ⟨_,rfl,h11⟩)⟩⟩
 intro aH N;refine zT<|zH<|yB ?_;obtain ⟨y8,bJ,N⟩:=zB N;obtain ⟨l1,hy6,N⟩:=zB N;refine wT [.x (eS y8),.p (vP b1 1) [],.p (vS p5 bm c5) [1],.x (eS l1),.x (fun I' v hx=>∃ p111 c111 p121 c121,v=vA [vS p111 y8 c111,vS p121 l1 c121]/\hx=[]/\(S4 I' p111 y8 c111)/\(S4 I' p121 l1 c121))] [[],[],[(1,false)],[(2,false)],[(0,false),(3,false)]] [hB aw (cRd x1 p6 c6),hB b1 [vS p1 y c1,vS p5 bm c5],hB b zTwo] [] [(4,false)] (zY [0,1,2]) ?_ ?_
 · refine Ox ?_<|Op<|Op<|Ox ?_<|Ox ?_<|On
   · intro I1 hf ae;refine I_h [] ?_;have H:=iS I1;refine xM (zAC  _ bJ ) ?_;rintro I09 ay v2 k2 le9 - ⟨v08,rfl,rfl,h22⟩ -;have H:=H.trans le9;obtain ⟨aT,bf,rfl⟩:=h22.form;exact yL [] H ⟨_,_,rfl,rfl,h22⟩
   · intro I1 hf ae;refine yW [26] rfl ?_;have h20:=h20.mono ae;refine zKZ rfl h20 hy6 ?_;intro v09 h23;obtain ⟨bD,br,rfl⟩:=h23.form;exact yL [] iR ⟨_,_,rfl,rfl,h23⟩
   rintro I1 hf ae _ _ ⟨aT,bf,rfl,rfl,h22⟩ _ _ ⟨bD,br,rfl,rfl,h23⟩;exact yW [24,27] rfl<|mF 5 [(28,vA [vS aT y8 bf,vS bD l1 br])]<|yL [] iR ⟨_,_,_,_,rfl,rfl,h22,h23⟩
 rintro bS le10 _ _ ⟨p111,c111,p121,c121,rfl,rfl,h221,h231⟩;refine yW [2,28] rfl ?_;have h11:=h11.mono le10;refine xJ 2 [vS p111 y8 c111,vS p121 l1 c121] rfl<|yD rfl<|zH<|yY ?_;obtain rfl:=zC N;exact xA ⟨_,_,(.cell 2 rfl rfl (by kernel_rfl) ResV.nil),(zX [0] rfl (by decide)),⟨_,_,rfl,rfl,⟨_,rfl,(vV ⟨_,_,rfl,h221,h231⟩)⟩,(yU ⟨_,rfl,h11⟩)⟩⟩
def zG0 (b0:Nat) (r:zD×zM):KT:=fun kk I' ah v=>
  ∃ v0 k0,ah=[.blk b0 ⟨k0⟩]/\v=tupV [v0]/\(∃ cs,v0=.agg ⟨cs⟩/\Rp.rep I' cs r.1)/\Rp.rep I' k0 r.2
def dH (r0:zM):Option (zD×zM):=do
 let (y1,y2)<-oI r0 ([(⟨[112,97,114,116,10,102,111,114,32,48,32,51,10,102,111,114,32,48,32,52,10,66,91,105,44,106,93,61,40,66,91,105,44,106,93,43,123,50,42,105,43,106,125,41,10]⟩:Str),(⟨[112,97,114,116,10,102,111,114,32,48,32,51,10,102,111,114,32,48,32,52,10,66,91,105,44,106,43,49,93,61,40,66,91,105,44,106,93,43,49,41,10]⟩:Str),(⟨[112,97,114,116,10,102,111,114,32,48,32,51,10,102,111,114,32,49,32,52,10,66,91,105,43,49,44,106,45,49,93,61,40,66,91,105,44,106,93,42,50,41,10]⟩:Str),(⟨[112,97,114,116,10,102,111,114,32,48,32,51,10,102,111,114,32,49,32,53,10,66,91,105,43,49,44,106,93,61,40,66,91,105,44,106,45,49,93,43,66,91,105,44,106,93,41,10,65,91,105,93,61,123,106,125,10]⟩:Str),(⟨[112,97,114,116,10,102,111,114,32,48,32,52,10,65,91,105,93,61,40,123,105,125,42,50,41,10,112,97,114,116,10,102,111,114,32,48,32,52,10,65,91,105,43,49,93,61,40,65,91,105,93,43,67,91,48,93,41,10]⟩:Str),(⟨[112,97,114,116,10,102,111,114,32,48,32,53,10,65,91,105,93,61,40,65,91,105,93,43,51,41,10,66,91,48,44,105,93,61,65,91,105,93,10]⟩:Str),(⟨[112,97,114,116,10,102,111,114,32,48,32,51,10,102,111,114,32,48,32,51,10,67,91,105,93,61,40,67,91,105,93,43,66,91,105,44,106,93,41,10,112,97,114,116,10,102,111,114,32,48,32,51,10,102,111,114,32,48,32,51,10,65,91,106,93,61,40,65,91,106,93,45,66,91,106,44,105,93,41,10]⟩:Str),(⟨[112,97,114,116,10,102,111,114,32,48,32,52,10,102,111,114,32,48,32,105,43,49,10,66,91,105,44,106,93,61,40,65,91,106,93,42,67,91,48,93,41,10]⟩:Str)]:List Str)
 let s<-cat (⟨[112,114,111,103,114,97,109,10,97,114,114,97,121,32,65,32,54,10,97,114,114,97,121,32,66,32,52,32,53,10,97,114,114,97,121,32,67,32,51,10]⟩:Str) y1
 let (y4,y5)<-mQ s
 let (t20,x)<-(do
   if y5 then
    let (y7,y8)<-xC y2 3
    pure ((decide (y7>0)),y8)
   else
    pure (false,y2)
     : Option (Bool×zM))
 if t20 then
  pure (y4,x)
 else
  let (y10,y11)<-dG x
  pure (y10,y11)
theorem zHx:∀ r0 r,dH r0=some r->∀ {I:Imm}{aw:Nat}{p c},(S4 I p r0.b c)->RT 91 [vP aw 0] I [hB aw (cRd r0 p c)] (zG0 aw r):=by
 intro r0 r N I aw p c h;unfold dH at N;refine yK func91 fun B=>?_;have H:=iS I;refine yF<|wS zTwo ?_;intro b hb;refine yD rfl<|yV<|yC 1 [] [6] rfl<|mG (rT [(⟨[112,97,114,116,10,102,111,114,32,48,32,51,10,102,111,114,32,48,32,52,10,66,91,105,44,106,93,61,40,66,91,105,44,106,93,43,123,50,42,105,43,106,125,41,10]⟩:Str),(⟨[112,97,114,116,10,102,111,114,32,48,32,51,10,102,111,114,32,48,32,52,10,66,91,105,44,106,43,49,93,61,40,66,91,105,44,106,93,43,49,41,10]⟩:Str),(⟨[112,97,114,116,10,102,111,114,32,48,32,51,10,102,111,114,32,49,32,52,10,66,91,105,43,49,44,106,45,49,93,61,40,66,91,105,44,106,93,42,50,41,10]⟩:Str),(⟨[112,97,114,116,10,102,111,114,32,48,32,51,10,102,111,114,32,49,32,53,10,66,91,105,43,49,44,106,93,61,40,66,91,105,44,106,45,49,93,43,66,91,105,44,106,93,41,10,65,91,105,93,61,123,106,125,10]⟩:Str),(⟨[112,97,114,116,10,102,111,114,32,48,32,52,10,65,91,105,93,61,40,123,105,125,42,50,41,10,112,97,114,116,10,102,111,114,32,48,32,52,10,65,91,105,43,49,93,61,40,65,91,105,93,43,67,91,48,93,41,10]⟩:Str),(⟨[112,97,114,116,10,102,111,114,32,48,32,53,10,65,91,105,93,61,40,65,91,105,93,43,51,41,10,66,91,48,44,105,93,61,65,91,105,93,10]⟩:Str),(⟨[112,97,114,116,10,102,111,114,32,48,32,51,10,102,111,114,32,48,32,51,10,67,91,105,93,61,40,67,91,105,93,43,66,91,105,44,106,93,41,10,112,97,114,116,10,102,111,114,32,48,32,51,10,102,111,114,32,48,32,51,10,65,91,106,93,61,40,65,91,106,93,45,66,91,106,44,105,93,41,10]⟩:Str),(⟨[112,97,114,116,10,102,111,114,32,48,32,52,10,102,111,114,32,48,32,105,43,49,10,66,91,105,44,106,93,61,40,65,91,106,93,42,67,91,48,93,41,10]⟩:Str)]) ?_;intro b1 I0 le h2;have ⟨h,H⟩:=m2 le h H;refine sE (zY [1,0] (ah:=[hB aw (cRd r0 p c),hB b zTwo])) ?_;obtain ⟨⟨y1,y2⟩,hy,N⟩:=zB N;refine tY (eK r0 ([(⟨[112,97,114,116,10,102,111,114,32,48,32,51,10,102,111,114,32,48,32,52,10,66,91,105,44,106,93,61,40,66,91,105,44,106,93,43,123,50,42,105,43,106,125,41,10]⟩:Str),(⟨[112,97,114,116,10,102,111,114,32,48,32,51,10,102,111,114,32,48,32,52,10,66,91,105,44,106,43,49,93,61,40,66,91,105,44,106,93,43,49,41,10]⟩:Str),(⟨[112,97,114,116,10,102,111,114,32,48,32,51,10,102,111,114,32,49,32,52,10,66,91,105,43,49,44,106,45,49,93,61,40,66,91,105,44,106,93,42,50,41,10]⟩:Str),(⟨[112,97,114,116,10,102,111,114,32,48,32,51,10,102,111,114,32,49,32,53,10,66,91,105,43,49,44,106,93,61,40,66,91,105,44,106,45,49,93,43,66,91,105,44,106,93,41,10,65,91,105,93,61,123,106,125,10]⟩:Str),(⟨[112,97,114,116,10,102,111,114,32,48,32,52,10,65,91,105,93,61,40,123,105,125,42,50,41,10,112,97,114,116,10,102,111,114,32,48,32,52,10,65,91,105,43,49,93,61,40,65,91,105,93,43,67,91,48,93,41,10]⟩:Str),(⟨[112,97,114,116,10,102,111,114,32,48,32,53,10,65,91,105,93,61,40,65,91,105,93,43,51,41,10,66,91,48,44,105,93,61,65,91,105,93,10]⟩:Str),(⟨[112,97,114,116,10,102,111,114,32,48,32,51,10,102,111,114,32,48,32,51,10,67,91,105,93,61,40,67,91,105,93,43,66,91,105,44,106,93,41,10,112,97,114,116,10,102,111,114,32,48,32,51,10,102,111,114,32,48,32,51,10,65,91,106,93,61,40,65,91,106,93,45,66,91,106,44,105,93,41,10]⟩:Str),(⟨[112,97,114,116,10,102,111,114,32,48,32,52,10,102,111,114,32,48,32,105,43,49,10,66,91,105,44,106,93,61,40,65,91,106,93,42,67,91,48,93,41,10]⟩:Str)]:List Str) _ hy h h2) rfl ?_;rintro aW ay v2 k2 ae - ⟨v0,kk,rfl,rfl,rfl,h4⟩ -;have H:=H.trans ae;obtain ⟨p1,c1,rfl,h5⟩:=yA h4;refine yI [] [3] rfl<|yV<|yC 1 [] [10] rfl<|bE N fun s aA N=>gK rfl aA ?_;obtain ⟨⟨y4,y5⟩,aK,N⟩:=zB N;refine xM (zDR s _ aK ) ?_;rintro aX ay v2 k2 aF - ⟨v02,v03,rfl,rfl,⟨cs,rfl,h6⟩,rfl⟩ -;have ⟨h5,H⟩:=m2 aF h5 H;obtain ⟨p2,c2,p3,c3,rfl,h8,h9⟩:=mJ h6;refine yC 6 [] [13,14] rfl<|wS zTwo ?_;intro b2 hb2;refine xJ 0 (cProg y4 p2 c2 p3 c3) rfl<|yI [] [5] rfl<|zZ<|yB ?_;obtain ⟨o0,aD,aV⟩:=zB N;refine qV (fun I' ah m'=>∃ (t20:Bool) (x:zM) (p4:Option Addr) (c4:Nat),o0=(t20,x)/\aX.le I'/\(S4 I' p4 x.b c4)/\ah=[hB b2 (cProg y4 p2 c2 p3 c3),hB aw (cRd x p4 c4),hB b zTwo]/\m'=[(0,vP aw 0),(2,vP b 0),(4,vP b2 0),(20,.bool t20)]) ?_ ?_
 · have H:=iS aX;refine zJ<|yC 2 [] [16] rfl<|xW [16] aD ?_ ?_
   · intro hc N;refine yC 3 [] [17] rfl<|sE (zY [1,0,2] (ah:=[hB aw (cRd y2 p1 c1),hB b2 (cProg y4 p2 c2 p3 c3),hB b zTwo])) ?_;obtain ⟨⟨y7,y8⟩,bi,N⟩:=zB N;refine tY (xS y2 3 _ bi h5) rfl ?_;rintro bL ay v2 k2 aJ - ⟨v06,kk1,rfl,rfl,rfl,h12⟩ -;have H:=H.trans aJ;obtain ⟨p5,c5,rfl,h13⟩:=yA h12;exact yI [] [20] rfl<|xR (zX [1,0,2] rfl (by decide))<|yN<|zV ⟨_,_,_,_,(zC N).symm,H,h13,rfl,rfl⟩
   intro hc N;exact wI [] [(20,vF)]<|yN<|zV ⟨_,_,_,_,(zC N).symm,H,h5,rfl,rfl⟩
 rintro bG ay m2 ⟨t20,x,p4,c4,heq,bd,h10,rfl,rfl⟩;subst o0;have ⟨h8,h9⟩:=m2 bd h8 h9;refine zH<|yE aV ?_ ?_
 · intro aH N;refine yF<|rH 1 [0] [(21,vA (cProg y4 p2 c2 p3 c3))]<|xJ 2 (cProg y4 p2 c2 p3 c3) rfl<|yD rfl<|xD<|zG ?_;obtain rfl:=zC N;exact xA ⟨_,_,(.cell 2 rfl rfl (by kernel_rfl) ResV.nil),(zX [1] rfl (by decide)),⟨_,_,rfl,rfl,⟨_,rfl,(vV ⟨_,_,rfl,h8,h9⟩)⟩,(yU ⟨_,rfl,h10⟩)⟩⟩
 intro aH N;refine zT<|yV<|yC 1 [] [22] rfl<|sE (zY [1,0,2] (ah:=[hB aw (cRd x p4 c4),hB b2 (cProg y4 p2 c2 p3 c3),hB b zTwo])) ?_;obtain ⟨⟨y10,y11⟩,bu,N⟩:=zB N;refine tY (zHw x _ bu h10) rfl ?_;rintro bR ay v2 k2 bw - ⟨v08,kk2,rfl,rfl,⟨az,rfl,h14⟩,h15⟩ -;obtain ⟨p6,c6,p7,c7,rfl,h16,h17⟩:=mJ h14;obtain ⟨p8,c8,rfl,h18⟩:=yA h15;refine xJ 2 (cProg y10 p6 c6 p7 c7) rfl<|yD rfl<|zH<|yY ?_;obtain rfl:=zC N;exact xA ⟨_,_,(.cell 2 rfl rfl (by kernel_rfl) ResV.nil),(zX [0] rfl (by decide)),⟨_,_,rfl,rfl,⟨_,rfl,(vV ⟨_,_,rfl,h16,h17⟩)⟩,(yU ⟨_,rfl,h18⟩)⟩⟩
def zG1 (b0:Nat) (r:zD×Int×Int×Int×zM):KT:=fun kk I' ah v=>
  ∃ v0 v1 v2 v3 k0,ah=[.blk b0 ⟨k0⟩]/\v=tupV [v0,v1,v2,v3]/\(∃ cs,v0=.agg ⟨cs⟩/\Rp.rep I' cs r.1)/\v1=.int .i64 r.2.1/\v2=.int .i64 r.2.2.1/\v3=.int .i64 r.2.2.2.1/\Rp.rep I' k0 r.2.2.2.2
def zAW (r0:zM):Option (zD×Int×Int×Int×zM):=do
 let (y1,y2)<-dH r0
 let (y4,y5)<-oJ y2 y1
 let (y7,y8)<-yT y5 ([0,0,0,1,(-1),9]:List Int)
 let (y10,y11)<-yT y8 ([0,0,1,0,2,(-1),9]:List Int)
 let (y13,y14)<-yT y11 ([1,2,3,(-1),(-2),0,6,7,(-9223372036854775808)]:List Int)
 pure (y4,y7,y10,y13,y14)
theorem zHy:∀ r0 r,zAW r0=some r->∀ {I:Imm}{aw:Nat}{p c},(S4 I p r0.b c)->RT 48 [vP aw 0] I [hB aw (cRd r0 p c)] (zG1 aw r):=by
 intro r0 r N I aw p c h;unfold zAW at N;refine yK func48 fun B=>?_;have H:=iS I;refine yF<|wS zTwo ?_;intro b hb;refine wI [] []<|yV<|yC 2 [] [8,9] rfl<|sE (zY [1,0] (ah:=[hB aw (cRd r0 p c),hB b zTwo])) ?_;obtain ⟨⟨y1,y2⟩,hy,N⟩:=zB N;refine tY (zHx r0 _ hy h) rfl ?_;rintro I0 ay v2 k2 le - ⟨v0,kk,rfl,rfl,⟨cs,rfl,h1⟩,h2⟩ -;have H:=H.trans le;obtain ⟨p1,c1,p2,c2,rfl,h3,h4⟩:=mJ h1;obtain ⟨p3,c3,rfl,h5⟩:=yA h2;obtain ⟨⟨y4,y5⟩,aA,N⟩:=zB N;refine tY (zGK y2 y1 _ aA h5 h3 h4) rfl ?_;rintro aW ay v2 k2 ae - ⟨v04,kk1,rfl,rfl,⟨az,rfl,h6⟩,h7⟩ -;have H:=H.trans ae;obtain ⟨p4,c4,p5,c5,rfl,h8,h9⟩:=mJ h6;obtain ⟨p6,c6,rfl,h10⟩:=yA h7;refine wS zTwo ?_;intro b1 hb1;refine xJ 0 (cProg y4 p4 c4 p5 c5) rfl<|yD rfl<|yV<|yC 1 [] [12] rfl<|mG (rI [0,0,0,1,(-1),9]) ?_;intro b2 aX aF h12;have ⟨h8,h9,h10,H⟩:=m4 aF h8 h9 h10 H;refine sE (zY [1,0,2] (ah:=[hB aw (cRd y5 p6 c6),hB b1 (cProg y4 p4 c4 p5 c5),hB b zTwo])) ?_;obtain ⟨⟨y7,y8⟩,aK,N⟩:=zB N;refine tY (yZ y5 ([0,0,0,1,(-1),9]:List Int) _ aK h10 h12) rfl ?_;rintro bG ay v2 k2 aJ - ⟨v08,kk2,rfl,rfl,rfl,h14⟩ -;have ⟨h8,h9,H⟩:=m3 aJ h8 h9 H;obtain ⟨p7,c7,rfl,h15⟩:=yA h14;refine yI [] [7] rfl<|zH<|yB ?_;obtain ⟨⟨y10,y11⟩,bi,N⟩:=zB N;obtain ⟨⟨y13,y14⟩,bu,N⟩:=zB N;refine wT [.p (vA (cProg y4 p4 c4 p5 c5)) [0],.p (vI y7) [],.p (vP aw 0) [],.x (fun I' v hx=>∃ b3,v=vS (some ⟨b3,0,none⟩) ([0,0,1,0,2,(-1),9]:List Int) 7/\hx=[]/\(SL I' (vS (some ⟨b3,0,none⟩) ([0,0,1,0,2,(-1),9]:List Int) 7) ([0,0,1,0,2,(-1),9]:List Int))),.x (fun I' v hx=>∃ p8 c8,v=vI y10/\hx=[hB aw (cRd y11 p8 c8)]/\(S4 I' p8 y11.b c8)),.p (vP aw 0) [],.x (fun I' v hx=>∃ b4,v=vS (some ⟨b4,0,none⟩) ([1,2,3,(-1),(-2),0,6,7,(-9223372036854775808)]:List Int) 9/\hx=[]/\(SL I' (vS (some ⟨b4,0,none⟩) ([1,2,3,(-1),(-2),0,6,7,(-9223372036854775808)]:List Int) 9) ([1,2,3,(-1),(-2),0,6,7,(-9223372036854775808)]:List Int))),.x (fun I' v hx=>∃ p9 c9,v=vI y13/\hx=[hB aw (cRd y14 p9 c9)]/\(S4 I' p9 y14.b c9)),.x (fun I' v hx=>hx=[hB b (cProg y4 p4 c4 p5 c5)]),.p (vI y7) [],.q (vI y10)] [[],[],[],[],[(2,false),(3,false),(12,true)],[],[],[(5,false),(6,false),(4,true)],[(0,false),(13,true)],[(1,false)],[(4,false)]] [hB b1 (cProg y4 p4 c4 p5 c5)] [[hB aw (cRd y8 p7 c7)],[hB b zTwo]] [(7,true),(8,true),(9,false),(10,false)] (zY [1,0,2]) ?_ ?_
 · refine Op<|Op<|Op<|Ox ?_<|Ox ?_<|Op<|Ox ?_<|Ox ?_<|Ox ?_<|Op<|Oq ?_<|On
   · intro I1 hf ae;refine I_h [] ?_;have H:=iS I1;refine mG (rI [0,0,1,0,2,(-1),9]) ?_;intro b3 bL bd h17;have H:=H.trans bd;exact yL [] H ⟨_,rfl,rfl,h17⟩
   · rintro I1 hf ae _ _ ⟨rfl,rfl⟩ _ _ ⟨b3,rfl,rfl,h17⟩ _ _ rfl;refine yW [17,18] rfl ?_;have H:=iS I1;have h15:=h15.mono ae;refine tY (yZ y8 ([0,0,1,0,2,(-1),9]:List Int) _ bi h15 h17) rfl ?_;rintro bR ay v2 k2 bw - ⟨v010,kk3,rfl,rfl,rfl,h19⟩ -;have H:=H.trans bw;obtain ⟨p8,c8,rfl,h20⟩:=yA h19;exact yL [hB aw (cRd y11 p8 c8)] H ⟨_,_,rfl,rfl,h20⟩
   · intro I1 hf ae;refine I_h [] ?_;have H:=iS I1;refine mG (rI [1,2,3,(-1),(-2),0,6,7,(-9223372036854775808)]) ?_;intro b4 I06 bC h22;have H:=H.trans bC;exact yL [] H ⟨_,rfl,rfl,h22⟩
   · rintro I1 hf ae _ _ ⟨rfl,rfl⟩ _ _ ⟨b4,rfl,rfl,h22⟩ _ _ ⟨p8,c8,rfl,rfl,h20⟩;refine yW [20,21] rfl ?_;have H:=iS I1;refine tY (yZ y11 ([1,2,3,(-1),(-2),0,6,7,(-9223372036854775808)]:List Int) _ bu h20 h22) rfl ?_;rintro I07 ay v2 k2 le7 - ⟨v012,kk4,rfl,rfl,rfl,h24⟩ -;have H:=H.trans le7;obtain ⟨p9,c9,rfl,h25⟩:=yA h24;exact yL [hB aw (cRd y14 p9 c9)] H ⟨_,_,rfl,rfl,h25⟩
   · rintro I1 hf ae _ _ ⟨rfl,rfl⟩ _ _ rfl;refine yW [2,15] rfl ?_;have H:=iS I1;exact zBd 0 (cProg y4 p4 c4 p5 c5) (hB b (cProg y4 p4 c4 p5 c5)::hB b1 (cProg y4 p4 c4 p5 c5)::hf) rfl rfl rfl rfl<|zGl (hx:=[hB b (cProg y4 p4 c4 p5 c5)]) rfl H rfl (zHb (v:=undef)) rfl
   rintro I1 hf ae _ _ ⟨p8,c8,rfl,rfl,h20⟩;exact yW [19] rfl<|mF 11 [(4,vI y10)]<|xF iR
 rintro I08 le8 _ _ ⟨p9,c9,rfl,rfl,h25⟩ _ _ rfl;refine yW [2,3,4,22] rfl ?_;have ⟨h8,h9⟩:=m2 le8 h8 h9;refine yI [] [5] rfl<|zH<|yY ?_;obtain rfl:=zC N;exact xA ⟨_,_,(.cell 0 rfl rfl (by kernel_rfl) (.tmp rfl (.tmp rfl (.tmp rfl ResV.nil)))),(zX [1] rfl (by decide)),⟨_,_,_,_,_,rfl,rfl,⟨_,rfl,(vV ⟨_,_,rfl,h8,h9⟩)⟩,rfl,rfl,rfl,(yU ⟨_,rfl,h25⟩)⟩⟩
def zG2 (b0:Nat) (r:zD×Int×Int×zM):KT:=fun kk I' ah v=>
  ∃ v0 v1 v2 k0,ah=[.blk b0 ⟨k0⟩]/\v=tupV [v0,v1,v2]/\(∃ cs,v0=.agg ⟨cs⟩/\Rp.rep I' cs r.1)/\v1=.int .i64 r.2.1/\v2=.int .i64 r.2.2.1/\Rp.rep I' k0 r.2.2.2
def dI (r0:zM):Option (zD×Int×Int×zM):=do
 let (y1,y2,y3,y4,y5)<-zAW r0
 pure (y1,y2,y3,y5)
theorem zHz:∀ r0 r,dI r0=some r->∀ {I:Imm}{aw:Nat}{p c},(S4 I p r0.b c)->RT 28 [vP aw 0] I [hB aw (cRd r0 p c)] (zG2 aw r):=by
 intro r0 r N I aw p c h;unfold dI at N;refine yK func28 fun B=>yF<|wS zTwo ?_;intro b hb;refine wI [] []<|yV<|yC 1 [] [10] rfl<|sE (zY [1,0] (ah:=[hB aw (cRd r0 p c),hB b zTwo])) ?_;obtain ⟨⟨y1,y2,y3,y4,y5⟩,hy,N⟩:=zB N;refine tY (zHy r0 _ hy h) rfl ?_;rintro I0 ay v2 k2 le - ⟨v0,v01,v02,v03,kk,rfl,rfl,⟨cs,rfl,h1⟩,rfl,rfl,rfl,h5⟩ -;obtain ⟨p1,c1,p2,c2,rfl,h6,h7⟩:=mJ h1;obtain ⟨p3,c3,rfl,h8⟩:=yA h5;refine yC 7 [] [12,13,14,15] rfl<|wS zTwo ?_;intro b1 hb1;refine xJ 0 (cProg y1 p1 c1 p2 c2) rfl<|yI [] [6,7] rfl<|yV<|rH 3 [0] [(16,vA (cProg y1 p1 c1 p2 c2)),(17,vI y2),(18,vI y3)]<|xJ 2 (cProg y1 p1 c1 p2 c2) rfl<|yI [] [3,4] rfl<|zH<|yY ?_;obtain rfl:=zC N;exact xA ⟨_,_,(.cell 2 rfl rfl (by kernel_rfl) (.tmp rfl (.tmp rfl ResV.nil))),(zX [1] rfl (by decide)),⟨_,_,_,_,rfl,rfl,⟨_,rfl,(vV ⟨_,_,rfl,h6,h7⟩)⟩,rfl,rfl,(yU ⟨_,rfl,h8⟩)⟩⟩
def zAl (r:zD×Int×Int×(List Int)):KT:=fun kk I' ah v=>
  ∃ v0 v1 v2 v3,ah=[]/\v=tupV [v0,v1,v2,v3]/\(∃ cs,v0=.agg ⟨cs⟩/\Rp.rep I' cs r.1)/\v1=.int .i64 r.2.1/\v2=.int .i64 r.2.2.1/\SL I' v3 r.2.2.2
def vH (out:List Int) (i:Int) (x:zM):Option (List Int):=do
 if (decide (i>0)) then
  let (y10,y11)<-yT x ([1,0,2,5,(-1),9223372036854775807]:List Int)
  let au<-app 8 out ([y10]:List Int)
  vH au (W (i - 1)) y11
 else
  pure (id out)
 partial_fixpoint
theorem zA8 :∀ (out:List Int) (i:Int) (x:zM) (o:List Int),vH out i x=some o->∀ {B}{I0 I:Imm}{Q}{y2:zD}{y3:Int}{y4:Int}{b:Nat}{b1:Nat}{p2 c2 p3 c3}{b2:Nat}{p6 c6 az p7 c7},I0.le I->(S4 I p2 y2.Arrays c2)->(S4 I p3 y2.Parts c3)->(RL I az out)->(S4 I p7 x.b c7)->NG Q->NO Q->(∀ (I':Imm) (aj:List Int) (p8:Option Addr) (c8:Nat) (aR:List Value),o=aj->I0.le I'->(RL I' aR aj)->T 38 B Q (.exit 0) I' [hO Int (vS p8 aj c8) aR,hB b2 (cProg y2 p2 c2 p3 c3),hB b zTwo] [(2,vP b 0),(7,vP b2 0),(8,vI y3),(9,vI y4),(10,vS p8 aj c8)])->J Tryz.prog 38 B (nav (bodyOf f9) [1,1,1,1,0,1,0]) Q I [hB b1 (cRd x p7 c7),hO Int (vS p6 out c6) az,hB b2 (cProg y2 p2 c2 p3 c3),hB b zTwo] [(2,vP b 0),(6,vP b1 0),(7,vP b2 0),(8,vI y3),(9,vI y4),(10,vS p6 out c6),(11,vI i)]:=by
 refine vH.partial_correctness  _ fun aI ih out i x o N B I0 I Q y2 y3 y4 b b1 p2 c2 p3 c3 b2 p6 c6 az p7 c7 H h6 h7 h15 h16 hg ho hx=>yO hg ho<|yB<|yG [25] rfl<|zH<|yE N ?_ ?_
 · intro hc N;refine zT<|zZ<|yH<|zJ<|yC 2 [] [28,29] rfl<|mG (rI [1,0,2,5,(-1),9223372036854775807]) ?_;intro b5 bL bd h19;have ⟨h15,h16,h6,h7,H⟩:=m5 bd h15 h16 h6 h7 H;obtain ⟨⟨y10,y11⟩,bi,N⟩:=zB N;refine tY (yZ x ([1,0,2,5,(-1),9223372036854775807]:List Int) _ bi h16 h19) rfl ?_;rintro bR ay v2 k2 bw - ⟨v08,kk2,rfl,rfl,rfl,h21⟩ -;have ⟨h15,h6,h7,H⟩:=m4 bw h15 h6 h7 H;obtain ⟨p9,c9,rfl,h22⟩:=yA h21;refine uO [vI y10] Int ?_;intro b6 hb5;have h23:RL bR [vI y10] ([y10]:List Int):=rI [y10];obtain ⟨au,bu,N⟩:=zB N;exact sO 3 1 2 rfl rfl rfl h15 (.inr ⟨0,rfl⟩) h23 bu fun bc bj aS h24=>sE (zY [1,2,3,4] (ah:=[hB b1 (cRd y11 p9 c9),hO Int (vS bc au bj) aS,hB b2 (cProg y2 p2 c2 p3 c3),hB b zTwo]))<|yI [] [10] rfl<|zN<|zH<|zJ<|yI [] [11] rfl<|yM<|nT<|ih au (W (i - 1)) y11 _ N H h6 h7 h24 h22 hg ho hx
 intro hc N;exact wL<|xR (zX [1,2,3] rfl (by decide))<|yN<|hx _ _ _ _ _ (zC N).symm H h15
def qR (code:(List UInt8)):Option (zD×Int×Int×(List Int)):=do
 let y<-fU code
 let (y2,y3,y4,y5)<-dI y
 let (y7,y8)<-yT y5 ([3,1,0,5]:List Int)
 let aj<-vH ([]:List Int) y7 y8
 pure (y2,y3,y4,aj)
theorem zBN:∀ code r,qR code=some r->∀ {I:Imm}{p c},(S4 I p code c)->RT 9 [vS p code c] I [] (zAl  r):=by
 intro code r N I p c h;unfold qR at N;refine yK func9 fun B=>yF<|wS zTwo ?_;intro b hb;refine wI [] []<|yV<|yC 1 [] [12] rfl<|bE N fun y hy N=>xM (zGs code _ hy h) ?_;rintro I0 ay v2 k2 le - ⟨b1,p1,c1,rfl,rfl,h1⟩ -;refine yI [] [6] rfl<|yV<|yC 1 [] [15] rfl ?_;obtain ⟨⟨y2,y3,y4,y5⟩,aA,N⟩:=zB N;refine tY (zHz y _ aA h1) rfl ?_;rintro aW ay v2 k2 ae - ⟨v0,v01,v02,kk,rfl,rfl,⟨cs,rfl,h2⟩,rfl,rfl,h5⟩ -;obtain ⟨p2,c2,p3,c3,rfl,h6,h7⟩:=mJ h2;obtain ⟨p4,c4,rfl,h8⟩:=yA h5;refine yC 6 [] [17,18,19] rfl<|wS zTwo ?_;intro b2 hb1;refine xJ 0 (cProg y2 p2 c2 p3 c3) rfl<|yI [] [8,9] rfl<|yV<|uO [] Int ?_;intro b3 hb2;have h9:RL aW [] ([]:List Int):=rfl;refine yI [] [10] rfl<|zZ<|yF<|yC 1 [] [21] rfl<|mG (rI [3,1,0,5]) ?_;intro b4 aX aF h11;have ⟨h9,h6,h7,h8⟩:=m4 aF h9 h6 h7 h8;refine sE (zY [2,0,1,3] (ah:=[hB b1 (cRd y5 p4 c4),hO Int (vS (some ⟨b3,0,none⟩) ([]:List Int) 0) [],hB b2 (cProg y2 p2 c2 p3 c3),hB b zTwo])) ?_;obtain ⟨⟨y7,y8⟩,aK,N⟩:=zB N;refine tY (yZ y5 ([3,1,0,5]:List Int) _ aK h8 h11) rfl ?_;rintro bG ay v2 k2 aJ - ⟨v06,kk1,rfl,rfl,rfl,h13⟩ -;have ⟨h9,h6,h7⟩:=m3 aJ h9 h6 h7;obtain ⟨p5,c5,rfl,h14⟩:=yA h13;refine yI [] [11] rfl<|xY<|qI [(2,vP b 0),(6,vP b1 0),(7,vP b2 0),(8,vI y3),(9,vI y4),(10,vS (some ⟨b3,0,none⟩) ([]:List Int) 0),(11,vI y7)] ?_;obtain ⟨o0,aD,aM⟩:=zB N;refine zA8 ([]:List Int) y7 y8 o0 aD iR h6 h7 h9 h14 (fun _ _ _ h=>h) (fun _ _ h=>h) ?_;intro I06 aj p8 c8 aR heq bC h17;subst o0;have ⟨h6,h7⟩:=m2 bC h6 h7;refine zS<|yV<|rH 4 [1] [(34,vA (cProg y2 p2 c2 p3 c3)),(35,vI y3),(36,vI y4),(37,vS p8 aj c8)]<|xJ 2 (cProg y2 p2 c2 p3 c3) rfl<|yI [] [3,4,5] rfl<|xD<|yX 0 rfl ?_;intro I07 le7 hl02;have h25:=SL.of_frozen hl02 le7 h17;have ⟨h6,h7⟩:=m2 le7 h6 h7;obtain rfl:=zC aM;exact xA ⟨_,_,(.cell 1 rfl rfl (by kernel_rfl) (.tmp rfl (.tmp rfl (.tmp rfl ResV.nil)))),zQ,⟨_,_,_,_,rfl,rfl,⟨_,rfl,(vV ⟨_,_,rfl,h6,h7⟩)⟩,rfl,rfl,h25⟩⟩
def wC (n0:Int) (low:Int) (high:Int):Option (Bool):=do
 let t6<-(do
   if (decide (low<=n0)) then
    pure (decide (n0<=high))
   else
    pure false
     : Option Bool)
 pure (id t6)
theorem wJ:∀ n0 low high r,wC n0 low high=some r->∀ {I:Imm} ,RT 50 [vI n0,vI low,vI high] I [] (zU  r):=by
 intro n0 low high r N I;unfold wC at N;refine yK func50 fun B=>?_;have H:=iS I;refine wQ []<|zH<|yB ?_;refine wR N [] (fun t6=>[(6,.bool t6)]) (fun o0 aD=>?_) ?_
 · have H:=iS I;refine zJ<|yC 4 [] [10] rfl<|xW [10] aD ?_ ?_
   · intro hc N;exact yI [] [6] rfl<|yN<|zV (ct N H)
   intro hc N;exact wI [] [(6,vF)]<|yN<|zV (ct N H)
 intro t6 I0 le aV;refine zH<|yY ?_;obtain rfl:=zC aV;exact wF
def gU (s:Str) (substr:Str):Option Bool:=match substr.l with | [c]=>some (decide (0<=Lib.indexByte s.l c)) | _=>none
theorem zDx:∀ (s substr:Str) r,gU s substr=some r->∀ {I:Imm},RT 156 [vT s.l,vT substr.l] I [] (zU r):=by
 intro s substr r N I;unfold gU at N;split at N
 · rename_i c hc;cases N
   rw [hc];exact zMj (fun w g=>(Tryz.strings_Contains_one ⟨⟨s.l⟩⟩ c w).mono fun e w' ⟨h1,h2⟩=>⟨h1,h2 ▸ RowKit.Below.refl _ _,Nat.le_of_eq (by rw [h2])⟩) fun k=>⟨_,rfl,rfl,rfl⟩
 cases N
def gA (s:Str):Option (Bool):=do
 let t2<-(do
   if ((s.l.length:Int)==1) then
    let y<-gU (⟨[65,66,67,68]⟩:Str) s
    pure (id y)
   else
    pure false
     : Option Bool)
 pure (id t2)
theorem mM:∀ s r,gA s=some r->∀ {I:Imm} ,RT 114 [vT s.l] I [] (zU  r):=by
 intro s r N I;unfold gA at N;refine yK func114 fun B=>?_;have H:=iS I;refine wQ []<|zH<|yB ?_;refine wR N [] (fun t2=>[(2,.bool t2)]) (fun o0 aD=>?_) ?_
 · have H:=iS I;refine zJ<|yC 4 [] [6] rfl<|xW [6] aD ?_ ?_
   · intro hc N;refine yC 5 [] [7] rfl<|bE N fun y hy N=>vU (zDx (⟨[65,66,67,68]⟩:Str) s _ hy ) ?_;intro aW le;have H:=H.trans le;exact yI [] [2] rfl<|yN<|zV (ct N H)
   intro hc N;exact wI [] [(2,vF)]<|yN<|zV (ct N H)
 intro t2 I0 ae aV;refine zH<|yY ?_;obtain rfl:=zC aV;exact wF
def gO (bh:List HA) (r:Int):KT:=fun kk I' ah v=>
  ∃ v0,bh=ah/\v=tupV [v0]/\v0=.int .i64 r
def xO (s:(List Int)) (f0:(Int->Option Bool)) (t8:Int):Option (Out Unit (Int)):=do
 if (decide (t8<(s.length:Int))) then
  let x<-idx s t8
  let y<-f0 x
  if y then
   pure (.ret t8)
  else
   xO s f0 (W (t8+1))
 else
  pure (.done ())
 partial_fixpoint
theorem zAQ (s:(List Int)) (f0:(Int->Option Bool)):∀ (t8:Int) (o:Out Unit (Int)),xO s f0 t8=some o->∀ {B}{I0 I:Imm}{Q p c}{fv:Value}{bh:List HA},I0.le I->(S4 I p s c)->(FV1 Tryz.prog I bh fv f0)->NG Q->NO Q->(∀ (I':Imm) ,o=(.done ())->I0.le I'->T 19 B Q (.exit 0) I' bh [])->(∀ r I' ah m',o=(.ret r)->I0.le I'->RS Tryz.prog f130 B (gO bh r) I' ah m'->T 19 B Q .ret I' ah m')->J Tryz.prog 19 B (nav (bodyOf f130) [1,0,1,0]) Q I bh [(0,vS p s c),(1,fv),(7,vI (s.length:Int)),(8,vI t8)]:=by
 refine xO.partial_correctness s f0 _ fun aI ih t8 o N B I0 I Q p c fv bh H h h1 hg ho hx hr=>yO hg ho<|yG [9] rfl<|zZ<|yE N ?_ ?_
 · intro hc N;refine zT<|zZ<|yH<|yG [5] rfl<|yV<|yC 3 [] [11,12,13] rfl<|bE N fun x hy N=>xL rfl rfl h hy ?_;intro ad aP aq am;obtain rfl:=am;refine xE 0 aq [vI x] (vI x) rfl<|bE N fun y aA N=>zK1 rfl rfl h1 aA rfl (cy _).symm ?_;rintro I0 v0 le rfl;refine wK (ah:=bh) (cy _) ?_;have ⟨h,h1,H⟩:=m3 le h h1 H;refine yD rfl<|zH<|yE N ?_ ?_
   · intro aH N;exact yG [4] rfl<|xD<|zW<|zG<|zG<|hr _ _ _ _ (zC N).symm H ⟨_,_,(.tmp rfl ResV.nil),(fun _ h=>h),⟨_,rfl,rfl,rfl⟩⟩
   intro aH N;exact zT<|zN<|zH<|zJ<|yI [] [8] rfl<|yM<|nT<|ih (W (t8+1)) _ N H h h1 hg ho hx hr
 intro hc N;exact wL<|yN<|hx _  (zC N).symm H
def tJ (s:(List Int)) (f0:(Int->Option Bool)):Option (Int):=do
 match<-xO s f0 0 with
 | .ret r0=>pure r0
 | .done _ =>
  pure (-1)
theorem fN:∀ s f0 r,tJ s f0=some r->∀ {I:Imm}{p c}{fv:Value}{bh:List HA},(S4 I p s c)->(FV1 Tryz.prog I bh fv f0)->RT 130 [vS p s c,fv] I bh (gO bh r):=by
 intro s f0 r N I p c fv bh h h1;unfold tJ at N;refine yK func130 fun B=>wQ []<|zZ<|yG [7,8] rfl<|xY<|qI [(0,vS p s c),(1,fv),(7,vI (s.length:Int)),(8,vI 0)] ?_;obtain ⟨o0,aD,aM⟩:=zB N;refine zAQ s f0 0 o0 aD iR h h1 (fun _ _ _ h=>h) (fun _ _ h=>h) ?_ ?_
 · intro aW  heq ae;subst o0;refine zS<|wP [4] rfl<|zH<|yY ?_;obtain rfl:=zC aM;exact xA ⟨_,_,(.tmp rfl ResV.nil),(fun _ h=>h),⟨_,rfl,rfl,rfl⟩⟩
 intro r0 I9 hs9 m9 aY le9 ba;subst aY;refine zW<|zG ?_;obtain rfl:=zC aM;exact xA ba
def zAD (bh:List HA) (r:Bool):KT:=fun kk I' ah v=>
  ∃ v0,bh=ah/\v=tupV [v0]/\v0=.bool r
def xP (s:(List Int)) (f0:(Int->Option Bool)):Option (Bool):=do
 let y<-tJ s f0
 pure (decide (y>=0))
theorem rR:∀ s f0 r,xP s f0=some r->∀ {I:Imm}{p c}{fv:Value}{bh:List HA},(S4 I p s c)->(FV1 Tryz.prog I bh fv f0)->RT 115 [vS p s c,fv] I bh (zAD bh r):=by
 intro s f0 r N I p c fv bh h h1;unfold xP at N;refine yK func115 fun B=>wQ []<|yV<|yC 2 [] [5,6] rfl<|bE N fun y hy N=>zFx (hs1:=bh) (rest:=[]) rfl rfl rfl rfl (by kernel_rfl) rfl (cy _).symm (fN s f0 _ hy h h1) ?_;rintro I0 ay v2 k2 le - ⟨v0,rfl,rfl,rfl⟩ -;refine wK (ah:=bh) (cy _) ?_;refine yI [] [4] rfl<|zH<|yY ?_;obtain rfl:=zC N;exact xA ⟨_,_,(.tmp rfl ResV.nil),(fun _ h=>h),⟨_,rfl,rfl,rfl⟩⟩
def tS (n0:Int):Option (Bool):=do
 let y<-wC n0 1 6
 pure (!y)
theorem zBC:∀ n0 r,tS n0=some r->∀ {I:Imm} ,RT 116 [vI n0] I [] (zU  r):=by
 intro n0 r N I;unfold tS at N;refine yK func116 fun B=>wQ []<|yV<|yC 1 [] [3] rfl<|bE N fun y hy N=>vU (wJ n0 1 6 _ hy ) fun I0 le=>wI [] [(2,.bool (!y))]<|zH<|yY ?_;obtain rfl:=zC N;exact wF
def pE (list:(List zF)) (t7:Int):Option (Out Unit (Bool)):=do
 if (decide (t7<(list.length:Int))) then
  let x<-idx list t7
  let t42<-(do
    let y<-gA x.Name
    if (!y) then
     pure true
    else
     if (decide (t7>0)) then
      let x1<-idx list (W (t7 - 1))
      if (!(Op.bytesLess x1.Name.l x.Name.l)) then
       pure true
      else
       let y1<-wC (x.Dims.length:Int) 1 2
       if (!y1) then
        pure true
       else
        let y2<-xP x.Dims tS
        pure (id y2)
     else
      let y3<-wC (x.Dims.length:Int) 1 2
      if (!y3) then
       pure true
      else
       let y4<-xP x.Dims tS
       pure (id y4)
      : Option Bool)
  if t42 then
   pure (.ret false)
  else
   pE list (W (t7+1))
 else
  pure (.done ())
 partial_fixpoint
theorem zDy (list:(List zF)):∀ (t7:Int) (o:Out Unit (Bool)),pE list t7=some o->∀ {B}{I0 I:Imm}{Q p c},I0.le I->(S4 I p list c)->NG Q->NO Q->(∀ (I':Imm) ,o=(.done ())->I0.le I'->T 47 B Q (.exit 0) I' [] [(0,vS p list c)])->(∀ r I' ah m',o=(.ret r)->I0.le I'->RS Tryz.prog f77 B (zU  r) I' ah m'->T 47 B Q .ret I' ah m')->J Tryz.prog 47 B (nav (bodyOf f77) [1,0,1,0]) Q I [] [(0,vS p list c),(5,vS p list c),(6,vI (list.length:Int)),(7,vI t7)]:=by
 refine pE.partial_correctness list _ fun aI ih t7 o N B I0 I Q p c H h hg ho hx hr=>yO hg ho<|yG [8] rfl<|zZ<|yE N ?_ ?_
 · intro hc N;refine zT<|zZ<|yH<|yF<|yC 1 [] [9] rfl<|bE N fun x hy N=>xL rfl rfl h hy ?_;intro ad aP aq am;obtain ⟨p1,c1,rfl,h1⟩:=wW am;refine xE 0 aq (cArr x p1 c1) (vA (cArr x p1 c1)) rfl<|wS [vT ([]),z0] ?_;intro b hb;refine yC 5 [] [3] rfl<|xJ 0 (cArr x p1 c1) rfl<|yD rfl<|zH<|yB ?_;refine wR N [] (fun t42=>[(0,vS p list c),(5,vS p list c),(6,vI (list.length:Int)),(7,vI t7),(42,.bool t42)]) (fun o0 aD=>?_) ?_
   · have H:=iS I;obtain ⟨y,aA,N⟩:=zB aD;cases aH:(!y) with
     | true =>
      have hM0:=sV aH N;refine wT [.p (vP b 0) [],.p (vT x.Name.l) [0],.q (.bool y),.q vY,.q vY,.p undef [],.p undef [],.p undef [],.p undef [],.p undef [],.p undef [],.p undef [],.p undef [],.p undef [],.p undef [],.p undef [],.p undef [],.p undef [],.p vY [],.p vY [],.p undef [],.p undef [],.p undef [],.p undef [],.p undef [],.p vY [],.p vY [],.p undef [],.p undef [],.p undef [],.p vY []] [[],[(0,false)],[(1,false)],[(2,false)],[(3,false)],[(4,false)],[(4,false),(5,false)],[(4,false),(6,false)],[(7,false)],[(7,false)],[(7,false),(9,false)],[(7,false),(8,false),(10,false)],[(7,false),(11,false)],[(7,false),(12,false)],[(7,false)],[(7,false),(14,false)],[(7,false),(13,false),(15,false)],[(4,false),(7,false),(16,false)],[(4,false),(17,false)],[(18,false)],[(19,false)],[(19,false),(20,false)],[(19,false),(21,false)],[(19,false),(22,false)],[(19,false),(23,false)],[(19,false),(24,false)],[(25,false)],[(26,false)],[(26,false),(27,false)],[(26,false),(28,false)],[(26,false),(29,false)]] [hB b (cArr x p1 c1)] [] [(30,false)] (zY [0]) ?_ ?_
      · refine Op<|Op<|Oq ?_<|Oq ?_<|Oq ?_<|Op<|Op<|Op<|Op<|Op<|Op<|Op<|Op<|Op<|Op<|Op<|Op<|Op<|Op<|Op<|Op<|Op<|Op<|Op<|Op<|Op<|Op<|Op<|Op<|Op<|Op<|On
        · intro I1 hf ae;refine yW [13] rfl ?_;have H:=iS I1;refine vU (mM x.Name _ aA ) ?_;intro aW le;have H:=H.trans le;exact xF H
        · intro I1 hf ae;refine yW [14] rfl<|mF 4 [(15,.bool (!y))] ?_;rw [aH];exact xF iR
        intro I1 hf ae;exact I_h [(15,vY)]<|mF 5 [(16,vY)]<|xF iR
      intro aX ae;refine yW [0,5,6,7,42] rfl ?_;have H:=H.trans ae;exact yD rfl<|xR zQ<|yN<|zV (ct hM0 H)
     | false =>
      have hM01:=tM aH N;cases aZ:(decide (t7>0)) with
      | true =>
       have hM02:=sV aZ hM01;obtain ⟨x1,aK,N⟩:=zB hM02;cases bK:(!(Op.bytesLess x1.Name.l x.Name.l)) with
       | true =>
        have hM03:=sV bK N;refine wT [.p (vP b 0) [],.p (vT x.Name.l) [0],.q (.bool y),.q vF,.q vF,.p (vI t7) [],.q vY,.q vY,.p (vS p list c) [],.p (vI t7) [],.p (vI (W (t7 - 1))) [],.x (ePArr x1),.x (ePArr x1),.q (vT x1.Name.l),.p (vP b 0) [],.p (vT x.Name.l) [0],.q vY,.q vY,.q vY,.q vY,.p undef [],.p undef [],.p undef [],.p undef [],.p undef [],.p vY [],.p vY [],.p undef [],.p undef [],.p undef [],.p vY []] [[],[(0,false)],[(1,false)],[(2,false)],[(3,false)],[(4,false)],[(4,false),(5,false)],[(4,false),(6,false)],[(7,false)],[(7,false)],[(7,false),(9,false)],[(7,false),(8,false),(10,false)],[(7,false),(11,false)],[(7,false),(12,false)],[(7,false)],[(7,false),(14,false)],[(7,false),(13,false),(15,false)],[(4,false),(7,false),(16,false)],[(4,false),(17,false)],[(18,false)],[(19,false)],[(19,false),(20,false)],[(19,false),(21,false)],[(19,false),(22,false)],[(19,false),(23,false)],[(19,false),(24,false)],[(25,false)],[(26,false)],[(26,false),(27,false)],[(26,false),(28,false)],[(26,false),(29,false)]] [hB b (cArr x p1 c1)] [] [(30,false)] (zY [0]) ?_ ?_
        · refine Op<|Op<|Oq ?_<|Oq ?_<|Oq ?_<|Op<|Oq ?_<|Oq ?_<|Op<|Op<|Op<|Ox ?_<|Ox ?_<|Oq ?_<|Op<|Op<|Oq ?_<|Oq ?_<|Oq ?_<|Oq ?_<|Op<|Op<|Op<|Op<|Op<|Op<|Op<|Op<|Op<|Op<|Op<|On
          · intro I1 hf ae;refine yW [13] rfl ?_;have H:=iS I1;refine vU (mM x.Name _ aA ) ?_;intro aW le;have H:=H.trans le;exact xF H
          · intro I1 hf ae;refine yW [14] rfl<|mF 4 [(15,.bool (!y))] ?_;rw [aH];exact xF iR
          · intro I1 hf ae;exact I_h [(15,vF)]<|mF 5 [(16,vF)]<|xF iR
          · intro I1 hf ae;refine yW [16,17] rfl<|mF 7 [(18,.bool (decide (t7>0)))] ?_;rw [aZ];exact xF iR
          · intro I1 hf ae;exact yW [16,18] rfl<|mF 8 [(19,vY)]<|xF iR
          · intro I1 hf ae;refine yW [19,20,22] rfl ?_;have h:=h.mono ae;refine xL rfl rfl h aK ?_;intro ad1 bv av ax;obtain ⟨p2,c2,rfl,h3⟩:=wW ax;exact yL [] iR ⟨_,_,_,rfl,rfl,av,h3⟩
          · rintro I1 hf ae _ _ ⟨rfl,rfl⟩ _ _ ⟨ad1,p2,c2,rfl,rfl,av,h3⟩;exact yW [19,23] rfl<|mF 13 [(24,.pointer (some ad1))]<|yL [] iR ⟨_,_,_,rfl,rfl,av,h3⟩
          · rintro I1 hf ae _ _ ⟨rfl,rfl⟩ _ _ ⟨ad11,p21,c21,rfl,rfl,hat11,h31⟩;exact yW [19,24] rfl<|xE 0 hat11 [vT x1.Name.l] (vT x1.Name.l) rfl<|xF iR
          · intro I1 hf ae;refine yW [19,25,27] rfl<|mF 17 [(28,.bool (!(Op.bytesLess x1.Name.l x.Name.l)))] ?_;rw [bK];exact xF iR
          · intro I1 hf ae;exact yW [16,19,28] rfl<|mF 18 [(29,vY)]<|xF iR
          · intro I1 hf ae;exact yW [16,29] rfl<|mF 19 [(30,vY)]<|xF iR
          intro I1 hf ae;exact I_h [(30,vY)]<|mF 20 [(31,vY)]<|xF iR
        intro bG aF;refine yW [0,5,6,7,42] rfl ?_;have H:=H.trans aF;exact yD rfl<|xR zQ<|yN<|zV (ct hM03 H)
       | false =>
        have hM04:=tM bK N;obtain ⟨y1,bi,N⟩:=zB hM04;cases bO:(!y1) with
        | true =>
         have hM05:=sV bO N;refine wT [.p (vP b 0) [],.p (vT x.Name.l) [0],.q (.bool y),.q vF,.q vF,.p (vI t7) [],.q vY,.q vY,.p (vS p list c) [],.p (vI t7) [],.p (vI (W (t7 - 1))) [],.x (ePArr x1),.x (ePArr x1),.q (vT x1.Name.l),.p (vP b 0) [],.p (vT x.Name.l) [0],.q vF,.q vF,.q vF,.q vF,.p (vP b 1) [],.p (vS p1 x.Dims c1) [0],.p (vI (x.Dims.length:Int)) [],.q (.bool y1),.q vY,.q vY,.q vY,.p undef [],.p undef [],.p undef [],.p vY []] [[],[(0,false)],[(1,false)],[(2,false)],[(3,false)],[(4,false)],[(4,false),(5,false)],[(4,false),(6,false)],[(7,false)],[(7,false)],[(7,false),(9,false)],[(7,false),(8,false),(10,false)],[(7,false),(11,false)],[(7,false),(12,false)],[(7,false)],[(7,false),(14,false)],[(7,false),(13,false),(15,false)],[(4,false),(7,false),(16,false)],[(4,false),(17,false)],[(18,false)],[(19,false)],[(19,false),(20,false)],[(19,false),(21,false)],[(19,false),(22,false)],[(19,false),(23,false)],[(19,false),(24,false)],[(25,false)],[(26,false)],[(26,false),(27,false)],[(26,false),(28,false)],[(26,false),(29,false)]] [hB b (cArr x p1 c1)] [] [(30,false)] (zY [0]) ?_ ?_
         · refine Op<|Op<|Oq ?_<|Oq ?_<|Oq ?_<|Op<|Oq ?_<|Oq ?_<|Op<|Op<|Op<|Ox ?_<|Ox ?_<|Oq ?_<|Op<|Op<|Oq ?_<|Oq ?_<|Oq ?_<|Oq ?_<|Op<|Op<|Op<|Oq ?_<|Oq ?_<|Oq ?_<|Oq ?_<|Op<|Op<|Op<|Op<|On
           · intro I1 hf ae;refine yW [13] rfl ?_;have H:=iS I1;refine vU (mM x.Name _ aA ) ?_;intro aW le;have H:=H.trans le;exact xF H
           · intro I1 hf ae;refine yW [14] rfl<|mF 4 [(15,.bool (!y))] ?_;rw [aH];exact xF iR
           · intro I1 hf ae;exact I_h [(15,vF)]<|mF 5 [(16,vF)]<|xF iR
           · intro I1 hf ae;refine yW [16,17] rfl<|mF 7 [(18,.bool (decide (t7>0)))] ?_;rw [aZ];exact xF iR
           · intro I1 hf ae;exact yW [16,18] rfl<|mF 8 [(19,vY)]<|xF iR
           · intro I1 hf ae;refine yW [19,20,22] rfl ?_;have h:=h.mono ae;refine xL rfl rfl h aK ?_;intro ad1 bv av ax;obtain ⟨p2,c2,rfl,h3⟩:=wW ax;exact yL [] iR ⟨_,_,_,rfl,rfl,av,h3⟩
           · rintro I1 hf ae _ _ ⟨rfl,rfl⟩ _ _ ⟨ad1,p2,c2,rfl,rfl,av,h3⟩;exact yW [19,23] rfl<|mF 13 [(24,.pointer (some ad1))]<|yL [] iR ⟨_,_,_,rfl,rfl,av,h3⟩
           · rintro I1 hf ae _ _ ⟨rfl,rfl⟩ _ _ ⟨ad11,p21,c21,rfl,rfl,hat11,h31⟩;exact yW [19,24] rfl<|xE 0 hat11 [vT x1.Name.l] (vT x1.Name.l) rfl<|xF iR
           · intro I1 hf ae;refine yW [19,25,27] rfl<|mF 17 [(28,.bool (!(Op.bytesLess x1.Name.l x.Name.l)))] ?_;rw [bK];exact xF iR
           · intro I1 hf ae;exact yW [16,19,28] rfl<|mF 18 [(29,vF)]<|xF iR
           · intro I1 hf ae;exact yW [16,29] rfl<|mF 19 [(30,vF)]<|xF iR
           · intro I1 hf ae;exact I_h [(30,vF)]<|mF 20 [(31,vF)]<|xF iR
           · intro I1 hf ae;refine yW [31,34] rfl ?_;have H:=iS I1;refine vU (wJ (x.Dims.length:Int) 1 2 _ bi ) ?_;intro bL aJ;have H:=H.trans aJ;exact xF H
           · intro I1 hf ae;refine yW [31,35] rfl<|mF 25 [(36,.bool (!y1))] ?_;rw [bO];exact xF iR
           · intro I1 hf ae;exact yW [31,36] rfl<|mF 26 [(37,vY)]<|xF iR
           intro I1 hf ae;exact I_h [(37,vY)]<|mF 27 [(38,vY)]<|xF iR
         intro bR bd;refine yW [0,5,6,7,42] rfl ?_;have H:=H.trans bd;exact yD rfl<|xR zQ<|yN<|zV (ct hM05 H)
        | false =>
         have hM06:=tM bO N;obtain ⟨y2,bu,N⟩:=zB hM06;refine wT [.p (vP b 0) [],.p (vT x.Name.l) [0],.q (.bool y),.q vF,.q vF,.p (vI t7) [],.q vY,.q vY,.p (vS p list c) [],.p (vI t7) [],.p (vI (W (t7 - 1))) [],.x (ePArr x1),.x (ePArr x1),.q (vT x1.Name.l),.p (vP b 0) [],.p (vT x.Name.l) [0],.q vF,.q vF,.q vF,.q vF,.p (vP b 1) [],.p (vS p1 x.Dims c1) [0],.p (vI (x.Dims.length:Int)) [],.q (.bool y1),.q vF,.q vF,.q vF,.p (vP b 1) [],.p (vS p1 x.Dims c1) [0],.q (.bool y2),.p (.bool y2) []] [[],[(0,false)],[(1,false)],[(2,false)],[(3,false)],[(4,false)],[(4,false),(5,false)],[(4,false),(6,false)],[(7,false)],[(7,false)],[(7,false),(9,false)],[(7,false),(8,false),(10,false)],[(7,false),(11,false)],[(7,false),(12,false)],[(7,false)],[(7,false),(14,false)],[(7,false),(13,false),(15,false)],[(4,false),(7,false),(16,false)],[(4,false),(17,false)],[(18,false)],[(19,false)],[(19,false),(20,false)],[(19,false),(21,false)],[(19,false),(22,false)],[(19,false),(23,false)],[(19,false),(24,false)],[(25,false)],[(26,false)],[(26,false),(27,false)],[(26,false),(28,false)],[(26,false),(29,false)]] [hB b (cArr x p1 c1)] [] [(30,false)] (zY [0]) ?_ ?_
         · refine Op<|Op<|Oq ?_<|Oq ?_<|Oq ?_<|Op<|Oq ?_<|Oq ?_<|Op<|Op<|Op<|Ox ?_<|Ox ?_<|Oq ?_<|Op<|Op<|Oq ?_<|Oq ?_<|Oq ?_<|Oq ?_<|Op<|Op<|Op<|Oq ?_<|Oq ?_<|Oq ?_<|Oq ?_<|Op<|Op<|Oq ?_<|Op<|On
           · intro I1 hf ae;refine yW [13] rfl ?_;have H:=iS I1;refine vU (mM x.Name _ aA ) ?_;intro aW le;have H:=H.trans le;exact xF H
           · intro I1 hf ae;refine yW [14] rfl<|mF 4 [(15,.bool (!y))] ?_;rw [aH];exact xF iR
           · intro I1 hf ae;exact I_h [(15,vF)]<|mF 5 [(16,vF)]<|xF iR
           · intro I1 hf ae;refine yW [16,17] rfl<|mF 7 [(18,.bool (decide (t7>0)))] ?_;rw [aZ];exact xF iR
           · intro I1 hf ae;exact yW [16,18] rfl<|mF 8 [(19,vY)]<|xF iR
           · intro I1 hf ae;refine yW [19,20,22] rfl ?_;have h:=h.mono ae;refine xL rfl rfl h aK ?_;intro ad1 bv av ax;obtain ⟨p2,c2,rfl,h3⟩:=wW ax;exact yL [] iR ⟨_,_,_,rfl,rfl,av,h3⟩
           · rintro I1 hf ae _ _ ⟨rfl,rfl⟩ _ _ ⟨ad1,p2,c2,rfl,rfl,av,h3⟩;exact yW [19,23] rfl<|mF 13 [(24,.pointer (some ad1))]<|yL [] iR ⟨_,_,_,rfl,rfl,av,h3⟩
           · rintro I1 hf ae _ _ ⟨rfl,rfl⟩ _ _ ⟨ad11,p21,c21,rfl,rfl,hat11,h31⟩;exact yW [19,24] rfl<|xE 0 hat11 [vT x1.Name.l] (vT x1.Name.l) rfl<|xF iR
           · intro I1 hf ae;refine yW [19,25,27] rfl<|mF 17 [(28,.bool (!(Op.bytesLess x1.Name.l x.Name.l)))] ?_;rw [bK];exact xF iR
           · intro I1 hf ae;exact yW [16,19,28] rfl<|mF 18 [(29,vF)]<|xF iR
           · intro I1 hf ae;exact yW [16,29] rfl<|mF 19 [(30,vF)]<|xF iR
           · intro I1 hf ae;exact I_h [(30,vF)]<|mF 20 [(31,vF)]<|xF iR
           · intro I1 hf ae;refine yW [31,34] rfl ?_;have H:=iS I1;refine vU (wJ (x.Dims.length:Int) 1 2 _ bi ) ?_;intro bL aJ;have H:=H.trans aJ;exact xF H
           · intro I1 hf ae;refine yW [31,35] rfl<|mF 25 [(36,.bool (!y1))] ?_;rw [bO];exact xF iR
           · intro I1 hf ae;exact yW [31,36] rfl<|mF 26 [(37,vF)]<|xF iR
           · intro I1 hf ae;exact I_h [(37,vF)]<|mF 27 [(38,vF)]<|xF iR
           intro I1 hf ae;refine yW [38,40] rfl ?_;have H:=iS I1;have ⟨h,h1⟩:=m2 ae h h1;have hf0:FV1 Tryz.prog I1 [] (.func (.func 116) ⟨[]⟩ ⟨[]⟩) tS:=by
             refine FV1.intro ?_;intro I1 ae x0 r u0 hF k0;obtain rfl:=k0;exact (zBC x0 r hF ).mono (by rintro k i hs u ⟨v0,rfl,rfl,h⟩; exact ⟨rfl,h⟩)
           refine xM (rR x.Dims tS _ bu h1 hf0) ?_;rintro I06 ay v2 k2 bw - ⟨v04,rfl,rfl,rfl⟩ -;have H:=H.trans bw;exact xF H
         intro I07 bC;refine yW [0,5,6,7,42] rfl ?_;have H:=H.trans bC;exact yD rfl<|xR zQ<|yN<|zV (ct N H)
      | false =>
       have hM07:=tM aZ hM01;obtain ⟨y3,bJ,N⟩:=zB hM07;cases hc5:(!y3) with
       | true =>
        have hM08:=sV hc5 N;refine wT [.p (vP b 0) [],.p (vT x.Name.l) [0],.q (.bool y),.q vF,.q vF,.p (vI t7) [],.q vF,.q vF,.p undef [],.p undef [],.p undef [],.p undef [],.p undef [],.p undef [],.p undef [],.p undef [],.p undef [],.p vF [],.p vF [],.p vF [],.p (vP b 1) [],.p (vS p1 x.Dims c1) [0],.p (vI (x.Dims.length:Int)) [],.q (.bool y3),.q vY,.q vY,.q vY,.p undef [],.p undef [],.p undef [],.p vY []] [[],[(0,false)],[(1,false)],[(2,false)],[(3,false)],[(4,false)],[(4,false),(5,false)],[(4,false),(6,false)],[(7,false)],[(7,false)],[(7,false),(9,false)],[(7,false),(8,false),(10,false)],[(7,false),(11,false)],[(7,false),(12,false)],[(7,false)],[(7,false),(14,false)],[(7,false),(13,false),(15,false)],[(4,false),(7,false),(16,false)],[(4,false),(17,false)],[(18,false)],[(19,false)],[(19,false),(20,false)],[(19,false),(21,false)],[(19,false),(22,false)],[(19,false),(23,false)],[(19,false),(24,false)],[(25,false)],[(26,false)],[(26,false),(27,false)],[(26,false),(28,false)],[(26,false),(29,false)]] [hB b (cArr x p1 c1)] [] [(30,false)] (zY [0]) ?_ ?_
        · refine Op<|Op<|Oq ?_<|Oq ?_<|Oq ?_<|Op<|Oq ?_<|Oq ?_<|Op<|Op<|Op<|Op<|Op<|Op<|Op<|Op<|Op<|Op<|Op<|Op<|Op<|Op<|Op<|Oq ?_<|Oq ?_<|Oq ?_<|Oq ?_<|Op<|Op<|Op<|Op<|On
          · intro I1 hf ae;refine yW [13] rfl ?_;have H:=iS I1;refine vU (mM x.Name _ aA ) ?_;intro aW le;have H:=H.trans le;exact xF H
          · intro I1 hf ae;refine yW [14] rfl<|mF 4 [(15,.bool (!y))] ?_;rw [aH];exact xF iR
          · intro I1 hf ae;exact I_h [(15,vF)]<|mF 5 [(16,vF)]<|xF iR
          · intro I1 hf ae;refine yW [16,17] rfl<|mF 7 [(18,.bool (decide (t7>0)))] ?_;rw [aZ];exact xF iR
          · intro I1 hf ae;exact yW [16,18] rfl<|mF 8 [(19,vF)]<|xF iR
          · intro I1 hf ae;refine yW [31,34] rfl ?_;have H:=iS I1;refine vU (wJ (x.Dims.length:Int) 1 2 _ bJ ) ?_;intro I08 le7;have H:=H.trans le7;exact xF H
          · intro I1 hf ae;refine yW [31,35] rfl<|mF 25 [(36,.bool (!y3))] ?_;rw [hc5];exact xF iR
          · intro I1 hf ae;exact yW [31,36] rfl<|mF 26 [(37,vY)]<|xF iR
          intro I1 hf ae;exact I_h [(37,vY)]<|mF 27 [(38,vY)]<|xF iR
        intro I09 le8;refine yW [0,5,6,7,42] rfl ?_;have H:=H.trans le8;exact yD rfl<|xR zQ<|yN<|zV (ct hM08 H)
       | false =>
        have hM09:=tM hc5 N;obtain ⟨y4,hy6,N⟩:=zB hM09;refine wT [.p (vP b 0) [],.p (vT x.Name.l) [0],.q (.bool y),.q vF,.q vF,.p (vI t7) [],.q vF,.q vF,.p undef [],.p undef [],.p undef [],.p undef [],.p undef [],.p undef [],.p undef [],.p undef [],.p undef [],.p vF [],.p vF [],.p vF [],.p (vP b 1) [],.p (vS p1 x.Dims c1) [0],.p (vI (x.Dims.length:Int)) [],.q (.bool y3),.q vF,.q vF,.q vF,.p (vP b 1) [],.p (vS p1 x.Dims c1) [0],.q (.bool y4),.p (.bool y4) []] [[],[(0,false)],[(1,false)],[(2,false)],[(3,false)],[(4,false)],[(4,false),(5,false)],[(4,false),(6,false)],[(7,false)],[(7,false)],[(7,false),(9,false)],[(7,false),(8,false),(10,false)],[(7,false),(11,false)],[(7,false),(12,false)],[(7,false)],[(7,false),(14,false)],[(7,false),(13,false),(15,false)],[(4,false),(7,false),(16,false)],[(4,false),(17,false)],[(18,false)],[(19,false)],[(19,false),(20,false)],[(19,false),(21,false)],[(19,false),(22,false)],[(19,false),(23,false)],[(19,false),(24,false)],[(25,false)],[(26,false)],[(26,false),(27,false)],[(26,false),(28,false)],[(26,false),(29,false)]] [hB b (cArr x p1 c1)] [] [(30,false)] (zY [0]) ?_ ?_
        · refine Op<|Op<|Oq ?_<|Oq ?_<|Oq ?_<|Op<|Oq ?_<|Oq ?_<|Op<|Op<|Op<|Op<|Op<|Op<|Op<|Op<|Op<|Op<|Op<|Op<|Op<|Op<|Op<|Oq ?_<|Oq ?_<|Oq ?_<|Oq ?_<|Op<|Op<|Oq ?_<|Op<|On
          · intro I1 hf ae;refine yW [13] rfl ?_;have H:=iS I1;refine vU (mM x.Name _ aA ) ?_;intro aW le;have H:=H.trans le;exact xF H
          · intro I1 hf ae;refine yW [14] rfl<|mF 4 [(15,.bool (!y))] ?_;rw [aH];exact xF iR
          · intro I1 hf ae;exact I_h [(15,vF)]<|mF 5 [(16,vF)]<|xF iR
          · intro I1 hf ae;refine yW [16,17] rfl<|mF 7 [(18,.bool (decide (t7>0)))] ?_;rw [aZ];exact xF iR
          · intro I1 hf ae;exact yW [16,18] rfl<|mF 8 [(19,vF)]<|xF iR
          · intro I1 hf ae;refine yW [31,34] rfl ?_;have H:=iS I1;refine vU (wJ (x.Dims.length:Int) 1 2 _ bJ ) ?_;intro I08 le7;have H:=H.trans le7;exact xF H
          · intro I1 hf ae;refine yW [31,35] rfl<|mF 25 [(36,.bool (!y3))] ?_;rw [hc5];exact xF iR
          · intro I1 hf ae;exact yW [31,36] rfl<|mF 26 [(37,vF)]<|xF iR
          · intro I1 hf ae;exact I_h [(37,vF)]<|mF 27 [(38,vF)]<|xF iR
          intro I1 hf ae;refine yW [38,40] rfl ?_;have H:=iS I1;have ⟨h,h1⟩:=m2 ae h h1;have hf01:FV1 Tryz.prog I1 [] (.func (.func 116) ⟨[]⟩ ⟨[]⟩) tS:=by
            refine FV1.intro ?_;intro I1 ae x0 r u0 hF k0;obtain rfl:=k0;exact (zBC x0 r hF ).mono (by rintro k i hs u ⟨v0,rfl,rfl,h⟩; exact ⟨rfl,h⟩)
          refine xM (rR x.Dims tS _ hy6 h1 hf01) ?_;rintro bS ay v2 k2 le9 - ⟨v06,rfl,rfl,rfl⟩ -;have H:=H.trans le9;exact xF H
        intro bY le10;refine yW [0,5,6,7,42] rfl ?_;have H:=H.trans le10;exact yD rfl<|xR zQ<|yN<|zV (ct N H)
   intro t42 I0 le11 aV;have ⟨h,H⟩:=m2 le11 h H;refine zH<|yE aV ?_ ?_
   · intro hc6 N;exact wQ [(2,vF)]<|xD<|zW<|zG<|zG<|hr _ _ _ _ (zC N).symm H ⟨_,_,(.tmp rfl ResV.nil),zQ,⟨_,rfl,rfl,rfl⟩⟩
   intro hc6 N;exact zT<|zN<|zH<|zJ<|yI [] [7] rfl<|yM<|nT<|ih (W (t7+1)) _ N H h hg ho hx hr
 intro hc N;exact wL<|yN<|hx _  (zC N).symm H
def fC (list:(List zF)):Option (Bool):=do
 match<-pE list 0 with
 | .ret r0=>pure r0
 | .done _ =>
  pure (decide ((list.length:Int)<=4))
theorem zG3:∀ list r,fC list=some r->∀ {I:Imm}{p c},(S4 I p list c)->RT 77 [vS p list c] I [] (zU  r):=by
 intro list r N I p c h;unfold fC at N;refine yK func77 fun B=>wQ []<|zZ<|yG [5,6,7] rfl<|xY<|qI [(0,vS p list c),(5,vS p list c),(6,vI (list.length:Int)),(7,vI 0)] ?_;obtain ⟨aQ,aB,aM⟩:=zB N;refine zDy list 0 aQ aB iR h (fun _ _ _ h=>h) (fun _ _ h=>h) ?_ ?_
 · intro bX  heq1 le12;subst aQ;refine zS<|wP [2] rfl<|zH<|yY ?_;obtain rfl:=zC aM;exact wF
 intro r0 I9 hs9 m9 aY le9 ba;subst aY;refine zW<|zG ?_;obtain rfl:=zC aM;exact xA ba
def qW (bh:List HA) (r:Int):KT:=fun kk I' ah v=>
  ∃ v0,bh=ah/\v=tupV [v0]/\v0=.int .i64 r
def xG (s:(List zA)) (f0:(zA->Option Bool)) (t8:Int):Option (Out Unit (Int)):=do
 if (decide (t8<(s.length:Int))) then
  let x<-idx s t8
  let y<-f0 x
  if y then
   pure (.ret t8)
  else
   xG s f0 (W (t8+1))
 else
  pure (.done ())
 partial_fixpoint
theorem jQ (s:(List zA)) (f0:(zA->Option Bool)):∀ (t8:Int) (o:Out Unit (Int)),xG s f0 t8=some o->∀ {B}{I0 I:Imm}{Q p c}{fv:Value}{bh:List HA},I0.le I->(S4 I p s c)->(FV1 Tryz.prog I bh fv f0)->NG Q->NO Q->(∀ (I':Imm) ,o=(.done ())->I0.le I'->T 19 B Q (.exit 0) I' bh [])->(∀ r I' ah m',o=(.ret r)->I0.le I'->RS Tryz.prog f197 B (qW bh r) I' ah m'->T 19 B Q .ret I' ah m')->J Tryz.prog 19 B (nav (bodyOf f197) [1,0,1,0]) Q I bh [(0,vS p s c),(1,fv),(7,vI (s.length:Int)),(8,vI t8)]:=by
 refine xG.partial_correctness s f0 _ fun aI ih t8 o N B I0 I Q p c fv bh H h h1 hg ho hx hr=>yO hg ho<|yG [9] rfl<|zZ<|yE N ?_ ?_
 · intro hc N;refine zT<|zZ<|yH<|yG [5] rfl<|yV<|yC 3 [] [11,12,13] rfl<|bE N fun x hy N=>xL rfl rfl h hy ?_;intro ad aP aq am;obtain ⟨p1,c1,rfl,h2⟩:=yS am;refine xE 0 aq (cAff x p1 c1) (vA (cAff x p1 c1)) rfl<|bE N fun y aA N=>zK1 rfl rfl h1 aA ⟨_,rfl,(yP ⟨_,rfl,h2⟩)⟩ (cy _).symm ?_;rintro I0 v01 le rfl;refine wK (ah:=bh) (cy _) ?_;have ⟨h,h1,H⟩:=m3 le h h1 H;refine yD rfl<|zH<|yE N ?_ ?_
   · intro aH N;exact yG [4] rfl<|xD<|zW<|zG<|zG<|hr _ _ _ _ (zC N).symm H ⟨_,_,(.tmp rfl ResV.nil),(fun _ h=>h),⟨_,rfl,rfl,rfl⟩⟩
   intro aH N;exact zT<|zN<|zH<|zJ<|yI [] [8] rfl<|yM<|nT<|ih (W (t8+1)) _ N H h h1 hg ho hx hr
 intro hc N;exact wL<|yN<|hx _  (zC N).symm H
def vJ (s:(List zA)) (f0:(zA->Option Bool)):Option (Int):=do
 match<-xG s f0 0 with
 | .ret r0=>pure r0
 | .done _ =>
  pure (-1)
theorem gL:∀ s f0 r,vJ s f0=some r->∀ {I:Imm}{p c}{fv:Value}{bh:List HA},(S4 I p s c)->(FV1 Tryz.prog I bh fv f0)->RT 197 [vS p s c,fv] I bh (qW bh r):=by
 intro s f0 r N I p c fv bh h h1;unfold vJ at N;refine yK func197 fun B=>wQ []<|zZ<|yG [7,8] rfl<|xY<|qI [(0,vS p s c),(1,fv),(7,vI (s.length:Int)),(8,vI 0)] ?_;obtain ⟨o0,aD,aM⟩:=zB N;refine jQ s f0 0 o0 aD iR h h1 (fun _ _ _ h=>h) (fun _ _ h=>h) ?_ ?_
 · intro aW  heq ae;subst o0;refine zS<|wP [4] rfl<|zH<|yY ?_;obtain rfl:=zC aM;exact xA ⟨_,_,(.tmp rfl ResV.nil),(fun _ h=>h),⟨_,rfl,rfl,rfl⟩⟩
 intro r0 I9 hs9 m9 aY le9 ba;subst aY;refine zW<|zG ?_;obtain rfl:=zC aM;exact xA ba
def kQ (bh:List HA) (r:Bool):KT:=fun kk I' ah v=>
  ∃ v0,bh=ah/\v=tupV [v0]/\v0=.bool r
def xN (s:(List zA)) (f0:(zA->Option Bool)):Option (Bool):=do
 let y<-vJ s f0
 pure (decide (y>=0))
theorem qS:∀ s f0 r,xN s f0=some r->∀ {I:Imm}{p c}{fv:Value}{bh:List HA},(S4 I p s c)->(FV1 Tryz.prog I bh fv f0)->RT 159 [vS p s c,fv] I bh (kQ bh r):=by
 intro s f0 r N I p c fv bh h h1;unfold xN at N;refine yK func159 fun B=>wQ []<|yV<|yC 2 [] [5,6] rfl<|bE N fun y hy N=>zFx (hs1:=bh) (rest:=[]) rfl rfl rfl rfl (by kernel_rfl) rfl (cy _).symm (gL s f0 _ hy h h1) ?_;rintro I0 ay v2 k2 le - ⟨v0,rfl,rfl,rfl⟩ -;refine wK (ah:=bh) (cy _) ?_;refine yI [] [4] rfl<|zH<|yY ?_;obtain rfl:=zC N;exact xA ⟨_,_,(.tmp rfl ResV.nil),(fun _ h=>h),⟨_,rfl,rfl,rfl⟩⟩
def zAE (n0:Int):Option (Bool):=do
 let y<-wC n0 (-99) 99
 pure (id y)
theorem zHG:∀ n0 r,zAE n0=some r->∀ {I:Imm} ,RT 198 [vI n0] I [] (zU  r):=by
 intro n0 r N I;unfold zAE at N;refine yK func198 fun B=>wQ []<|yV<|yC 1 [] [3] rfl<|bE N fun y hy N=>vU (wJ n0 (-99) 99 _ hy ) fun I0 le=>wI [] [(2,.bool y)]<|zH<|yY ?_;obtain rfl:=zC N;exact wF
def rB (c:Int):Option (Bool):=do
 let y<-wC c (-9) 9
 pure (!y)
theorem zCu:∀ c r,rB c=some r->∀ {I:Imm} ,RT 199 [vI c] I [] (zU  r):=by
 intro c r N I;unfold rB at N;refine yK func199 fun B=>wQ []<|yV<|yC 1 [] [3] rfl<|bE N fun y hy N=>vU (wJ c (-9) 9 _ hy ) fun I0 le=>wI [] [(2,.bool (!y))]<|zH<|yY ?_;obtain rfl:=zC N;exact wF
def pF (a0:zA):Option (Bool):=do
 let t2<-(do
   if ((a0.Coefs.length:Int)==4) then
    let y<-zAE a0.Const
    if y then
     let y1<-xP a0.Coefs rB
     pure (!y1)
    else
     pure false
   else
    pure false
     : Option Bool)
 pure (id t2)
theorem mR:∀ a0 r,pF a0=some r->∀ {I:Imm}{p c},(S4 I p a0.Coefs c)->RT 161 [vA (cAff a0 p c)] I [] (zU  r):=by
 intro a0 r N I p c h;unfold pF at N;refine yK func161 fun B=>?_;have H:=iS I;refine yF<|tT (cAff a0 p c) ?_;intro b hb;refine wI [] []<|zH<|yB ?_;refine wR N [] (fun t2=>[(2,.bool t2)]) (fun o0 aD=>?_) ?_
 · have H:=iS I;refine zJ<|yC 5 [0] [7] rfl<|xW [7] aD ?_ ?_
   · intro hc N;refine yC 7 [0] [9] rfl<|bE N fun y hy N=>vU (zHG a0.Const _ hy ) ?_;intro aW le;have ⟨h,H⟩:=m2 le h H;refine yC 10 [] [12] rfl<|xW [12] N ?_ ?_
     · intro aH N;refine yC 12 [0] [14] rfl ?_;have hf0:FV1 Tryz.prog aW [] (.func (.func 199) ⟨[]⟩ ⟨[]⟩) rB:=by
         refine FV1.intro ?_;intro I1 ae x0 r u0 hF k0;obtain rfl:=k0;exact (zCu x0 r hF ).mono (by rintro k i hs u ⟨v0,rfl,rfl,h⟩; exact ⟨rfl,h⟩)
       obtain ⟨y1,aA,N⟩:=zB N;refine xM (rR a0.Coefs rB _ aA h hf0) ?_;rintro aX ay v2 k2 ae - ⟨v01,rfl,rfl,rfl⟩ -;have H:=H.trans ae;exact yI [] [2] rfl<|xR zQ<|yN<|zV (ct N H)
     intro aH N;exact wI [] [(2,vF)]<|xR zQ<|yN<|zV (ct N H)
   intro hc N;exact wI [] [(2,vF)]<|xR zQ<|yN<|zV (ct N H)
 intro t2 I0 aF aV;refine zH<|yY ?_;obtain rfl:=zC aV;exact wF
def sA (a0:zA) (n0:Int):Option (Int):=do
 let t17<-(do
   if (decide (n0>0)) then
    let x<-idx a0.Coefs (W (n0 - 1))
    pure (x==0)
   else
    pure false
     : Option Bool)
 if t17 then
  sA a0 (W (n0 - 1))
 else
  pure (id n0)
 partial_fixpoint
theorem zCG (a0:zA):∀ (n0:Int) (o:Int),sA a0 n0=some o->∀ {B}{I0 I:Imm}{Q p c}{b:Nat},I0.le I->(S4 I p a0.Coefs c)->NG Q->NO Q->(∀ (I':Imm) (n01:Int),o=n01->I0.le I'->T 21 B Q (.exit 0) I' [] [(3,vI n01)])->J Tryz.prog 21 B (nav (bodyOf f162) [1,1,0,0]) Q I [hB b (cAff a0 p c)] [(1,vP b 0),(3,vI n0)]:=by
 refine sA.partial_correctness a0 _ fun aI ih n0 o N B I0 I Q p c b H h hg ho hx=>yO hg ho<|yB<|yB ?_;refine wR N [hB b (cAff a0 p c)] (fun t17=>[(1,vP b 0),(3,vI n0),(17,.bool t17)]) (fun o0 aD=>?_) ?_
 · have H:=iS I;refine zJ<|yC 3 [] [9] rfl<|xW [9] aD ?_ ?_
   · intro hc N;refine yC 7 [0] [11,13] rfl<|bE N fun x hy N=>xL rfl rfl h hy ?_;intro ad aP aq am;obtain rfl:=am;exact xE 0 aq [vI x] (vI x) rfl<|yI [] [17] rfl<|yN<|zV (ct N H)
   intro hc N;exact wI [] [(17,vF)]<|yN<|zV (ct N H)
 intro t17 I0 le aV;have ⟨h,H⟩:=m2 le h H;refine zH<|yE aV ?_ ?_
 · intro aH N;exact zT<|xY<|zJ<|yI [] [3] rfl<|zN<|yM<|nT<|ih (W (n0 - 1)) _ N H h hg ho hx
 intro aH N;exact wL<|xR zQ<|yN<|hx _ _ (zC N).symm H
def rY (a0:zA):Option (Int):=do
 let n01<-sA a0 (a0.Coefs.length:Int)
 pure (id n01)
theorem eF:∀ a0 r,rY a0=some r->∀ {I:Imm}{p c},(S4 I p a0.Coefs c)->RT 162 [vA (cAff a0 p c)] I [] (yQ  r):=by
 intro a0 r N I p c h;unfold rY at N;refine yK func162 fun B=>yF<|tT (cAff a0 p c) ?_;intro b hb;refine wI [] []<|yV<|yI [0] [3] rfl<|zZ<|yH<|qI [(1,vP b 0),(3,vI (a0.Coefs.length:Int))] ?_;obtain ⟨aQ,aB,aM⟩:=zB N;refine zCG a0 (a0.Coefs.length:Int) aQ aB iR h (fun _ _ _ h=>h) (fun _ _ h=>h) ?_;intro aW n01 heq1 ae;subst aQ;refine zS<|wP [2] rfl<|zH<|yY ?_;obtain rfl:=zC aM;exact wF
def qE (a0:zA) (x:Int):Option (Bool):=do
 let t3<-(do
   let y<-pF a0
   if (!y) then
    pure true
   else
    let y1<-rY a0
    pure (decide (y1>x))
     : Option Bool)
 pure (id t3)
theorem zE9:∀ a0 x r,qE a0 x=some r->∀ {I:Imm}{p c}{ad:Addr},(S4 I p a0.Coefs c)->(At I ad [vI x])->RT 196 [vA (cAff a0 p c),.pointer (some ad)] I [] (zU  r):=by
 intro a0 x r N I p c ad h aq;unfold qE at N;refine yK func196 fun B=>?_;have H:=iS I;refine yF<|tT (cAff a0 p c) ?_;intro b hb;refine wI [] []<|zH<|yB ?_;refine wR N [] (fun t3=>[(3,.bool t3)]) (fun o0 aD=>?_) ?_
 · have H:=iS I;obtain ⟨y,hy,N⟩:=zB aD;cases hc:(!y) with
   | true =>
    have hM0:=sV hc N;refine wT [.p (vA (cAff a0 p c)) [0],.q (.bool y),.q vY,.q vY,.p undef [],.p undef [],.p undef [],.p undef [],.p vY []] [[],[(0,false)],[(1,false)],[(2,false)],[(3,false)],[(3,false),(4,false)],[(3,false)],[(3,false),(5,false),(6,false)],[(3,false),(7,false)]] [hB b (cAff a0 p c)] [] [(8,false)] (zY [0]) ?_ ?_
    · refine Op<|Oq ?_<|Oq ?_<|Oq ?_<|Op<|Op<|Op<|Op<|Op<|On
      · intro I1 hf ae;refine yW [4] rfl ?_;have H:=iS I1;have h:=h.mono ae;refine vU (mR a0 _ hy h) ?_;intro aW le;have H:=H.trans le;exact xF H
      · intro I1 hf ae;refine yW [5] rfl<|mF 3 [(6,.bool (!y))] ?_;rw [hc];exact xF iR
      intro I1 hf ae;exact I_h [(6,vY)]<|mF 4 [(7,vY)]<|xF iR
    intro aX ae;refine I_h [(12,vY)] ?_;have H:=H.trans ae;exact wI [] [(3,vY)]<|xR zQ<|yN<|zV (ct hM0 H)
   | false =>
    have hM01:=tM hc N;obtain ⟨y1,aA,N⟩:=zB hM01;refine wT [.p (vA (cAff a0 p c)) [0],.q (.bool y),.q vF,.q vF,.p (vA (cAff a0 p c)) [0],.q (vI y1),.q (vI x),.p (.bool (decide (y1>x))) [],.p (.bool (decide (y1>x))) []] [[],[(0,false)],[(1,false)],[(2,false)],[(3,false)],[(3,false),(4,false)],[(3,false)],[(3,false),(5,false),(6,false)],[(3,false),(7,false)]] [hB b (cAff a0 p c)] [] [(8,false)] (zY [0]) ?_ ?_
    · refine Op<|Oq ?_<|Oq ?_<|Oq ?_<|Op<|Oq ?_<|Oq ?_<|Op<|Op<|On
      · intro I1 hf ae;refine yW [4] rfl ?_;have H:=iS I1;have h:=h.mono ae;refine vU (mR a0 _ hy h) ?_;intro aW le;have H:=H.trans le;exact xF H
      · intro I1 hf ae;refine yW [5] rfl<|mF 3 [(6,.bool (!y))] ?_;rw [hc];exact xF iR
      · intro I1 hf ae;exact I_h [(6,vF)]<|mF 4 [(7,vF)]<|xF iR
      · intro I1 hf ae;refine yW [7,8] rfl ?_;have H:=iS I1;have h:=h.mono ae;refine fB (eF a0 _ aA h) ?_;intro bG aF;have H:=H.trans aF;exact xF H
      intro I1 hf ae;refine yW [1,7] rfl ?_;have aq:=aq.mono ae;exact xE 0 aq [vI x] (vI x) rfl<|xF iR
    intro bL aJ;refine yW [12] rfl ?_;have H:=H.trans aJ;exact yI [] [3] rfl<|xR zQ<|yN<|zV (ct N H)
 intro t3 I0 bd aV;refine zH<|yY ?_;obtain rfl:=zC aV;exact wF
def kV (list:(List zA)) (aa:Int):Option (Bool):=do
 let t4<-(do
   let y<-wC (list.length:Int) 1 2
   if y then
    let y1<-xN list (fun x0=>qE x0 aa)
    pure (!y1)
   else
    pure false
     : Option Bool)
 pure (id t4)
theorem zCH:∀ list aa r,kV list aa=some r->∀ {I:Imm}{p c},(S4 I p list c)->RT 157 [vS p list c,vI aa] I [] (zU  r):=by
 intro list aa r N I p c h;unfold kV at N;refine yK func157 fun B=>?_;have H:=iS I;refine yF<|tT [vI aa] ?_;intro b hb;refine xI 0 rfl ?_;intro I0 le hl0;have aq:At I0 ⟨b,0,none⟩ [vI aa]:=At.of_blk hl0;have ⟨h,H⟩:=m2 le h H;refine wI [] []<|zH<|yB ?_;refine wR N [] (fun t4=>[(4,.bool t4)]) (fun o0 aD=>?_) ?_
 · have H:=iS I0;refine zJ<|yC 2 [] [6] rfl ?_;obtain ⟨y,hy,N⟩:=zB aD;refine vU (wJ (list.length:Int) 1 2 _ hy ) ?_;intro aX ae;have ⟨h,aq,H⟩:=m3 ae h aq H;refine yC 4 [] [8] rfl<|xW [8] N ?_ ?_
   · intro hc N;refine yC 6 [] [9,10] rfl ?_;have hf0:FV1 Tryz.prog aX [] (.func (.func 196) ⟨[]⟩ ⟨[vP b 0]⟩) (fun x0=>qE x0 aa):=by
       refine FV1.intro ?_;intro I1 ae x0 r u0 hF k0;obtain ⟨_,rfl,k0⟩:=k0;obtain ⟨p1,c1,rfl,h2⟩:=yS k0;exact (zE9 x0 aa r hF h2 (aq.mono ae)).mono (by rintro k i hs u ⟨v0,rfl,rfl,h⟩; exact ⟨rfl,h⟩)
     obtain ⟨y1,aA,N⟩:=zB N;refine xM (qS list (fun x0=>qE x0 aa) _ aA h hf0) ?_;rintro bG ay v2 k2 aF - ⟨v02,rfl,rfl,rfl⟩ -;have H:=H.trans aF;exact yI [] [4] rfl<|yN<|zV (ct N H)
   intro hc N;exact wI [] [(4,vF)]<|yN<|zV (ct N H)
 intro t4 aW aJ aV;refine zH<|yY ?_;obtain rfl:=zC aV;exact wF
def rZ (nest:(List zE)) (t7:Int):Option (Out Unit (Bool)):=do
 if (decide (t7<(nest.length:Int))) then
  let x<-idx nest t7
  let t23<-(do
    let y<-kV x.Lo t7
    if (!y) then
     pure true
    else
     let y1<-kV x.Hi t7
     pure (!y1)
      : Option Bool)
  if t23 then
   pure (.ret false)
  else
   rZ nest (W (t7+1))
 else
  pure (.done ())
 partial_fixpoint
theorem zDU (nest:(List zE)):∀ (t7:Int) (o:Out Unit (Bool)),rZ nest t7=some o->∀ {B}{I0 I:Imm}{Q p c},I0.le I->(S4 I p nest c)->NG Q->NO Q->(∀ (I':Imm) ,o=(.done ())->I0.le I'->T 28 B Q (.exit 0) I' [] [(0,vS p nest c)])->(∀ r I' ah m',o=(.ret r)->I0.le I'->RS Tryz.prog f117 B (zU  r) I' ah m'->T 28 B Q .ret I' ah m')->J Tryz.prog 28 B (nav (bodyOf f117) [1,0,1,0]) Q I [] [(0,vS p nest c),(5,vS p nest c),(6,vI (nest.length:Int)),(7,vI t7)]:=by
 refine rZ.partial_correctness nest _ fun aI ih t7 o N B I0 I Q p c H h hg ho hx hr=>yO hg ho<|yG [8] rfl<|zZ<|yE N ?_ ?_
 · intro hc N;refine zT<|zZ<|yH<|yF<|yC 1 [] [9] rfl<|bE N fun x hy N=>xL rfl rfl h hy ?_;intro ad aP aq am;obtain ⟨p1,c1,p2,c2,rfl,h1,h2⟩:=sW am;refine xE 0 aq (cLoop x p1 c1 p2 c2) (vA (cLoop x p1 c1 p2 c2)) rfl<|wS zTwo ?_;intro b hb;refine yC 5 [] [3] rfl<|xJ 0 (cLoop x p1 c1 p2 c2) rfl<|yD rfl<|zH<|yB ?_;refine wR N [] (fun t23=>[(0,vS p nest c),(5,vS p nest c),(6,vI (nest.length:Int)),(7,vI t7),(23,.bool t23)]) (fun o0 aD=>?_) ?_
   · have H:=iS I;refine zJ<|yC 3 [0] [13,14] rfl ?_;obtain ⟨y,aA,N⟩:=zB aD;refine vU (zCH x.Lo t7 _ aA h1) ?_;intro aW le;have ⟨h2,H⟩:=m2 le h2 H;refine yC 6 [] [17] rfl<|xW [17] N ?_ ?_
     · intro aH N;exact wI [] [(23,vY)]<|xR zQ<|yN<|zV (ct N H)
     intro aH N;refine yC 9 [0] [19,20] rfl<|bE N fun y1 aK N=>vU (zCH x.Hi t7 _ aK h2) ?_;intro aX ae;have H:=H.trans ae;exact yI [] [23] rfl<|xR zQ<|yN<|zV (ct N H)
   intro t23 I0 aF aV;have ⟨h,H⟩:=m2 aF h H;refine zH<|yE aV ?_ ?_
   · intro aZ N;exact wQ [(2,vF)]<|xD<|zW<|zG<|zG<|hr _ _ _ _ (zC N).symm H ⟨_,_,(.tmp rfl ResV.nil),zQ,⟨_,rfl,rfl,rfl⟩⟩
   intro aZ N;exact zT<|zN<|zH<|zJ<|yI [] [7] rfl<|yM<|nT<|ih (W (t7+1)) _ N H h hg ho hx hr
 intro hc N;exact wL<|yN<|hx _  (zC N).symm H
def gB (nest:(List zE)):Option (Bool):=do
 match<-rZ nest 0 with
 | .ret r0=>pure r0
 | .done _ =>
  pure (decide ((nest.length:Int)<=4))
theorem zF7:∀ nest r,gB nest=some r->∀ {I:Imm}{p c},(S4 I p nest c)->RT 117 [vS p nest c] I [] (zU  r):=by
 intro nest r N I p c h;unfold gB at N;refine yK func117 fun B=>wQ []<|zZ<|yG [5,6,7] rfl<|xY<|qI [(0,vS p nest c),(5,vS p nest c),(6,vI (nest.length:Int)),(7,vI 0)] ?_;obtain ⟨aQ,aB,aM⟩:=zB N;refine zDU nest 0 aQ aB iR h (fun _ _ _ h=>h) (fun _ _ h=>h) ?_ ?_
 · intro bG  heq1 aJ;subst aQ;refine zS<|wP [2] rfl<|zH<|yY ?_;obtain rfl:=zC aM;exact wF
 intro r0 I9 hs9 m9 aY le9 ba;subst aY;refine zW<|zG ?_;obtain rfl:=zC aM;exact xA ba
def zBO (r:List Int):KT:=fun kk I' ah v=>
  ∃ a0 c0 s0,ah=[.osl (.slice a0 r.length c0) (Rp.sz Int) s0]/\v=tupV [(.slice a0 r.length c0)]/\RepL (Rp.rep I') (Rp.sz Int) s0 r
def rS (s:List Int):Option (List Int):=app 8 ([]:List Int) s
theorem gD:∀ s r,rS s=some r->∀ {I:Imm}{p c},SL I (vS p s c) s->RT 84 [vS p s c] I [] (zBO r):=by
 intro s r N I p c h;unfold rS at N;obtain ⟨aP,k0,k01⟩:=h;refine yK func84 fun B=>?_;cases p with
 | none =>
  have hs:s=[]:=by
    rcases k0 with ⟨hv,rfl⟩ | ⟨b0,off,len,cap,cc,hv,k2⟩
    · cases s with
      | nil=>rfl
      | cons _ _=>simp at hv
    simp at hv
  subst hs;obtain ⟨_,rfl⟩:=eU N;refine yG [0,2] rfl<|zZ<|yF<|yC 1 [] [3] rfl<|zOb true rfl rfl ?_ rfl;exact wI [] [(4,vY)]<|zH<|dU rfl<|wQ [(2,z0)]<|xD<|zG<|xR (oT (Rp.sz Int))<|xA ⟨_,_,(.tmp rfl ResV.nil),(zX [0] rfl (by decide)),⟨none,0,[],rfl,rfl,rfl⟩⟩
 | some ad =>
  refine yG [0,2] rfl<|zZ<|yF<|yC 1 [] [3] rfl<|zOb false rfl rfl ?_ rfl;refine yI [] [0,4] rfl<|zH<|gQ rfl<|zT<|yV<|uO [] Int ?_;intro b2 hb2;have h1:RL I [] ([]:List Int):=rfl;exact yC 2 [] [6] rfl<|sO 3 1 0 rfl rfl rfl h1 (.inl k0) k01 N fun p1 c1 cs h2=>yI [] [2] rfl<|xD<|xA ⟨_,_,(.tmp rfl ResV.nil),(zX [0] rfl (by decide)),⟨_,_,_,rfl,rfl,h2⟩⟩
def sR (a0:zA) (ag:(List Int)) (sum:Int) (t12:Int):Option (Int):=do
 if (decide (t12<(ag.length:Int))) then
  let x<-idx ag t12
  let x1<-idx a0.Coefs t12
  sR a0 ag (W (sum+(W (x1*x)))) (W (t12+1))
 else
  pure (id sum)
 partial_fixpoint
theorem zC2 (a0:zA) (ag:(List Int)):∀ (sum:Int) (t12:Int) (o:Int),sR a0 ag sum t12=some o->∀ {B}{I0 I:Imm}{Q p c p1 c1}{b:Nat},I0.le I->(S4 I p1 ag c1)->(S4 I p a0.Coefs c)->NG Q->NO Q->(∀ (I':Imm) (sum1:Int),o=sum1->I0.le I'->T 28 B Q (.exit 0) I' [] [(5,vI sum1)])->J Tryz.prog 28 B (nav (bodyOf f167) [1,1,0,1,0]) Q I [hB b (cAff a0 p c)] [(2,vP b 0),(5,vI sum),(10,vS p1 ag c1),(11,vI (ag.length:Int)),(12,vI t12)]:=by
 refine sR.partial_correctness a0 ag _ fun aI ih sum t12 o N B I0 I Q p c p1 c1 b H h1 h hg ho hx=>yO hg ho<|yG [13] rfl<|zZ<|yE N ?_ ?_
 · intro hc N;refine zT<|zZ<|yH<|yF<|yC 1 [] [14] rfl<|bE N fun x hy N=>xL rfl rfl h1 hy ?_;intro ad aP aq am;obtain rfl:=am;refine xE 0 aq [vI x] (vI x) rfl<|yI [] [6,7] rfl<|zH<|zJ<|yC 4 [0] [17,19,20] rfl<|bE N fun x1 aA N=>xL rfl rfl h aA ?_;intro ad1 bv av ax;obtain rfl:=ax;exact xE 0 av [vI x1] (vI x1) rfl<|yI [] [5] rfl<|zN<|zH<|zJ<|yI [] [12] rfl<|yM<|nT<|ih (W (sum+(W (x1*x)))) (W (t12+1)) _ N H h1 h hg ho hx
 intro hc N;exact wL<|xR zQ<|yN<|hx _ _ (zC N).symm H
def sB (a0:zA) (ag:(List Int)):Option (Int):=do
 let sum1<-sR a0 ag a0.Const 0
 pure (id sum1)
theorem mS:∀ a0 ag r,sB a0 ag=some r->∀ {I:Imm}{p c p1 c1},(S4 I p a0.Coefs c)->(S4 I p1 ag c1)->RT 167 [vA (cAff a0 p c),vS p1 ag c1] I [] (yQ  r):=by
 intro a0 ag r N I p c p1 c1 h h1;unfold sB at N;refine yK func167 fun B=>yF<|tT (cAff a0 p c) ?_;intro b hb;refine wI [] []<|yV<|yI [0] [5] rfl<|zZ<|yG [10,11,12] rfl<|xY<|qI [(2,vP b 0),(5,vI a0.Const),(10,vS p1 ag c1),(11,vI (ag.length:Int)),(12,vI 0)] ?_;obtain ⟨o0,aD,aM⟩:=zB N;refine zC2 a0 ag a0.Const 0 o0 aD iR h1 h (fun _ _ _ h=>h) (fun _ _ h=>h) ?_;intro I0 sum1 heq le;subst o0;refine zS<|wP [4] rfl<|zH<|yY ?_;obtain rfl:=zC aM;exact wF
def qA (l:zE) (ag:(List Int)) (lo:Int) (t27:Int):Option (Int):=do
 if (decide (t27<(l.Lo.length:Int))) then
  let x2<-idx l.Lo t27
  let y2<-sB x2 ag
  qA l ag (if y2>lo then y2 else lo) (W (t27+1))
 else
  pure (id lo)
 partial_fixpoint
theorem zDV (l:zE) (ag:(List Int)):∀ (lo:Int) (t27:Int) (o:Int),qA l ag lo t27=some o->∀ {B}{I0 I:Imm}{Q}{y1:Int}{p c p1 c1 p2 c2}{b:Nat},I0.le I->(S4 I p2 ag c2)->(S4 I p l.Lo c)->(S4 I p1 l.Hi c1)->NG Q->NO Q->(∀ (I':Imm) (lo1:Int),o=lo1->I0.le I'->T 52 B Q (.exit 0) I' [hB b (cLoop l p c p1 c1)] [(1,vS p2 ag c2),(2,vP b 0),(6,vI lo1),(7,vI y1)])->J Tryz.prog 52 B (nav (bodyOf f158) [1,1,0,1,0]) Q I [hB b (cLoop l p c p1 c1)] [(1,vS p2 ag c2),(2,vP b 0),(6,vI lo),(7,vI y1),(25,vS p l.Lo c),(26,vI (l.Lo.length:Int)),(27,vI t27)]:=by
 refine qA.partial_correctness l ag _ fun aI ih lo t27 o N B I0 I Q y1 p c p1 c1 p2 c2 b H h2 h h1 hg ho hx=>yO hg ho<|yG [28] rfl<|zZ<|yE N ?_ ?_
 · intro hc N;refine zT<|zZ<|yH<|yF<|bE N fun x2 bu N=>xL rfl rfl h bu ?_;intro ad2 bP bb bk;obtain ⟨p5,c5,rfl,h7⟩:=yS bk;refine xE 0 bb (cAff x2 p5 c5) (vA (cAff x2 p5 c5)) rfl<|wS [z0,vI 0] ?_;intro b1 hb1;refine xJ 0 (cAff x2 p5 c5) rfl<|yD rfl<|zH<|zJ<|rH 3 [0] [(31,vI lo),(32,vA (cAff x2 p5 c5)),(33,vS p2 ag c2)]<|bE N fun y2 bJ N=>fB (mS x2 ag _ bJ h7 h2) ?_;intro bG aJ;have ⟨h2,h,h1,H⟩:=m4 aJ h2 h h1 H;exact yI [] [6] rfl<|zN<|zH<|zJ<|yI [] [27] rfl<|yM<|kC (zX [1] rfl (by decide))<|nT<|ih (if y2>lo then y2 else lo) (W (t27+1)) _ N H h2 h h1 hg ho hx
 intro hc N;exact wL<|yN<|hx _ _ (zC N).symm H
def qB (l:zE) (ag:(List Int)) (hi:Int) (t40:Int):Option (Int):=do
 if (decide (t40<(l.Hi.length:Int))) then
  let x3<-idx l.Hi t40
  let y3<-sB x3 ag
  qB l ag (if y3<hi then y3 else hi) (W (t40+1))
 else
  pure (id hi)
 partial_fixpoint
theorem zDW (l:zE) (ag:(List Int)):∀ (hi:Int) (t40:Int) (o:Int),qB l ag hi t40=some o->∀ {B}{I0 I:Imm}{Q}{lo1:Int}{p1 c1 p2 c2},I0.le I->(S4 I p2 ag c2)->(S4 I p1 l.Hi c1)->NG Q->NO Q->(∀ (I':Imm) (hi1:Int),o=hi1->I0.le I'->T 52 B Q (.exit 2) I' [] [(6,vI lo1),(7,vI hi1)])->J Tryz.prog 52 B (nav (bodyOf f158) [1,1,1,0,1,0]) Q I [] [(1,vS p2 ag c2),(6,vI lo1),(7,vI hi),(38,vS p1 l.Hi c1),(39,vI (l.Hi.length:Int)),(40,vI t40)]:=by
 refine qB.partial_correctness l ag _ fun aI ih hi t40 o N B I0 I Q lo1 p1 c1 p2 c2 H h2 h1 hg ho hx=>yO hg ho<|yG [41] rfl<|zZ<|yE N ?_ ?_
 · intro aH N;refine zT<|zZ<|yH<|yF<|bE N fun x3 hy6 N=>xL rfl rfl h1 hy6 ?_;intro ad3 ccs3 hat3 bH;obtain ⟨p6,c6,rfl,h9⟩:=yS bH;refine xE 0 hat3 (cAff x3 p6 c6) (vA (cAff x3 p6 c6)) rfl<|wS [z0,vI 0] ?_;intro b2 hb2;refine xJ 0 (cAff x3 p6 c6) rfl<|yD rfl<|zH<|zJ<|rH 3 [0] [(44,vI hi),(45,vA (cAff x3 p6 c6)),(46,vS p2 ag c2)]<|bE N fun y3 hy7 N=>fB (mS x3 ag _ hy7 h9 h2) ?_;intro bR bw;have ⟨h2,h1,H⟩:=m3 bw h2 h1 H;exact yI [] [7] rfl<|zN<|zH<|zJ<|yI [] [40] rfl<|yM<|kC zQ<|nT<|ih (if y3<hi then y3 else hi) (W (t40+1)) _ N H h2 h1 hg ho hx
 intro aH N;exact wL<|yN<|hx _ _ (zC N).symm H
def gE (l:zE) (ag:(List Int)):Option (Int×Int):=do
 let x<-idx l.Lo 0
 let y<-sB x ag
 let x1<-idx l.Hi 0
 let y1<-sB x1 ag
 let lo1<-qA l ag y 0
 let hi1<-qB l ag y1 0
 pure (lo1,hi1)
theorem zF8:∀ l ag r,gE l ag=some r->∀ {I:Imm}{p c p1 c1 p2 c2},(S4 I p l.Lo c)->(S4 I p1 l.Hi c1)->(S4 I p2 ag c2)->RT 158 [vA (cLoop l p c p1 c1),vS p2 ag c2] I [] (dR  r):=by
 intro l ag r N I p c p1 c1 p2 c2 h h1 h2;unfold gE at N;refine yK func158 fun B=>?_;have H:=iS I;refine yF<|tT (cLoop l p c p1 c1) ?_;intro b hb;refine wI [] []<|zH<|yB ?_;obtain ⟨x,hy,N⟩:=zB N;obtain ⟨y,aA,N⟩:=zB N;obtain ⟨x1,aK,N⟩:=zB N;obtain ⟨y1,bi,N⟩:=zB N;refine wT [.p (vP b 0) [],.p (vS p l.Lo c) [0],.x (ePAff x),.x (eVAff x),.p (vS p2 ag c2) [],.q (vI y),.p (vP b 1) [],.p (vS p1 l.Hi c1) [0],.x (ePAff x1),.x (eVAff x1),.p (vS p2 ag c2) [],.q (vI y1),.p (vI y) []] [[],[(0,false)],[(1,false)],[(2,false)],[],[(3,false),(4,false)],[],[(6,false)],[(7,false)],[(8,false)],[],[(9,false),(10,false)],[(5,false)]] [hB b (cLoop l p c p1 c1)] [] [(11,false),(12,false)] (zY [0]) ?_ ?_
 · refine Op<|Op<|Ox ?_<|Ox ?_<|Op<|Oq ?_<|Op<|Op<|Ox ?_<|Ox ?_<|Op<|Oq ?_<|Op<|On
   · intro I1 hf ae;refine yW [13] rfl ?_;have h:=h.mono ae;refine xL rfl rfl h hy ?_;intro ad aP aq am;obtain ⟨p3,c3,rfl,h3⟩:=yS am;exact yL [] iR ⟨_,_,_,rfl,rfl,aq,h3⟩
   · rintro I1 hf ae _ _ ⟨ad,p3,c3,rfl,rfl,aq,h3⟩;exact yW [14] rfl<|xE 0 aq (cAff x p3 c3) (vA (cAff x p3 c3)) rfl<|yL [] iR ⟨_,_,rfl,rfl,h3⟩
   · rintro I1 hf ae _ _ ⟨p31,c31,rfl,rfl,h31⟩;refine yW [15,16] rfl ?_;have H:=iS I1;have h2:=h2.mono ae;refine fB (mS x ag _ aA h31 h2) ?_;intro I0 le;have H:=H.trans le;exact xF H
   · intro I1 hf ae;refine yW [19] rfl ?_;have h1:=h1.mono ae;refine xL rfl rfl h1 aK ?_;intro ad1 bv av ax;obtain ⟨p4,c4,rfl,h5⟩:=yS ax;exact yL [] iR ⟨_,_,_,rfl,rfl,av,h5⟩
   · rintro I1 hf ae _ _ ⟨ad1,p4,c4,rfl,rfl,av,h5⟩;exact yW [20] rfl<|xE 0 av (cAff x1 p4 c4) (vA (cAff x1 p4 c4)) rfl<|yL [] iR ⟨_,_,rfl,rfl,h5⟩
   rintro I1 hf ae _ _ ⟨p41,c41,rfl,rfl,h51⟩;refine yW [21,22] rfl ?_;have H:=iS I1;have h2:=h2.mono ae;refine fB (mS x1 ag _ bi h51 h2) ?_;intro aW ae;have H:=H.trans ae;exact xF H
 intro aX aF;refine yW [1,2,6,23] rfl ?_;have ⟨h2,h,h1⟩:=m3 aF h2 h h1;refine yI [] [7] rfl<|zZ<|yF<|yI [0] [25,26,27] rfl<|xY<|qI [(1,vS p2 ag c2),(2,vP b 0),(6,vI y),(7,vI y1),(25,vS p l.Lo c),(26,vI (l.Lo.length:Int)),(27,vI 0)] ?_;obtain ⟨o0,aD,aM⟩:=zB N;refine zDV l ag y 0 o0 aD iR h2 h h1 (fun _ _ _ h=>h) (fun _ _ h=>h) ?_;intro bL lo1 heq bd;subst o0;have ⟨h2,h,h1⟩:=m3 bd h2 h h1;refine zS<|zZ<|yF<|yI [0] [38,39,40] rfl<|xY<|kC (zY [] (ah:=[]))<|qI [(1,vS p2 ag c2),(6,vI lo1),(7,vI y1),(38,vS p1 l.Hi c1),(39,vI (l.Hi.length:Int)),(40,vI 0)] ?_;obtain ⟨aQ,aB,hMl1⟩:=zB aM;refine zDW l ag y1 0 aQ aB iR h2 h1 (fun _ _ _ h=>h) (fun _ _ h=>h) ?_;intro I06 hi1 heq1 bC;subst aQ;refine zS<|wP [4,5] rfl<|zH<|yY ?_;obtain rfl:=zC hMl1;exact xA ⟨_,_,(.tmp rfl (.tmp rfl ResV.nil)),zQ,⟨_,_,rfl,rfl,rfl,rfl⟩⟩
def gV (b0:Nat) (r:Bool×sX):KT:=fun kk I' ah v=>
  ∃ v0 x0_0 y0_0 x0_2 y0_2 z0_2,ah=[.blk b0 ⟨[.slice x0_0 r.2.nest.length y0_0,.int .i64 r.2.steps,.slice x0_2 r.2.out.length y0_2]⟩,.osl (.slice x0_2 r.2.out.length y0_2) (Rp.sz (List Int)) z0_2]/\v=tupV [v0]/\v0=.bool r.1/\SL I' (.slice x0_0 r.2.nest.length y0_0) r.2.nest/\RepL (Rp.rep I') (Rp.sz (List Int)) z0_2 r.2.out
mutual
def sM (w0:sX) (ag:(List Int)):Option (Bool×sX):=do
 if ((ag.length:Int)==(w0.nest.length:Int)) then
  let y<-rS ag
  let l<-app 24 w0.out ([y]:List (List Int))
  pure ((decide ((l.length:Int)<=120)),(sX.mk w0.nest w0.steps l))
 else
  let x<-idx w0.nest (ag.length:Int)
  let (y2,y3)<-gE x ag
  match<-rU (same ag) (same y3) (same y2) w0.nest w0.steps w0.out with
  | .ret r0=>pure r0
  | .done (nest1,steps1,aj) =>
   pure (true,(sX.mk nest1 steps1 aj))
 partial_fixpoint
def rU (ag:(List Int)) (y3:Int) (n0:Int) (nest:List zE) (steps:Int) (out:List (List Int)):Option (Out (List zE×Int×List (List Int)) (Bool×sX)):=do
 if (decide (n0<y3)) then
  let (t74,nest2,steps2,au)<-(do
    if (decide ((W ((W (steps+1))+1))>1200)) then
     pure (true,nest,(W (steps+1)),out)
    else
     let y4<-rS ag
     let l1<-app 8 y4 ([n0]:List Int)
     let (y6,y7)<-sM (sX.mk nest (W (steps+1)) out) (same l1)
     pure ((!y6),y7.nest,y7.steps,y7.out)
      : Option (Bool×List zE×Int×List (List Int)))
  if t74 then
   pure (.ret (false,(sX.mk nest2 steps2 au)))
  else
   rU (same ag) (same y3) (W (n0+1)) (same nest2) (same steps2) (same au)
 else
  pure (.done (nest,steps,out))
 partial_fixpoint
end
theorem zCv:(∀ (w0:sX) (ag:(List Int)) r,sM w0 ag=some r->∀ {I:Imm}{r0:Nat}{p c p1 c1 cs p2 c2},(S4 I p w0.nest c)->(RL I cs w0.out)->(S4 I p2 ag c2)->RT 118 [vP r0 0,vS p2 ag c2] I [hB r0 [vS p w0.nest c,vI w0.steps,vS p1 w0.out c1],hO (List Int) (vS p1 w0.out c1) cs] (gV r0 r))/\(∀ (ag:(List Int)) (y3:Int) (n0:Int) (nest:List zE) (steps:Int) (out:List (List Int)) o,rU ag y3 n0 nest steps out=some o->∀ {B}{I0 I:Imm}{Q}  {r0:Nat}{p2 c2 p7 c7 p8 c8 aS},I0.le I->(S4 I p2 ag c2)->(S4 I p7 nest c7)->(RL I aS out)->NG Q->NO Q->(∀ (I':Imm) (nest1:List zE) (steps1:Int) (aj:List (List Int)) (p9:Option Addr) (c9:Nat) (bc:Option Addr) (bj:Nat) (bB:List Value),o=(.done (nest1,steps1,aj))->I0.le I'->(S4 I' p9 nest1 c9)->(RL I' bB aj)->T 75 B Q (.exit 0) I' [hB r0 [vS p9 nest1 c9,vI steps1,vS bc aj bj],hO (List Int) (vS bc aj bj) bB] [])->(∀ r I' ah m',o=(.ret r)->I0.le I'->RS Tryz.prog f118 B (gV r0 r) I' ah m'->T 75 B Q .ret I' ah m')->J Tryz.prog 75 B (nav (bodyOf f118) [1,1,1,0,1,0]) Q I [hB r0 [vS p7 nest c7,vI steps,vS p8 out c8],hO (List Int) (vS p8 out c8) aS] [(0,vP r0 0),(1,vS p2 ag c2),(6,vI y3),(7,vI n0)]):=by
  refine sM.mutual_partial_correctness _ _ ?_ ?_
  · intro F_impl_walking_walk_l1 ih_impl_walking_walk_l1 w0 ag r N I r0 p c p1 c1 cs p2 c2 h h1 h2;refine yK func118 fun B=>?_;have H:=iS I;refine wQ []<|zZ<|yF<|yI [0] [15] rfl<|zH<|yE N ?_ ?_
    · intro hc N;refine yB ?_;obtain ⟨y,hy,N⟩:=zB N;obtain ⟨l,aA,N⟩:=zB N;refine wT [.p (vP r0 0) [],.p (vP r0 0) [],.p (vP r0 0) [],.p (vP r0 2) [],.p (vS p1 w0.out c1) [0],.p (vS p2 ag c2) [],.x (fun I' v hx=>∃ p3 c3 az,v=vS p3 y c3/\hx=[hO Int (vS p3 y c3) az]/\(RL I' az y)),.x (fun I' v hx=>∃ b,v=vS (some ⟨b,0,none⟩) ([y]:List (List Int)) 1/\hx=[]/\(SL I' (vS (some ⟨b,0,none⟩) ([y]:List (List Int)) 1) ([y]:List (List Int)))),.x (fun I' v hx=>∃ p4 c4 aR,v=vS p4 l c4/\hx=[hO (List Int) (vS p4 l c4) aR]/\(RL I' aR l))] [[],[],[(1,false)],[(2,false)],[(3,false)],[],[(5,false)],[(6,true)],[(4,false),(7,false),(12,true)]] [hB r0 [vS p w0.nest c,vI w0.steps,vS p1 w0.out c1]] [[hO (List Int) (vS p1 w0.out c1) cs]] [(0,false),(8,true)] (zY [0,1]) ?_ ?_
      · refine Op<|Op<|Op<|Op<|Op<|Op<|Ox ?_<|Ox ?_<|Ox ?_<|On
        · intro I1 hf ae;refine yW [21] rfl ?_;have H:=iS I1;have h2:=h2.mono ae;refine xM (gD ag _ hy h2) ?_;rintro I0 ay v2 k2 le - ⟨p3,c3,az,rfl,rfl,h3⟩ -;have H:=H.trans le;exact yL [hO Int (vS p3 y c3) az] H ⟨_,_,_,rfl,rfl,h3⟩
        · rintro I1 hf ae _ _ ⟨p3,c3,az,rfl,rfl,h3⟩;refine yW [22] rfl ?_;have H:=iS I1;refine xI 0 rfl ?_;intro aW ae hl0;have h4:=SL.of_frozen hl0 ae h3;have H:=H.trans ae;refine mG (rc y ⟨_,rfl,h4⟩ rN) ?_;intro b aX aF h6;have H:=H.trans aF;exact yL [] H ⟨_,rfl,rfl,h6⟩
        rintro I1 hf ae _ _ ⟨rfl,rfl⟩ _ _ ⟨b,rfl,rfl,h6⟩ _ _ rfl;refine yW [20,23] rfl ?_;have h1:=iM ae h1;obtain ⟨aP,k0,k01⟩:=h6;have h6:SL I1 (vS (some ⟨b,0,none⟩) ([y]:List (List Int)) 1) ([y]:List (List Int)):=⟨_,k0,k01⟩;exact sO 27 1 0 rfl rfl rfl h1 (.inl k0) k01 aA fun p4 c4 aR h7=>wK (ah:=(hO (List Int) (vS p4 l c4) aR::hB r0 [vS p w0.nest c,vI w0.steps,vS p1 w0.out c1]::hf)) rfl<|yL [hO (List Int) (vS p4 l c4) aR] iR ⟨_,_,_,rfl,rfl,h7⟩
      rintro bG aJ _ _ ⟨rfl,rfl⟩ _ _ ⟨p4,c4,aR,rfl,rfl,h7⟩;refine yW [0,16,24] rfl ?_;have h:=h.mono aJ;refine yC 11 [] [26] rfl<|xJ 1 [vS p w0.nest c,vI w0.steps,vS p4 l c4] rfl<|yD rfl<|yV<|yI [1] [4] rfl<|xD<|zG ?_;obtain rfl:=zC N;exact xA ⟨_,_,(.tmp rfl ResV.nil),(zX [1,0] rfl (by decide)),⟨_,_,_,_,_,_,rfl,rfl,rfl,h,h7⟩⟩
    intro hc N;refine zT<|yV<|yC 6 [0] [37,39] rfl<|bE N fun x aK N=>xL rfl rfl h aK ?_;intro ad bv aq am;obtain ⟨p5,c5,p6,c6,rfl,h8,h9⟩:=sW am;refine xE 0 aq (cLoop x p5 c5 p6 c6) (vA (cLoop x p5 c5 p6 c6)) rfl<|yC 9 [] [42] rfl ?_;obtain ⟨⟨y2,y3⟩,bi,N⟩:=zB N;refine xM (zF8 x ag _ bi h8 h9 h2) ?_;rintro bL ay v2 k2 bd - ⟨v02,v03,rfl,rfl,rfl,rfl⟩ -;have ⟨h2,h,h1⟩:=m3 bd h2 h h1;refine yI [] [5,6] rfl<|zZ<|yG [7] rfl<|xY<|qI [(0,vP r0 0),(1,vS p2 ag c2),(6,vI y3),(7,vI y2)] ?_;obtain ⟨aQ,aB,aM⟩:=zB N;refine ih_impl_walking_walk_l1 ag y3 y2 w0.nest w0.steps w0.out aQ aB iR h2 h h1 (fun _ _ _ h=>h) (fun _ _ h=>h) ?_ ?_
    · intro I09 nest1 steps1 aj p9 c9 bc bj bB heq1 le9 h14 h15;subst aQ;refine zS<|zFB [(4,vY)]<|zH<|yY ?_;obtain rfl:=zC aM;exact xA ⟨_,_,(.tmp rfl ResV.nil),(zX [0,1] rfl (by decide)),⟨_,_,_,_,_,_,rfl,rfl,rfl,h14,h15⟩⟩
    intro r0 I9 hs9 m9 aY le9 ba;subst aY;refine zW<|zG ?_;obtain rfl:=zC aM;exact xA ba
  intro F_impl_walking_walk F_impl_walking_walk_l1 ih_impl_walking_walk ih_impl_walking_walk_l1 ag y3 n0 nest steps out o N B I0 I Q r0 p2 c2 p7 c7 p8 c8 aS H h2 h12 h13 hg ho hx hr;refine yO hg ho<|yB<|yG [49] rfl<|zH<|yE N ?_ ?_
  · intro aH N;refine zT<|zZ<|yH<|yF<|yC 7 [0] [56,58] rfl<|xJ 0 [vS p7 nest c7,vI (W (steps+1)),vS p8 out c8] rfl<|yD rfl<|zH<|yB ?_;obtain ⟨o0,aD,aV⟩:=zB N;refine qV (fun I' ah m'=>∃ (t74:Bool) (nest2:List zE) (steps2:Int) (au:List (List Int)) (aT:Option Addr) (bf:Nat) (bD:Option Addr) (br:Nat) (bI:List Value),o0=(t74,nest2,steps2,au)/\I.le I'/\(S4 I' aT nest2 bf)/\(RL I' bI au)/\ah=[hB r0 [vS aT nest2 bf,vI steps2,vS bD au br],hO (List Int) (vS bD au br) bI]/\m'=[(0,vP r0 0),(1,vS p2 ag c2),(6,vI y3),(7,vI n0),(74,.bool t74)]) ?_ ?_
    · have H:=iS I;refine zJ<|yC 7 [0] [65] rfl<|xW [65] aD ?_ ?_
      · intro aZ N;exact wI [] [(74,vY)]<|yN<|zV ⟨_,_,_,_,_,_,_,_,_,(zC N).symm,H,h12,h13,rfl,rfl⟩
      intro aZ N;refine yC 9 [] [66,67] rfl<|bE N fun y4 bu N=>xM (gD ag _ bu h2) ?_;rintro I06 ay v2 k2 bw - ⟨bt,bz,cs6,rfl,rfl,h18⟩ -;have ⟨h12,h13,H⟩:=m3 bw h12 h13 H;refine yC 11 [] [69] rfl<|uO [vI n0] Int ?_;intro b1 hb1;have h19:RL I06 [vI n0] ([n0]:List Int):=rI [n0];obtain ⟨l1,bJ,N⟩:=zB N;refine sO 3 1 1 rfl rfl rfl h18 (.inr ⟨0,rfl⟩) h19 bJ fun p14 c14 cs7 h20=>sE (zY [1,2,3] (ah:=[hO Int (vS p14 l1 c14) cs7,hB r0 [vS p7 nest c7,vI (W (steps+1)),vS p8 out c8],hO (List Int) (vS p8 out c8) aS]))<|xI 0 rfl ?_;intro I07 bC hl02;have h21:=SL.of_frozen hl02 bC h20;have ⟨h12,h13,H⟩:=m3 bC h12 h13 H;obtain ⟨⟨y6,y7⟩,hy6,N⟩:=zB N;refine tY (ih_impl_walking_walk (sX.mk nest (W (steps+1)) out) l1 _ hy6 h12 h13 h21) rfl ?_;rintro I08 ay v2 k2 le7 - ⟨v04,p15,c15,p16,c16,cs8,rfl,rfl,rfl,h23,h24⟩ -;have H:=H.trans le7;exact yI [] [74] rfl<|yN<|zV ⟨_,_,_,_,_,_,_,_,_,(zC N).symm,H,h23,h24,rfl,rfl⟩
    rintro bR ay m2 ⟨t74,nest2,steps2,au,aT,bf,bD,br,bI,heq,le8,h16,h17,rfl,rfl⟩;subst o0;have ⟨h2,H⟩:=m2 le8 h2 H;refine zH<|yE aV ?_ ?_
    · intro bK N;exact wQ [(4,vF)]<|xD<|zW<|zG<|zG<|hr _ _ _ _ (zC N).symm H ⟨_,_,(.tmp rfl ResV.nil),(zX [0,1] rfl (by decide)),⟨_,_,_,_,_,_,rfl,rfl,rfl,h16,h17⟩⟩
    intro bK N;exact zT<|zN<|zH<|zJ<|yI [] [7] rfl<|yM<|nT<|ih_impl_walking_walk_l1 ag y3 (W (n0+1)) nest2 steps2 au _ N H h2 h16 h17 hg ho hx hr
  intro aH N;exact wL<|yN<|hx _ _ _ _ _ _ _ _ _ (zC N).symm H h12 h13
theorem zDX:∀ w0 ag r,sM w0 ag=some r->∀ {I:Imm}{r0:Nat}{p c p1 c1 cs p2 c2},(S4 I p w0.nest c)->(RL I cs w0.out)->(S4 I p2 ag c2)->RT 118 [vP r0 0,vS p2 ag c2] I [hB r0 [vS p w0.nest c,vI w0.steps,vS p1 w0.out c1],hO (List Int) (vS p1 w0.out c1) cs] (gV r0 r):=zCv.1
def jC (nest:(List zE)):Option ((List (List Int))×Bool):=do
 let y<-gB nest
 if (!y) then
  pure (([]:List (List Int)),false)
 else
  let (y2,y3)<-sM (sX.mk nest 0 ([]:List (List Int))) ([]:List Int)
  if (!y2) then
   pure (([]:List (List Int)),false)
  else
   pure (y3.out,true)
theorem zEa:∀ nest r,jC nest=some r->∀ {I:Imm}{p c},(S4 I p nest c)->RT 78 [vS p nest c] I [] (zA1  r):=by
 intro nest r N I p c h;unfold jC at N;refine yK func78 fun B=>wQ []<|zZ<|yF<|yC 1 [] [5] rfl<|bE N fun y hy N=>vU (zF7 nest _ hy h) ?_;intro I0 le;have h:=h.mono le;refine yI [] [7] rfl<|zH<|yE N ?_ ?_
 · intro hc N;refine yG [2,3] rfl<|xD<|zG ?_;obtain rfl:=zC N;exact xA ⟨_,_,(.tmp rfl (.tmp rfl ResV.nil)),zQ,⟨_,_,rfl,rfl,(SL.nil _),rfl⟩⟩
 intro hc N;refine zT<|yV<|yC 2 [] [9] rfl<|tT [vS p nest c,vI 0,z0] ?_;intro b hb;refine yI [] [4] rfl<|zZ<|yF<|yC 1 [] [11] rfl<|zQ6 (List Int) fun h2=>?_;refine sE (zY [1,0] (ah:=[hB b [vS p nest c,vI 0,vS none ([]:List (List Int)) 0],hO (List Int) (vS none ([]:List (List Int)) 0) []])) ?_;obtain ⟨⟨y2,y3⟩,aA,N⟩:=zB N;refine tY (zDX (sX.mk nest 0 ([]:List (List Int))) ([]:List Int) _ aA h h2 (SL.nil _)) rfl ?_;rintro aW ay v2 k2 ae - ⟨v01,p1,c1,p2,c2,cs,rfl,rfl,rfl,h4,h5⟩ -;refine yI [] [13] rfl<|zH<|yE N ?_ ?_
 · intro aH N;refine yG [2,3] rfl<|xD<|zG ?_;obtain rfl:=zC N;exact xA ⟨_,_,(.tmp rfl (.tmp rfl ResV.nil)),zQ,⟨_,_,rfl,rfl,(SL.nil _),rfl⟩⟩
 intro aH N;refine zT<|yV<|yI [0] [2,3] rfl<|xD<|yX 1 rfl ?_;intro aX aF hl0;have h6:=SL.of_frozen hl0 aF h5;obtain rfl:=zC N;exact xA ⟨_,_,(.tmp rfl (.tmp rfl ResV.nil)),zQ,⟨_,_,rfl,rfl,h6,rfl⟩⟩
def oL (bh:List HA) (r:Int):KT:=fun kk I' ah v=>
  ∃ v0,bh=ah/\v=tupV [v0]/\v0=.int .i64 r
def xK (s:(List zP)) (f0:(zP->Option Bool)) (t8:Int):Option (Out Unit (Int)):=do
 if (decide (t8<(s.length:Int))) then
  let x<-idx s t8
  let y<-f0 x
  if y then
   pure (.ret t8)
  else
   xK s f0 (W (t8+1))
 else
  pure (.done ())
 partial_fixpoint
theorem gW (s:(List zP)) (f0:(zP->Option Bool)):∀ (t8:Int) (o:Out Unit (Int)),xK s f0 t8=some o->∀ {B}{I0 I:Imm}{Q p c}{fv:Value}{bh:List HA},I0.le I->(S4 I p s c)->(FV1 Tryz.prog I bh fv f0)->NG Q->NO Q->(∀ (I':Imm) ,o=(.done ())->I0.le I'->T 19 B Q (.exit 0) I' bh [])->(∀ r I' ah m',o=(.ret r)->I0.le I'->RS Tryz.prog f119 B (oL bh r) I' ah m'->T 19 B Q .ret I' ah m')->J Tryz.prog 19 B (nav (bodyOf f119) [1,0,1,0]) Q I bh [(0,vS p s c),(1,fv),(7,vI (s.length:Int)),(8,vI t8)]:=by
 refine xK.partial_correctness s f0 _ fun aI ih t8 o N B I0 I Q p c fv bh H h h1 hg ho hx hr=>yO hg ho<|yG [9] rfl<|zZ<|yE N ?_ ?_
 · intro hc N;refine zT<|zZ<|yH<|yG [5] rfl<|yV<|yC 3 [] [11,12,13] rfl<|bE N fun x hy N=>xL rfl rfl h hy ?_;intro ad aP aq am;obtain ⟨p1,c1,p2,c2,p3,c3,p4,c4,rfl,h2,h3,h4,h5⟩:=pQ am;refine xE 0 aq (cStmt x p1 c1 p2 c2 p3 c3 p4 c4) (vA (cStmt x p1 c1 p2 c2 p3 c3 p4 c4)) rfl<|bE N fun y aA N=>zK1 rfl rfl h1 aA ⟨_,rfl,(vD ⟨_,_,_,_,rfl,h2,h3,h4,h5⟩)⟩ (cy _).symm ?_;rintro I0 v04 le rfl;refine wK (ah:=bh) (cy _) ?_;have ⟨h,h1,H⟩:=m3 le h h1 H;refine yD rfl<|zH<|yE N ?_ ?_
   · intro aH N;exact yG [4] rfl<|xD<|zW<|zG<|zG<|hr _ _ _ _ (zC N).symm H ⟨_,_,(.tmp rfl ResV.nil),(fun _ h=>h),⟨_,rfl,rfl,rfl⟩⟩
   intro aH N;exact zT<|zN<|zH<|zJ<|yI [] [8] rfl<|yM<|nT<|ih (W (t8+1)) _ N H h h1 hg ho hx hr
 intro hc N;exact wL<|yN<|hx _  (zC N).symm H
def uM (s:(List zP)) (f0:(zP->Option Bool)):Option (Int):=do
 match<-xK s f0 0 with
 | .ret r0=>pure r0
 | .done _ =>
  pure (-1)
theorem fQ:∀ s f0 r,uM s f0=some r->∀ {I:Imm}{p c}{fv:Value}{bh:List HA},(S4 I p s c)->(FV1 Tryz.prog I bh fv f0)->RT 119 [vS p s c,fv] I bh (oL bh r):=by
 intro s f0 r N I p c fv bh h h1;unfold uM at N;refine yK func119 fun B=>wQ []<|zZ<|yG [7,8] rfl<|xY<|qI [(0,vS p s c),(1,fv),(7,vI (s.length:Int)),(8,vI 0)] ?_;obtain ⟨o0,aD,aM⟩:=zB N;refine gW s f0 0 o0 aD iR h h1 (fun _ _ _ h=>h) (fun _ _ h=>h) ?_ ?_
 · intro aW  heq ae;subst o0;refine zS<|wP [4] rfl<|zH<|yY ?_;obtain rfl:=zC aM;exact xA ⟨_,_,(.tmp rfl ResV.nil),(fun _ h=>h),⟨_,rfl,rfl,rfl⟩⟩
 intro r0 I9 hs9 m9 aY le9 ba;subst aY;refine zW<|zG ?_;obtain rfl:=zC aM;exact xA ba
def gF (bh:List HA) (r:Bool):KT:=fun kk I' ah v=>
  ∃ v0,bh=ah/\v=tupV [v0]/\v0=.bool r
def wH (s:(List zP)) (f0:(zP->Option Bool)):Option (Bool):=do
 let y<-uM s f0
 pure (decide (y>=0))
theorem gX:∀ s f0 r,wH s f0=some r->∀ {I:Imm}{p c}{fv:Value}{bh:List HA},(S4 I p s c)->(FV1 Tryz.prog I bh fv f0)->RT 79 [vS p s c,fv] I bh (gF bh r):=by
 intro s f0 r N I p c fv bh h h1;unfold wH at N;refine yK func79 fun B=>wQ []<|yV<|yC 2 [] [5,6] rfl<|bE N fun y hy N=>zFx (hs1:=bh) (rest:=[]) rfl rfl rfl rfl (by kernel_rfl) rfl (cy _).symm (fQ s f0 _ hy h h1) ?_;rintro I0 ay v2 k2 le - ⟨v0,rfl,rfl,rfl⟩ -;refine wK (ah:=bh) (cy _) ?_;refine yI [] [4] rfl<|zH<|yY ?_;obtain rfl:=zC N;exact xA ⟨_,_,(.tmp rfl ResV.nil),(fun _ h=>h),⟨_,rfl,rfl,rfl⟩⟩
def oA (s:zA) (x:Int):Option (Bool):=do
 let t3<-(do
   let y<-pF s
   if (!y) then
    pure true
   else
    let y1<-rY s
    pure (decide (y1>x))
     : Option Bool)
 pure (id t3)
theorem zEb:∀ s x r,oA s x=some r->∀ {I:Imm}{p c}{ad:Addr},(S4 I p s.Coefs c)->(At I ad [vI x])->RT 160 [vA (cAff s p c),.pointer (some ad)] I [] (zU  r):=by
 intro s x r N I p c ad h aq;unfold oA at N;refine yK func160 fun B=>?_;have H:=iS I;refine yF<|tT (cAff s p c) ?_;intro b hb;refine wI [] []<|zH<|yB ?_;refine wR N [] (fun t3=>[(3,.bool t3)]) (fun o0 aD=>?_) ?_
 · have H:=iS I;obtain ⟨y,hy,N⟩:=zB aD;cases hc:(!y) with
   | true =>
    have hM0:=sV hc N;refine wT [.p (vA (cAff s p c)) [0],.q (.bool y),.q vY,.q vY,.p undef [],.p undef [],.p undef [],.p undef [],.p vY []] [[],[(0,false)],[(1,false)],[(2,false)],[(3,false)],[(3,false),(4,false)],[(3,false)],[(3,false),(5,false),(6,false)],[(3,false),(7,false)]] [hB b (cAff s p c)] [] [(8,false)] (zY [0]) ?_ ?_
    · refine Op<|Oq ?_<|Oq ?_<|Oq ?_<|Op<|Op<|Op<|Op<|Op<|On
      · intro I1 hf ae;refine yW [4] rfl ?_;have H:=iS I1;have h:=h.mono ae;refine vU (mR s _ hy h) ?_;intro aW le;have H:=H.trans le;exact xF H
      · intro I1 hf ae;refine yW [5] rfl<|mF 3 [(6,.bool (!y))] ?_;rw [hc];exact xF iR
      intro I1 hf ae;exact I_h [(6,vY)]<|mF 4 [(7,vY)]<|xF iR
    intro aX ae;refine I_h [(12,vY)] ?_;have H:=H.trans ae;exact wI [] [(3,vY)]<|xR zQ<|yN<|zV (ct hM0 H)
   | false =>
    have hM01:=tM hc N;obtain ⟨y1,aA,N⟩:=zB hM01;refine wT [.p (vA (cAff s p c)) [0],.q (.bool y),.q vF,.q vF,.p (vA (cAff s p c)) [0],.q (vI y1),.q (vI x),.p (.bool (decide (y1>x))) [],.p (.bool (decide (y1>x))) []] [[],[(0,false)],[(1,false)],[(2,false)],[(3,false)],[(3,false),(4,false)],[(3,false)],[(3,false),(5,false),(6,false)],[(3,false),(7,false)]] [hB b (cAff s p c)] [] [(8,false)] (zY [0]) ?_ ?_
    · refine Op<|Oq ?_<|Oq ?_<|Oq ?_<|Op<|Oq ?_<|Oq ?_<|Op<|Op<|On
      · intro I1 hf ae;refine yW [4] rfl ?_;have H:=iS I1;have h:=h.mono ae;refine vU (mR s _ hy h) ?_;intro aW le;have H:=H.trans le;exact xF H
      · intro I1 hf ae;refine yW [5] rfl<|mF 3 [(6,.bool (!y))] ?_;rw [hc];exact xF iR
      · intro I1 hf ae;exact I_h [(6,vF)]<|mF 4 [(7,vF)]<|xF iR
      · intro I1 hf ae;refine yW [7,8] rfl ?_;have H:=iS I1;have h:=h.mono ae;refine fB (eF s _ aA h) ?_;intro bG aF;have H:=H.trans aF;exact xF H
      intro I1 hf ae;refine yW [1,7] rfl ?_;have aq:=aq.mono ae;exact xE 0 aq [vI x] (vI x) rfl<|xF iR
    intro bL aJ;refine yW [12] rfl ?_;have H:=H.trans aJ;exact yI [] [3] rfl<|xR zQ<|yN<|zV (ct N H)
 intro t3 I0 bd aV;refine zH<|yY ?_;obtain rfl:=zC aV;exact wF
def kW (a0:zL) (aa:Int):Option (Bool):=do
 let t4<-(do
   let y<-gA a0.Array
   if y then
    let y1<-wC (a0.Subs.length:Int) 1 2
    if y1 then
     let y2<-xN a0.Subs (fun x0=>oA x0 aa)
     pure (!y2)
    else
     pure false
   else
    pure false
     : Option Bool)
 pure (id t4)
theorem zCI:∀ a0 aa r,kW a0 aa=some r->∀ {I:Imm}{p c},(S4 I p a0.Subs c)->RT 120 [vA (cAccess a0 p c),vI aa] I [] (zU  r):=by
 intro a0 aa r N I p c h;unfold kW at N;refine yK func120 fun B=>?_;have H:=iS I;refine yF<|tT (cAccess a0 p c) ?_;intro b hb;refine tT [vI aa] ?_;intro b1 hb1;refine xI 0 rfl ?_;intro I0 le hl0;have aq:At I0 ⟨b1,0,none⟩ [vI aa]:=At.of_blk hl0;have ⟨h,H⟩:=m2 le h H;refine wI [] []<|zH<|yB ?_;refine wR N [] (fun t4=>[(4,.bool t4)]) (fun o0 aD=>?_) ?_
 · have H:=iS I0;refine zJ<|yC 2 [0] [6] rfl ?_;obtain ⟨y,hy,N⟩:=zB aD;refine vU (mM a0.Array _ hy ) ?_;intro aX ae;have ⟨aq,h,H⟩:=m3 ae aq h H;refine yC 4 [] [8] rfl<|xW [8] N ?_ ?_
   · intro hc N;refine yC 7 [0] [11] rfl<|bE N fun y1 aA N=>vU (wJ (a0.Subs.length:Int) 1 2 _ aA ) ?_;intro bG aF;have ⟨aq,h,H⟩:=m3 aF aq h H;refine yC 10 [] [14] rfl<|xW [14] N ?_ ?_
     · intro aH N;refine yC 13 [0] [16,17] rfl ?_;have hf0:FV1 Tryz.prog bG [] (.func (.func 160) ⟨[]⟩ ⟨[vP b1 0]⟩) (fun x0=>oA x0 aa):=by
         refine FV1.intro ?_;intro I1 ae x0 r u0 hF k0;obtain ⟨_,rfl,k0⟩:=k0;obtain ⟨p1,c1,rfl,h3⟩:=yS k0;exact (zEb x0 aa r hF h3 (aq.mono ae)).mono (by rintro k i hs u ⟨v0,rfl,rfl,h⟩; exact ⟨rfl,h⟩)
       obtain ⟨y2,aK,N⟩:=zB N;refine xM (qS a0.Subs (fun x0=>oA x0 aa) _ aK h hf0) ?_;rintro bL ay v2 k2 aJ - ⟨v03,rfl,rfl,rfl⟩ -;have H:=H.trans aJ;exact yI [] [4] rfl<|xR zQ<|yN<|zV (ct N H)
     intro aH N;exact wI [] [(4,vF)]<|xR zQ<|yN<|zV (ct N H)
   intro hc N;exact wI [] [(4,vF)]<|xR zQ<|yN<|zV (ct N H)
 intro t4 aW bd aV;refine zH<|yY ?_;obtain rfl:=zC aV;exact wF
def kX (a0:zA):Option (Bool):=do
 let t2<-(do
   if ((a0.Coefs.length:Int)==0) then
    pure (a0.Const==0)
   else
    pure false
     : Option Bool)
 pure (id t2)
theorem zCJ:∀ a0 r,kX a0=some r->∀ {I:Imm}{p c},(S4 I p a0.Coefs c)->RT 163 [vA (cAff a0 p c)] I [] (zU  r):=by
 intro a0 r N I p c h;unfold kX at N;refine yK func163 fun B=>?_;have H:=iS I;refine yF<|tT (cAff a0 p c) ?_;intro b hb;refine wI [] []<|zH<|yB ?_;refine wR N [] (fun t2=>[(2,.bool t2)]) (fun o0 aD=>?_) ?_
 · have H:=iS I;refine zJ<|yC 5 [0] [7] rfl<|xW [7] aD ?_ ?_
   · intro hc N;exact yI [0] [2] rfl<|xR zQ<|yN<|zV (ct N H)
   intro hc N;exact wI [] [(2,vF)]<|xR zQ<|yN<|zV (ct N H)
 intro t2 I0 le aV;refine zH<|yY ?_;obtain rfl:=zC aV;exact wF
end Go.LN
